/- What the program's functions compute, as plain functions, each with its proof: the function does just that. Condition: the plain function has an answer. -/
import Derived.Test.YtehhocoldpdijaaDoorFnUseropCalls2
import Derived.Test.YtehhocoldpdijaaDoorAbsG6
import Derived.Test.YtehhocoldpdijaaDoorProg
import Derived.Test.YtehhocoldpdijaaDoorFnUseropCalls1
set_option linter.unusedVariables false
set_option linter.unusedSimpArgs false
set_option maxRecDepth 100000
open Go Go.Abs Go.Proofs
section
theorem Fax.gmap {α β : Type} (h : β → α) (mk0 : LI → β) (n : Nat) (a0 : LI) : Fax.g (fun a0 => (h (mk0 a0))) n a0 = (Fax.g mk0 n a0).map h := by
  unfold Fax.g
  exact (bindO_map fun r2 => (ite_map (ite_map rfl rfl) rfl))
theorem Fax.run (n : Nat) (a0 : LI) : runF (Fax.C n) (Fax.A n) n Tryd.f63 [(.ints .u64 4 a0)] [] (fun v o => some (v, o)) = Fax.g (fun a0 => ((Prod.mk (.ints .u8 20 a0) []) : AV × Blks)) n a0 := by kernel_rfl
theorem Fax.call (hmix : Tryd.prog.follows .mixedOrders = true) (n : Nat) (t : LI) (u) (h : Fax.m n t = some u) : FnC Tryd.prog abiG 63 (Fax.shape t).1 (Fax.shape t).2 (Fax.res u).1 (Fax.res u).2 :=
  fnC1 (C := Fax.C n) (A := Fax.A n) (fn := Tryd.f63) rfl (.cons (Fae.s hmix n) .nil) hmix Tryd.func63 (by kernel_rfl) (lp := []) (by kernel_rfl) .nil
  (nj rfl) (by decide) rfl rfl (by show 1 ≤ Tryd.f63.ntmps; decide) (Fax.run n t) (Fax.gmap Fax.res (fun a0 => a0) n t) h
theorem Fax.s (hmix : Tryd.prog.follows .mixedOrders = true) (n : Nat) : CalleeS Tryd.prog abiG 63 (Fax.c n) :=
  .mk1 (res := Fax.res) (shape := Fax.shape) (fun R u K => rfl) (fun _ _ _ h => by unfold Fax.pat at h; split at h <;> cases h; rfl) (fun t u h => Fax.call hmix n t u h) Tryd.func63 (by decide) (by kernel_rfl)
end
section
noncomputable section
noncomputable def Fay.C (n : Nat) : Ctx := ⟨Tryd.prog, abiG, lookC [(89, Fas.c n)], fun _ => false⟩
noncomputable def Fay.A (n : Nat) : Ann := ⟨Tryd.f75.ntmps, 0, noNL, [], [none], fun k => match k with
 | _ => none, noNL, lookJ []⟩
def Fay.g {α : Type} (mk0 : LI → α) (n : Nat) (a0 : LI) : Option α :=
 bindO (Fas.m n (List.take 20 (List.drop 0 a0))) fun r2 =>
  some (mk0 r2)
def Fay.m (n : Nat) (t : LI) : Option LI := Fay.g (fun a0 => a0) n t
def Fay.pat : List AV → Blks → Option LI
 | [(.ints .u8 20 a0)], [] => some a0
 | _, _ => none
def Fay.shape (t : LI) : List AV × Blks := ([(.ints .u8 20 t)], [])
def Fay.res : LI → AV × Blks
 | u => (Prod.mk (.ints .u64 4 u) [])
def Fay.resK {R : Type} (u : LI) (K : AV → Blks → Option R) : Option R := K (Fay.res u).1 (Fay.res u).2
def Fay.c (n : Nat) : Abs.Callee := .mk' [] [none] Fay.pat (Fay.m n) Fay.resK
end
end
section
theorem Fay.gmap {α β : Type} (h : β → α) (mk0 : LI → β) (n : Nat) (a0 : LI) : Fay.g (fun a0 => (h (mk0 a0))) n a0 = (Fay.g mk0 n a0).map h := by
  unfold Fay.g
  exact (bindO_map fun r2 => rfl)
theorem Fay.run (n : Nat) (a0 : LI) : runF (Fay.C n) (Fay.A n) n Tryd.f75 [(.ints .u8 20 a0)] [] (fun v o => some (v, o)) = Fay.g (fun a0 => ((Prod.mk (.ints .u64 4 a0) []) : AV × Blks)) n a0 := by kernel_rfl
theorem Fay.call (hmix : Tryd.prog.follows .mixedOrders = true) (n : Nat) (t : LI) (u) (h : Fay.m n t = some u) : FnC Tryd.prog abiG 75 (Fay.shape t).1 (Fay.shape t).2 (Fay.res u).1 (Fay.res u).2 :=
  fnC1 (C := Fay.C n) (A := Fay.A n) (fn := Tryd.f75) rfl (.cons (Fas.s hmix n) .nil) hmix Tryd.func75 (by kernel_rfl) (lp := []) (by kernel_rfl) .nil
  (nj rfl) (by decide) rfl rfl (by show 1 ≤ Tryd.f75.ntmps; decide) (Fay.run n t) (Fay.gmap Fay.res (fun a0 => a0) n t) h
theorem Fay.s (hmix : Tryd.prog.follows .mixedOrders = true) (n : Nat) : CalleeS Tryd.prog abiG 75 (Fay.c n) :=
  .mk1 (res := Fay.res) (shape := Fay.shape) (fun R u K => rfl) (fun _ _ _ h => by unfold Fay.pat at h; split at h <;> cases h; rfl) (fun t u h => Fay.call hmix n t u h) Tryd.func75 (by decide) (by kernel_rfl)
end
section
noncomputable section
noncomputable def Fbo.C (n : Nat) : Ctx := ⟨Tryd.prog, abiG, lookC [(65, Fbd.c n)], fun _ => false⟩
def Fbo.live : NL := fun k => match k with
 | 3 => ([4, 3, 1, 2], [3, 2])
 | _ => ([], [])
def Fbo.l3_0.r {α : Type} (mk0 : LI → LI → α) (n : Nat) (rc : Int → LI → LI → LI → Option α)  (x0 : Int) (x1 : LI) (x2 : LI) (x3 : LI) : Option α :=
  if (decide (x0 < 20)) = true then
   if 0 ≤ x0 then
    if x0 < 20 then
     if ((((List.length x1) + 1) * 1) ≤ 70368744177664 ∧ ((List.length x1) + 1) ≤ 9223372036854775807) then
      rc (IntKind.wrap .i64 (x0 + 1)) (x1 ++ [(List.getD x2 (Int.toNat x0) 0)]) x2 x3
     else
      none
    else
     none
   else
    none
  else
   some (mk0 x1 x3)
def Fbo.l3_0.g {α : Type} (mk0 : LI → LI → α) (n : Nat) : Nat → Int → LI → LI → LI → Option α
 | 0, _, _, _, _ => none
 | m + 1, x0, x1, x2, x3 => Fbo.l3_0.r mk0 n (fun y0 y1 y2 y3 => Fbo.l3_0.g mk0 n m y0 y1 y2 y3)  x0 x1 x2 x3
def Fbo.l3_0.m (n m : Nat) (t : (Int × (LI × (LI × LI)))) : Option (LI × LI) := Fbo.l3_0.g (fun a0 a1 => (a0, a1)) n m t.1 t.2.1 t.2.2.1 t.2.2.2
def Fbo.l3_0.pat : St → Option (Int × (LI × (LI × LI)))
 | (St.mk [(.int .i64 x0), (.own 0 1), (.ptr 1 []), (.ptr 2 [])] [(some (.ints .u8 x1)), (some (.var (.ints .u8 20 x2))), (some (.var (.ints .u64 4 x3)))]) => some (x0, x1, x2, x3)
 | _ => none
def Fbo.l3_0.shape (t : (Int × (LI × (LI × LI)))) : St := (St.mk [(.int .i64 t.1), (.own 0 1), (.ptr 1 []), (.ptr 2 [])] [(some (.ints .u8 t.2.1)), (some (.var (.ints .u8 20 t.2.2.1))), (some (.var (.ints .u64 4 t.2.2.2)))])
def Fbo.l3_0.res : (LI × LI) → Ex × St
 | u => (Prod.mk (.exit 0) (St.mk [(.own 0 1), (.ptr 1 [])] [(some (.ints .u8 u.1)), (some (.var (.ints .u64 4 u.2)))]))
def Fbo.l3_0.resK {R : Type} (u : (LI × LI)) (K : Ex → St → Option R) : Option R := K (Fbo.l3_0.res u).1 (Fbo.l3_0.res u).2
noncomputable def Fbo.A (n : Nat) : Ann := ⟨Tryd.f78.ntmps, 0, Fbo.live, [(3, (.ints .u8))], [none], fun k => match k with
 | 3 => some (.mk' Fbo.l3_0.pat (Fbo.l3_0.m n n) Fbo.l3_0.resK)
 | _ => none, noNL, lookJ []⟩
noncomputable def Fbo.b0 : Code := (loopsIn (Tryd.f78.body.getD .skip)).getD 0 .skip
def Fbo.g {α : Type} (mk0 : LI → α) (n : Nat) (a0 : LI) : Option α :=
 bindO (Fbo.l3_0.m n n (0, [], a0, [0, 0, 0, 0])) fun r2 =>
  bindO (Fbd.m n (Prod.fst r2)) fun r4 =>
   some (mk0 r4)
def Fbo.m (n : Nat) (t : LI) : Option LI := Fbo.g (fun a0 => a0) n t
def Fbo.pat : List AV → Blks → Option LI
 | [(.ints .u8 20 a0)], [] => some a0
 | _, _ => none
def Fbo.shape (t : LI) : List AV × Blks := ([(.ints .u8 20 t)], [])
def Fbo.res : LI → AV × Blks
 | u => (Prod.mk (.ints .u64 4 u) [])
def Fbo.resK {R : Type} (u : LI) (K : AV → Blks → Option R) : Option R := K (Fbo.res u).1 (Fbo.res u).2
def Fbo.c (n : Nat) : Abs.Callee := .mk' [] [none] Fbo.pat (Fbo.m n) Fbo.resK
end
end
section
noncomputable abbrev Fbo.R0 (n : Nat) := roundOf (Fbo.C n) (Fbo.A n) n Fbo.b0
theorem Fbo.l3_0.rmap {α β : Type} (h : β → α) (mk0 : LI → LI → β) (n : Nat) (f : Int → LI → LI → LI → Option β)  (x0 : Int) (x1 : LI) (x2 : LI) (x3 : LI) : Fbo.l3_0.r (fun a0 a1 => (h (mk0 a0 a1))) n (fun y0 y1 y2 y3 => (f y0 y1 y2 y3).map h) x0 x1 x2 x3 = (Fbo.l3_0.r mk0 n f x0 x1 x2 x3).map h := by
  unfold Fbo.l3_0.r
  exact (ite_map (ite_map (ite_map (ite_map rfl rfl) rfl) rfl) rfl)
theorem Fbo.l3_0.gmap {α β : Type} (h : β → α) (mk0 : LI → LI → β) (n : Nat) : ∀ (m : Nat) (x0 : Int) (x1 : LI) (x2 : LI) (x3 : LI), Fbo.l3_0.g (fun a0 a1 => (h (mk0 a0 a1))) n m x0 x1 x2 x3 = (Fbo.l3_0.g mk0 n m x0 x1 x2 x3).map h
  | 0, _, _, _, _ => rfl
  | m + 1, x0, x1, x2, x3 => by
    unfold Fbo.l3_0.g
    rw [← Fbo.l3_0.rmap]
    congr
    · funext y0 y1 y2 y3; exact Fbo.l3_0.gmap h mk0 n m y0 y1 y2 y3
theorem Fbo.l3_0.pat_shape : ∀ st t, Fbo.l3_0.pat st = some t → st = Fbo.l3_0.shape t := fun _ _ h => by unfold Fbo.l3_0.pat at h; split at h <;> cases h; rfl
def Fbo.l3_0.k0 : LI → LI → Ex × St := (fun a0 a1 => ((Prod.mk (.exit 0) (St.mk [(.own 0 1), (.ptr 1 [])] [(some (.ints .u8 a0)), (some (.var (.ints .u64 4 a1)))])) : Ex × St))
theorem Fbo.l3_0.round (n : Nat) (rc : St → Option (Ex × St)) (x0 : Int) (x1 : LI) (x2 : LI) (x3 : LI) : Fbo.R0 n rc ((St.mk [(.int .i64 x0), (.own 0 1), (.ptr 1 []), (.ptr 2 [])] [(some (.ints .u8 x1)), (some (.var (.ints .u8 20 x2))), (some (.var (.ints .u64 4 x3)))])) = Fbo.l3_0.r Fbo.l3_0.k0 n (fun y0 y1 y2 y3 => rc ((St.mk [(.int .i64 y0), (.own 0 1), (.ptr 1 []), (.ptr 2 [])] [(some (.ints .u8 y1)), (some (.var (.ints .u8 20 y2))), (some (.var (.ints .u64 4 y3)))]))) x0 x1 x2 x3 := by kernel_rfl
theorem Fbo.l3_0.loop' (n : Nat) : ∀ (m : Nat) (t : (Int × (LI × (LI × LI)))), loopOf (Fbo.R0 n) m (Fbo.l3_0.shape t) = Fbo.l3_0.g Fbo.l3_0.k0 n m t.1 t.2.1 t.2.2.1 t.2.2.2 :=
  loop_of_round (shape := Fbo.l3_0.shape) (body := Fbo.R0 n) (g := fun m t => Fbo.l3_0.g Fbo.l3_0.k0 n m t.1 t.2.1 t.2.2.1 t.2.2.2) (fun t => rfl)
    fun m t ih => (Fbo.l3_0.round n (loopOf (Fbo.R0 n) m) t.1 t.2.1 t.2.2.1 t.2.2.2).trans (congrFun (congrFun (congrFun (congrFun (congrArg (Fbo.l3_0.r Fbo.l3_0.k0 n) (funext fun y0 => funext fun y1 => funext fun y2 => funext fun y3 => ih (y0, y1, y2, y3))) t.1) t.2.1) t.2.2.1) t.2.2.2)
theorem Fbo.l3_0.loop (n m : Nat) (t : (Int × (LI × (LI × LI)))) : loopOf (Fbo.R0 n) m (Fbo.l3_0.shape t) = (Fbo.l3_0.m n m t).map Fbo.l3_0.res :=
  (Fbo.l3_0.loop' n m t).trans (Fbo.l3_0.gmap Fbo.l3_0.res (fun a0 a1 => (a0, a1)) n m t.1 t.2.1 t.2.2.1 t.2.2.2)
theorem Fbo.gmap {α β : Type} (h : β → α) (mk0 : LI → β) (n : Nat) (a0 : LI) : Fbo.g (fun a0 => (h (mk0 a0))) n a0 = (Fbo.g mk0 n a0).map h := by
  unfold Fbo.g
  exact (bindO_map fun r2 => (bindO_map fun r4 => rfl))
theorem Fbo.run (n : Nat) (a0 : LI) : runF (Fbo.C n) (Fbo.A n) n Tryd.f78 [(.ints .u8 20 a0)] [] (fun v o => some (v, o)) = Fbo.g (fun a0 => ((Prod.mk (.ints .u64 4 a0) []) : AV × Blks)) n a0 := by kernel_rfl
theorem Fbo.call (hmix : Tryd.prog.follows .mixedOrders = true) (n : Nat) (t : LI) (u) (h : Fbo.m n t = some u) : FnC Tryd.prog abiG 78 (Fbo.shape t).1 (Fbo.shape t).2 (Fbo.res u).1 (Fbo.res u).2 :=
  fnC1 (C := Fbo.C n) (A := Fbo.A n) (fn := Tryd.f78) rfl (.cons (Fbd.s hmix n) .nil) hmix Tryd.func78 (by kernel_rfl) (lp := [Fbo.b0]) (by kernel_rfl) (.cons (show (Fbo.A n).loop (key Fbo.b0) = some (.mk' Fbo.l3_0.pat (Fbo.l3_0.m n n) Fbo.l3_0.resK) by kernel_rfl) (LoopS.of (res := Fbo.l3_0.res) (fun R u K => rfl) Fbo.l3_0.pat_shape fun t => Fbo.l3_0.loop n n t)
  .nil)
  (nj rfl) (by decide) rfl rfl (by show 1 ≤ Tryd.f78.ntmps; decide) (Fbo.run n t) (Fbo.gmap Fbo.res (fun a0 => a0) n t) h
theorem Fbo.s (hmix : Tryd.prog.follows .mixedOrders = true) (n : Nat) : CalleeS Tryd.prog abiG 78 (Fbo.c n) :=
  .mk1 (res := Fbo.res) (shape := Fbo.shape) (fun R u K => rfl) (fun _ _ _ h => by unfold Fbo.pat at h; split at h <;> cases h; rfl) (fun t u h => Fbo.call hmix n t u h) Tryd.func78 (by decide) (by kernel_rfl)
end
section
noncomputable section
noncomputable def Fm.C (n : Nat) : Ctx := ⟨Tryd.prog, abiG, lookC [], fun _ => false⟩
noncomputable def Fm.A (n : Nat) : Ann := ⟨Tryd.f19.ntmps, 0, noNL, [], [none], fun k => match k with
 | _ => none, noNL, lookJ []⟩
def Fm.g {α : Type} (mk0 : Bool → α) (n : Nat) (a0 : LI) (a1 : LI) : Option α :=
 some (mk0 ((ByteArray.toList (Go.Abs.strOf a0)) == (ByteArray.toList (Go.Abs.strOf a1))))
def Fm.m (n : Nat) (t : (LI × LI)) : Option Bool := Fm.g (fun a0 => a0) n t.1 t.2
def Fm.pat : List AV → Blks → Option (LI × LI)
 | [(.rints .u8 a0), (.rints .u8 a1)], [] => some (a0, a1)
 | _, _ => none
def Fm.shape (t : (LI × LI)) : List AV × Blks := ([(.rints .u8 t.1), (.rints .u8 t.2)], [])
def Fm.res : Bool → AV × Blks
 | u => (Prod.mk (.bool u) [])
def Fm.resK {R : Type} (u : Bool) (K : AV → Blks → Option R) : Option R := K (Fm.res u).1 (Fm.res u).2
def Fm.c (n : Nat) : Abs.Callee := .mk' [] [(some (.ints .u8)), (some (.ints .u8))] Fm.pat (Fm.m n) Fm.resK
end
end
section
theorem Fm.gmap {α β : Type} (h : β → α) (mk0 : Bool → β) (n : Nat) (a0 : LI) (a1 : LI) : Fm.g (fun a0 => (h (mk0 a0))) n a0 a1 = (Fm.g mk0 n a0 a1).map h := by
  unfold Fm.g
  exact rfl
theorem Fm.run (n : Nat) (a0 : LI) (a1 : LI) : runF (Fm.C n) (Fm.A n) n Tryd.f19 [(.rints .u8 a0), (.rints .u8 a1)] [] (fun v o => some (v, o)) = Fm.g (fun a0 => ((Prod.mk (.bool a0) []) : AV × Blks)) n a0 a1 := by kernel_rfl
theorem Fm.call (hmix : Tryd.prog.follows .mixedOrders = true) (n : Nat) (t : (LI × LI)) (u) (h : Fm.m n t = some u) : FnC Tryd.prog abiG 19 (Fm.shape t).1 (Fm.shape t).2 (Fm.res u).1 (Fm.res u).2 :=
  fnC1 (C := Fm.C n) (A := Fm.A n) (fn := Tryd.f19) rfl .nil hmix Tryd.func19 (by kernel_rfl) (lp := []) (by kernel_rfl) .nil
  (nj rfl) (by decide) rfl rfl (by show 2 ≤ Tryd.f19.ntmps; decide) (Fm.run n t.1 t.2) (Fm.gmap Fm.res (fun a0 => a0) n t.1 t.2) h
theorem Fm.s (hmix : Tryd.prog.follows .mixedOrders = true) (n : Nat) : CalleeS Tryd.prog abiG 19 (Fm.c n) :=
  .mk1 (res := Fm.res) (shape := Fm.shape) (fun R u K => rfl) (fun _ _ _ h => by unfold Fm.pat at h; split at h <;> cases h; rfl) (fun t u h => Fm.call hmix n t u h) Tryd.func19 (by decide) (by kernel_rfl)
end
section
noncomputable section
noncomputable def Fx.C (n : Nat) : Ctx := ⟨Tryd.prog, abiG, lookC [(69, Fau.c n), (56, Fae.c n)], fun _ => false⟩
noncomputable def Fx.A (n : Nat) : Ann := ⟨Tryd.f73.ntmps, 0, noNL, [], [(some (.ints .u8))], fun k => match k with
 | _ => none, noNL, lookJ []⟩
def Fx.g {α : Type} (mk0 : LI → α) (n : Nat) (a0 : Int) : Option α :=
 bindO (Fau.m n a0) fun r2 =>
  bindO (Fae.m n r2) fun r4 =>
   if 16 ≤ (((List.length r4) : Nat) : Int) then
    some (mk0 (Go.Abs.partL r4 16 (Go.Abs.span (List.length r4) 16 (Option.none))))
   else
    none
def Fx.m (n : Nat) (t : Int) : Option LI := Fx.g (fun a0 => a0) n t
def Fx.pat : List AV → Blks → Option Int
 | [(.int .u64 a0)], [] => some a0
 | _, _ => none
def Fx.shape (t : Int) : List AV × Blks := ([(.int .u64 t)], [])
def Fx.res : LI → AV × Blks
 | u => (Prod.mk (.own 0 1) [(some (.ints .u8 u))])
def Fx.resK {R : Type} (u : LI) (K : AV → Blks → Option R) : Option R := K (Fx.res u).1 (Fx.res u).2
def Fx.c (n : Nat) : Abs.Callee := .mk' [] [none] Fx.pat (Fx.m n) Fx.resK
end
end
section
noncomputable section
noncomputable def Fn.C (n : Nat) : Ctx := ⟨Tryd.prog, abiG, lookC [(69, Fau.c n), (100, Fbm.c n), (85, Fbi.c n)], fun _ => false⟩
noncomputable def Fn.A (n : Nat) : Ann := ⟨Tryd.f74.ntmps, 0, noNL, [], [none], fun k => match k with
 | _ => none, noNL, lookJ []⟩
def Fn.g {α : Type} (mk0 : LI → α) (n : Nat) (a0 : LI) (a1 : LI) : Option α :=
 bindO (Fau.m n 128) fun r2 =>
  bindO (Fbm.m n (Prod.mk r2 a0)) fun r4 =>
   bindO (Fbi.m n (Prod.mk r4 a1)) fun r6 =>
    some (mk0 (Prod.fst r6))
def Fn.m (n : Nat) (t : (LI × LI)) : Option LI := Fn.g (fun a0 => a0) n t.1 t.2
def Fn.pat : List AV → Blks → Option (LI × LI)
 | [(.ints .u64 4 a0), (.ints .u64 4 a1)], [] => some (a0, a1)
 | _, _ => none
def Fn.shape (t : (LI × LI)) : List AV × Blks := ([(.ints .u64 4 t.1), (.ints .u64 4 t.2)], [])
def Fn.res : LI → AV × Blks
 | u => (Prod.mk (.ints .u64 4 u) [])
def Fn.resK {R : Type} (u : LI) (K : AV → Blks → Option R) : Option R := K (Fn.res u).1 (Fn.res u).2
def Fn.c (n : Nat) : Abs.Callee := .mk' [] [none, none] Fn.pat (Fn.m n) Fn.resK
end
end
section
noncomputable section
noncomputable def Fy.C (n : Nat) : Ctx := ⟨Tryd.prog, abiG, lookC [], fun _ => false⟩
noncomputable def Fy.A (n : Nat) : Ann := ⟨Tryd.f68.ntmps, 0, noNL, [], [none], fun k => match k with
 | _ => none, noNL, lookJ []⟩
def Fy.g {α : Type} (mk0 : Bool → LI → α) (n : Nat) (a0 : LI) : Option α :=
 some (mk0 false a0)
def Fy.m (n : Nat) (t : LI) : Option (Bool × LI) := Fy.g (fun a0 a1 => (a0, a1)) n t
def Fy.pat : List AV → Blks → Option LI
 | [(.ints .u64 4 a0)], [] => some a0
 | _, _ => none
def Fy.shape (t : LI) : List AV × Blks := ([(.ints .u64 4 t)], [])
def Fy.res : (Bool × LI) → AV × Blks
 | u => (Prod.mk (.agg [(.bool u.1), (.ints .u64 4 u.2), .snil]) [])
def Fy.resK {R : Type} (u : (Bool × LI)) (K : AV → Blks → Option R) : Option R := K (Fy.res u).1 (Fy.res u).2
def Fy.c (n : Nat) : Abs.Callee := .mk' [] [none] Fy.pat (Fy.m n) Fy.resK
end
end
section
noncomputable section
noncomputable def Fz.C (n : Nat) : Ctx := ⟨Tryd.prog, abiG, lookC [(70, Fo.c n), (73, Fx.c n), (69, Fau.c n), (74, Fn.c n), (75, Fay.c n), (68, Fy.c n)], fun t => t == 41⟩
noncomputable def Fz.A (n : Nat) : Ann := ⟨Tryd.f38.ntmps, 0, noNL, [], [(some (.objs 69 6))], fun k => match k with
 | _ => none, noNL, lookJ []⟩
def Fz.g {α : Type} (mk0 : LA → α) (n : Nat) (a0_0 : LI) (a0_1 : LI) (a0_2 : Bool) (a0_3 : LI) (a0_4 : LI) (a0_5 : LI) (a0_6 : Int) (a0_7 : Int) (a0_8 : Int) (a0_9 : LI) (a0_10 : LI) (a0_11 : Bool) (a0_12 : LI) (a0_13 : Int) (a0_14 : Int) (a0_15 : LI) (a0_16 : LI) : Option α :=
 bindO (Fo.m n []) fun r2 =>
  bindO (Fo.m n []) fun r4 =>
   if a0_2 = true then
    bindO (Fo.m n [(AV.rints .u8 (Go.Abs.cut a0_3 0 (Option.none))), (AV.rints .u8 a0_4)]) fun r8 =>
     if a0_11 = true then
      bindO (Fx.m n a0_13) fun r12 =>
       bindO (Fx.m n a0_14) fun r14 =>
        bindO (Fo.m n [(AV.rints .u8 (Go.Abs.cut a0_12 0 (Option.none))), (AV.rints .u8 r12), (AV.rints .u8 r14), (AV.rints .u8 a0_15)]) fun r16 =>
         bindO (Fau.m n a0_7) fun r18 =>
          bindO (Fau.m n a0_6) fun r20 =>
           bindO (Fn.m n (Prod.mk r18 r20)) fun r22 =>
            bindO (Fay.m n a0_0) fun r24 =>
             bindO (Fy.m n r24) fun r26 =>
              bindO (Fy.m n a0_1) fun r28 =>
               bindO (Fo.m n [(AV.rints .u8 a0_5)]) fun r30 =>
                bindO (Fy.m n r22) fun r32 =>
                 bindO (Fau.m n a0_8) fun r34 =>
                  bindO (Fy.m n r34) fun r36 =>
                   bindO (Fn.m n (Prod.mk a0_10 a0_9)) fun r38 =>
                    bindO (Fy.m n r38) fun r40 =>
                     bindO (Fo.m n [(AV.rints .u8 a0_16)]) fun r42 =>
                      some (mk0 [(AV.agg [(AV.bool (Prod.fst r26)), (AV.ints .u64 4 (Prod.snd r26)), AV.snil]), (AV.agg [(AV.bool (Prod.fst r28)), (AV.ints .u64 4 (Prod.snd r28)), AV.snil]), (AV.agg [(AV.bool (Prod.fst r8)), (AV.ints .u64 4 (Prod.fst r8.2)), (AV.rints .u8 (Prod.snd r8.2))]), (AV.agg [(AV.bool (Prod.fst r30)), (AV.ints .u64 4 (Prod.fst r30.2)), (AV.rints .u8 (Prod.snd r30.2))]), (AV.agg [(AV.bool (Prod.fst r32)), (AV.ints .u64 4 (Prod.snd r32)), AV.snil]), (AV.agg [(AV.bool (Prod.fst r36)), (AV.ints .u64 4 (Prod.snd r36)), AV.snil]), (AV.agg [(AV.bool (Prod.fst r40)), (AV.ints .u64 4 (Prod.snd r40)), AV.snil]), (AV.agg [(AV.bool (Prod.fst r16)), (AV.ints .u64 4 (Prod.fst r16.2)), (AV.rints .u8 (Prod.snd r16.2))]), (AV.agg [(AV.bool (Prod.fst r42)), (AV.ints .u64 4 (Prod.fst r42.2)), (AV.rints .u8 (Prod.snd r42.2))])])
     else
      bindO (Fau.m n a0_7) fun r12 =>
       bindO (Fau.m n a0_6) fun r14 =>
        bindO (Fn.m n (Prod.mk r12 r14)) fun r16 =>
         bindO (Fay.m n a0_0) fun r18 =>
          bindO (Fy.m n r18) fun r20 =>
           bindO (Fy.m n a0_1) fun r22 =>
            bindO (Fo.m n [(AV.rints .u8 a0_5)]) fun r24 =>
             bindO (Fy.m n r16) fun r26 =>
              bindO (Fau.m n a0_8) fun r28 =>
               bindO (Fy.m n r28) fun r30 =>
                bindO (Fn.m n (Prod.mk a0_10 a0_9)) fun r32 =>
                 bindO (Fy.m n r32) fun r34 =>
                  bindO (Fo.m n [(AV.rints .u8 a0_16)]) fun r36 =>
                   some (mk0 [(AV.agg [(AV.bool (Prod.fst r20)), (AV.ints .u64 4 (Prod.snd r20)), AV.snil]), (AV.agg [(AV.bool (Prod.fst r22)), (AV.ints .u64 4 (Prod.snd r22)), AV.snil]), (AV.agg [(AV.bool (Prod.fst r8)), (AV.ints .u64 4 (Prod.fst r8.2)), (AV.rints .u8 (Prod.snd r8.2))]), (AV.agg [(AV.bool (Prod.fst r24)), (AV.ints .u64 4 (Prod.fst r24.2)), (AV.rints .u8 (Prod.snd r24.2))]), (AV.agg [(AV.bool (Prod.fst r26)), (AV.ints .u64 4 (Prod.snd r26)), AV.snil]), (AV.agg [(AV.bool (Prod.fst r30)), (AV.ints .u64 4 (Prod.snd r30)), AV.snil]), (AV.agg [(AV.bool (Prod.fst r34)), (AV.ints .u64 4 (Prod.snd r34)), AV.snil]), (AV.agg [(AV.bool (Prod.fst r4)), (AV.ints .u64 4 (Prod.fst r4.2)), (AV.rints .u8 (Prod.snd r4.2))]), (AV.agg [(AV.bool (Prod.fst r36)), (AV.ints .u64 4 (Prod.fst r36.2)), (AV.rints .u8 (Prod.snd r36.2))])])
   else
    if a0_11 = true then
     bindO (Fx.m n a0_13) fun r10 =>
      bindO (Fx.m n a0_14) fun r12 =>
       bindO (Fo.m n [(AV.rints .u8 (Go.Abs.cut a0_12 0 (Option.none))), (AV.rints .u8 r10), (AV.rints .u8 r12), (AV.rints .u8 a0_15)]) fun r14 =>
        bindO (Fau.m n a0_7) fun r16 =>
         bindO (Fau.m n a0_6) fun r18 =>
          bindO (Fn.m n (Prod.mk r16 r18)) fun r20 =>
           bindO (Fay.m n a0_0) fun r22 =>
            bindO (Fy.m n r22) fun r24 =>
             bindO (Fy.m n a0_1) fun r26 =>
              bindO (Fo.m n [(AV.rints .u8 a0_5)]) fun r28 =>
               bindO (Fy.m n r20) fun r30 =>
                bindO (Fau.m n a0_8) fun r32 =>
                 bindO (Fy.m n r32) fun r34 =>
                  bindO (Fn.m n (Prod.mk a0_10 a0_9)) fun r36 =>
                   bindO (Fy.m n r36) fun r38 =>
                    bindO (Fo.m n [(AV.rints .u8 a0_16)]) fun r40 =>
                     some (mk0 [(AV.agg [(AV.bool (Prod.fst r24)), (AV.ints .u64 4 (Prod.snd r24)), AV.snil]), (AV.agg [(AV.bool (Prod.fst r26)), (AV.ints .u64 4 (Prod.snd r26)), AV.snil]), (AV.agg [(AV.bool (Prod.fst r2)), (AV.ints .u64 4 (Prod.fst r2.2)), (AV.rints .u8 (Prod.snd r2.2))]), (AV.agg [(AV.bool (Prod.fst r28)), (AV.ints .u64 4 (Prod.fst r28.2)), (AV.rints .u8 (Prod.snd r28.2))]), (AV.agg [(AV.bool (Prod.fst r30)), (AV.ints .u64 4 (Prod.snd r30)), AV.snil]), (AV.agg [(AV.bool (Prod.fst r34)), (AV.ints .u64 4 (Prod.snd r34)), AV.snil]), (AV.agg [(AV.bool (Prod.fst r38)), (AV.ints .u64 4 (Prod.snd r38)), AV.snil]), (AV.agg [(AV.bool (Prod.fst r14)), (AV.ints .u64 4 (Prod.fst r14.2)), (AV.rints .u8 (Prod.snd r14.2))]), (AV.agg [(AV.bool (Prod.fst r40)), (AV.ints .u64 4 (Prod.fst r40.2)), (AV.rints .u8 (Prod.snd r40.2))])])
    else
     bindO (Fau.m n a0_7) fun r10 =>
      bindO (Fau.m n a0_6) fun r12 =>
       bindO (Fn.m n (Prod.mk r10 r12)) fun r14 =>
        bindO (Fay.m n a0_0) fun r16 =>
         bindO (Fy.m n r16) fun r18 =>
          bindO (Fy.m n a0_1) fun r20 =>
           bindO (Fo.m n [(AV.rints .u8 a0_5)]) fun r22 =>
            bindO (Fy.m n r14) fun r24 =>
             bindO (Fau.m n a0_8) fun r26 =>
              bindO (Fy.m n r26) fun r28 =>
               bindO (Fn.m n (Prod.mk a0_10 a0_9)) fun r30 =>
                bindO (Fy.m n r30) fun r32 =>
                 bindO (Fo.m n [(AV.rints .u8 a0_16)]) fun r34 =>
                  some (mk0 [(AV.agg [(AV.bool (Prod.fst r18)), (AV.ints .u64 4 (Prod.snd r18)), AV.snil]), (AV.agg [(AV.bool (Prod.fst r20)), (AV.ints .u64 4 (Prod.snd r20)), AV.snil]), (AV.agg [(AV.bool (Prod.fst r2)), (AV.ints .u64 4 (Prod.fst r2.2)), (AV.rints .u8 (Prod.snd r2.2))]), (AV.agg [(AV.bool (Prod.fst r22)), (AV.ints .u64 4 (Prod.fst r22.2)), (AV.rints .u8 (Prod.snd r22.2))]), (AV.agg [(AV.bool (Prod.fst r24)), (AV.ints .u64 4 (Prod.snd r24)), AV.snil]), (AV.agg [(AV.bool (Prod.fst r28)), (AV.ints .u64 4 (Prod.snd r28)), AV.snil]), (AV.agg [(AV.bool (Prod.fst r32)), (AV.ints .u64 4 (Prod.snd r32)), AV.snil]), (AV.agg [(AV.bool (Prod.fst r4)), (AV.ints .u64 4 (Prod.fst r4.2)), (AV.rints .u8 (Prod.snd r4.2))]), (AV.agg [(AV.bool (Prod.fst r34)), (AV.ints .u64 4 (Prod.fst r34.2)), (AV.rints .u8 (Prod.snd r34.2))])])
def Fz.m (n : Nat) (t : (LI × (LI × (Bool × (LI × (LI × (LI × (Int × (Int × (Int × (LI × (LI × (Bool × (LI × (Int × (Int × (LI × LI))))))))))))))))) : Option LA := Fz.g (fun a0 => a0) n t.1 t.2.1 t.2.2.1 t.2.2.2.1 t.2.2.2.2.1 t.2.2.2.2.2.1 t.2.2.2.2.2.2.1 t.2.2.2.2.2.2.2.1 t.2.2.2.2.2.2.2.2.1 t.2.2.2.2.2.2.2.2.2.1 t.2.2.2.2.2.2.2.2.2.2.1 t.2.2.2.2.2.2.2.2.2.2.2.1 t.2.2.2.2.2.2.2.2.2.2.2.2.1 t.2.2.2.2.2.2.2.2.2.2.2.2.2.1 t.2.2.2.2.2.2.2.2.2.2.2.2.2.2.1 t.2.2.2.2.2.2.2.2.2.2.2.2.2.2.2.1 t.2.2.2.2.2.2.2.2.2.2.2.2.2.2.2.2
def Fz.pat : List AV → Blks → Option (LI × (LI × (Bool × (LI × (LI × (LI × (Int × (Int × (Int × (LI × (LI × (Bool × (LI × (Int × (Int × (LI × LI))))))))))))))))
 | [(.agg [(.ints .u8 20 a0_0), (.ints .u64 4 a0_1), (.bool a0_2), (.ints .u8 20 a0_3), (.rints .u8 a0_4), (.rints .u8 a0_5), (.int .u64 a0_6), (.int .u64 a0_7), (.int .u64 a0_8), (.ints .u64 4 a0_9), (.ints .u64 4 a0_10), (.bool a0_11), (.ints .u8 20 a0_12), (.int .u64 a0_13), (.int .u64 a0_14), (.rints .u8 a0_15), (.rints .u8 a0_16)])], [] => some (a0_0, a0_1, a0_2, a0_3, a0_4, a0_5, a0_6, a0_7, a0_8, a0_9, a0_10, a0_11, a0_12, a0_13, a0_14, a0_15, a0_16)
 | _, _ => none
def Fz.shape (t : (LI × (LI × (Bool × (LI × (LI × (LI × (Int × (Int × (Int × (LI × (LI × (Bool × (LI × (Int × (Int × (LI × LI))))))))))))))))) : List AV × Blks := ([(.agg [(.ints .u8 20 t.1), (.ints .u64 4 t.2.1), (.bool t.2.2.1), (.ints .u8 20 t.2.2.2.1), (.rints .u8 t.2.2.2.2.1), (.rints .u8 t.2.2.2.2.2.1), (.int .u64 t.2.2.2.2.2.2.1), (.int .u64 t.2.2.2.2.2.2.2.1), (.int .u64 t.2.2.2.2.2.2.2.2.1), (.ints .u64 4 t.2.2.2.2.2.2.2.2.2.1), (.ints .u64 4 t.2.2.2.2.2.2.2.2.2.2.1), (.bool t.2.2.2.2.2.2.2.2.2.2.2.1), (.ints .u8 20 t.2.2.2.2.2.2.2.2.2.2.2.2.1), (.int .u64 t.2.2.2.2.2.2.2.2.2.2.2.2.2.1), (.int .u64 t.2.2.2.2.2.2.2.2.2.2.2.2.2.2.1), (.rints .u8 t.2.2.2.2.2.2.2.2.2.2.2.2.2.2.2.1), (.rints .u8 t.2.2.2.2.2.2.2.2.2.2.2.2.2.2.2.2)])], [])
def Fz.res : LA → AV × Blks
 | u => (Prod.mk (.robjs 69 6 u) [])
def Fz.resK {R : Type} (u : LA) (K : AV → Blks → Option R) : Option R := K (Fz.res u).1 (Fz.res u).2
def Fz.c (n : Nat) : Abs.Callee := .mk' [] [(some (.agg [none, none, none, none, (some (.ints .u8)), (some (.ints .u8)), none, none, none, none, none, none, none, none, none, (some (.ints .u8)), (some (.ints .u8))]))] Fz.pat (Fz.m n) Fz.resK
end
end
section
theorem Fx.gmap {α β : Type} (h : β → α) (mk0 : LI → β) (n : Nat) (a0 : Int) : Fx.g (fun a0 => (h (mk0 a0))) n a0 = (Fx.g mk0 n a0).map h := by
  unfold Fx.g
  exact (bindO_map fun r2 => (bindO_map fun r4 => (ite_map rfl rfl)))
theorem Fx.run (n : Nat) (a0 : Int) : runF (Fx.C n) (Fx.A n) n Tryd.f73 [(.int .u64 a0)] [] (fun v o => some (v, o)) = Fx.g (fun a0 => ((Prod.mk (.own 0 1) [(some (.ints .u8 a0))]) : AV × Blks)) n a0 := by kernel_rfl
theorem Fx.call (hmix : Tryd.prog.follows .mixedOrders = true) (n : Nat) (t : Int) (u) (h : Fx.m n t = some u) : FnC Tryd.prog abiG 73 (Fx.shape t).1 (Fx.shape t).2 (Fx.res u).1 (Fx.res u).2 :=
  fnC1 (C := Fx.C n) (A := Fx.A n) (fn := Tryd.f73) rfl (.cons (Fau.s hmix n) (.cons (Fae.s hmix n) .nil)) hmix Tryd.func73 (by kernel_rfl) (lp := []) (by kernel_rfl) .nil
  (nj rfl) (by decide) rfl rfl (by show 1 ≤ Tryd.f73.ntmps; decide) (Fx.run n t) (Fx.gmap Fx.res (fun a0 => a0) n t) h
theorem Fx.s (hmix : Tryd.prog.follows .mixedOrders = true) (n : Nat) : CalleeS Tryd.prog abiG 73 (Fx.c n) :=
  .mk1 (res := Fx.res) (shape := Fx.shape) (fun R u K => rfl) (fun _ _ _ h => by unfold Fx.pat at h; split at h <;> cases h; rfl) (fun t u h => Fx.call hmix n t u h) Tryd.func73 (by decide) (by kernel_rfl)
end
section
theorem Fn.gmap {α β : Type} (h : β → α) (mk0 : LI → β) (n : Nat) (a0 : LI) (a1 : LI) : Fn.g (fun a0 => (h (mk0 a0))) n a0 a1 = (Fn.g mk0 n a0 a1).map h := by
  unfold Fn.g
  exact (bindO_map fun r2 => (bindO_map fun r4 => (bindO_map fun r6 => rfl)))
theorem Fn.run (n : Nat) (a0 : LI) (a1 : LI) : runF (Fn.C n) (Fn.A n) n Tryd.f74 [(.ints .u64 4 a0), (.ints .u64 4 a1)] [] (fun v o => some (v, o)) = Fn.g (fun a0 => ((Prod.mk (.ints .u64 4 a0) []) : AV × Blks)) n a0 a1 := by kernel_rfl
theorem Fn.call (hmix : Tryd.prog.follows .mixedOrders = true) (n : Nat) (t : (LI × LI)) (u) (h : Fn.m n t = some u) : FnC Tryd.prog abiG 74 (Fn.shape t).1 (Fn.shape t).2 (Fn.res u).1 (Fn.res u).2 :=
  fnC1 (C := Fn.C n) (A := Fn.A n) (fn := Tryd.f74) rfl (.cons (Fau.s hmix n) (.cons (Fbm.s hmix n) (.cons (Fbi.s hmix n) .nil))) hmix Tryd.func74 (by kernel_rfl) (lp := []) (by kernel_rfl) .nil
  (nj rfl) (by decide) rfl rfl (by show 2 ≤ Tryd.f74.ntmps; decide) (Fn.run n t.1 t.2) (Fn.gmap Fn.res (fun a0 => a0) n t.1 t.2) h
theorem Fn.s (hmix : Tryd.prog.follows .mixedOrders = true) (n : Nat) : CalleeS Tryd.prog abiG 74 (Fn.c n) :=
  .mk1 (res := Fn.res) (shape := Fn.shape) (fun R u K => rfl) (fun _ _ _ h => by unfold Fn.pat at h; split at h <;> cases h; rfl) (fun t u h => Fn.call hmix n t u h) Tryd.func74 (by decide) (by kernel_rfl)
end
section
theorem Fy.gmap {α β : Type} (h : β → α) (mk0 : Bool → LI → β) (n : Nat) (a0 : LI) : Fy.g (fun a0 a1 => (h (mk0 a0 a1))) n a0 = (Fy.g mk0 n a0).map h := by
  unfold Fy.g
  exact rfl
theorem Fy.run (n : Nat) (a0 : LI) : runF (Fy.C n) (Fy.A n) n Tryd.f68 [(.ints .u64 4 a0)] [] (fun v o => some (v, o)) = Fy.g (fun a0 a1 => ((Prod.mk (.agg [(.bool a0), (.ints .u64 4 a1), .snil]) []) : AV × Blks)) n a0 := by kernel_rfl
theorem Fy.call (hmix : Tryd.prog.follows .mixedOrders = true) (n : Nat) (t : LI) (u) (h : Fy.m n t = some u) : FnC Tryd.prog abiG 68 (Fy.shape t).1 (Fy.shape t).2 (Fy.res u).1 (Fy.res u).2 :=
  fnC1 (C := Fy.C n) (A := Fy.A n) (fn := Tryd.f68) rfl .nil hmix Tryd.func68 (by kernel_rfl) (lp := []) (by kernel_rfl) .nil
  (nj rfl) (by decide) rfl rfl (by show 1 ≤ Tryd.f68.ntmps; decide) (Fy.run n t) (Fy.gmap Fy.res (fun a0 a1 => (a0, a1)) n t) h
theorem Fy.s (hmix : Tryd.prog.follows .mixedOrders = true) (n : Nat) : CalleeS Tryd.prog abiG 68 (Fy.c n) :=
  .mk1 (res := Fy.res) (shape := Fy.shape) (fun R u K => rfl) (fun _ _ _ h => by unfold Fy.pat at h; split at h <;> cases h; rfl) (fun t u h => Fy.call hmix n t u h) Tryd.func68 (by decide) (by kernel_rfl)
end
section
theorem Fz.gmap {α β : Type} (h : β → α) (mk0 : LA → β) (n : Nat) (a0_0 : LI) (a0_1 : LI) (a0_2 : Bool) (a0_3 : LI) (a0_4 : LI) (a0_5 : LI) (a0_6 : Int) (a0_7 : Int) (a0_8 : Int) (a0_9 : LI) (a0_10 : LI) (a0_11 : Bool) (a0_12 : LI) (a0_13 : Int) (a0_14 : Int) (a0_15 : LI) (a0_16 : LI) : Fz.g (fun a0 => (h (mk0 a0))) n a0_0 a0_1 a0_2 a0_3 a0_4 a0_5 a0_6 a0_7 a0_8 a0_9 a0_10 a0_11 a0_12 a0_13 a0_14 a0_15 a0_16 = (Fz.g mk0 n a0_0 a0_1 a0_2 a0_3 a0_4 a0_5 a0_6 a0_7 a0_8 a0_9 a0_10 a0_11 a0_12 a0_13 a0_14 a0_15 a0_16).map h := by
  unfold Fz.g
  exact (bindO_map fun r2 => (bindO_map fun r4 => (ite_map (bindO_map fun r8 => (ite_map (bindO_map fun r12 => (bindO_map fun r14 => (bindO_map fun r16 => (bindO_map fun r18 => (bindO_map fun r20 => (bindO_map fun r22 => (bindO_map fun r24 => (bindO_map fun r26 => (bindO_map fun r28 => (bindO_map fun r30 => (bindO_map fun r32 => (bindO_map fun r34 => (bindO_map fun r36 => (bindO_map fun r38 => (bindO_map fun r40 => (bindO_map fun r42 => rfl)))))))))))))))) (bindO_map fun r12 => (bindO_map fun r14 => (bindO_map fun r16 => (bindO_map fun r18 => (bindO_map fun r20 => (bindO_map fun r22 => (bindO_map fun r24 => (bindO_map fun r26 => (bindO_map fun r28 => (bindO_map fun r30 => (bindO_map fun r32 => (bindO_map fun r34 => (bindO_map fun r36 => rfl))))))))))))))) (ite_map (bindO_map fun r10 => (bindO_map fun r12 => (bindO_map fun r14 => (bindO_map fun r16 => (bindO_map fun r18 => (bindO_map fun r20 => (bindO_map fun r22 => (bindO_map fun r24 => (bindO_map fun r26 => (bindO_map fun r28 => (bindO_map fun r30 => (bindO_map fun r32 => (bindO_map fun r34 => (bindO_map fun r36 => (bindO_map fun r38 => (bindO_map fun r40 => rfl)))))))))))))))) (bindO_map fun r10 => (bindO_map fun r12 => (bindO_map fun r14 => (bindO_map fun r16 => (bindO_map fun r18 => (bindO_map fun r20 => (bindO_map fun r22 => (bindO_map fun r24 => (bindO_map fun r26 => (bindO_map fun r28 => (bindO_map fun r30 => (bindO_map fun r32 => (bindO_map fun r34 => rfl)))))))))))))))))
theorem Fz.run (n : Nat) (a0_0 : LI) (a0_1 : LI) (a0_2 : Bool) (a0_3 : LI) (a0_4 : LI) (a0_5 : LI) (a0_6 : Int) (a0_7 : Int) (a0_8 : Int) (a0_9 : LI) (a0_10 : LI) (a0_11 : Bool) (a0_12 : LI) (a0_13 : Int) (a0_14 : Int) (a0_15 : LI) (a0_16 : LI) : runF (Fz.C n) (Fz.A n) n Tryd.f38 [(.agg [(.ints .u8 20 a0_0), (.ints .u64 4 a0_1), (.bool a0_2), (.ints .u8 20 a0_3), (.rints .u8 a0_4), (.rints .u8 a0_5), (.int .u64 a0_6), (.int .u64 a0_7), (.int .u64 a0_8), (.ints .u64 4 a0_9), (.ints .u64 4 a0_10), (.bool a0_11), (.ints .u8 20 a0_12), (.int .u64 a0_13), (.int .u64 a0_14), (.rints .u8 a0_15), (.rints .u8 a0_16)])] [] (fun v o => some (v, o)) = Fz.g (fun a0 => ((Prod.mk (.robjs 69 6 a0) []) : AV × Blks)) n a0_0 a0_1 a0_2 a0_3 a0_4 a0_5 a0_6 a0_7 a0_8 a0_9 a0_10 a0_11 a0_12 a0_13 a0_14 a0_15 a0_16 := by kernel_rfl
theorem Fz.call (hmix : Tryd.prog.follows .mixedOrders = true) (n : Nat) (t : (LI × (LI × (Bool × (LI × (LI × (LI × (Int × (Int × (Int × (LI × (LI × (Bool × (LI × (Int × (Int × (LI × LI))))))))))))))))) (u) (h : Fz.m n t = some u) : FnC Tryd.prog abiG 38 (Fz.shape t).1 (Fz.shape t).2 (Fz.res u).1 (Fz.res u).2 :=
  fnC1 (C := Fz.C n) (A := Fz.A n) (fn := Tryd.f38) rfl (.cons (Fo.s hmix n) (.cons (Fx.s hmix n) (.cons (Fau.s hmix n) (.cons (Fn.s hmix n) (.cons (Fay.s hmix n) (.cons (Fy.s hmix n) .nil)))))) hmix Tryd.func38 (by kernel_rfl) (lp := []) (by kernel_rfl) .nil
  (nj rfl) (by decide) rfl rfl (by show 1 ≤ Tryd.f38.ntmps; decide) (Fz.run n t.1 t.2.1 t.2.2.1 t.2.2.2.1 t.2.2.2.2.1 t.2.2.2.2.2.1 t.2.2.2.2.2.2.1 t.2.2.2.2.2.2.2.1 t.2.2.2.2.2.2.2.2.1 t.2.2.2.2.2.2.2.2.2.1 t.2.2.2.2.2.2.2.2.2.2.1 t.2.2.2.2.2.2.2.2.2.2.2.1 t.2.2.2.2.2.2.2.2.2.2.2.2.1 t.2.2.2.2.2.2.2.2.2.2.2.2.2.1 t.2.2.2.2.2.2.2.2.2.2.2.2.2.2.1 t.2.2.2.2.2.2.2.2.2.2.2.2.2.2.2.1 t.2.2.2.2.2.2.2.2.2.2.2.2.2.2.2.2) (Fz.gmap Fz.res (fun a0 => a0) n t.1 t.2.1 t.2.2.1 t.2.2.2.1 t.2.2.2.2.1 t.2.2.2.2.2.1 t.2.2.2.2.2.2.1 t.2.2.2.2.2.2.2.1 t.2.2.2.2.2.2.2.2.1 t.2.2.2.2.2.2.2.2.2.1 t.2.2.2.2.2.2.2.2.2.2.1 t.2.2.2.2.2.2.2.2.2.2.2.1 t.2.2.2.2.2.2.2.2.2.2.2.2.1 t.2.2.2.2.2.2.2.2.2.2.2.2.2.1 t.2.2.2.2.2.2.2.2.2.2.2.2.2.2.1 t.2.2.2.2.2.2.2.2.2.2.2.2.2.2.2.1 t.2.2.2.2.2.2.2.2.2.2.2.2.2.2.2.2) h
theorem Fz.s (hmix : Tryd.prog.follows .mixedOrders = true) (n : Nat) : CalleeS Tryd.prog abiG 38 (Fz.c n) :=
  .mk1 (res := Fz.res) (shape := Fz.shape) (fun R u K => rfl) (fun _ _ _ h => by unfold Fz.pat at h; split at h <;> cases h; rfl) (fun t u h => Fz.call hmix n t u h) Tryd.func38 (by decide) (by kernel_rfl)
end
section
noncomputable section
noncomputable def Faa.C (n : Nat) : Ctx := ⟨Tryd.prog, abiG, lookC [(78, Fbo.c n), (55, Fat.c n)], fun _ => false⟩
noncomputable def Faa.A (n : Nat) : Ann := ⟨Tryd.f76.ntmps, 0, noNL, [], [(some (.ints .u8))], fun k => match k with
 | _ => none, noNL, lookJ []⟩
def Faa.g {α : Type} (mk0 : LI → α) (n : Nat) (a0 : LI) : Option α :=
 bindO (Fbo.m n a0) fun r2 =>
  bindO (Fat.m n r2) fun r4 =>
   if 12 ≤ (((List.length r4) : Nat) : Int) then
    some (mk0 (Go.Abs.partL r4 12 (Go.Abs.span (List.length r4) 12 (Option.none))))
   else
    none
def Faa.m (n : Nat) (t : LI) : Option LI := Faa.g (fun a0 => a0) n t
def Faa.pat : List AV → Blks → Option LI
 | [(.ints .u8 20 a0)], [] => some a0
 | _, _ => none
def Faa.shape (t : LI) : List AV × Blks := ([(.ints .u8 20 t)], [])
def Faa.res : LI → AV × Blks
 | u => (Prod.mk (.own 0 1) [(some (.ints .u8 u))])
def Faa.resK {R : Type} (u : LI) (K : AV → Blks → Option R) : Option R := K (Faa.res u).1 (Faa.res u).2
def Faa.c (n : Nat) : Abs.Callee := .mk' [] [none] Faa.pat (Faa.m n) Faa.resK
end
end
section
noncomputable section
noncomputable def Fbp.C (n : Nat) : Ctx := ⟨Tryd.prog, abiG, lookC [(51, Fbe.c n), (55, Fat.c n)], fun _ => false⟩
noncomputable def Fbp.A (n : Nat) : Ann := ⟨Tryd.f77.ntmps, 0, noNL, [], [(some (.ints .u8))], fun k => match k with
 | _ => none, noNL, lookJ []⟩
def Fbp.g {α : Type} (mk0 : LI → α) (n : Nat) (a0 : Int) : Option α :=
 bindO (Fbe.m n a0) fun r2 =>
  bindO (Fat.m n r2) fun r4 =>
   if 16 ≤ (((List.length r4) : Nat) : Int) then
    some (mk0 (Go.Abs.partL r4 16 (Go.Abs.span (List.length r4) 16 (Option.none))))
   else
    none
def Fbp.m (n : Nat) (t : Int) : Option LI := Fbp.g (fun a0 => a0) n t
def Fbp.pat : List AV → Blks → Option Int
 | [(.int .u64 a0)], [] => some a0
 | _, _ => none
def Fbp.shape (t : Int) : List AV × Blks := ([(.int .u64 t)], [])
def Fbp.res : LI → AV × Blks
 | u => (Prod.mk (.own 0 1) [(some (.ints .u8 u))])
def Fbp.resK {R : Type} (u : LI) (K : AV → Blks → Option R) : Option R := K (Fbp.res u).1 (Fbp.res u).2
def Fbp.c (n : Nat) : Abs.Callee := .mk' [] [none] Fbp.pat (Fbp.m n) Fbp.resK
end
end
section
noncomputable section
noncomputable def Fbq.C (n : Nat) : Ctx := ⟨Tryd.prog, abiG, lookC [], fun _ => false⟩
noncomputable def Fbq.A (n : Nat) : Ann := ⟨Tryd.f71.ntmps, 0, noNL, [], [none], fun k => match k with
 | _ => none, noNL, lookJ []⟩
def Fbq.g {α : Type} (mk0 : Bool → LI → α) (n : Nat) (a0 : LI) : Option α :=
 some (mk0 false a0)
def Fbq.m (n : Nat) (t : LI) : Option (Bool × LI) := Fbq.g (fun a0 a1 => (a0, a1)) n t
def Fbq.pat : List AV → Blks → Option LI
 | [(.ints .u64 4 a0)], [] => some a0
 | _, _ => none
def Fbq.shape (t : LI) : List AV × Blks := ([(.ints .u64 4 t)], [])
def Fbq.res : (Bool × LI) → AV × Blks
 | u => (Prod.mk (.agg [(.bool u.1), (.ints .u64 4 u.2), .snil]) [])
def Fbq.resK {R : Type} (u : (Bool × LI)) (K : AV → Blks → Option R) : Option R := K (Fbq.res u).1 (Fbq.res u).2
def Fbq.c (n : Nat) : Abs.Callee := .mk' [] [none] Fbq.pat (Fbq.m n) Fbq.resK
end
end
section
noncomputable section
noncomputable def Fbr.C (n : Nat) : Ctx := ⟨Tryd.prog, abiG, lookC [], fun _ => false⟩
noncomputable def Fbr.A (n : Nat) : Ann := ⟨Tryd.f72.ntmps, 0, noNL, [], [none], fun k => match k with
 | _ => none, noNL, lookJ []⟩
def Fbr.g {α : Type} (mk0 : Bool → LI → LI → α) (n : Nat) (a0 : LI) : Option α :=
 if (((List.length a0) * 1) ≤ 70368744177664 ∧ (List.length a0) ≤ 9223372036854775807) then
  some (mk0 true [0, 0, 0, 0] a0)
 else
  none
def Fbr.m (n : Nat) (t : LI) : Option (Bool × (LI × LI)) := Fbr.g (fun a0 a1 a2 => (a0, a1, a2)) n t
def Fbr.pat : List AV → Blks → Option LI
 | [(.rints .u8 a0)], [] => some a0
 | _, _ => none
def Fbr.shape (t : LI) : List AV × Blks := ([(.rints .u8 t)], [])
def Fbr.res : (Bool × (LI × LI)) → AV × Blks
 | u => (Prod.mk (.agg [(.bool u.1), (.ints .u64 4 u.2.1), (.own 0 1)]) [(some (.ints .u8 u.2.2))])
def Fbr.resK {R : Type} (u : (Bool × (LI × LI))) (K : AV → Blks → Option R) : Option R := K (Fbr.res u).1 (Fbr.res u).2
def Fbr.c (n : Nat) : Abs.Callee := .mk' [] [(some (.ints .u8))] Fbr.pat (Fbr.m n) Fbr.resK
end
end
section
noncomputable section
noncomputable def Fao.C (n : Nat) : Ctx := ⟨Tryd.prog, abiG, lookC [(51, Fbe.c n), (101, Fcc.c n), (87, Fby.c n)], fun _ => false⟩
noncomputable def Fao.A (n : Nat) : Ann := ⟨Tryd.f79.ntmps, 0, noNL, [], [none], fun k => match k with
 | _ => none, noNL, lookJ []⟩
def Fao.g {α : Type} (mk0 : LI → α) (n : Nat) (a0 : LI) (a1 : LI) : Option α :=
 bindO (Fbe.m n 128) fun r2 =>
  bindO (Fcc.m n (Prod.mk r2 a0)) fun r4 =>
   bindO (Fby.m n (Prod.mk r4 a1)) fun r6 =>
    some (mk0 (Prod.fst r6))
def Fao.m (n : Nat) (t : (LI × LI)) : Option LI := Fao.g (fun a0 => a0) n t.1 t.2
def Fao.pat : List AV → Blks → Option (LI × LI)
 | [(.ints .u64 4 a0), (.ints .u64 4 a1)], [] => some (a0, a1)
 | _, _ => none
def Fao.shape (t : (LI × LI)) : List AV × Blks := ([(.ints .u64 4 t.1), (.ints .u64 4 t.2)], [])
def Fao.res : LI → AV × Blks
 | u => (Prod.mk (.ints .u64 4 u) [])
def Fao.resK {R : Type} (u : LI) (K : AV → Blks → Option R) : Option R := K (Fao.res u).1 (Fao.res u).2
def Fao.c (n : Nat) : Abs.Callee := .mk' [] [none, none] Fao.pat (Fao.m n) Fao.resK
end
end
section
noncomputable section
noncomputable def Fbs.C (n : Nat) : Ctx := ⟨Tryd.prog, abiG, lookC [(76, Faa.c n), (77, Fbp.c n), (78, Fbo.c n), (71, Fbq.c n), (72, Fbr.c n), (51, Fbe.c n), (79, Fao.c n)], fun t => t == 3008000 || t == 3008004 || t == 3008005⟩
noncomputable def Fbs.A (n : Nat) : Ann := ⟨Tryd.f39.ntmps, 0, noNL, [], [(some (.objs 69 6))], fun k => match k with
 | _ => none, noNL, lookJ []⟩
def Fbs.g {α : Type} (mk0 : LA → α) (n : Nat) (a0_0 : LI) (a0_1 : LI) (a0_2 : Bool) (a0_3 : LI) (a0_4 : LI) (a0_5 : LI) (a0_6 : Int) (a0_7 : Int) (a0_8 : Int) (a0_9 : LI) (a0_10 : LI) (a0_11 : Bool) (a0_12 : LI) (a0_13 : Int) (a0_14 : Int) (a0_15 : LI) (a0_16 : LI) : Option α :=
 if a0_2 = true then
  bindO (Faa.m n a0_3) fun r4 =>
   if ((((List.length r4) + (List.length a0_4)) * 1) ≤ 70368744177664 ∧ ((List.length r4) + (List.length a0_4)) ≤ 9223372036854775807) then
    if a0_11 = true then
     bindO (Faa.m n a0_12) fun r10 =>
      bindO (Fbp.m n a0_13) fun r12 =>
       if ((((List.length r10) + (List.length r12)) * 1) ≤ 70368744177664 ∧ ((List.length r10) + (List.length r12)) ≤ 9223372036854775807) then
        bindO (Fbp.m n a0_14) fun r16 =>
         if ((((List.length (r10 ++ r12)) + (List.length r16)) * 1) ≤ 70368744177664 ∧ ((List.length (r10 ++ r12)) + (List.length r16)) ≤ 9223372036854775807) then
          if ((((List.length ((r10 ++ r12) ++ r16)) + (List.length a0_15)) * 1) ≤ 70368744177664 ∧ ((List.length ((r10 ++ r12) ++ r16)) + (List.length a0_15)) ≤ 9223372036854775807) then
           bindO (Fbo.m n a0_0) fun r22 =>
            bindO (Fbq.m n r22) fun r24 =>
             bindO (Fbq.m n a0_1) fun r26 =>
              bindO (Fbr.m n (r4 ++ a0_4)) fun r28 =>
               bindO (Fbr.m n a0_5) fun r30 =>
                bindO (Fbe.m n a0_7) fun r32 =>
                 bindO (Fbe.m n a0_6) fun r34 =>
                  bindO (Fao.m n (Prod.mk r32 r34)) fun r36 =>
                   bindO (Fbq.m n r36) fun r38 =>
                    bindO (Fbe.m n a0_8) fun r40 =>
                     bindO (Fbq.m n r40) fun r42 =>
                      bindO (Fao.m n (Prod.mk a0_10 a0_9)) fun r44 =>
                       bindO (Fbq.m n r44) fun r46 =>
                        bindO (Fbr.m n (((r10 ++ r12) ++ r16) ++ a0_15)) fun r48 =>
                         bindO (Fbr.m n a0_16) fun r50 =>
                          some (mk0 [(AV.agg [(AV.bool (Prod.fst r24)), (AV.ints .u64 4 (Prod.snd r24)), AV.snil]), (AV.agg [(AV.bool (Prod.fst r26)), (AV.ints .u64 4 (Prod.snd r26)), AV.snil]), (AV.agg [(AV.bool (Prod.fst r28)), (AV.ints .u64 4 (Prod.fst r28.2)), (AV.rints .u8 (Prod.snd r28.2))]), (AV.agg [(AV.bool (Prod.fst r30)), (AV.ints .u64 4 (Prod.fst r30.2)), (AV.rints .u8 (Prod.snd r30.2))]), (AV.agg [(AV.bool (Prod.fst r38)), (AV.ints .u64 4 (Prod.snd r38)), AV.snil]), (AV.agg [(AV.bool (Prod.fst r42)), (AV.ints .u64 4 (Prod.snd r42)), AV.snil]), (AV.agg [(AV.bool (Prod.fst r46)), (AV.ints .u64 4 (Prod.snd r46)), AV.snil]), (AV.agg [(AV.bool (Prod.fst r48)), (AV.ints .u64 4 (Prod.fst r48.2)), (AV.rints .u8 (Prod.snd r48.2))]), (AV.agg [(AV.bool (Prod.fst r50)), (AV.ints .u64 4 (Prod.fst r50.2)), (AV.rints .u8 (Prod.snd r50.2))])])
          else
           none
         else
          none
       else
        none
    else
     bindO (Fbo.m n a0_0) fun r10 =>
      bindO (Fbq.m n r10) fun r12 =>
       bindO (Fbq.m n a0_1) fun r14 =>
        bindO (Fbr.m n (r4 ++ a0_4)) fun r16 =>
         bindO (Fbr.m n a0_5) fun r18 =>
          bindO (Fbe.m n a0_7) fun r20 =>
           bindO (Fbe.m n a0_6) fun r22 =>
            bindO (Fao.m n (Prod.mk r20 r22)) fun r24 =>
             bindO (Fbq.m n r24) fun r26 =>
              bindO (Fbe.m n a0_8) fun r28 =>
               bindO (Fbq.m n r28) fun r30 =>
                bindO (Fao.m n (Prod.mk a0_10 a0_9)) fun r32 =>
                 bindO (Fbq.m n r32) fun r34 =>
                  bindO (Fbr.m n []) fun r36 =>
                   bindO (Fbr.m n a0_16) fun r38 =>
                    some (mk0 [(AV.agg [(AV.bool (Prod.fst r12)), (AV.ints .u64 4 (Prod.snd r12)), AV.snil]), (AV.agg [(AV.bool (Prod.fst r14)), (AV.ints .u64 4 (Prod.snd r14)), AV.snil]), (AV.agg [(AV.bool (Prod.fst r16)), (AV.ints .u64 4 (Prod.fst r16.2)), (AV.rints .u8 (Prod.snd r16.2))]), (AV.agg [(AV.bool (Prod.fst r18)), (AV.ints .u64 4 (Prod.fst r18.2)), (AV.rints .u8 (Prod.snd r18.2))]), (AV.agg [(AV.bool (Prod.fst r26)), (AV.ints .u64 4 (Prod.snd r26)), AV.snil]), (AV.agg [(AV.bool (Prod.fst r30)), (AV.ints .u64 4 (Prod.snd r30)), AV.snil]), (AV.agg [(AV.bool (Prod.fst r34)), (AV.ints .u64 4 (Prod.snd r34)), AV.snil]), (AV.agg [(AV.bool (Prod.fst r36)), (AV.ints .u64 4 (Prod.fst r36.2)), (AV.rints .u8 (Prod.snd r36.2))]), (AV.agg [(AV.bool (Prod.fst r38)), (AV.ints .u64 4 (Prod.fst r38.2)), (AV.rints .u8 (Prod.snd r38.2))])])
   else
    none
 else
  if a0_11 = true then
   bindO (Faa.m n a0_12) fun r6 =>
    bindO (Fbp.m n a0_13) fun r8 =>
     if ((((List.length r6) + (List.length r8)) * 1) ≤ 70368744177664 ∧ ((List.length r6) + (List.length r8)) ≤ 9223372036854775807) then
      bindO (Fbp.m n a0_14) fun r12 =>
       if ((((List.length (r6 ++ r8)) + (List.length r12)) * 1) ≤ 70368744177664 ∧ ((List.length (r6 ++ r8)) + (List.length r12)) ≤ 9223372036854775807) then
        if ((((List.length ((r6 ++ r8) ++ r12)) + (List.length a0_15)) * 1) ≤ 70368744177664 ∧ ((List.length ((r6 ++ r8) ++ r12)) + (List.length a0_15)) ≤ 9223372036854775807) then
         bindO (Fbo.m n a0_0) fun r18 =>
          bindO (Fbq.m n r18) fun r20 =>
           bindO (Fbq.m n a0_1) fun r22 =>
            bindO (Fbr.m n []) fun r24 =>
             bindO (Fbr.m n a0_5) fun r26 =>
              bindO (Fbe.m n a0_7) fun r28 =>
               bindO (Fbe.m n a0_6) fun r30 =>
                bindO (Fao.m n (Prod.mk r28 r30)) fun r32 =>
                 bindO (Fbq.m n r32) fun r34 =>
                  bindO (Fbe.m n a0_8) fun r36 =>
                   bindO (Fbq.m n r36) fun r38 =>
                    bindO (Fao.m n (Prod.mk a0_10 a0_9)) fun r40 =>
                     bindO (Fbq.m n r40) fun r42 =>
                      bindO (Fbr.m n (((r6 ++ r8) ++ r12) ++ a0_15)) fun r44 =>
                       bindO (Fbr.m n a0_16) fun r46 =>
                        some (mk0 [(AV.agg [(AV.bool (Prod.fst r20)), (AV.ints .u64 4 (Prod.snd r20)), AV.snil]), (AV.agg [(AV.bool (Prod.fst r22)), (AV.ints .u64 4 (Prod.snd r22)), AV.snil]), (AV.agg [(AV.bool (Prod.fst r24)), (AV.ints .u64 4 (Prod.fst r24.2)), (AV.rints .u8 (Prod.snd r24.2))]), (AV.agg [(AV.bool (Prod.fst r26)), (AV.ints .u64 4 (Prod.fst r26.2)), (AV.rints .u8 (Prod.snd r26.2))]), (AV.agg [(AV.bool (Prod.fst r34)), (AV.ints .u64 4 (Prod.snd r34)), AV.snil]), (AV.agg [(AV.bool (Prod.fst r38)), (AV.ints .u64 4 (Prod.snd r38)), AV.snil]), (AV.agg [(AV.bool (Prod.fst r42)), (AV.ints .u64 4 (Prod.snd r42)), AV.snil]), (AV.agg [(AV.bool (Prod.fst r44)), (AV.ints .u64 4 (Prod.fst r44.2)), (AV.rints .u8 (Prod.snd r44.2))]), (AV.agg [(AV.bool (Prod.fst r46)), (AV.ints .u64 4 (Prod.fst r46.2)), (AV.rints .u8 (Prod.snd r46.2))])])
        else
         none
       else
        none
     else
      none
  else
   bindO (Fbo.m n a0_0) fun r6 =>
    bindO (Fbq.m n r6) fun r8 =>
     bindO (Fbq.m n a0_1) fun r10 =>
      bindO (Fbr.m n []) fun r12 =>
       bindO (Fbr.m n a0_5) fun r14 =>
        bindO (Fbe.m n a0_7) fun r16 =>
         bindO (Fbe.m n a0_6) fun r18 =>
          bindO (Fao.m n (Prod.mk r16 r18)) fun r20 =>
           bindO (Fbq.m n r20) fun r22 =>
            bindO (Fbe.m n a0_8) fun r24 =>
             bindO (Fbq.m n r24) fun r26 =>
              bindO (Fao.m n (Prod.mk a0_10 a0_9)) fun r28 =>
               bindO (Fbq.m n r28) fun r30 =>
                bindO (Fbr.m n []) fun r32 =>
                 bindO (Fbr.m n a0_16) fun r34 =>
                  some (mk0 [(AV.agg [(AV.bool (Prod.fst r8)), (AV.ints .u64 4 (Prod.snd r8)), AV.snil]), (AV.agg [(AV.bool (Prod.fst r10)), (AV.ints .u64 4 (Prod.snd r10)), AV.snil]), (AV.agg [(AV.bool (Prod.fst r12)), (AV.ints .u64 4 (Prod.fst r12.2)), (AV.rints .u8 (Prod.snd r12.2))]), (AV.agg [(AV.bool (Prod.fst r14)), (AV.ints .u64 4 (Prod.fst r14.2)), (AV.rints .u8 (Prod.snd r14.2))]), (AV.agg [(AV.bool (Prod.fst r22)), (AV.ints .u64 4 (Prod.snd r22)), AV.snil]), (AV.agg [(AV.bool (Prod.fst r26)), (AV.ints .u64 4 (Prod.snd r26)), AV.snil]), (AV.agg [(AV.bool (Prod.fst r30)), (AV.ints .u64 4 (Prod.snd r30)), AV.snil]), (AV.agg [(AV.bool (Prod.fst r32)), (AV.ints .u64 4 (Prod.fst r32.2)), (AV.rints .u8 (Prod.snd r32.2))]), (AV.agg [(AV.bool (Prod.fst r34)), (AV.ints .u64 4 (Prod.fst r34.2)), (AV.rints .u8 (Prod.snd r34.2))])])
def Fbs.m (n : Nat) (t : (LI × (LI × (Bool × (LI × (LI × (LI × (Int × (Int × (Int × (LI × (LI × (Bool × (LI × (Int × (Int × (LI × LI))))))))))))))))) : Option LA := Fbs.g (fun a0 => a0) n t.1 t.2.1 t.2.2.1 t.2.2.2.1 t.2.2.2.2.1 t.2.2.2.2.2.1 t.2.2.2.2.2.2.1 t.2.2.2.2.2.2.2.1 t.2.2.2.2.2.2.2.2.1 t.2.2.2.2.2.2.2.2.2.1 t.2.2.2.2.2.2.2.2.2.2.1 t.2.2.2.2.2.2.2.2.2.2.2.1 t.2.2.2.2.2.2.2.2.2.2.2.2.1 t.2.2.2.2.2.2.2.2.2.2.2.2.2.1 t.2.2.2.2.2.2.2.2.2.2.2.2.2.2.1 t.2.2.2.2.2.2.2.2.2.2.2.2.2.2.2.1 t.2.2.2.2.2.2.2.2.2.2.2.2.2.2.2.2
def Fbs.pat : List AV → Blks → Option (LI × (LI × (Bool × (LI × (LI × (LI × (Int × (Int × (Int × (LI × (LI × (Bool × (LI × (Int × (Int × (LI × LI))))))))))))))))
 | [(.agg [(.ints .u8 20 a0_0), (.ints .u64 4 a0_1), (.bool a0_2), (.ints .u8 20 a0_3), (.rints .u8 a0_4), (.rints .u8 a0_5), (.int .u64 a0_6), (.int .u64 a0_7), (.int .u64 a0_8), (.ints .u64 4 a0_9), (.ints .u64 4 a0_10), (.bool a0_11), (.ints .u8 20 a0_12), (.int .u64 a0_13), (.int .u64 a0_14), (.rints .u8 a0_15), (.rints .u8 a0_16)])], [] => some (a0_0, a0_1, a0_2, a0_3, a0_4, a0_5, a0_6, a0_7, a0_8, a0_9, a0_10, a0_11, a0_12, a0_13, a0_14, a0_15, a0_16)
 | _, _ => none
def Fbs.shape (t : (LI × (LI × (Bool × (LI × (LI × (LI × (Int × (Int × (Int × (LI × (LI × (Bool × (LI × (Int × (Int × (LI × LI))))))))))))))))) : List AV × Blks := ([(.agg [(.ints .u8 20 t.1), (.ints .u64 4 t.2.1), (.bool t.2.2.1), (.ints .u8 20 t.2.2.2.1), (.rints .u8 t.2.2.2.2.1), (.rints .u8 t.2.2.2.2.2.1), (.int .u64 t.2.2.2.2.2.2.1), (.int .u64 t.2.2.2.2.2.2.2.1), (.int .u64 t.2.2.2.2.2.2.2.2.1), (.ints .u64 4 t.2.2.2.2.2.2.2.2.2.1), (.ints .u64 4 t.2.2.2.2.2.2.2.2.2.2.1), (.bool t.2.2.2.2.2.2.2.2.2.2.2.1), (.ints .u8 20 t.2.2.2.2.2.2.2.2.2.2.2.2.1), (.int .u64 t.2.2.2.2.2.2.2.2.2.2.2.2.2.1), (.int .u64 t.2.2.2.2.2.2.2.2.2.2.2.2.2.2.1), (.rints .u8 t.2.2.2.2.2.2.2.2.2.2.2.2.2.2.2.1), (.rints .u8 t.2.2.2.2.2.2.2.2.2.2.2.2.2.2.2.2)])], [])
def Fbs.res : LA → AV × Blks
 | u => (Prod.mk (.robjs 69 6 u) [])
def Fbs.resK {R : Type} (u : LA) (K : AV → Blks → Option R) : Option R := K (Fbs.res u).1 (Fbs.res u).2
def Fbs.c (n : Nat) : Abs.Callee := .mk' [] [(some (.agg [none, none, none, none, (some (.ints .u8)), (some (.ints .u8)), none, none, none, none, none, none, none, none, none, (some (.ints .u8)), (some (.ints .u8))]))] Fbs.pat (Fbs.m n) Fbs.resK
end
end
section
theorem Faa.gmap {α β : Type} (h : β → α) (mk0 : LI → β) (n : Nat) (a0 : LI) : Faa.g (fun a0 => (h (mk0 a0))) n a0 = (Faa.g mk0 n a0).map h := by
  unfold Faa.g
  exact (bindO_map fun r2 => (bindO_map fun r4 => (ite_map rfl rfl)))
theorem Faa.run (n : Nat) (a0 : LI) : runF (Faa.C n) (Faa.A n) n Tryd.f76 [(.ints .u8 20 a0)] [] (fun v o => some (v, o)) = Faa.g (fun a0 => ((Prod.mk (.own 0 1) [(some (.ints .u8 a0))]) : AV × Blks)) n a0 := by kernel_rfl
theorem Faa.call (hmix : Tryd.prog.follows .mixedOrders = true) (n : Nat) (t : LI) (u) (h : Faa.m n t = some u) : FnC Tryd.prog abiG 76 (Faa.shape t).1 (Faa.shape t).2 (Faa.res u).1 (Faa.res u).2 :=
  fnC1 (C := Faa.C n) (A := Faa.A n) (fn := Tryd.f76) rfl (.cons (Fbo.s hmix n) (.cons (Fat.s hmix n) .nil)) hmix Tryd.func76 (by kernel_rfl) (lp := []) (by kernel_rfl) .nil
  (nj rfl) (by decide) rfl rfl (by show 1 ≤ Tryd.f76.ntmps; decide) (Faa.run n t) (Faa.gmap Faa.res (fun a0 => a0) n t) h
theorem Faa.s (hmix : Tryd.prog.follows .mixedOrders = true) (n : Nat) : CalleeS Tryd.prog abiG 76 (Faa.c n) :=
  .mk1 (res := Faa.res) (shape := Faa.shape) (fun R u K => rfl) (fun _ _ _ h => by unfold Faa.pat at h; split at h <;> cases h; rfl) (fun t u h => Faa.call hmix n t u h) Tryd.func76 (by decide) (by kernel_rfl)
end
section
theorem Fbp.gmap {α β : Type} (h : β → α) (mk0 : LI → β) (n : Nat) (a0 : Int) : Fbp.g (fun a0 => (h (mk0 a0))) n a0 = (Fbp.g mk0 n a0).map h := by
  unfold Fbp.g
  exact (bindO_map fun r2 => (bindO_map fun r4 => (ite_map rfl rfl)))
theorem Fbp.run (n : Nat) (a0 : Int) : runF (Fbp.C n) (Fbp.A n) n Tryd.f77 [(.int .u64 a0)] [] (fun v o => some (v, o)) = Fbp.g (fun a0 => ((Prod.mk (.own 0 1) [(some (.ints .u8 a0))]) : AV × Blks)) n a0 := by kernel_rfl
theorem Fbp.call (hmix : Tryd.prog.follows .mixedOrders = true) (n : Nat) (t : Int) (u) (h : Fbp.m n t = some u) : FnC Tryd.prog abiG 77 (Fbp.shape t).1 (Fbp.shape t).2 (Fbp.res u).1 (Fbp.res u).2 :=
  fnC1 (C := Fbp.C n) (A := Fbp.A n) (fn := Tryd.f77) rfl (.cons (Fbe.s hmix n) (.cons (Fat.s hmix n) .nil)) hmix Tryd.func77 (by kernel_rfl) (lp := []) (by kernel_rfl) .nil
  (nj rfl) (by decide) rfl rfl (by show 1 ≤ Tryd.f77.ntmps; decide) (Fbp.run n t) (Fbp.gmap Fbp.res (fun a0 => a0) n t) h
theorem Fbp.s (hmix : Tryd.prog.follows .mixedOrders = true) (n : Nat) : CalleeS Tryd.prog abiG 77 (Fbp.c n) :=
  .mk1 (res := Fbp.res) (shape := Fbp.shape) (fun R u K => rfl) (fun _ _ _ h => by unfold Fbp.pat at h; split at h <;> cases h; rfl) (fun t u h => Fbp.call hmix n t u h) Tryd.func77 (by decide) (by kernel_rfl)
end
section
theorem Fbq.gmap {α β : Type} (h : β → α) (mk0 : Bool → LI → β) (n : Nat) (a0 : LI) : Fbq.g (fun a0 a1 => (h (mk0 a0 a1))) n a0 = (Fbq.g mk0 n a0).map h := by
  unfold Fbq.g
  exact rfl
theorem Fbq.run (n : Nat) (a0 : LI) : runF (Fbq.C n) (Fbq.A n) n Tryd.f71 [(.ints .u64 4 a0)] [] (fun v o => some (v, o)) = Fbq.g (fun a0 a1 => ((Prod.mk (.agg [(.bool a0), (.ints .u64 4 a1), .snil]) []) : AV × Blks)) n a0 := by kernel_rfl
theorem Fbq.call (hmix : Tryd.prog.follows .mixedOrders = true) (n : Nat) (t : LI) (u) (h : Fbq.m n t = some u) : FnC Tryd.prog abiG 71 (Fbq.shape t).1 (Fbq.shape t).2 (Fbq.res u).1 (Fbq.res u).2 :=
  fnC1 (C := Fbq.C n) (A := Fbq.A n) (fn := Tryd.f71) rfl .nil hmix Tryd.func71 (by kernel_rfl) (lp := []) (by kernel_rfl) .nil
  (nj rfl) (by decide) rfl rfl (by show 1 ≤ Tryd.f71.ntmps; decide) (Fbq.run n t) (Fbq.gmap Fbq.res (fun a0 a1 => (a0, a1)) n t) h
theorem Fbq.s (hmix : Tryd.prog.follows .mixedOrders = true) (n : Nat) : CalleeS Tryd.prog abiG 71 (Fbq.c n) :=
  .mk1 (res := Fbq.res) (shape := Fbq.shape) (fun R u K => rfl) (fun _ _ _ h => by unfold Fbq.pat at h; split at h <;> cases h; rfl) (fun t u h => Fbq.call hmix n t u h) Tryd.func71 (by decide) (by kernel_rfl)
end
section
theorem Fbr.gmap {α β : Type} (h : β → α) (mk0 : Bool → LI → LI → β) (n : Nat) (a0 : LI) : Fbr.g (fun a0 a1 a2 => (h (mk0 a0 a1 a2))) n a0 = (Fbr.g mk0 n a0).map h := by
  unfold Fbr.g
  exact (ite_map rfl rfl)
theorem Fbr.run (n : Nat) (a0 : LI) : runF (Fbr.C n) (Fbr.A n) n Tryd.f72 [(.rints .u8 a0)] [] (fun v o => some (v, o)) = Fbr.g (fun a0 a1 a2 => ((Prod.mk (.agg [(.bool a0), (.ints .u64 4 a1), (.own 0 1)]) [(some (.ints .u8 a2))]) : AV × Blks)) n a0 := by kernel_rfl
theorem Fbr.call (hmix : Tryd.prog.follows .mixedOrders = true) (n : Nat) (t : LI) (u) (h : Fbr.m n t = some u) : FnC Tryd.prog abiG 72 (Fbr.shape t).1 (Fbr.shape t).2 (Fbr.res u).1 (Fbr.res u).2 :=
  fnC1 (C := Fbr.C n) (A := Fbr.A n) (fn := Tryd.f72) rfl .nil hmix Tryd.func72 (by kernel_rfl) (lp := []) (by kernel_rfl) .nil
  (nj rfl) (by decide) rfl rfl (by show 1 ≤ Tryd.f72.ntmps; decide) (Fbr.run n t) (Fbr.gmap Fbr.res (fun a0 a1 a2 => (a0, a1, a2)) n t) h
theorem Fbr.s (hmix : Tryd.prog.follows .mixedOrders = true) (n : Nat) : CalleeS Tryd.prog abiG 72 (Fbr.c n) :=
  .mk1 (res := Fbr.res) (shape := Fbr.shape) (fun R u K => rfl) (fun _ _ _ h => by unfold Fbr.pat at h; split at h <;> cases h; rfl) (fun t u h => Fbr.call hmix n t u h) Tryd.func72 (by decide) (by kernel_rfl)
end
section
theorem Fao.gmap {α β : Type} (h : β → α) (mk0 : LI → β) (n : Nat) (a0 : LI) (a1 : LI) : Fao.g (fun a0 => (h (mk0 a0))) n a0 a1 = (Fao.g mk0 n a0 a1).map h := by
  unfold Fao.g
  exact (bindO_map fun r2 => (bindO_map fun r4 => (bindO_map fun r6 => rfl)))
theorem Fao.run (n : Nat) (a0 : LI) (a1 : LI) : runF (Fao.C n) (Fao.A n) n Tryd.f79 [(.ints .u64 4 a0), (.ints .u64 4 a1)] [] (fun v o => some (v, o)) = Fao.g (fun a0 => ((Prod.mk (.ints .u64 4 a0) []) : AV × Blks)) n a0 a1 := by kernel_rfl
theorem Fao.call (hmix : Tryd.prog.follows .mixedOrders = true) (n : Nat) (t : (LI × LI)) (u) (h : Fao.m n t = some u) : FnC Tryd.prog abiG 79 (Fao.shape t).1 (Fao.shape t).2 (Fao.res u).1 (Fao.res u).2 :=
  fnC1 (C := Fao.C n) (A := Fao.A n) (fn := Tryd.f79) rfl (.cons (Fbe.s hmix n) (.cons (Fcc.s hmix n) (.cons (Fby.s hmix n) .nil))) hmix Tryd.func79 (by kernel_rfl) (lp := []) (by kernel_rfl) .nil
  (nj rfl) (by decide) rfl rfl (by show 2 ≤ Tryd.f79.ntmps; decide) (Fao.run n t.1 t.2) (Fao.gmap Fao.res (fun a0 => a0) n t.1 t.2) h
theorem Fao.s (hmix : Tryd.prog.follows .mixedOrders = true) (n : Nat) : CalleeS Tryd.prog abiG 79 (Fao.c n) :=
  .mk1 (res := Fao.res) (shape := Fao.shape) (fun R u K => rfl) (fun _ _ _ h => by unfold Fao.pat at h; split at h <;> cases h; rfl) (fun t u h => Fao.call hmix n t u h) Tryd.func79 (by decide) (by kernel_rfl)
end
section
theorem Fbs.gmap {α β : Type} (h : β → α) (mk0 : LA → β) (n : Nat) (a0_0 : LI) (a0_1 : LI) (a0_2 : Bool) (a0_3 : LI) (a0_4 : LI) (a0_5 : LI) (a0_6 : Int) (a0_7 : Int) (a0_8 : Int) (a0_9 : LI) (a0_10 : LI) (a0_11 : Bool) (a0_12 : LI) (a0_13 : Int) (a0_14 : Int) (a0_15 : LI) (a0_16 : LI) : Fbs.g (fun a0 => (h (mk0 a0))) n a0_0 a0_1 a0_2 a0_3 a0_4 a0_5 a0_6 a0_7 a0_8 a0_9 a0_10 a0_11 a0_12 a0_13 a0_14 a0_15 a0_16 = (Fbs.g mk0 n a0_0 a0_1 a0_2 a0_3 a0_4 a0_5 a0_6 a0_7 a0_8 a0_9 a0_10 a0_11 a0_12 a0_13 a0_14 a0_15 a0_16).map h := by
  unfold Fbs.g
  exact (ite_map (bindO_map fun r4 => (ite_map (ite_map (bindO_map fun r10 => (bindO_map fun r12 => (ite_map (bindO_map fun r16 => (ite_map (ite_map (bindO_map fun r22 => (bindO_map fun r24 => (bindO_map fun r26 => (bindO_map fun r28 => (bindO_map fun r30 => (bindO_map fun r32 => (bindO_map fun r34 => (bindO_map fun r36 => (bindO_map fun r38 => (bindO_map fun r40 => (bindO_map fun r42 => (bindO_map fun r44 => (bindO_map fun r46 => (bindO_map fun r48 => (bindO_map fun r50 => rfl))))))))))))))) rfl) rfl)) rfl))) (bindO_map fun r10 => (bindO_map fun r12 => (bindO_map fun r14 => (bindO_map fun r16 => (bindO_map fun r18 => (bindO_map fun r20 => (bindO_map fun r22 => (bindO_map fun r24 => (bindO_map fun r26 => (bindO_map fun r28 => (bindO_map fun r30 => (bindO_map fun r32 => (bindO_map fun r34 => (bindO_map fun r36 => (bindO_map fun r38 => rfl)))))))))))))))) rfl)) (ite_map (bindO_map fun r6 => (bindO_map fun r8 => (ite_map (bindO_map fun r12 => (ite_map (ite_map (bindO_map fun r18 => (bindO_map fun r20 => (bindO_map fun r22 => (bindO_map fun r24 => (bindO_map fun r26 => (bindO_map fun r28 => (bindO_map fun r30 => (bindO_map fun r32 => (bindO_map fun r34 => (bindO_map fun r36 => (bindO_map fun r38 => (bindO_map fun r40 => (bindO_map fun r42 => (bindO_map fun r44 => (bindO_map fun r46 => rfl))))))))))))))) rfl) rfl)) rfl))) (bindO_map fun r6 => (bindO_map fun r8 => (bindO_map fun r10 => (bindO_map fun r12 => (bindO_map fun r14 => (bindO_map fun r16 => (bindO_map fun r18 => (bindO_map fun r20 => (bindO_map fun r22 => (bindO_map fun r24 => (bindO_map fun r26 => (bindO_map fun r28 => (bindO_map fun r30 => (bindO_map fun r32 => (bindO_map fun r34 => rfl)))))))))))))))))
theorem Fbs.run (n : Nat) (a0_0 : LI) (a0_1 : LI) (a0_2 : Bool) (a0_3 : LI) (a0_4 : LI) (a0_5 : LI) (a0_6 : Int) (a0_7 : Int) (a0_8 : Int) (a0_9 : LI) (a0_10 : LI) (a0_11 : Bool) (a0_12 : LI) (a0_13 : Int) (a0_14 : Int) (a0_15 : LI) (a0_16 : LI) : runF (Fbs.C n) (Fbs.A n) n Tryd.f39 [(.agg [(.ints .u8 20 a0_0), (.ints .u64 4 a0_1), (.bool a0_2), (.ints .u8 20 a0_3), (.rints .u8 a0_4), (.rints .u8 a0_5), (.int .u64 a0_6), (.int .u64 a0_7), (.int .u64 a0_8), (.ints .u64 4 a0_9), (.ints .u64 4 a0_10), (.bool a0_11), (.ints .u8 20 a0_12), (.int .u64 a0_13), (.int .u64 a0_14), (.rints .u8 a0_15), (.rints .u8 a0_16)])] [] (fun v o => some (v, o)) = Fbs.g (fun a0 => ((Prod.mk (.robjs 69 6 a0) []) : AV × Blks)) n a0_0 a0_1 a0_2 a0_3 a0_4 a0_5 a0_6 a0_7 a0_8 a0_9 a0_10 a0_11 a0_12 a0_13 a0_14 a0_15 a0_16 := by kernel_rfl
theorem Fbs.call (hmix : Tryd.prog.follows .mixedOrders = true) (n : Nat) (t : (LI × (LI × (Bool × (LI × (LI × (LI × (Int × (Int × (Int × (LI × (LI × (Bool × (LI × (Int × (Int × (LI × LI))))))))))))))))) (u) (h : Fbs.m n t = some u) : FnC Tryd.prog abiG 39 (Fbs.shape t).1 (Fbs.shape t).2 (Fbs.res u).1 (Fbs.res u).2 :=
  fnC1 (C := Fbs.C n) (A := Fbs.A n) (fn := Tryd.f39) rfl (.cons (Faa.s hmix n) (.cons (Fbp.s hmix n) (.cons (Fbo.s hmix n) (.cons (Fbq.s hmix n) (.cons (Fbr.s hmix n) (.cons (Fbe.s hmix n) (.cons (Fao.s hmix n) .nil))))))) hmix Tryd.func39 (by kernel_rfl) (lp := []) (by kernel_rfl) .nil
  (nj rfl) (by decide) rfl rfl (by show 1 ≤ Tryd.f39.ntmps; decide) (Fbs.run n t.1 t.2.1 t.2.2.1 t.2.2.2.1 t.2.2.2.2.1 t.2.2.2.2.2.1 t.2.2.2.2.2.2.1 t.2.2.2.2.2.2.2.1 t.2.2.2.2.2.2.2.2.1 t.2.2.2.2.2.2.2.2.2.1 t.2.2.2.2.2.2.2.2.2.2.1 t.2.2.2.2.2.2.2.2.2.2.2.1 t.2.2.2.2.2.2.2.2.2.2.2.2.1 t.2.2.2.2.2.2.2.2.2.2.2.2.2.1 t.2.2.2.2.2.2.2.2.2.2.2.2.2.2.1 t.2.2.2.2.2.2.2.2.2.2.2.2.2.2.2.1 t.2.2.2.2.2.2.2.2.2.2.2.2.2.2.2.2) (Fbs.gmap Fbs.res (fun a0 => a0) n t.1 t.2.1 t.2.2.1 t.2.2.2.1 t.2.2.2.2.1 t.2.2.2.2.2.1 t.2.2.2.2.2.2.1 t.2.2.2.2.2.2.2.1 t.2.2.2.2.2.2.2.2.1 t.2.2.2.2.2.2.2.2.2.1 t.2.2.2.2.2.2.2.2.2.2.1 t.2.2.2.2.2.2.2.2.2.2.2.1 t.2.2.2.2.2.2.2.2.2.2.2.2.1 t.2.2.2.2.2.2.2.2.2.2.2.2.2.1 t.2.2.2.2.2.2.2.2.2.2.2.2.2.2.1 t.2.2.2.2.2.2.2.2.2.2.2.2.2.2.2.1 t.2.2.2.2.2.2.2.2.2.2.2.2.2.2.2.2) h
theorem Fbs.s (hmix : Tryd.prog.follows .mixedOrders = true) (n : Nat) : CalleeS Tryd.prog abiG 39 (Fbs.c n) :=
  .mk1 (res := Fbs.res) (shape := Fbs.shape) (fun R u K => rfl) (fun _ _ _ h => by unfold Fbs.pat at h; split at h <;> cases h; rfl) (fun t u h => Fbs.call hmix n t u h) Tryd.func39 (by decide) (by kernel_rfl)
end
section
noncomputable section
noncomputable def Fr.C (n : Nat) : Ctx := ⟨Tryd.prog, abiG, lookC [(57, Fad.c n), (56, Fae.c n)], fun _ => false⟩
noncomputable def Fr.A (n : Nat) : Ann := ⟨Tryd.f22.ntmps, 0, noNL, [], [(some (.ints .u8))], fun k => match k with
 | _ => none, noNL, lookJ []⟩
def Fr.g {α : Type} (mk0 : LI → α) (n : Nat) (a0 : ByteArray) : Option α :=
 bindO (Fad.m n (Go.Abs.bytesOf a0)) fun r2 =>
  bindO (Fae.m n r2) fun r4 =>
   if 4 ≤ (((List.length r4) : Nat) : Int) then
    some (mk0 (Go.Abs.partL r4 0 (Go.Abs.span (List.length r4) 0 (Option.some 4))))
   else
    none
def Fr.m (n : Nat) (t : ByteArray) : Option LI := Fr.g (fun a0 => a0) n t
def Fr.pat : List AV → Blks → Option ByteArray
 | [(.str a0)], [] => some a0
 | _, _ => none
def Fr.shape (t : ByteArray) : List AV × Blks := ([(.str t)], [])
def Fr.res : LI → AV × Blks
 | u => (Prod.mk (.own 0 1) [(some (.ints .u8 u))])
def Fr.resK {R : Type} (u : LI) (K : AV → Blks → Option R) : Option R := K (Fr.res u).1 (Fr.res u).2
def Fr.c (n : Nat) : Abs.Callee := .mk' [] [none] Fr.pat (Fr.m n) Fr.resK
end
end
section
theorem Fr.gmap {α β : Type} (h : β → α) (mk0 : LI → β) (n : Nat) (a0 : ByteArray) : Fr.g (fun a0 => (h (mk0 a0))) n a0 = (Fr.g mk0 n a0).map h := by
  unfold Fr.g
  exact (bindO_map fun r2 => (bindO_map fun r4 => (ite_map rfl rfl)))
theorem Fr.run (n : Nat) (a0 : ByteArray) : runF (Fr.C n) (Fr.A n) n Tryd.f22 [(.str a0)] [] (fun v o => some (v, o)) = Fr.g (fun a0 => ((Prod.mk (.own 0 1) [(some (.ints .u8 a0))]) : AV × Blks)) n a0 := by kernel_rfl
theorem Fr.call (hmix : Tryd.prog.follows .mixedOrders = true) (n : Nat) (t : ByteArray) (u) (h : Fr.m n t = some u) : FnC Tryd.prog abiG 22 (Fr.shape t).1 (Fr.shape t).2 (Fr.res u).1 (Fr.res u).2 :=
  fnC1 (C := Fr.C n) (A := Fr.A n) (fn := Tryd.f22) rfl (.cons (Fad.s hmix n) (.cons (Fae.s hmix n) .nil)) hmix Tryd.func22 (by kernel_rfl) (lp := []) (by kernel_rfl) .nil
  (nj rfl) (by decide) rfl rfl (by show 1 ≤ Tryd.f22.ntmps; decide) (Fr.run n t) (Fr.gmap Fr.res (fun a0 => a0) n t) h
theorem Fr.s (hmix : Tryd.prog.follows .mixedOrders = true) (n : Nat) : CalleeS Tryd.prog abiG 22 (Fr.c n) :=
  .mk1 (res := Fr.res) (shape := Fr.shape) (fun R u K => rfl) (fun _ _ _ h => by unfold Fr.pat at h; split at h <;> cases h; rfl) (fun t u h => Fr.call hmix n t u h) Tryd.func22 (by decide) (by kernel_rfl)
end
section
noncomputable section
noncomputable def Fs.C (n : Nat) : Ctx := ⟨Tryd.prog, abiG, lookC [(62, Fbw.c n), (55, Fat.c n)], fun _ => false⟩
noncomputable def Fs.A (n : Nat) : Ann := ⟨Tryd.f23.ntmps, 0, noNL, [], [(some (.ints .u8))], fun k => match k with
 | _ => none, noNL, lookJ []⟩
def Fs.g {α : Type} (mk0 : LI → α) (n : Nat) (a0 : ByteArray) : Option α :=
 bindO (Fbw.m n (Go.Abs.bytesOf a0)) fun r2 =>
  bindO (Fat.m n r2) fun r4 =>
   if 4 ≤ (((List.length r4) : Nat) : Int) then
    some (mk0 (Go.Abs.partL r4 0 (Go.Abs.span (List.length r4) 0 (Option.some 4))))
   else
    none
def Fs.m (n : Nat) (t : ByteArray) : Option LI := Fs.g (fun a0 => a0) n t
def Fs.pat : List AV → Blks → Option ByteArray
 | [(.str a0)], [] => some a0
 | _, _ => none
def Fs.shape (t : ByteArray) : List AV × Blks := ([(.str t)], [])
def Fs.res : LI → AV × Blks
 | u => (Prod.mk (.own 0 1) [(some (.ints .u8 u))])
def Fs.resK {R : Type} (u : LI) (K : AV → Blks → Option R) : Option R := K (Fs.res u).1 (Fs.res u).2
def Fs.c (n : Nat) : Abs.Callee := .mk' [] [none] Fs.pat (Fs.m n) Fs.resK
end
end
section
theorem Fs.gmap {α β : Type} (h : β → α) (mk0 : LI → β) (n : Nat) (a0 : ByteArray) : Fs.g (fun a0 => (h (mk0 a0))) n a0 = (Fs.g mk0 n a0).map h := by
  unfold Fs.g
  exact (bindO_map fun r2 => (bindO_map fun r4 => (ite_map rfl rfl)))
theorem Fs.run (n : Nat) (a0 : ByteArray) : runF (Fs.C n) (Fs.A n) n Tryd.f23 [(.str a0)] [] (fun v o => some (v, o)) = Fs.g (fun a0 => ((Prod.mk (.own 0 1) [(some (.ints .u8 a0))]) : AV × Blks)) n a0 := by kernel_rfl
theorem Fs.call (hmix : Tryd.prog.follows .mixedOrders = true) (n : Nat) (t : ByteArray) (u) (h : Fs.m n t = some u) : FnC Tryd.prog abiG 23 (Fs.shape t).1 (Fs.shape t).2 (Fs.res u).1 (Fs.res u).2 :=
  fnC1 (C := Fs.C n) (A := Fs.A n) (fn := Tryd.f23) rfl (.cons (Fbw.s hmix n) (.cons (Fat.s hmix n) .nil)) hmix Tryd.func23 (by kernel_rfl) (lp := []) (by kernel_rfl) .nil
  (nj rfl) (by decide) rfl rfl (by show 1 ≤ Tryd.f23.ntmps; decide) (Fs.run n t) (Fs.gmap Fs.res (fun a0 => a0) n t) h
theorem Fs.s (hmix : Tryd.prog.follows .mixedOrders = true) (n : Nat) : CalleeS Tryd.prog abiG 23 (Fs.c n) :=
  .mk1 (res := Fs.res) (shape := Fs.shape) (fun R u K => rfl) (fun _ _ _ h => by unfold Fs.pat at h; split at h <;> cases h; rfl) (fun t u h => Fs.call hmix n t u h) Tryd.func23 (by decide) (by kernel_rfl)
end
section
noncomputable section
noncomputable def Ft.C (n : Nat) : Ctx := ⟨Tryd.prog, abiG, lookC [(22, Fr.c n), (69, Fau.c n), (56, Fae.c n), (38, Fz.c n), (20, Fag.c n), (99, Fa.c n)], fun _ => false⟩
noncomputable def Ft.A (n : Nat) : Ann := ⟨Tryd.f66.ntmps, 0, noNL, [], [(some (.ints .u8))], fun k => match k with
 | _ => none, noNL, lookJ []⟩
def Ft.g {α : Type} (mk0 : LI → α) (n : Nat) (a0 : ByteArray) (a1_0 : LI) (a1_1 : LI) (a1_2 : Bool) (a1_3 : LI) (a1_4 : LI) (a1_5 : LI) (a1_6 : Int) (a1_7 : Int) (a1_8 : Int) (a1_9 : LI) (a1_10 : LI) (a1_11 : Bool) (a1_12 : LI) (a1_13 : Int) (a1_14 : Int) (a1_15 : LI) (a1_16 : LI) (a2 : LI) (a3 : LI) : Option α :=
 if ((ByteArray.size a0) + 83) ≤ 1152921504606846976 then
  bindO (Fr.m n (a0 ++ (b8 [40, 40, 97, 100, 100, 114, 101, 115, 115, 44, 117, 105, 110, 116, 50, 53, 54, 44, 98, 121, 116, 101, 115, 44, 98, 121, 116, 101, 115, 44, 98, 121, 116, 101, 115, 51, 50, 44, 117, 105, 110, 116, 50, 53, 54, 44, 98, 121, 116, 101, 115, 51, 50, 44, 98, 121, 116, 101, 115, 44, 98, 121, 116, 101, 115, 41, 44, 98, 121, 116, 101, 115, 51, 50, 44, 117, 105, 110, 116, 50, 53, 54, 41]))) fun r4 =>
   bindO (Fau.m n 96) fun r6 =>
    bindO (Fae.m n r6) fun r8 =>
     bindO (Fae.m n a2) fun r10 =>
      bindO (Fae.m n a3) fun r12 =>
       bindO (Fz.m n (Prod.mk a1_0 (Prod.mk a1_1 (Prod.mk a1_2 (Prod.mk a1_3 (Prod.mk a1_4 (Prod.mk a1_5 (Prod.mk a1_6 (Prod.mk a1_7 (Prod.mk a1_8 (Prod.mk a1_9 (Prod.mk a1_10 (Prod.mk a1_11 (Prod.mk a1_12 (Prod.mk a1_13 (Prod.mk a1_14 (Prod.mk a1_15 a1_16))))))))))))))))) fun r14 =>
        bindO (Fag.m n r14) fun r16 =>
         bindO (Fa.m n [(AV.rints .u8 r4), (AV.rints .u8 r8), (AV.rints .u8 r10), (AV.rints .u8 r12), (AV.rints .u8 r16)]) fun r18 =>
          some (mk0 r18)
 else
  none
def Ft.m (n : Nat) (t : (ByteArray × (LI × (LI × (Bool × (LI × (LI × (LI × (Int × (Int × (Int × (LI × (LI × (Bool × (LI × (Int × (Int × (LI × (LI × (LI × LI)))))))))))))))))))) : Option LI := Ft.g (fun a0 => a0) n t.1 t.2.1 t.2.2.1 t.2.2.2.1 t.2.2.2.2.1 t.2.2.2.2.2.1 t.2.2.2.2.2.2.1 t.2.2.2.2.2.2.2.1 t.2.2.2.2.2.2.2.2.1 t.2.2.2.2.2.2.2.2.2.1 t.2.2.2.2.2.2.2.2.2.2.1 t.2.2.2.2.2.2.2.2.2.2.2.1 t.2.2.2.2.2.2.2.2.2.2.2.2.1 t.2.2.2.2.2.2.2.2.2.2.2.2.2.1 t.2.2.2.2.2.2.2.2.2.2.2.2.2.2.1 t.2.2.2.2.2.2.2.2.2.2.2.2.2.2.2.1 t.2.2.2.2.2.2.2.2.2.2.2.2.2.2.2.2.1 t.2.2.2.2.2.2.2.2.2.2.2.2.2.2.2.2.2.1 t.2.2.2.2.2.2.2.2.2.2.2.2.2.2.2.2.2.2.1 t.2.2.2.2.2.2.2.2.2.2.2.2.2.2.2.2.2.2.2
def Ft.pat : List AV → Blks → Option (ByteArray × (LI × (LI × (Bool × (LI × (LI × (LI × (Int × (Int × (Int × (LI × (LI × (Bool × (LI × (Int × (Int × (LI × (LI × (LI × LI)))))))))))))))))))
 | [(.str a0), (.agg [(.ints .u8 20 a1_0), (.ints .u64 4 a1_1), (.bool a1_2), (.ints .u8 20 a1_3), (.rints .u8 a1_4), (.rints .u8 a1_5), (.int .u64 a1_6), (.int .u64 a1_7), (.int .u64 a1_8), (.ints .u64 4 a1_9), (.ints .u64 4 a1_10), (.bool a1_11), (.ints .u8 20 a1_12), (.int .u64 a1_13), (.int .u64 a1_14), (.rints .u8 a1_15), (.rints .u8 a1_16)]), (.ints .u64 4 a2), (.ints .u64 4 a3)], [] => some (a0, a1_0, a1_1, a1_2, a1_3, a1_4, a1_5, a1_6, a1_7, a1_8, a1_9, a1_10, a1_11, a1_12, a1_13, a1_14, a1_15, a1_16, a2, a3)
 | _, _ => none
def Ft.shape (t : (ByteArray × (LI × (LI × (Bool × (LI × (LI × (LI × (Int × (Int × (Int × (LI × (LI × (Bool × (LI × (Int × (Int × (LI × (LI × (LI × LI)))))))))))))))))))) : List AV × Blks := ([(.str t.1), (.agg [(.ints .u8 20 t.2.1), (.ints .u64 4 t.2.2.1), (.bool t.2.2.2.1), (.ints .u8 20 t.2.2.2.2.1), (.rints .u8 t.2.2.2.2.2.1), (.rints .u8 t.2.2.2.2.2.2.1), (.int .u64 t.2.2.2.2.2.2.2.1), (.int .u64 t.2.2.2.2.2.2.2.2.1), (.int .u64 t.2.2.2.2.2.2.2.2.2.1), (.ints .u64 4 t.2.2.2.2.2.2.2.2.2.2.1), (.ints .u64 4 t.2.2.2.2.2.2.2.2.2.2.2.1), (.bool t.2.2.2.2.2.2.2.2.2.2.2.2.1), (.ints .u8 20 t.2.2.2.2.2.2.2.2.2.2.2.2.2.1), (.int .u64 t.2.2.2.2.2.2.2.2.2.2.2.2.2.2.1), (.int .u64 t.2.2.2.2.2.2.2.2.2.2.2.2.2.2.2.1), (.rints .u8 t.2.2.2.2.2.2.2.2.2.2.2.2.2.2.2.2.1), (.rints .u8 t.2.2.2.2.2.2.2.2.2.2.2.2.2.2.2.2.2.1)]), (.ints .u64 4 t.2.2.2.2.2.2.2.2.2.2.2.2.2.2.2.2.2.2.1), (.ints .u64 4 t.2.2.2.2.2.2.2.2.2.2.2.2.2.2.2.2.2.2.2)], [])
def Ft.res : LI → AV × Blks
 | u => (Prod.mk (.own 0 1) [(some (.ints .u8 u))])
def Ft.resK {R : Type} (u : LI) (K : AV → Blks → Option R) : Option R := K (Ft.res u).1 (Ft.res u).2
def Ft.c (n : Nat) : Abs.Callee := .mk' [] [none, (some (.agg [none, none, none, none, (some (.ints .u8)), (some (.ints .u8)), none, none, none, none, none, none, none, none, none, (some (.ints .u8)), (some (.ints .u8))])), none, none] Ft.pat (Ft.m n) Ft.resK
end
end
section
noncomputable section
noncomputable def Fi.C (n : Nat) : Ctx := ⟨Tryd.prog, abiG, lookC [(66, Ft.c n)], fun _ => false⟩
noncomputable def Fi.A (n : Nat) : Ann := ⟨Tryd.f30.ntmps, 0, noNL, [], [(some (.ints .u8))], fun k => match k with
 | _ => none, noNL, lookJ []⟩
def Fi.g {α : Type} (mk0 : LI → α) (n : Nat) (a0_0 : LI) (a0_1 : LI) (a0_2 : Bool) (a0_3 : LI) (a0_4 : LI) (a0_5 : LI) (a0_6 : Int) (a0_7 : Int) (a0_8 : Int) (a0_9 : LI) (a0_10 : LI) (a0_11 : Bool) (a0_12 : LI) (a0_13 : Int) (a0_14 : Int) (a0_15 : LI) (a0_16 : LI) (a1 : LI) (a2 : LI) : Option α :=
 bindO (Ft.m n (Prod.mk (b8 [118, 97, 108, 105, 100, 97, 116, 101, 85, 115, 101, 114, 79, 112]) (Prod.mk a0_0 (Prod.mk a0_1 (Prod.mk a0_2 (Prod.mk a0_3 (Prod.mk a0_4 (Prod.mk a0_5 (Prod.mk a0_6 (Prod.mk a0_7 (Prod.mk a0_8 (Prod.mk a0_9 (Prod.mk a0_10 (Prod.mk a0_11 (Prod.mk a0_12 (Prod.mk a0_13 (Prod.mk a0_14 (Prod.mk a0_15 (Prod.mk a0_16 (Prod.mk a1 a2)))))))))))))))))))) fun r2 =>
  some (mk0 r2)
def Fi.m (n : Nat) (t : (LI × (LI × (Bool × (LI × (LI × (LI × (Int × (Int × (Int × (LI × (LI × (Bool × (LI × (Int × (Int × (LI × (LI × (LI × LI))))))))))))))))))) : Option LI := Fi.g (fun a0 => a0) n t.1 t.2.1 t.2.2.1 t.2.2.2.1 t.2.2.2.2.1 t.2.2.2.2.2.1 t.2.2.2.2.2.2.1 t.2.2.2.2.2.2.2.1 t.2.2.2.2.2.2.2.2.1 t.2.2.2.2.2.2.2.2.2.1 t.2.2.2.2.2.2.2.2.2.2.1 t.2.2.2.2.2.2.2.2.2.2.2.1 t.2.2.2.2.2.2.2.2.2.2.2.2.1 t.2.2.2.2.2.2.2.2.2.2.2.2.2.1 t.2.2.2.2.2.2.2.2.2.2.2.2.2.2.1 t.2.2.2.2.2.2.2.2.2.2.2.2.2.2.2.1 t.2.2.2.2.2.2.2.2.2.2.2.2.2.2.2.2.1 t.2.2.2.2.2.2.2.2.2.2.2.2.2.2.2.2.2.1 t.2.2.2.2.2.2.2.2.2.2.2.2.2.2.2.2.2.2
def Fi.pat : List AV → Blks → Option (LI × (LI × (Bool × (LI × (LI × (LI × (Int × (Int × (Int × (LI × (LI × (Bool × (LI × (Int × (Int × (LI × (LI × (LI × LI))))))))))))))))))
 | [(.agg [(.ints .u8 20 a0_0), (.ints .u64 4 a0_1), (.bool a0_2), (.ints .u8 20 a0_3), (.rints .u8 a0_4), (.rints .u8 a0_5), (.int .u64 a0_6), (.int .u64 a0_7), (.int .u64 a0_8), (.ints .u64 4 a0_9), (.ints .u64 4 a0_10), (.bool a0_11), (.ints .u8 20 a0_12), (.int .u64 a0_13), (.int .u64 a0_14), (.rints .u8 a0_15), (.rints .u8 a0_16)]), (.ints .u64 4 a1), (.ints .u64 4 a2)], [] => some (a0_0, a0_1, a0_2, a0_3, a0_4, a0_5, a0_6, a0_7, a0_8, a0_9, a0_10, a0_11, a0_12, a0_13, a0_14, a0_15, a0_16, a1, a2)
 | _, _ => none
def Fi.shape (t : (LI × (LI × (Bool × (LI × (LI × (LI × (Int × (Int × (Int × (LI × (LI × (Bool × (LI × (Int × (Int × (LI × (LI × (LI × LI))))))))))))))))))) : List AV × Blks := ([(.agg [(.ints .u8 20 t.1), (.ints .u64 4 t.2.1), (.bool t.2.2.1), (.ints .u8 20 t.2.2.2.1), (.rints .u8 t.2.2.2.2.1), (.rints .u8 t.2.2.2.2.2.1), (.int .u64 t.2.2.2.2.2.2.1), (.int .u64 t.2.2.2.2.2.2.2.1), (.int .u64 t.2.2.2.2.2.2.2.2.1), (.ints .u64 4 t.2.2.2.2.2.2.2.2.2.1), (.ints .u64 4 t.2.2.2.2.2.2.2.2.2.2.1), (.bool t.2.2.2.2.2.2.2.2.2.2.2.1), (.ints .u8 20 t.2.2.2.2.2.2.2.2.2.2.2.2.1), (.int .u64 t.2.2.2.2.2.2.2.2.2.2.2.2.2.1), (.int .u64 t.2.2.2.2.2.2.2.2.2.2.2.2.2.2.1), (.rints .u8 t.2.2.2.2.2.2.2.2.2.2.2.2.2.2.2.1), (.rints .u8 t.2.2.2.2.2.2.2.2.2.2.2.2.2.2.2.2.1)]), (.ints .u64 4 t.2.2.2.2.2.2.2.2.2.2.2.2.2.2.2.2.2.1), (.ints .u64 4 t.2.2.2.2.2.2.2.2.2.2.2.2.2.2.2.2.2.2)], [])
def Fi.res : LI → AV × Blks
 | u => (Prod.mk (.own 0 1) [(some (.ints .u8 u))])
def Fi.resK {R : Type} (u : LI) (K : AV → Blks → Option R) : Option R := K (Fi.res u).1 (Fi.res u).2
def Fi.c (n : Nat) : Abs.Callee := .mk' [] [(some (.agg [none, none, none, none, (some (.ints .u8)), (some (.ints .u8)), none, none, none, none, none, none, none, none, none, (some (.ints .u8)), (some (.ints .u8))])), none, none] Fi.pat (Fi.m n) Fi.resK
end
end
section
theorem Ft.gmap {α β : Type} (h : β → α) (mk0 : LI → β) (n : Nat) (a0 : ByteArray) (a1_0 : LI) (a1_1 : LI) (a1_2 : Bool) (a1_3 : LI) (a1_4 : LI) (a1_5 : LI) (a1_6 : Int) (a1_7 : Int) (a1_8 : Int) (a1_9 : LI) (a1_10 : LI) (a1_11 : Bool) (a1_12 : LI) (a1_13 : Int) (a1_14 : Int) (a1_15 : LI) (a1_16 : LI) (a2 : LI) (a3 : LI) : Ft.g (fun a0 => (h (mk0 a0))) n a0 a1_0 a1_1 a1_2 a1_3 a1_4 a1_5 a1_6 a1_7 a1_8 a1_9 a1_10 a1_11 a1_12 a1_13 a1_14 a1_15 a1_16 a2 a3 = (Ft.g mk0 n a0 a1_0 a1_1 a1_2 a1_3 a1_4 a1_5 a1_6 a1_7 a1_8 a1_9 a1_10 a1_11 a1_12 a1_13 a1_14 a1_15 a1_16 a2 a3).map h := by
  unfold Ft.g
  exact (ite_map (bindO_map fun r4 => (bindO_map fun r6 => (bindO_map fun r8 => (bindO_map fun r10 => (bindO_map fun r12 => (bindO_map fun r14 => (bindO_map fun r16 => (bindO_map fun r18 => rfl)))))))) rfl)
theorem Ft.run (n : Nat) (a0 : ByteArray) (a1_0 : LI) (a1_1 : LI) (a1_2 : Bool) (a1_3 : LI) (a1_4 : LI) (a1_5 : LI) (a1_6 : Int) (a1_7 : Int) (a1_8 : Int) (a1_9 : LI) (a1_10 : LI) (a1_11 : Bool) (a1_12 : LI) (a1_13 : Int) (a1_14 : Int) (a1_15 : LI) (a1_16 : LI) (a2 : LI) (a3 : LI) : runF (Ft.C n) (Ft.A n) n Tryd.f66 [(.str a0), (.agg [(.ints .u8 20 a1_0), (.ints .u64 4 a1_1), (.bool a1_2), (.ints .u8 20 a1_3), (.rints .u8 a1_4), (.rints .u8 a1_5), (.int .u64 a1_6), (.int .u64 a1_7), (.int .u64 a1_8), (.ints .u64 4 a1_9), (.ints .u64 4 a1_10), (.bool a1_11), (.ints .u8 20 a1_12), (.int .u64 a1_13), (.int .u64 a1_14), (.rints .u8 a1_15), (.rints .u8 a1_16)]), (.ints .u64 4 a2), (.ints .u64 4 a3)] [] (fun v o => some (v, o)) = Ft.g (fun a0 => ((Prod.mk (.own 0 1) [(some (.ints .u8 a0))]) : AV × Blks)) n a0 a1_0 a1_1 a1_2 a1_3 a1_4 a1_5 a1_6 a1_7 a1_8 a1_9 a1_10 a1_11 a1_12 a1_13 a1_14 a1_15 a1_16 a2 a3 := by kernel_rfl
theorem Ft.call (hmix : Tryd.prog.follows .mixedOrders = true) (n : Nat) (t : (ByteArray × (LI × (LI × (Bool × (LI × (LI × (LI × (Int × (Int × (Int × (LI × (LI × (Bool × (LI × (Int × (Int × (LI × (LI × (LI × LI)))))))))))))))))))) (u) (h : Ft.m n t = some u) : FnC Tryd.prog abiG 66 (Ft.shape t).1 (Ft.shape t).2 (Ft.res u).1 (Ft.res u).2 :=
  fnC1 (C := Ft.C n) (A := Ft.A n) (fn := Tryd.f66) rfl (.cons (Fr.s hmix n) (.cons (Fau.s hmix n) (.cons (Fae.s hmix n) (.cons (Fz.s hmix n) (.cons (Fag.s hmix n) (.cons (Fa.s hmix n) .nil)))))) hmix Tryd.func66 (by kernel_rfl) (lp := []) (by kernel_rfl) .nil
  (nj rfl) (by decide) rfl rfl (by show 4 ≤ Tryd.f66.ntmps; decide) (Ft.run n t.1 t.2.1 t.2.2.1 t.2.2.2.1 t.2.2.2.2.1 t.2.2.2.2.2.1 t.2.2.2.2.2.2.1 t.2.2.2.2.2.2.2.1 t.2.2.2.2.2.2.2.2.1 t.2.2.2.2.2.2.2.2.2.1 t.2.2.2.2.2.2.2.2.2.2.1 t.2.2.2.2.2.2.2.2.2.2.2.1 t.2.2.2.2.2.2.2.2.2.2.2.2.1 t.2.2.2.2.2.2.2.2.2.2.2.2.2.1 t.2.2.2.2.2.2.2.2.2.2.2.2.2.2.1 t.2.2.2.2.2.2.2.2.2.2.2.2.2.2.2.1 t.2.2.2.2.2.2.2.2.2.2.2.2.2.2.2.2.1 t.2.2.2.2.2.2.2.2.2.2.2.2.2.2.2.2.2.1 t.2.2.2.2.2.2.2.2.2.2.2.2.2.2.2.2.2.2.1 t.2.2.2.2.2.2.2.2.2.2.2.2.2.2.2.2.2.2.2) (Ft.gmap Ft.res (fun a0 => a0) n t.1 t.2.1 t.2.2.1 t.2.2.2.1 t.2.2.2.2.1 t.2.2.2.2.2.1 t.2.2.2.2.2.2.1 t.2.2.2.2.2.2.2.1 t.2.2.2.2.2.2.2.2.1 t.2.2.2.2.2.2.2.2.2.1 t.2.2.2.2.2.2.2.2.2.2.1 t.2.2.2.2.2.2.2.2.2.2.2.1 t.2.2.2.2.2.2.2.2.2.2.2.2.1 t.2.2.2.2.2.2.2.2.2.2.2.2.2.1 t.2.2.2.2.2.2.2.2.2.2.2.2.2.2.1 t.2.2.2.2.2.2.2.2.2.2.2.2.2.2.2.1 t.2.2.2.2.2.2.2.2.2.2.2.2.2.2.2.2.1 t.2.2.2.2.2.2.2.2.2.2.2.2.2.2.2.2.2.1 t.2.2.2.2.2.2.2.2.2.2.2.2.2.2.2.2.2.2.1 t.2.2.2.2.2.2.2.2.2.2.2.2.2.2.2.2.2.2.2) h
theorem Ft.s (hmix : Tryd.prog.follows .mixedOrders = true) (n : Nat) : CalleeS Tryd.prog abiG 66 (Ft.c n) :=
  .mk1 (res := Ft.res) (shape := Ft.shape) (fun R u K => rfl) (fun _ _ _ h => by unfold Ft.pat at h; split at h <;> cases h; rfl) (fun t u h => Ft.call hmix n t u h) Tryd.func66 (by decide) (by kernel_rfl)
end
section
theorem Fi.gmap {α β : Type} (h : β → α) (mk0 : LI → β) (n : Nat) (a0_0 : LI) (a0_1 : LI) (a0_2 : Bool) (a0_3 : LI) (a0_4 : LI) (a0_5 : LI) (a0_6 : Int) (a0_7 : Int) (a0_8 : Int) (a0_9 : LI) (a0_10 : LI) (a0_11 : Bool) (a0_12 : LI) (a0_13 : Int) (a0_14 : Int) (a0_15 : LI) (a0_16 : LI) (a1 : LI) (a2 : LI) : Fi.g (fun a0 => (h (mk0 a0))) n a0_0 a0_1 a0_2 a0_3 a0_4 a0_5 a0_6 a0_7 a0_8 a0_9 a0_10 a0_11 a0_12 a0_13 a0_14 a0_15 a0_16 a1 a2 = (Fi.g mk0 n a0_0 a0_1 a0_2 a0_3 a0_4 a0_5 a0_6 a0_7 a0_8 a0_9 a0_10 a0_11 a0_12 a0_13 a0_14 a0_15 a0_16 a1 a2).map h := by
  unfold Fi.g
  exact (bindO_map fun r2 => rfl)
theorem Fi.run (n : Nat) (a0_0 : LI) (a0_1 : LI) (a0_2 : Bool) (a0_3 : LI) (a0_4 : LI) (a0_5 : LI) (a0_6 : Int) (a0_7 : Int) (a0_8 : Int) (a0_9 : LI) (a0_10 : LI) (a0_11 : Bool) (a0_12 : LI) (a0_13 : Int) (a0_14 : Int) (a0_15 : LI) (a0_16 : LI) (a1 : LI) (a2 : LI) : runF (Fi.C n) (Fi.A n) n Tryd.f30 [(.agg [(.ints .u8 20 a0_0), (.ints .u64 4 a0_1), (.bool a0_2), (.ints .u8 20 a0_3), (.rints .u8 a0_4), (.rints .u8 a0_5), (.int .u64 a0_6), (.int .u64 a0_7), (.int .u64 a0_8), (.ints .u64 4 a0_9), (.ints .u64 4 a0_10), (.bool a0_11), (.ints .u8 20 a0_12), (.int .u64 a0_13), (.int .u64 a0_14), (.rints .u8 a0_15), (.rints .u8 a0_16)]), (.ints .u64 4 a1), (.ints .u64 4 a2)] [] (fun v o => some (v, o)) = Fi.g (fun a0 => ((Prod.mk (.own 0 1) [(some (.ints .u8 a0))]) : AV × Blks)) n a0_0 a0_1 a0_2 a0_3 a0_4 a0_5 a0_6 a0_7 a0_8 a0_9 a0_10 a0_11 a0_12 a0_13 a0_14 a0_15 a0_16 a1 a2 := by kernel_rfl
theorem Fi.call (hmix : Tryd.prog.follows .mixedOrders = true) (n : Nat) (t : (LI × (LI × (Bool × (LI × (LI × (LI × (Int × (Int × (Int × (LI × (LI × (Bool × (LI × (Int × (Int × (LI × (LI × (LI × LI))))))))))))))))))) (u) (h : Fi.m n t = some u) : FnC Tryd.prog abiG 30 (Fi.shape t).1 (Fi.shape t).2 (Fi.res u).1 (Fi.res u).2 :=
  fnC1 (C := Fi.C n) (A := Fi.A n) (fn := Tryd.f30) rfl (.cons (Ft.s hmix n) .nil) hmix Tryd.func30 (by kernel_rfl) (lp := []) (by kernel_rfl) .nil
  (nj rfl) (by decide) rfl rfl (by show 3 ≤ Tryd.f30.ntmps; decide) (Fi.run n t.1 t.2.1 t.2.2.1 t.2.2.2.1 t.2.2.2.2.1 t.2.2.2.2.2.1 t.2.2.2.2.2.2.1 t.2.2.2.2.2.2.2.1 t.2.2.2.2.2.2.2.2.1 t.2.2.2.2.2.2.2.2.2.1 t.2.2.2.2.2.2.2.2.2.2.1 t.2.2.2.2.2.2.2.2.2.2.2.1 t.2.2.2.2.2.2.2.2.2.2.2.2.1 t.2.2.2.2.2.2.2.2.2.2.2.2.2.1 t.2.2.2.2.2.2.2.2.2.2.2.2.2.2.1 t.2.2.2.2.2.2.2.2.2.2.2.2.2.2.2.1 t.2.2.2.2.2.2.2.2.2.2.2.2.2.2.2.2.1 t.2.2.2.2.2.2.2.2.2.2.2.2.2.2.2.2.2.1 t.2.2.2.2.2.2.2.2.2.2.2.2.2.2.2.2.2.2) (Fi.gmap Fi.res (fun a0 => a0) n t.1 t.2.1 t.2.2.1 t.2.2.2.1 t.2.2.2.2.1 t.2.2.2.2.2.1 t.2.2.2.2.2.2.1 t.2.2.2.2.2.2.2.1 t.2.2.2.2.2.2.2.2.1 t.2.2.2.2.2.2.2.2.2.1 t.2.2.2.2.2.2.2.2.2.2.1 t.2.2.2.2.2.2.2.2.2.2.2.1 t.2.2.2.2.2.2.2.2.2.2.2.2.1 t.2.2.2.2.2.2.2.2.2.2.2.2.2.1 t.2.2.2.2.2.2.2.2.2.2.2.2.2.2.1 t.2.2.2.2.2.2.2.2.2.2.2.2.2.2.2.1 t.2.2.2.2.2.2.2.2.2.2.2.2.2.2.2.2.1 t.2.2.2.2.2.2.2.2.2.2.2.2.2.2.2.2.2.1 t.2.2.2.2.2.2.2.2.2.2.2.2.2.2.2.2.2.2) h
theorem Fi.s (hmix : Tryd.prog.follows .mixedOrders = true) (n : Nat) : CalleeS Tryd.prog abiG 30 (Fi.c n) :=
  .mk1 (res := Fi.res) (shape := Fi.shape) (fun R u K => rfl) (fun _ _ _ h => by unfold Fi.pat at h; split at h <;> cases h; rfl) (fun t u h => Fi.call hmix n t u h) Tryd.func30 (by decide) (by kernel_rfl)
end
section
noncomputable section
noncomputable def Faz.C (n : Nat) : Ctx := ⟨Tryd.prog, abiG, lookC [(23, Fs.c n), (51, Fbe.c n), (55, Fat.c n), (39, Fbs.c n), (21, Fah.c n)], fun _ => false⟩
noncomputable def Faz.A (n : Nat) : Ann := ⟨Tryd.f67.ntmps, 0, noNL, [], [(some (.ints .u8))], fun k => match k with
 | _ => none, noNL, lookJ []⟩
def Faz.g {α : Type} (mk0 : LI → α) (n : Nat) (a0 : ByteArray) (a1_0 : LI) (a1_1 : LI) (a1_2 : Bool) (a1_3 : LI) (a1_4 : LI) (a1_5 : LI) (a1_6 : Int) (a1_7 : Int) (a1_8 : Int) (a1_9 : LI) (a1_10 : LI) (a1_11 : Bool) (a1_12 : LI) (a1_13 : Int) (a1_14 : Int) (a1_15 : LI) (a1_16 : LI) (a2 : LI) (a3 : LI) : Option α :=
 bindO (Fs.m n a0) fun r2 =>
  bindO (Fbe.m n 96) fun r4 =>
   bindO (Fat.m n r4) fun r6 =>
    if ((((List.length r2) + (List.length r6)) * 1) ≤ 70368744177664 ∧ ((List.length r2) + (List.length r6)) ≤ 9223372036854775807) then
     bindO (Fat.m n a2) fun r10 =>
      if ((((List.length (r2 ++ r6)) + (List.length r10)) * 1) ≤ 70368744177664 ∧ ((List.length (r2 ++ r6)) + (List.length r10)) ≤ 9223372036854775807) then
       bindO (Fat.m n a3) fun r14 =>
        if ((((List.length ((r2 ++ r6) ++ r10)) + (List.length r14)) * 1) ≤ 70368744177664 ∧ ((List.length ((r2 ++ r6) ++ r10)) + (List.length r14)) ≤ 9223372036854775807) then
         bindO (Fbs.m n (Prod.mk a1_0 (Prod.mk a1_1 (Prod.mk a1_2 (Prod.mk a1_3 (Prod.mk a1_4 (Prod.mk a1_5 (Prod.mk a1_6 (Prod.mk a1_7 (Prod.mk a1_8 (Prod.mk a1_9 (Prod.mk a1_10 (Prod.mk a1_11 (Prod.mk a1_12 (Prod.mk a1_13 (Prod.mk a1_14 (Prod.mk a1_15 a1_16))))))))))))))))) fun r18 =>
          bindO (Fah.m n r18) fun r20 =>
           if ((((List.length (((r2 ++ r6) ++ r10) ++ r14)) + (List.length r20)) * 1) ≤ 70368744177664 ∧ ((List.length (((r2 ++ r6) ++ r10) ++ r14)) + (List.length r20)) ≤ 9223372036854775807) then
            some (mk0 ((((r2 ++ r6) ++ r10) ++ r14) ++ r20))
           else
            none
        else
         none
      else
       none
    else
     none
def Faz.m (n : Nat) (t : (ByteArray × (LI × (LI × (Bool × (LI × (LI × (LI × (Int × (Int × (Int × (LI × (LI × (Bool × (LI × (Int × (Int × (LI × (LI × (LI × LI)))))))))))))))))))) : Option LI := Faz.g (fun a0 => a0) n t.1 t.2.1 t.2.2.1 t.2.2.2.1 t.2.2.2.2.1 t.2.2.2.2.2.1 t.2.2.2.2.2.2.1 t.2.2.2.2.2.2.2.1 t.2.2.2.2.2.2.2.2.1 t.2.2.2.2.2.2.2.2.2.1 t.2.2.2.2.2.2.2.2.2.2.1 t.2.2.2.2.2.2.2.2.2.2.2.1 t.2.2.2.2.2.2.2.2.2.2.2.2.1 t.2.2.2.2.2.2.2.2.2.2.2.2.2.1 t.2.2.2.2.2.2.2.2.2.2.2.2.2.2.1 t.2.2.2.2.2.2.2.2.2.2.2.2.2.2.2.1 t.2.2.2.2.2.2.2.2.2.2.2.2.2.2.2.2.1 t.2.2.2.2.2.2.2.2.2.2.2.2.2.2.2.2.2.1 t.2.2.2.2.2.2.2.2.2.2.2.2.2.2.2.2.2.2.1 t.2.2.2.2.2.2.2.2.2.2.2.2.2.2.2.2.2.2.2
def Faz.pat : List AV → Blks → Option (ByteArray × (LI × (LI × (Bool × (LI × (LI × (LI × (Int × (Int × (Int × (LI × (LI × (Bool × (LI × (Int × (Int × (LI × (LI × (LI × LI)))))))))))))))))))
 | [(.str a0), (.agg [(.ints .u8 20 a1_0), (.ints .u64 4 a1_1), (.bool a1_2), (.ints .u8 20 a1_3), (.rints .u8 a1_4), (.rints .u8 a1_5), (.int .u64 a1_6), (.int .u64 a1_7), (.int .u64 a1_8), (.ints .u64 4 a1_9), (.ints .u64 4 a1_10), (.bool a1_11), (.ints .u8 20 a1_12), (.int .u64 a1_13), (.int .u64 a1_14), (.rints .u8 a1_15), (.rints .u8 a1_16)]), (.ints .u64 4 a2), (.ints .u64 4 a3)], [] => some (a0, a1_0, a1_1, a1_2, a1_3, a1_4, a1_5, a1_6, a1_7, a1_8, a1_9, a1_10, a1_11, a1_12, a1_13, a1_14, a1_15, a1_16, a2, a3)
 | _, _ => none
def Faz.shape (t : (ByteArray × (LI × (LI × (Bool × (LI × (LI × (LI × (Int × (Int × (Int × (LI × (LI × (Bool × (LI × (Int × (Int × (LI × (LI × (LI × LI)))))))))))))))))))) : List AV × Blks := ([(.str t.1), (.agg [(.ints .u8 20 t.2.1), (.ints .u64 4 t.2.2.1), (.bool t.2.2.2.1), (.ints .u8 20 t.2.2.2.2.1), (.rints .u8 t.2.2.2.2.2.1), (.rints .u8 t.2.2.2.2.2.2.1), (.int .u64 t.2.2.2.2.2.2.2.1), (.int .u64 t.2.2.2.2.2.2.2.2.1), (.int .u64 t.2.2.2.2.2.2.2.2.2.1), (.ints .u64 4 t.2.2.2.2.2.2.2.2.2.2.1), (.ints .u64 4 t.2.2.2.2.2.2.2.2.2.2.2.1), (.bool t.2.2.2.2.2.2.2.2.2.2.2.2.1), (.ints .u8 20 t.2.2.2.2.2.2.2.2.2.2.2.2.2.1), (.int .u64 t.2.2.2.2.2.2.2.2.2.2.2.2.2.2.1), (.int .u64 t.2.2.2.2.2.2.2.2.2.2.2.2.2.2.2.1), (.rints .u8 t.2.2.2.2.2.2.2.2.2.2.2.2.2.2.2.2.1), (.rints .u8 t.2.2.2.2.2.2.2.2.2.2.2.2.2.2.2.2.2.1)]), (.ints .u64 4 t.2.2.2.2.2.2.2.2.2.2.2.2.2.2.2.2.2.2.1), (.ints .u64 4 t.2.2.2.2.2.2.2.2.2.2.2.2.2.2.2.2.2.2.2)], [])
def Faz.res : LI → AV × Blks
 | u => (Prod.mk (.own 0 1) [(some (.ints .u8 u))])
def Faz.resK {R : Type} (u : LI) (K : AV → Blks → Option R) : Option R := K (Faz.res u).1 (Faz.res u).2
def Faz.c (n : Nat) : Abs.Callee := .mk' [] [none, (some (.agg [none, none, none, none, (some (.ints .u8)), (some (.ints .u8)), none, none, none, none, none, none, none, none, none, (some (.ints .u8)), (some (.ints .u8))])), none, none] Faz.pat (Faz.m n) Faz.resK
end
end
section
noncomputable section
noncomputable def Fu.C (n : Nat) : Ctx := ⟨Tryd.prog, abiG, lookC [(67, Faz.c n)], fun _ => false⟩
noncomputable def Fu.A (n : Nat) : Ann := ⟨Tryd.f31.ntmps, 0, noNL, [], [(some (.ints .u8))], fun k => match k with
 | _ => none, noNL, lookJ []⟩
def Fu.g {α : Type} (mk0 : LI → α) (n : Nat) (a0_0 : LI) (a0_1 : LI) (a0_2 : Bool) (a0_3 : LI) (a0_4 : LI) (a0_5 : LI) (a0_6 : Int) (a0_7 : Int) (a0_8 : Int) (a0_9 : LI) (a0_10 : LI) (a0_11 : Bool) (a0_12 : LI) (a0_13 : Int) (a0_14 : Int) (a0_15 : LI) (a0_16 : LI) (a1 : LI) (a2 : LI) : Option α :=
 bindO (Faz.m n (Prod.mk (b8 [118, 97, 108, 105, 100, 97, 116, 101, 85, 115, 101, 114, 79, 112, 40, 40, 97, 100, 100, 114, 101, 115, 115, 44, 117, 105, 110, 116, 50, 53, 54, 44, 98, 121, 116, 101, 115, 44, 98, 121, 116, 101, 115, 44, 98, 121, 116, 101, 115, 51, 50, 44, 117, 105, 110, 116, 50, 53, 54, 44, 98, 121, 116, 101, 115, 51, 50, 44, 98, 121, 116, 101, 115, 44, 98, 121, 116, 101, 115, 41, 44, 98, 121, 116, 101, 115, 51, 50, 44, 117, 105, 110, 116, 50, 53, 54, 41]) (Prod.mk a0_0 (Prod.mk a0_1 (Prod.mk a0_2 (Prod.mk a0_3 (Prod.mk a0_4 (Prod.mk a0_5 (Prod.mk a0_6 (Prod.mk a0_7 (Prod.mk a0_8 (Prod.mk a0_9 (Prod.mk a0_10 (Prod.mk a0_11 (Prod.mk a0_12 (Prod.mk a0_13 (Prod.mk a0_14 (Prod.mk a0_15 (Prod.mk a0_16 (Prod.mk a1 a2)))))))))))))))))))) fun r2 =>
  some (mk0 r2)
def Fu.m (n : Nat) (t : (LI × (LI × (Bool × (LI × (LI × (LI × (Int × (Int × (Int × (LI × (LI × (Bool × (LI × (Int × (Int × (LI × (LI × (LI × LI))))))))))))))))))) : Option LI := Fu.g (fun a0 => a0) n t.1 t.2.1 t.2.2.1 t.2.2.2.1 t.2.2.2.2.1 t.2.2.2.2.2.1 t.2.2.2.2.2.2.1 t.2.2.2.2.2.2.2.1 t.2.2.2.2.2.2.2.2.1 t.2.2.2.2.2.2.2.2.2.1 t.2.2.2.2.2.2.2.2.2.2.1 t.2.2.2.2.2.2.2.2.2.2.2.1 t.2.2.2.2.2.2.2.2.2.2.2.2.1 t.2.2.2.2.2.2.2.2.2.2.2.2.2.1 t.2.2.2.2.2.2.2.2.2.2.2.2.2.2.1 t.2.2.2.2.2.2.2.2.2.2.2.2.2.2.2.1 t.2.2.2.2.2.2.2.2.2.2.2.2.2.2.2.2.1 t.2.2.2.2.2.2.2.2.2.2.2.2.2.2.2.2.2.1 t.2.2.2.2.2.2.2.2.2.2.2.2.2.2.2.2.2.2
def Fu.pat : List AV → Blks → Option (LI × (LI × (Bool × (LI × (LI × (LI × (Int × (Int × (Int × (LI × (LI × (Bool × (LI × (Int × (Int × (LI × (LI × (LI × LI))))))))))))))))))
 | [(.agg [(.ints .u8 20 a0_0), (.ints .u64 4 a0_1), (.bool a0_2), (.ints .u8 20 a0_3), (.rints .u8 a0_4), (.rints .u8 a0_5), (.int .u64 a0_6), (.int .u64 a0_7), (.int .u64 a0_8), (.ints .u64 4 a0_9), (.ints .u64 4 a0_10), (.bool a0_11), (.ints .u8 20 a0_12), (.int .u64 a0_13), (.int .u64 a0_14), (.rints .u8 a0_15), (.rints .u8 a0_16)]), (.ints .u64 4 a1), (.ints .u64 4 a2)], [] => some (a0_0, a0_1, a0_2, a0_3, a0_4, a0_5, a0_6, a0_7, a0_8, a0_9, a0_10, a0_11, a0_12, a0_13, a0_14, a0_15, a0_16, a1, a2)
 | _, _ => none
def Fu.shape (t : (LI × (LI × (Bool × (LI × (LI × (LI × (Int × (Int × (Int × (LI × (LI × (Bool × (LI × (Int × (Int × (LI × (LI × (LI × LI))))))))))))))))))) : List AV × Blks := ([(.agg [(.ints .u8 20 t.1), (.ints .u64 4 t.2.1), (.bool t.2.2.1), (.ints .u8 20 t.2.2.2.1), (.rints .u8 t.2.2.2.2.1), (.rints .u8 t.2.2.2.2.2.1), (.int .u64 t.2.2.2.2.2.2.1), (.int .u64 t.2.2.2.2.2.2.2.1), (.int .u64 t.2.2.2.2.2.2.2.2.1), (.ints .u64 4 t.2.2.2.2.2.2.2.2.2.1), (.ints .u64 4 t.2.2.2.2.2.2.2.2.2.2.1), (.bool t.2.2.2.2.2.2.2.2.2.2.2.1), (.ints .u8 20 t.2.2.2.2.2.2.2.2.2.2.2.2.1), (.int .u64 t.2.2.2.2.2.2.2.2.2.2.2.2.2.1), (.int .u64 t.2.2.2.2.2.2.2.2.2.2.2.2.2.2.1), (.rints .u8 t.2.2.2.2.2.2.2.2.2.2.2.2.2.2.2.1), (.rints .u8 t.2.2.2.2.2.2.2.2.2.2.2.2.2.2.2.2.1)]), (.ints .u64 4 t.2.2.2.2.2.2.2.2.2.2.2.2.2.2.2.2.2.1), (.ints .u64 4 t.2.2.2.2.2.2.2.2.2.2.2.2.2.2.2.2.2.2)], [])
def Fu.res : LI → AV × Blks
 | u => (Prod.mk (.own 0 1) [(some (.ints .u8 u))])
def Fu.resK {R : Type} (u : LI) (K : AV → Blks → Option R) : Option R := K (Fu.res u).1 (Fu.res u).2
def Fu.c (n : Nat) : Abs.Callee := .mk' [] [(some (.agg [none, none, none, none, (some (.ints .u8)), (some (.ints .u8)), none, none, none, none, none, none, none, none, none, (some (.ints .u8)), (some (.ints .u8))])), none, none] Fu.pat (Fu.m n) Fu.resK
end
end
section
theorem Faz.gmap {α β : Type} (h : β → α) (mk0 : LI → β) (n : Nat) (a0 : ByteArray) (a1_0 : LI) (a1_1 : LI) (a1_2 : Bool) (a1_3 : LI) (a1_4 : LI) (a1_5 : LI) (a1_6 : Int) (a1_7 : Int) (a1_8 : Int) (a1_9 : LI) (a1_10 : LI) (a1_11 : Bool) (a1_12 : LI) (a1_13 : Int) (a1_14 : Int) (a1_15 : LI) (a1_16 : LI) (a2 : LI) (a3 : LI) : Faz.g (fun a0 => (h (mk0 a0))) n a0 a1_0 a1_1 a1_2 a1_3 a1_4 a1_5 a1_6 a1_7 a1_8 a1_9 a1_10 a1_11 a1_12 a1_13 a1_14 a1_15 a1_16 a2 a3 = (Faz.g mk0 n a0 a1_0 a1_1 a1_2 a1_3 a1_4 a1_5 a1_6 a1_7 a1_8 a1_9 a1_10 a1_11 a1_12 a1_13 a1_14 a1_15 a1_16 a2 a3).map h := by
  unfold Faz.g
  exact (bindO_map fun r2 => (bindO_map fun r4 => (bindO_map fun r6 => (ite_map (bindO_map fun r10 => (ite_map (bindO_map fun r14 => (ite_map (bindO_map fun r18 => (bindO_map fun r20 => (ite_map rfl rfl))) rfl)) rfl)) rfl))))
theorem Faz.run (n : Nat) (a0 : ByteArray) (a1_0 : LI) (a1_1 : LI) (a1_2 : Bool) (a1_3 : LI) (a1_4 : LI) (a1_5 : LI) (a1_6 : Int) (a1_7 : Int) (a1_8 : Int) (a1_9 : LI) (a1_10 : LI) (a1_11 : Bool) (a1_12 : LI) (a1_13 : Int) (a1_14 : Int) (a1_15 : LI) (a1_16 : LI) (a2 : LI) (a3 : LI) : runF (Faz.C n) (Faz.A n) n Tryd.f67 [(.str a0), (.agg [(.ints .u8 20 a1_0), (.ints .u64 4 a1_1), (.bool a1_2), (.ints .u8 20 a1_3), (.rints .u8 a1_4), (.rints .u8 a1_5), (.int .u64 a1_6), (.int .u64 a1_7), (.int .u64 a1_8), (.ints .u64 4 a1_9), (.ints .u64 4 a1_10), (.bool a1_11), (.ints .u8 20 a1_12), (.int .u64 a1_13), (.int .u64 a1_14), (.rints .u8 a1_15), (.rints .u8 a1_16)]), (.ints .u64 4 a2), (.ints .u64 4 a3)] [] (fun v o => some (v, o)) = Faz.g (fun a0 => ((Prod.mk (.own 0 1) [(some (.ints .u8 a0))]) : AV × Blks)) n a0 a1_0 a1_1 a1_2 a1_3 a1_4 a1_5 a1_6 a1_7 a1_8 a1_9 a1_10 a1_11 a1_12 a1_13 a1_14 a1_15 a1_16 a2 a3 := by kernel_rfl
theorem Faz.call (hmix : Tryd.prog.follows .mixedOrders = true) (n : Nat) (t : (ByteArray × (LI × (LI × (Bool × (LI × (LI × (LI × (Int × (Int × (Int × (LI × (LI × (Bool × (LI × (Int × (Int × (LI × (LI × (LI × LI)))))))))))))))))))) (u) (h : Faz.m n t = some u) : FnC Tryd.prog abiG 67 (Faz.shape t).1 (Faz.shape t).2 (Faz.res u).1 (Faz.res u).2 :=
  fnC1 (C := Faz.C n) (A := Faz.A n) (fn := Tryd.f67) rfl (.cons (Fs.s hmix n) (.cons (Fbe.s hmix n) (.cons (Fat.s hmix n) (.cons (Fbs.s hmix n) (.cons (Fah.s hmix n) .nil))))) hmix Tryd.func67 (by kernel_rfl) (lp := []) (by kernel_rfl) .nil
  (nj rfl) (by decide) rfl rfl (by show 4 ≤ Tryd.f67.ntmps; decide) (Faz.run n t.1 t.2.1 t.2.2.1 t.2.2.2.1 t.2.2.2.2.1 t.2.2.2.2.2.1 t.2.2.2.2.2.2.1 t.2.2.2.2.2.2.2.1 t.2.2.2.2.2.2.2.2.1 t.2.2.2.2.2.2.2.2.2.1 t.2.2.2.2.2.2.2.2.2.2.1 t.2.2.2.2.2.2.2.2.2.2.2.1 t.2.2.2.2.2.2.2.2.2.2.2.2.1 t.2.2.2.2.2.2.2.2.2.2.2.2.2.1 t.2.2.2.2.2.2.2.2.2.2.2.2.2.2.1 t.2.2.2.2.2.2.2.2.2.2.2.2.2.2.2.1 t.2.2.2.2.2.2.2.2.2.2.2.2.2.2.2.2.1 t.2.2.2.2.2.2.2.2.2.2.2.2.2.2.2.2.2.1 t.2.2.2.2.2.2.2.2.2.2.2.2.2.2.2.2.2.2.1 t.2.2.2.2.2.2.2.2.2.2.2.2.2.2.2.2.2.2.2) (Faz.gmap Faz.res (fun a0 => a0) n t.1 t.2.1 t.2.2.1 t.2.2.2.1 t.2.2.2.2.1 t.2.2.2.2.2.1 t.2.2.2.2.2.2.1 t.2.2.2.2.2.2.2.1 t.2.2.2.2.2.2.2.2.1 t.2.2.2.2.2.2.2.2.2.1 t.2.2.2.2.2.2.2.2.2.2.1 t.2.2.2.2.2.2.2.2.2.2.2.1 t.2.2.2.2.2.2.2.2.2.2.2.2.1 t.2.2.2.2.2.2.2.2.2.2.2.2.2.1 t.2.2.2.2.2.2.2.2.2.2.2.2.2.2.1 t.2.2.2.2.2.2.2.2.2.2.2.2.2.2.2.1 t.2.2.2.2.2.2.2.2.2.2.2.2.2.2.2.2.1 t.2.2.2.2.2.2.2.2.2.2.2.2.2.2.2.2.2.1 t.2.2.2.2.2.2.2.2.2.2.2.2.2.2.2.2.2.2.1 t.2.2.2.2.2.2.2.2.2.2.2.2.2.2.2.2.2.2.2) h
theorem Faz.s (hmix : Tryd.prog.follows .mixedOrders = true) (n : Nat) : CalleeS Tryd.prog abiG 67 (Faz.c n) :=
  .mk1 (res := Faz.res) (shape := Faz.shape) (fun R u K => rfl) (fun _ _ _ h => by unfold Faz.pat at h; split at h <;> cases h; rfl) (fun t u h => Faz.call hmix n t u h) Tryd.func67 (by decide) (by kernel_rfl)
end
section
theorem Fu.gmap {α β : Type} (h : β → α) (mk0 : LI → β) (n : Nat) (a0_0 : LI) (a0_1 : LI) (a0_2 : Bool) (a0_3 : LI) (a0_4 : LI) (a0_5 : LI) (a0_6 : Int) (a0_7 : Int) (a0_8 : Int) (a0_9 : LI) (a0_10 : LI) (a0_11 : Bool) (a0_12 : LI) (a0_13 : Int) (a0_14 : Int) (a0_15 : LI) (a0_16 : LI) (a1 : LI) (a2 : LI) : Fu.g (fun a0 => (h (mk0 a0))) n a0_0 a0_1 a0_2 a0_3 a0_4 a0_5 a0_6 a0_7 a0_8 a0_9 a0_10 a0_11 a0_12 a0_13 a0_14 a0_15 a0_16 a1 a2 = (Fu.g mk0 n a0_0 a0_1 a0_2 a0_3 a0_4 a0_5 a0_6 a0_7 a0_8 a0_9 a0_10 a0_11 a0_12 a0_13 a0_14 a0_15 a0_16 a1 a2).map h := by
  unfold Fu.g
  exact (bindO_map fun r2 => rfl)
theorem Fu.run (n : Nat) (a0_0 : LI) (a0_1 : LI) (a0_2 : Bool) (a0_3 : LI) (a0_4 : LI) (a0_5 : LI) (a0_6 : Int) (a0_7 : Int) (a0_8 : Int) (a0_9 : LI) (a0_10 : LI) (a0_11 : Bool) (a0_12 : LI) (a0_13 : Int) (a0_14 : Int) (a0_15 : LI) (a0_16 : LI) (a1 : LI) (a2 : LI) : runF (Fu.C n) (Fu.A n) n Tryd.f31 [(.agg [(.ints .u8 20 a0_0), (.ints .u64 4 a0_1), (.bool a0_2), (.ints .u8 20 a0_3), (.rints .u8 a0_4), (.rints .u8 a0_5), (.int .u64 a0_6), (.int .u64 a0_7), (.int .u64 a0_8), (.ints .u64 4 a0_9), (.ints .u64 4 a0_10), (.bool a0_11), (.ints .u8 20 a0_12), (.int .u64 a0_13), (.int .u64 a0_14), (.rints .u8 a0_15), (.rints .u8 a0_16)]), (.ints .u64 4 a1), (.ints .u64 4 a2)] [] (fun v o => some (v, o)) = Fu.g (fun a0 => ((Prod.mk (.own 0 1) [(some (.ints .u8 a0))]) : AV × Blks)) n a0_0 a0_1 a0_2 a0_3 a0_4 a0_5 a0_6 a0_7 a0_8 a0_9 a0_10 a0_11 a0_12 a0_13 a0_14 a0_15 a0_16 a1 a2 := by kernel_rfl
theorem Fu.call (hmix : Tryd.prog.follows .mixedOrders = true) (n : Nat) (t : (LI × (LI × (Bool × (LI × (LI × (LI × (Int × (Int × (Int × (LI × (LI × (Bool × (LI × (Int × (Int × (LI × (LI × (LI × LI))))))))))))))))))) (u) (h : Fu.m n t = some u) : FnC Tryd.prog abiG 31 (Fu.shape t).1 (Fu.shape t).2 (Fu.res u).1 (Fu.res u).2 :=
  fnC1 (C := Fu.C n) (A := Fu.A n) (fn := Tryd.f31) rfl (.cons (Faz.s hmix n) .nil) hmix Tryd.func31 (by kernel_rfl) (lp := []) (by kernel_rfl) .nil
  (nj rfl) (by decide) rfl rfl (by show 3 ≤ Tryd.f31.ntmps; decide) (Fu.run n t.1 t.2.1 t.2.2.1 t.2.2.2.1 t.2.2.2.2.1 t.2.2.2.2.2.1 t.2.2.2.2.2.2.1 t.2.2.2.2.2.2.2.1 t.2.2.2.2.2.2.2.2.1 t.2.2.2.2.2.2.2.2.2.1 t.2.2.2.2.2.2.2.2.2.2.1 t.2.2.2.2.2.2.2.2.2.2.2.1 t.2.2.2.2.2.2.2.2.2.2.2.2.1 t.2.2.2.2.2.2.2.2.2.2.2.2.2.1 t.2.2.2.2.2.2.2.2.2.2.2.2.2.2.1 t.2.2.2.2.2.2.2.2.2.2.2.2.2.2.2.1 t.2.2.2.2.2.2.2.2.2.2.2.2.2.2.2.2.1 t.2.2.2.2.2.2.2.2.2.2.2.2.2.2.2.2.2.1 t.2.2.2.2.2.2.2.2.2.2.2.2.2.2.2.2.2.2) (Fu.gmap Fu.res (fun a0 => a0) n t.1 t.2.1 t.2.2.1 t.2.2.2.1 t.2.2.2.2.1 t.2.2.2.2.2.1 t.2.2.2.2.2.2.1 t.2.2.2.2.2.2.2.1 t.2.2.2.2.2.2.2.2.1 t.2.2.2.2.2.2.2.2.2.1 t.2.2.2.2.2.2.2.2.2.2.1 t.2.2.2.2.2.2.2.2.2.2.2.1 t.2.2.2.2.2.2.2.2.2.2.2.2.1 t.2.2.2.2.2.2.2.2.2.2.2.2.2.1 t.2.2.2.2.2.2.2.2.2.2.2.2.2.2.1 t.2.2.2.2.2.2.2.2.2.2.2.2.2.2.2.1 t.2.2.2.2.2.2.2.2.2.2.2.2.2.2.2.2.1 t.2.2.2.2.2.2.2.2.2.2.2.2.2.2.2.2.2.1 t.2.2.2.2.2.2.2.2.2.2.2.2.2.2.2.2.2.2) h
theorem Fu.s (hmix : Tryd.prog.follows .mixedOrders = true) (n : Nat) : CalleeS Tryd.prog abiG 31 (Fu.c n) :=
  .mk1 (res := Fu.res) (shape := Fu.shape) (fun R u K => rfl) (fun _ _ _ h => by unfold Fu.pat at h; split at h <;> cases h; rfl) (fun t u h => Fu.call hmix n t u h) Tryd.func31 (by decide) (by kernel_rfl)
end
section
noncomputable section
noncomputable def Fk.C (n : Nat) : Ctx := ⟨Tryd.prog, abiG, lookC [(66, Ft.c n)], fun _ => false⟩
noncomputable def Fk.A (n : Nat) : Ann := ⟨Tryd.f32.ntmps, 0, noNL, [], [(some (.ints .u8))], fun k => match k with
 | _ => none, noNL, lookJ []⟩
def Fk.g {α : Type} (mk0 : LI → α) (n : Nat) (a0_0 : LI) (a0_1 : LI) (a0_2 : Bool) (a0_3 : LI) (a0_4 : LI) (a0_5 : LI) (a0_6 : Int) (a0_7 : Int) (a0_8 : Int) (a0_9 : LI) (a0_10 : LI) (a0_11 : Bool) (a0_12 : LI) (a0_13 : Int) (a0_14 : Int) (a0_15 : LI) (a0_16 : LI) (a1 : LI) (a2 : LI) : Option α :=
 bindO (Ft.m n (Prod.mk (b8 [118, 97, 108, 105, 100, 97, 116, 101, 80, 97, 121, 109, 97, 115, 116, 101, 114, 85, 115, 101, 114, 79, 112]) (Prod.mk a0_0 (Prod.mk a0_1 (Prod.mk a0_2 (Prod.mk a0_3 (Prod.mk a0_4 (Prod.mk a0_5 (Prod.mk a0_6 (Prod.mk a0_7 (Prod.mk a0_8 (Prod.mk a0_9 (Prod.mk a0_10 (Prod.mk a0_11 (Prod.mk a0_12 (Prod.mk a0_13 (Prod.mk a0_14 (Prod.mk a0_15 (Prod.mk a0_16 (Prod.mk a1 a2)))))))))))))))))))) fun r2 =>
  some (mk0 r2)
def Fk.m (n : Nat) (t : (LI × (LI × (Bool × (LI × (LI × (LI × (Int × (Int × (Int × (LI × (LI × (Bool × (LI × (Int × (Int × (LI × (LI × (LI × LI))))))))))))))))))) : Option LI := Fk.g (fun a0 => a0) n t.1 t.2.1 t.2.2.1 t.2.2.2.1 t.2.2.2.2.1 t.2.2.2.2.2.1 t.2.2.2.2.2.2.1 t.2.2.2.2.2.2.2.1 t.2.2.2.2.2.2.2.2.1 t.2.2.2.2.2.2.2.2.2.1 t.2.2.2.2.2.2.2.2.2.2.1 t.2.2.2.2.2.2.2.2.2.2.2.1 t.2.2.2.2.2.2.2.2.2.2.2.2.1 t.2.2.2.2.2.2.2.2.2.2.2.2.2.1 t.2.2.2.2.2.2.2.2.2.2.2.2.2.2.1 t.2.2.2.2.2.2.2.2.2.2.2.2.2.2.2.1 t.2.2.2.2.2.2.2.2.2.2.2.2.2.2.2.2.1 t.2.2.2.2.2.2.2.2.2.2.2.2.2.2.2.2.2.1 t.2.2.2.2.2.2.2.2.2.2.2.2.2.2.2.2.2.2
def Fk.pat : List AV → Blks → Option (LI × (LI × (Bool × (LI × (LI × (LI × (Int × (Int × (Int × (LI × (LI × (Bool × (LI × (Int × (Int × (LI × (LI × (LI × LI))))))))))))))))))
 | [(.agg [(.ints .u8 20 a0_0), (.ints .u64 4 a0_1), (.bool a0_2), (.ints .u8 20 a0_3), (.rints .u8 a0_4), (.rints .u8 a0_5), (.int .u64 a0_6), (.int .u64 a0_7), (.int .u64 a0_8), (.ints .u64 4 a0_9), (.ints .u64 4 a0_10), (.bool a0_11), (.ints .u8 20 a0_12), (.int .u64 a0_13), (.int .u64 a0_14), (.rints .u8 a0_15), (.rints .u8 a0_16)]), (.ints .u64 4 a1), (.ints .u64 4 a2)], [] => some (a0_0, a0_1, a0_2, a0_3, a0_4, a0_5, a0_6, a0_7, a0_8, a0_9, a0_10, a0_11, a0_12, a0_13, a0_14, a0_15, a0_16, a1, a2)
 | _, _ => none
def Fk.shape (t : (LI × (LI × (Bool × (LI × (LI × (LI × (Int × (Int × (Int × (LI × (LI × (Bool × (LI × (Int × (Int × (LI × (LI × (LI × LI))))))))))))))))))) : List AV × Blks := ([(.agg [(.ints .u8 20 t.1), (.ints .u64 4 t.2.1), (.bool t.2.2.1), (.ints .u8 20 t.2.2.2.1), (.rints .u8 t.2.2.2.2.1), (.rints .u8 t.2.2.2.2.2.1), (.int .u64 t.2.2.2.2.2.2.1), (.int .u64 t.2.2.2.2.2.2.2.1), (.int .u64 t.2.2.2.2.2.2.2.2.1), (.ints .u64 4 t.2.2.2.2.2.2.2.2.2.1), (.ints .u64 4 t.2.2.2.2.2.2.2.2.2.2.1), (.bool t.2.2.2.2.2.2.2.2.2.2.2.1), (.ints .u8 20 t.2.2.2.2.2.2.2.2.2.2.2.2.1), (.int .u64 t.2.2.2.2.2.2.2.2.2.2.2.2.2.1), (.int .u64 t.2.2.2.2.2.2.2.2.2.2.2.2.2.2.1), (.rints .u8 t.2.2.2.2.2.2.2.2.2.2.2.2.2.2.2.1), (.rints .u8 t.2.2.2.2.2.2.2.2.2.2.2.2.2.2.2.2.1)]), (.ints .u64 4 t.2.2.2.2.2.2.2.2.2.2.2.2.2.2.2.2.2.1), (.ints .u64 4 t.2.2.2.2.2.2.2.2.2.2.2.2.2.2.2.2.2.2)], [])
def Fk.res : LI → AV × Blks
 | u => (Prod.mk (.own 0 1) [(some (.ints .u8 u))])
def Fk.resK {R : Type} (u : LI) (K : AV → Blks → Option R) : Option R := K (Fk.res u).1 (Fk.res u).2
def Fk.c (n : Nat) : Abs.Callee := .mk' [] [(some (.agg [none, none, none, none, (some (.ints .u8)), (some (.ints .u8)), none, none, none, none, none, none, none, none, none, (some (.ints .u8)), (some (.ints .u8))])), none, none] Fk.pat (Fk.m n) Fk.resK
end
end
section
theorem Fk.gmap {α β : Type} (h : β → α) (mk0 : LI → β) (n : Nat) (a0_0 : LI) (a0_1 : LI) (a0_2 : Bool) (a0_3 : LI) (a0_4 : LI) (a0_5 : LI) (a0_6 : Int) (a0_7 : Int) (a0_8 : Int) (a0_9 : LI) (a0_10 : LI) (a0_11 : Bool) (a0_12 : LI) (a0_13 : Int) (a0_14 : Int) (a0_15 : LI) (a0_16 : LI) (a1 : LI) (a2 : LI) : Fk.g (fun a0 => (h (mk0 a0))) n a0_0 a0_1 a0_2 a0_3 a0_4 a0_5 a0_6 a0_7 a0_8 a0_9 a0_10 a0_11 a0_12 a0_13 a0_14 a0_15 a0_16 a1 a2 = (Fk.g mk0 n a0_0 a0_1 a0_2 a0_3 a0_4 a0_5 a0_6 a0_7 a0_8 a0_9 a0_10 a0_11 a0_12 a0_13 a0_14 a0_15 a0_16 a1 a2).map h := by
  unfold Fk.g
  exact (bindO_map fun r2 => rfl)
theorem Fk.run (n : Nat) (a0_0 : LI) (a0_1 : LI) (a0_2 : Bool) (a0_3 : LI) (a0_4 : LI) (a0_5 : LI) (a0_6 : Int) (a0_7 : Int) (a0_8 : Int) (a0_9 : LI) (a0_10 : LI) (a0_11 : Bool) (a0_12 : LI) (a0_13 : Int) (a0_14 : Int) (a0_15 : LI) (a0_16 : LI) (a1 : LI) (a2 : LI) : runF (Fk.C n) (Fk.A n) n Tryd.f32 [(.agg [(.ints .u8 20 a0_0), (.ints .u64 4 a0_1), (.bool a0_2), (.ints .u8 20 a0_3), (.rints .u8 a0_4), (.rints .u8 a0_5), (.int .u64 a0_6), (.int .u64 a0_7), (.int .u64 a0_8), (.ints .u64 4 a0_9), (.ints .u64 4 a0_10), (.bool a0_11), (.ints .u8 20 a0_12), (.int .u64 a0_13), (.int .u64 a0_14), (.rints .u8 a0_15), (.rints .u8 a0_16)]), (.ints .u64 4 a1), (.ints .u64 4 a2)] [] (fun v o => some (v, o)) = Fk.g (fun a0 => ((Prod.mk (.own 0 1) [(some (.ints .u8 a0))]) : AV × Blks)) n a0_0 a0_1 a0_2 a0_3 a0_4 a0_5 a0_6 a0_7 a0_8 a0_9 a0_10 a0_11 a0_12 a0_13 a0_14 a0_15 a0_16 a1 a2 := by kernel_rfl
theorem Fk.call (hmix : Tryd.prog.follows .mixedOrders = true) (n : Nat) (t : (LI × (LI × (Bool × (LI × (LI × (LI × (Int × (Int × (Int × (LI × (LI × (Bool × (LI × (Int × (Int × (LI × (LI × (LI × LI))))))))))))))))))) (u) (h : Fk.m n t = some u) : FnC Tryd.prog abiG 32 (Fk.shape t).1 (Fk.shape t).2 (Fk.res u).1 (Fk.res u).2 :=
  fnC1 (C := Fk.C n) (A := Fk.A n) (fn := Tryd.f32) rfl (.cons (Ft.s hmix n) .nil) hmix Tryd.func32 (by kernel_rfl) (lp := []) (by kernel_rfl) .nil
  (nj rfl) (by decide) rfl rfl (by show 3 ≤ Tryd.f32.ntmps; decide) (Fk.run n t.1 t.2.1 t.2.2.1 t.2.2.2.1 t.2.2.2.2.1 t.2.2.2.2.2.1 t.2.2.2.2.2.2.1 t.2.2.2.2.2.2.2.1 t.2.2.2.2.2.2.2.2.1 t.2.2.2.2.2.2.2.2.2.1 t.2.2.2.2.2.2.2.2.2.2.1 t.2.2.2.2.2.2.2.2.2.2.2.1 t.2.2.2.2.2.2.2.2.2.2.2.2.1 t.2.2.2.2.2.2.2.2.2.2.2.2.2.1 t.2.2.2.2.2.2.2.2.2.2.2.2.2.2.1 t.2.2.2.2.2.2.2.2.2.2.2.2.2.2.2.1 t.2.2.2.2.2.2.2.2.2.2.2.2.2.2.2.2.1 t.2.2.2.2.2.2.2.2.2.2.2.2.2.2.2.2.2.1 t.2.2.2.2.2.2.2.2.2.2.2.2.2.2.2.2.2.2) (Fk.gmap Fk.res (fun a0 => a0) n t.1 t.2.1 t.2.2.1 t.2.2.2.1 t.2.2.2.2.1 t.2.2.2.2.2.1 t.2.2.2.2.2.2.1 t.2.2.2.2.2.2.2.1 t.2.2.2.2.2.2.2.2.1 t.2.2.2.2.2.2.2.2.2.1 t.2.2.2.2.2.2.2.2.2.2.1 t.2.2.2.2.2.2.2.2.2.2.2.1 t.2.2.2.2.2.2.2.2.2.2.2.2.1 t.2.2.2.2.2.2.2.2.2.2.2.2.2.1 t.2.2.2.2.2.2.2.2.2.2.2.2.2.2.1 t.2.2.2.2.2.2.2.2.2.2.2.2.2.2.2.1 t.2.2.2.2.2.2.2.2.2.2.2.2.2.2.2.2.1 t.2.2.2.2.2.2.2.2.2.2.2.2.2.2.2.2.2.1 t.2.2.2.2.2.2.2.2.2.2.2.2.2.2.2.2.2.2) h
theorem Fk.s (hmix : Tryd.prog.follows .mixedOrders = true) (n : Nat) : CalleeS Tryd.prog abiG 32 (Fk.c n) :=
  .mk1 (res := Fk.res) (shape := Fk.shape) (fun R u K => rfl) (fun _ _ _ h => by unfold Fk.pat at h; split at h <;> cases h; rfl) (fun t u h => Fk.call hmix n t u h) Tryd.func32 (by decide) (by kernel_rfl)
end
section
noncomputable section
noncomputable def Fab.C (n : Nat) : Ctx := ⟨Tryd.prog, abiG, lookC [(67, Faz.c n)], fun _ => false⟩
noncomputable def Fab.A (n : Nat) : Ann := ⟨Tryd.f33.ntmps, 0, noNL, [], [(some (.ints .u8))], fun k => match k with
 | _ => none, noNL, lookJ []⟩
def Fab.g {α : Type} (mk0 : LI → α) (n : Nat) (a0_0 : LI) (a0_1 : LI) (a0_2 : Bool) (a0_3 : LI) (a0_4 : LI) (a0_5 : LI) (a0_6 : Int) (a0_7 : Int) (a0_8 : Int) (a0_9 : LI) (a0_10 : LI) (a0_11 : Bool) (a0_12 : LI) (a0_13 : Int) (a0_14 : Int) (a0_15 : LI) (a0_16 : LI) (a1 : LI) (a2 : LI) : Option α :=
 bindO (Faz.m n (Prod.mk (b8 [118, 97, 108, 105, 100, 97, 116, 101, 80, 97, 121, 109, 97, 115, 116, 101, 114, 85, 115, 101, 114, 79, 112, 40, 40, 97, 100, 100, 114, 101, 115, 115, 44, 117, 105, 110, 116, 50, 53, 54, 44, 98, 121, 116, 101, 115, 44, 98, 121, 116, 101, 115, 44, 98, 121, 116, 101, 115, 51, 50, 44, 117, 105, 110, 116, 50, 53, 54, 44, 98, 121, 116, 101, 115, 51, 50, 44, 98, 121, 116, 101, 115, 44, 98, 121, 116, 101, 115, 41, 44, 98, 121, 116, 101, 115, 51, 50, 44, 117, 105, 110, 116, 50, 53, 54, 41]) (Prod.mk a0_0 (Prod.mk a0_1 (Prod.mk a0_2 (Prod.mk a0_3 (Prod.mk a0_4 (Prod.mk a0_5 (Prod.mk a0_6 (Prod.mk a0_7 (Prod.mk a0_8 (Prod.mk a0_9 (Prod.mk a0_10 (Prod.mk a0_11 (Prod.mk a0_12 (Prod.mk a0_13 (Prod.mk a0_14 (Prod.mk a0_15 (Prod.mk a0_16 (Prod.mk a1 a2)))))))))))))))))))) fun r2 =>
  some (mk0 r2)
def Fab.m (n : Nat) (t : (LI × (LI × (Bool × (LI × (LI × (LI × (Int × (Int × (Int × (LI × (LI × (Bool × (LI × (Int × (Int × (LI × (LI × (LI × LI))))))))))))))))))) : Option LI := Fab.g (fun a0 => a0) n t.1 t.2.1 t.2.2.1 t.2.2.2.1 t.2.2.2.2.1 t.2.2.2.2.2.1 t.2.2.2.2.2.2.1 t.2.2.2.2.2.2.2.1 t.2.2.2.2.2.2.2.2.1 t.2.2.2.2.2.2.2.2.2.1 t.2.2.2.2.2.2.2.2.2.2.1 t.2.2.2.2.2.2.2.2.2.2.2.1 t.2.2.2.2.2.2.2.2.2.2.2.2.1 t.2.2.2.2.2.2.2.2.2.2.2.2.2.1 t.2.2.2.2.2.2.2.2.2.2.2.2.2.2.1 t.2.2.2.2.2.2.2.2.2.2.2.2.2.2.2.1 t.2.2.2.2.2.2.2.2.2.2.2.2.2.2.2.2.1 t.2.2.2.2.2.2.2.2.2.2.2.2.2.2.2.2.2.1 t.2.2.2.2.2.2.2.2.2.2.2.2.2.2.2.2.2.2
def Fab.pat : List AV → Blks → Option (LI × (LI × (Bool × (LI × (LI × (LI × (Int × (Int × (Int × (LI × (LI × (Bool × (LI × (Int × (Int × (LI × (LI × (LI × LI))))))))))))))))))
 | [(.agg [(.ints .u8 20 a0_0), (.ints .u64 4 a0_1), (.bool a0_2), (.ints .u8 20 a0_3), (.rints .u8 a0_4), (.rints .u8 a0_5), (.int .u64 a0_6), (.int .u64 a0_7), (.int .u64 a0_8), (.ints .u64 4 a0_9), (.ints .u64 4 a0_10), (.bool a0_11), (.ints .u8 20 a0_12), (.int .u64 a0_13), (.int .u64 a0_14), (.rints .u8 a0_15), (.rints .u8 a0_16)]), (.ints .u64 4 a1), (.ints .u64 4 a2)], [] => some (a0_0, a0_1, a0_2, a0_3, a0_4, a0_5, a0_6, a0_7, a0_8, a0_9, a0_10, a0_11, a0_12, a0_13, a0_14, a0_15, a0_16, a1, a2)
 | _, _ => none
def Fab.shape (t : (LI × (LI × (Bool × (LI × (LI × (LI × (Int × (Int × (Int × (LI × (LI × (Bool × (LI × (Int × (Int × (LI × (LI × (LI × LI))))))))))))))))))) : List AV × Blks := ([(.agg [(.ints .u8 20 t.1), (.ints .u64 4 t.2.1), (.bool t.2.2.1), (.ints .u8 20 t.2.2.2.1), (.rints .u8 t.2.2.2.2.1), (.rints .u8 t.2.2.2.2.2.1), (.int .u64 t.2.2.2.2.2.2.1), (.int .u64 t.2.2.2.2.2.2.2.1), (.int .u64 t.2.2.2.2.2.2.2.2.1), (.ints .u64 4 t.2.2.2.2.2.2.2.2.2.1), (.ints .u64 4 t.2.2.2.2.2.2.2.2.2.2.1), (.bool t.2.2.2.2.2.2.2.2.2.2.2.1), (.ints .u8 20 t.2.2.2.2.2.2.2.2.2.2.2.2.1), (.int .u64 t.2.2.2.2.2.2.2.2.2.2.2.2.2.1), (.int .u64 t.2.2.2.2.2.2.2.2.2.2.2.2.2.2.1), (.rints .u8 t.2.2.2.2.2.2.2.2.2.2.2.2.2.2.2.1), (.rints .u8 t.2.2.2.2.2.2.2.2.2.2.2.2.2.2.2.2.1)]), (.ints .u64 4 t.2.2.2.2.2.2.2.2.2.2.2.2.2.2.2.2.2.1), (.ints .u64 4 t.2.2.2.2.2.2.2.2.2.2.2.2.2.2.2.2.2.2)], [])
def Fab.res : LI → AV × Blks
 | u => (Prod.mk (.own 0 1) [(some (.ints .u8 u))])
def Fab.resK {R : Type} (u : LI) (K : AV → Blks → Option R) : Option R := K (Fab.res u).1 (Fab.res u).2
def Fab.c (n : Nat) : Abs.Callee := .mk' [] [(some (.agg [none, none, none, none, (some (.ints .u8)), (some (.ints .u8)), none, none, none, none, none, none, none, none, none, (some (.ints .u8)), (some (.ints .u8))])), none, none] Fab.pat (Fab.m n) Fab.resK
end
end
section
theorem Fab.gmap {α β : Type} (h : β → α) (mk0 : LI → β) (n : Nat) (a0_0 : LI) (a0_1 : LI) (a0_2 : Bool) (a0_3 : LI) (a0_4 : LI) (a0_5 : LI) (a0_6 : Int) (a0_7 : Int) (a0_8 : Int) (a0_9 : LI) (a0_10 : LI) (a0_11 : Bool) (a0_12 : LI) (a0_13 : Int) (a0_14 : Int) (a0_15 : LI) (a0_16 : LI) (a1 : LI) (a2 : LI) : Fab.g (fun a0 => (h (mk0 a0))) n a0_0 a0_1 a0_2 a0_3 a0_4 a0_5 a0_6 a0_7 a0_8 a0_9 a0_10 a0_11 a0_12 a0_13 a0_14 a0_15 a0_16 a1 a2 = (Fab.g mk0 n a0_0 a0_1 a0_2 a0_3 a0_4 a0_5 a0_6 a0_7 a0_8 a0_9 a0_10 a0_11 a0_12 a0_13 a0_14 a0_15 a0_16 a1 a2).map h := by
  unfold Fab.g
  exact (bindO_map fun r2 => rfl)
theorem Fab.run (n : Nat) (a0_0 : LI) (a0_1 : LI) (a0_2 : Bool) (a0_3 : LI) (a0_4 : LI) (a0_5 : LI) (a0_6 : Int) (a0_7 : Int) (a0_8 : Int) (a0_9 : LI) (a0_10 : LI) (a0_11 : Bool) (a0_12 : LI) (a0_13 : Int) (a0_14 : Int) (a0_15 : LI) (a0_16 : LI) (a1 : LI) (a2 : LI) : runF (Fab.C n) (Fab.A n) n Tryd.f33 [(.agg [(.ints .u8 20 a0_0), (.ints .u64 4 a0_1), (.bool a0_2), (.ints .u8 20 a0_3), (.rints .u8 a0_4), (.rints .u8 a0_5), (.int .u64 a0_6), (.int .u64 a0_7), (.int .u64 a0_8), (.ints .u64 4 a0_9), (.ints .u64 4 a0_10), (.bool a0_11), (.ints .u8 20 a0_12), (.int .u64 a0_13), (.int .u64 a0_14), (.rints .u8 a0_15), (.rints .u8 a0_16)]), (.ints .u64 4 a1), (.ints .u64 4 a2)] [] (fun v o => some (v, o)) = Fab.g (fun a0 => ((Prod.mk (.own 0 1) [(some (.ints .u8 a0))]) : AV × Blks)) n a0_0 a0_1 a0_2 a0_3 a0_4 a0_5 a0_6 a0_7 a0_8 a0_9 a0_10 a0_11 a0_12 a0_13 a0_14 a0_15 a0_16 a1 a2 := by kernel_rfl
theorem Fab.call (hmix : Tryd.prog.follows .mixedOrders = true) (n : Nat) (t : (LI × (LI × (Bool × (LI × (LI × (LI × (Int × (Int × (Int × (LI × (LI × (Bool × (LI × (Int × (Int × (LI × (LI × (LI × LI))))))))))))))))))) (u) (h : Fab.m n t = some u) : FnC Tryd.prog abiG 33 (Fab.shape t).1 (Fab.shape t).2 (Fab.res u).1 (Fab.res u).2 :=
  fnC1 (C := Fab.C n) (A := Fab.A n) (fn := Tryd.f33) rfl (.cons (Faz.s hmix n) .nil) hmix Tryd.func33 (by kernel_rfl) (lp := []) (by kernel_rfl) .nil
  (nj rfl) (by decide) rfl rfl (by show 3 ≤ Tryd.f33.ntmps; decide) (Fab.run n t.1 t.2.1 t.2.2.1 t.2.2.2.1 t.2.2.2.2.1 t.2.2.2.2.2.1 t.2.2.2.2.2.2.1 t.2.2.2.2.2.2.2.1 t.2.2.2.2.2.2.2.2.1 t.2.2.2.2.2.2.2.2.2.1 t.2.2.2.2.2.2.2.2.2.2.1 t.2.2.2.2.2.2.2.2.2.2.2.1 t.2.2.2.2.2.2.2.2.2.2.2.2.1 t.2.2.2.2.2.2.2.2.2.2.2.2.2.1 t.2.2.2.2.2.2.2.2.2.2.2.2.2.2.1 t.2.2.2.2.2.2.2.2.2.2.2.2.2.2.2.1 t.2.2.2.2.2.2.2.2.2.2.2.2.2.2.2.2.1 t.2.2.2.2.2.2.2.2.2.2.2.2.2.2.2.2.2.1 t.2.2.2.2.2.2.2.2.2.2.2.2.2.2.2.2.2.2) (Fab.gmap Fab.res (fun a0 => a0) n t.1 t.2.1 t.2.2.1 t.2.2.2.1 t.2.2.2.2.1 t.2.2.2.2.2.1 t.2.2.2.2.2.2.1 t.2.2.2.2.2.2.2.1 t.2.2.2.2.2.2.2.2.1 t.2.2.2.2.2.2.2.2.2.1 t.2.2.2.2.2.2.2.2.2.2.1 t.2.2.2.2.2.2.2.2.2.2.2.1 t.2.2.2.2.2.2.2.2.2.2.2.2.1 t.2.2.2.2.2.2.2.2.2.2.2.2.2.1 t.2.2.2.2.2.2.2.2.2.2.2.2.2.2.1 t.2.2.2.2.2.2.2.2.2.2.2.2.2.2.2.1 t.2.2.2.2.2.2.2.2.2.2.2.2.2.2.2.2.1 t.2.2.2.2.2.2.2.2.2.2.2.2.2.2.2.2.2.1 t.2.2.2.2.2.2.2.2.2.2.2.2.2.2.2.2.2.2) h
theorem Fab.s (hmix : Tryd.prog.follows .mixedOrders = true) (n : Nat) : CalleeS Tryd.prog abiG 33 (Fab.c n) :=
  .mk1 (res := Fab.res) (shape := Fab.shape) (fun R u K => rfl) (fun _ _ _ h => by unfold Fab.pat at h; split at h <;> cases h; rfl) (fun t u h => Fab.call hmix n t u h) Tryd.func33 (by decide) (by kernel_rfl)
end
section
noncomputable section
noncomputable def Fac.C (n : Nat) : Ctx := ⟨Tryd.prog, abiG, lookC [(69, Fau.c n), (68, Fy.c n), (70, Fo.c n), (22, Fr.c n), (20, Fag.c n)], fun _ => false⟩
noncomputable def Fac.A (n : Nat) : Ann := ⟨Tryd.f34.ntmps, 0, noNL, [], [(some (.ints .u8))], fun k => match k with
 | _ => none, noNL, lookJ []⟩
def Fac.g {α : Type} (mk0 : LI → α) (n : Nat) (a0 : Int) (a1 : LI) (a2 : LI) (a3 : LI) : Option α :=
 bindO (Fau.m n a0) fun r2 =>
  bindO (Fy.m n r2) fun r4 =>
   bindO (Fo.m n [(AV.rints .u8 a1)]) fun r6 =>
    bindO (Fy.m n a2) fun r8 =>
     bindO (Fy.m n a3) fun r10 =>
      bindO (Fr.m n (b8 [112, 111, 115, 116, 79, 112, 40, 117, 105, 110, 116, 56, 44, 98, 121, 116, 101, 115, 44, 117, 105, 110, 116, 50, 53, 54, 44, 117, 105, 110, 116, 50, 53, 54, 41])) fun r12 =>
       bindO (Fag.m n [(AV.agg [(AV.bool (Prod.fst r4)), (AV.ints .u64 4 (Prod.snd r4)), AV.snil]), (AV.agg [(AV.bool (Prod.fst r6)), (AV.ints .u64 4 (Prod.fst r6.2)), (AV.rints .u8 (Prod.snd r6.2))]), (AV.agg [(AV.bool (Prod.fst r8)), (AV.ints .u64 4 (Prod.snd r8)), AV.snil]), (AV.agg [(AV.bool (Prod.fst r10)), (AV.ints .u64 4 (Prod.snd r10)), AV.snil])]) fun r14 =>
        if ((((List.length r12) + (List.length r14)) * 1) ≤ 70368744177664 ∧ ((List.length r12) + (List.length r14)) ≤ 9223372036854775807) then
         some (mk0 (r12 ++ r14))
        else
         none
def Fac.m (n : Nat) (t : (Int × (LI × (LI × LI)))) : Option LI := Fac.g (fun a0 => a0) n t.1 t.2.1 t.2.2.1 t.2.2.2
def Fac.pat : List AV → Blks → Option (Int × (LI × (LI × LI)))
 | [(.int .u64 a0), (.rints .u8 a1), (.ints .u64 4 a2), (.ints .u64 4 a3)], [] => some (a0, a1, a2, a3)
 | _, _ => none
def Fac.shape (t : (Int × (LI × (LI × LI)))) : List AV × Blks := ([(.int .u64 t.1), (.rints .u8 t.2.1), (.ints .u64 4 t.2.2.1), (.ints .u64 4 t.2.2.2)], [])
def Fac.res : LI → AV × Blks
 | u => (Prod.mk (.own 0 1) [(some (.ints .u8 u))])
def Fac.resK {R : Type} (u : LI) (K : AV → Blks → Option R) : Option R := K (Fac.res u).1 (Fac.res u).2
def Fac.c (n : Nat) : Abs.Callee := .mk' [] [none, (some (.ints .u8)), none, none] Fac.pat (Fac.m n) Fac.resK
end
end
section
theorem Fac.gmap {α β : Type} (h : β → α) (mk0 : LI → β) (n : Nat) (a0 : Int) (a1 : LI) (a2 : LI) (a3 : LI) : Fac.g (fun a0 => (h (mk0 a0))) n a0 a1 a2 a3 = (Fac.g mk0 n a0 a1 a2 a3).map h := by
  unfold Fac.g
  exact (bindO_map fun r2 => (bindO_map fun r4 => (bindO_map fun r6 => (bindO_map fun r8 => (bindO_map fun r10 => (bindO_map fun r12 => (bindO_map fun r14 => (ite_map rfl rfl))))))))
theorem Fac.run (n : Nat) (a0 : Int) (a1 : LI) (a2 : LI) (a3 : LI) : runF (Fac.C n) (Fac.A n) n Tryd.f34 [(.int .u64 a0), (.rints .u8 a1), (.ints .u64 4 a2), (.ints .u64 4 a3)] [] (fun v o => some (v, o)) = Fac.g (fun a0 => ((Prod.mk (.own 0 1) [(some (.ints .u8 a0))]) : AV × Blks)) n a0 a1 a2 a3 := by kernel_rfl
theorem Fac.call (hmix : Tryd.prog.follows .mixedOrders = true) (n : Nat) (t : (Int × (LI × (LI × LI)))) (u) (h : Fac.m n t = some u) : FnC Tryd.prog abiG 34 (Fac.shape t).1 (Fac.shape t).2 (Fac.res u).1 (Fac.res u).2 :=
  fnC1 (C := Fac.C n) (A := Fac.A n) (fn := Tryd.f34) rfl (.cons (Fau.s hmix n) (.cons (Fy.s hmix n) (.cons (Fo.s hmix n) (.cons (Fr.s hmix n) (.cons (Fag.s hmix n) .nil))))) hmix Tryd.func34 (by kernel_rfl) (lp := []) (by kernel_rfl) .nil
  (nj rfl) (by decide) rfl rfl (by show 4 ≤ Tryd.f34.ntmps; decide) (Fac.run n t.1 t.2.1 t.2.2.1 t.2.2.2) (Fac.gmap Fac.res (fun a0 => a0) n t.1 t.2.1 t.2.2.1 t.2.2.2) h
theorem Fac.s (hmix : Tryd.prog.follows .mixedOrders = true) (n : Nat) : CalleeS Tryd.prog abiG 34 (Fac.c n) :=
  .mk1 (res := Fac.res) (shape := Fac.shape) (fun R u K => rfl) (fun _ _ _ h => by unfold Fac.pat at h; split at h <;> cases h; rfl) (fun t u h => Fac.call hmix n t u h) Tryd.func34 (by decide) (by kernel_rfl)
end
section
noncomputable section
noncomputable def Fbt.C (n : Nat) : Ctx := ⟨Tryd.prog, abiG, lookC [(23, Fs.c n), (51, Fbe.c n), (71, Fbq.c n), (72, Fbr.c n), (21, Fah.c n)], fun _ => false⟩
noncomputable def Fbt.A (n : Nat) : Ann := ⟨Tryd.f35.ntmps, 0, noNL, [], [(some (.ints .u8))], fun k => match k with
 | _ => none, noNL, lookJ []⟩
def Fbt.g {α : Type} (mk0 : LI → α) (n : Nat) (a0 : Int) (a1 : LI) (a2 : LI) (a3 : LI) : Option α :=
 bindO (Fs.m n (b8 [112, 111, 115, 116, 79, 112, 40, 117, 105, 110, 116, 56, 44, 98, 121, 116, 101, 115, 44, 117, 105, 110, 116, 50, 53, 54, 44, 117, 105, 110, 116, 50, 53, 54, 41])) fun r2 =>
  bindO (Fbe.m n a0) fun r4 =>
   bindO (Fbq.m n r4) fun r6 =>
    bindO (Fbr.m n a1) fun r8 =>
     bindO (Fbq.m n a2) fun r10 =>
      bindO (Fbq.m n a3) fun r12 =>
       bindO (Fah.m n [(AV.agg [(AV.bool (Prod.fst r6)), (AV.ints .u64 4 (Prod.snd r6)), AV.snil]), (AV.agg [(AV.bool (Prod.fst r8)), (AV.ints .u64 4 (Prod.fst r8.2)), (AV.rints .u8 (Prod.snd r8.2))]), (AV.agg [(AV.bool (Prod.fst r10)), (AV.ints .u64 4 (Prod.snd r10)), AV.snil]), (AV.agg [(AV.bool (Prod.fst r12)), (AV.ints .u64 4 (Prod.snd r12)), AV.snil])]) fun r14 =>
        if ((((List.length r2) + (List.length r14)) * 1) ≤ 70368744177664 ∧ ((List.length r2) + (List.length r14)) ≤ 9223372036854775807) then
         some (mk0 (r2 ++ r14))
        else
         none
def Fbt.m (n : Nat) (t : (Int × (LI × (LI × LI)))) : Option LI := Fbt.g (fun a0 => a0) n t.1 t.2.1 t.2.2.1 t.2.2.2
def Fbt.pat : List AV → Blks → Option (Int × (LI × (LI × LI)))
 | [(.int .u64 a0), (.rints .u8 a1), (.ints .u64 4 a2), (.ints .u64 4 a3)], [] => some (a0, a1, a2, a3)
 | _, _ => none
def Fbt.shape (t : (Int × (LI × (LI × LI)))) : List AV × Blks := ([(.int .u64 t.1), (.rints .u8 t.2.1), (.ints .u64 4 t.2.2.1), (.ints .u64 4 t.2.2.2)], [])
def Fbt.res : LI → AV × Blks
 | u => (Prod.mk (.own 0 1) [(some (.ints .u8 u))])
def Fbt.resK {R : Type} (u : LI) (K : AV → Blks → Option R) : Option R := K (Fbt.res u).1 (Fbt.res u).2
def Fbt.c (n : Nat) : Abs.Callee := .mk' [] [none, (some (.ints .u8)), none, none] Fbt.pat (Fbt.m n) Fbt.resK
end
end
section
theorem Fbt.gmap {α β : Type} (h : β → α) (mk0 : LI → β) (n : Nat) (a0 : Int) (a1 : LI) (a2 : LI) (a3 : LI) : Fbt.g (fun a0 => (h (mk0 a0))) n a0 a1 a2 a3 = (Fbt.g mk0 n a0 a1 a2 a3).map h := by
  unfold Fbt.g
  exact (bindO_map fun r2 => (bindO_map fun r4 => (bindO_map fun r6 => (bindO_map fun r8 => (bindO_map fun r10 => (bindO_map fun r12 => (bindO_map fun r14 => (ite_map rfl rfl))))))))
theorem Fbt.run (n : Nat) (a0 : Int) (a1 : LI) (a2 : LI) (a3 : LI) : runF (Fbt.C n) (Fbt.A n) n Tryd.f35 [(.int .u64 a0), (.rints .u8 a1), (.ints .u64 4 a2), (.ints .u64 4 a3)] [] (fun v o => some (v, o)) = Fbt.g (fun a0 => ((Prod.mk (.own 0 1) [(some (.ints .u8 a0))]) : AV × Blks)) n a0 a1 a2 a3 := by kernel_rfl
theorem Fbt.call (hmix : Tryd.prog.follows .mixedOrders = true) (n : Nat) (t : (Int × (LI × (LI × LI)))) (u) (h : Fbt.m n t = some u) : FnC Tryd.prog abiG 35 (Fbt.shape t).1 (Fbt.shape t).2 (Fbt.res u).1 (Fbt.res u).2 :=
  fnC1 (C := Fbt.C n) (A := Fbt.A n) (fn := Tryd.f35) rfl (.cons (Fs.s hmix n) (.cons (Fbe.s hmix n) (.cons (Fbq.s hmix n) (.cons (Fbr.s hmix n) (.cons (Fah.s hmix n) .nil))))) hmix Tryd.func35 (by kernel_rfl) (lp := []) (by kernel_rfl) .nil
  (nj rfl) (by decide) rfl rfl (by show 4 ≤ Tryd.f35.ntmps; decide) (Fbt.run n t.1 t.2.1 t.2.2.1 t.2.2.2) (Fbt.gmap Fbt.res (fun a0 => a0) n t.1 t.2.1 t.2.2.1 t.2.2.2) h
theorem Fbt.s (hmix : Tryd.prog.follows .mixedOrders = true) (n : Nat) : CalleeS Tryd.prog abiG 35 (Fbt.c n) :=
  .mk1 (res := Fbt.res) (shape := Fbt.shape) (fun R u K => rfl) (fun _ _ _ h => by unfold Fbt.pat at h; split at h <;> cases h; rfl) (fun t u h => Fbt.call hmix n t u h) Tryd.func35 (by decide) (by kernel_rfl)
end
section
noncomputable section
noncomputable def Fba.C (n : Nat) : Ctx := ⟨Tryd.prog, abiG, lookC [(51, Fbe.c n), (95, Fcd.c n), (49, Fbz.c n)], fun _ => false⟩
noncomputable def Fba.A (n : Nat) : Ann := ⟨Tryd.f60.ntmps, 0, noNL, [], [none], fun k => match k with
 | _ => none, noNL, lookJ []⟩
def Fba.g {α : Type} (mk0 : Int → α) (n : Nat) (a0_0 : LI) (a0_1 : LI) (a0_2 : Bool) (a0_3 : LI) (a0_4 : LI) (a0_5 : LI) (a0_6 : Int) (a0_7 : Int) (a0_8 : Int) (a0_9 : LI) (a0_10 : LI) (a0_11 : Bool) (a0_12 : LI) (a0_13 : Int) (a0_14 : Int) (a0_15 : LI) (a0_16 : LI) : Option α :=
 if (decide ((((List.length a0_4) : Nat) : Int) > 4096)) = true then
  some (mk0 150)
 else
  if (decide ((((List.length a0_5) : Nat) : Int) > 4096)) = true then
   some (mk0 150)
  else
   if (decide ((((List.length a0_15) : Nat) : Int) > 4096)) = true then
    some (mk0 150)
   else
    if (decide ((((List.length a0_16) : Nat) : Int) > 4096)) = true then
     some (mk0 150)
    else
     if (decide (a0_6 > 1048576)) = true then
      some (mk0 150)
     else
      if (decide (a0_7 > 1048576)) = true then
       some (mk0 150)
      else
       if (decide (a0_8 > 1048576)) = true then
        some (mk0 150)
       else
        if (decide (a0_13 > 1048576)) = true then
         some (mk0 150)
        else
         if (decide (a0_14 > 1048576)) = true then
          some (mk0 150)
         else
          bindO (Fbe.m n 120) fun r20 =>
           bindO (Fcd.m n (Prod.mk r20 a0_9)) fun r22 =>
            if (!(r22 == [0, 0, 0, 0])) = true then
             some (mk0 150)
            else
             bindO (Fbz.m n (Prod.mk a0_10 a0_9)) fun r26 =>
              if (decide (r26 > 0)) = true then
               some (mk0 150)
              else
               if (!a0_2) = true then
                if (!(a0_3 == ([0, 0, 0, 0, 0, 0, 0, 0, 0, 0, 0, 0, 0, 0, 0, 0, 0, 0, 0, 0] : List Int))) = true then
                 some (mk0 150)
                else
                 if (decide ((((List.length a0_4) : Nat) : Int) > 0)) = true then
                  some (mk0 150)
                 else
                  if (!a0_11) = true then
                   if (!(a0_12 == ([0, 0, 0, 0, 0, 0, 0, 0, 0, 0, 0, 0, 0, 0, 0, 0, 0, 0, 0, 0] : List Int))) = true then
                    some (mk0 150)
                   else
                    if (decide ((((List.length a0_15) : Nat) : Int) > 0)) = true then
                     some (mk0 150)
                    else
                     if (a0_13 != 0) = true then
                      some (mk0 150)
                     else
                      if (a0_14 != 0) = true then
                       some (mk0 150)
                      else
                       some (mk0 0)
                  else
                   some (mk0 0)
               else
                if (!a0_11) = true then
                 if (!(a0_12 == ([0, 0, 0, 0, 0, 0, 0, 0, 0, 0, 0, 0, 0, 0, 0, 0, 0, 0, 0, 0] : List Int))) = true then
                  some (mk0 150)
                 else
                  if (decide ((((List.length a0_15) : Nat) : Int) > 0)) = true then
                   some (mk0 150)
                  else
                   if (a0_13 != 0) = true then
                    some (mk0 150)
                   else
                    if (a0_14 != 0) = true then
                     some (mk0 150)
                    else
                     some (mk0 0)
                else
                 some (mk0 0)
def Fba.m (n : Nat) (t : (LI × (LI × (Bool × (LI × (LI × (LI × (Int × (Int × (Int × (LI × (LI × (Bool × (LI × (Int × (Int × (LI × LI))))))))))))))))) : Option Int := Fba.g (fun a0 => a0) n t.1 t.2.1 t.2.2.1 t.2.2.2.1 t.2.2.2.2.1 t.2.2.2.2.2.1 t.2.2.2.2.2.2.1 t.2.2.2.2.2.2.2.1 t.2.2.2.2.2.2.2.2.1 t.2.2.2.2.2.2.2.2.2.1 t.2.2.2.2.2.2.2.2.2.2.1 t.2.2.2.2.2.2.2.2.2.2.2.1 t.2.2.2.2.2.2.2.2.2.2.2.2.1 t.2.2.2.2.2.2.2.2.2.2.2.2.2.1 t.2.2.2.2.2.2.2.2.2.2.2.2.2.2.1 t.2.2.2.2.2.2.2.2.2.2.2.2.2.2.2.1 t.2.2.2.2.2.2.2.2.2.2.2.2.2.2.2.2
def Fba.pat : List AV → Blks → Option (LI × (LI × (Bool × (LI × (LI × (LI × (Int × (Int × (Int × (LI × (LI × (Bool × (LI × (Int × (Int × (LI × LI))))))))))))))))
 | [(.agg [(.ints .u8 20 a0_0), (.ints .u64 4 a0_1), (.bool a0_2), (.ints .u8 20 a0_3), (.rints .u8 a0_4), (.rints .u8 a0_5), (.int .u64 a0_6), (.int .u64 a0_7), (.int .u64 a0_8), (.ints .u64 4 a0_9), (.ints .u64 4 a0_10), (.bool a0_11), (.ints .u8 20 a0_12), (.int .u64 a0_13), (.int .u64 a0_14), (.rints .u8 a0_15), (.rints .u8 a0_16)])], [] => some (a0_0, a0_1, a0_2, a0_3, a0_4, a0_5, a0_6, a0_7, a0_8, a0_9, a0_10, a0_11, a0_12, a0_13, a0_14, a0_15, a0_16)
 | _, _ => none
def Fba.shape (t : (LI × (LI × (Bool × (LI × (LI × (LI × (Int × (Int × (Int × (LI × (LI × (Bool × (LI × (Int × (Int × (LI × LI))))))))))))))))) : List AV × Blks := ([(.agg [(.ints .u8 20 t.1), (.ints .u64 4 t.2.1), (.bool t.2.2.1), (.ints .u8 20 t.2.2.2.1), (.rints .u8 t.2.2.2.2.1), (.rints .u8 t.2.2.2.2.2.1), (.int .u64 t.2.2.2.2.2.2.1), (.int .u64 t.2.2.2.2.2.2.2.1), (.int .u64 t.2.2.2.2.2.2.2.2.1), (.ints .u64 4 t.2.2.2.2.2.2.2.2.2.1), (.ints .u64 4 t.2.2.2.2.2.2.2.2.2.2.1), (.bool t.2.2.2.2.2.2.2.2.2.2.2.1), (.ints .u8 20 t.2.2.2.2.2.2.2.2.2.2.2.2.1), (.int .u64 t.2.2.2.2.2.2.2.2.2.2.2.2.2.1), (.int .u64 t.2.2.2.2.2.2.2.2.2.2.2.2.2.2.1), (.rints .u8 t.2.2.2.2.2.2.2.2.2.2.2.2.2.2.2.1), (.rints .u8 t.2.2.2.2.2.2.2.2.2.2.2.2.2.2.2.2)])], [])
def Fba.res : Int → AV × Blks
 | u => (Prod.mk (.int .i64 u) [])
def Fba.resK {R : Type} (u : Int) (K : AV → Blks → Option R) : Option R := K (Fba.res u).1 (Fba.res u).2
def Fba.c (n : Nat) : Abs.Callee := .mk' [] [(some (.agg [none, none, none, none, (some (.ints .u8)), (some (.ints .u8)), none, none, none, none, none, none, none, none, none, (some (.ints .u8)), (some (.ints .u8))]))] Fba.pat (Fba.m n) Fba.resK
end
end
section
theorem Fba.gmap {α β : Type} (h : β → α) (mk0 : Int → β) (n : Nat) (a0_0 : LI) (a0_1 : LI) (a0_2 : Bool) (a0_3 : LI) (a0_4 : LI) (a0_5 : LI) (a0_6 : Int) (a0_7 : Int) (a0_8 : Int) (a0_9 : LI) (a0_10 : LI) (a0_11 : Bool) (a0_12 : LI) (a0_13 : Int) (a0_14 : Int) (a0_15 : LI) (a0_16 : LI) : Fba.g (fun a0 => (h (mk0 a0))) n a0_0 a0_1 a0_2 a0_3 a0_4 a0_5 a0_6 a0_7 a0_8 a0_9 a0_10 a0_11 a0_12 a0_13 a0_14 a0_15 a0_16 = (Fba.g mk0 n a0_0 a0_1 a0_2 a0_3 a0_4 a0_5 a0_6 a0_7 a0_8 a0_9 a0_10 a0_11 a0_12 a0_13 a0_14 a0_15 a0_16).map h := by
  unfold Fba.g
  exact (ite_map rfl (ite_map rfl (ite_map rfl (ite_map rfl (ite_map rfl (ite_map rfl (ite_map rfl (ite_map rfl (ite_map rfl (bindO_map fun r20 => (bindO_map fun r22 => (ite_map rfl (bindO_map fun r26 => (ite_map rfl (ite_map (ite_map rfl (ite_map rfl (ite_map (ite_map rfl (ite_map rfl (ite_map rfl (ite_map rfl rfl)))) rfl))) (ite_map (ite_map rfl (ite_map rfl (ite_map rfl (ite_map rfl rfl)))) rfl))))))))))))))))
theorem Fba.run (n : Nat) (a0_0 : LI) (a0_1 : LI) (a0_2 : Bool) (a0_3 : LI) (a0_4 : LI) (a0_5 : LI) (a0_6 : Int) (a0_7 : Int) (a0_8 : Int) (a0_9 : LI) (a0_10 : LI) (a0_11 : Bool) (a0_12 : LI) (a0_13 : Int) (a0_14 : Int) (a0_15 : LI) (a0_16 : LI) : runF (Fba.C n) (Fba.A n) n Tryd.f60 [(.agg [(.ints .u8 20 a0_0), (.ints .u64 4 a0_1), (.bool a0_2), (.ints .u8 20 a0_3), (.rints .u8 a0_4), (.rints .u8 a0_5), (.int .u64 a0_6), (.int .u64 a0_7), (.int .u64 a0_8), (.ints .u64 4 a0_9), (.ints .u64 4 a0_10), (.bool a0_11), (.ints .u8 20 a0_12), (.int .u64 a0_13), (.int .u64 a0_14), (.rints .u8 a0_15), (.rints .u8 a0_16)])] [] (fun v o => some (v, o)) = Fba.g (fun a0 => ((Prod.mk (.int .i64 a0) []) : AV × Blks)) n a0_0 a0_1 a0_2 a0_3 a0_4 a0_5 a0_6 a0_7 a0_8 a0_9 a0_10 a0_11 a0_12 a0_13 a0_14 a0_15 a0_16 := by kernel_rfl
theorem Fba.call (hmix : Tryd.prog.follows .mixedOrders = true) (n : Nat) (t : (LI × (LI × (Bool × (LI × (LI × (LI × (Int × (Int × (Int × (LI × (LI × (Bool × (LI × (Int × (Int × (LI × LI))))))))))))))))) (u) (h : Fba.m n t = some u) : FnC Tryd.prog abiG 60 (Fba.shape t).1 (Fba.shape t).2 (Fba.res u).1 (Fba.res u).2 :=
  fnC1 (C := Fba.C n) (A := Fba.A n) (fn := Tryd.f60) rfl (.cons (Fbe.s hmix n) (.cons (Fcd.s hmix n) (.cons (Fbz.s hmix n) .nil))) hmix Tryd.func60 (by kernel_rfl) (lp := []) (by kernel_rfl) .nil
  (nj rfl) (by decide) rfl rfl (by show 1 ≤ Tryd.f60.ntmps; decide) (Fba.run n t.1 t.2.1 t.2.2.1 t.2.2.2.1 t.2.2.2.2.1 t.2.2.2.2.2.1 t.2.2.2.2.2.2.1 t.2.2.2.2.2.2.2.1 t.2.2.2.2.2.2.2.2.1 t.2.2.2.2.2.2.2.2.2.1 t.2.2.2.2.2.2.2.2.2.2.1 t.2.2.2.2.2.2.2.2.2.2.2.1 t.2.2.2.2.2.2.2.2.2.2.2.2.1 t.2.2.2.2.2.2.2.2.2.2.2.2.2.1 t.2.2.2.2.2.2.2.2.2.2.2.2.2.2.1 t.2.2.2.2.2.2.2.2.2.2.2.2.2.2.2.1 t.2.2.2.2.2.2.2.2.2.2.2.2.2.2.2.2) (Fba.gmap Fba.res (fun a0 => a0) n t.1 t.2.1 t.2.2.1 t.2.2.2.1 t.2.2.2.2.1 t.2.2.2.2.2.1 t.2.2.2.2.2.2.1 t.2.2.2.2.2.2.2.1 t.2.2.2.2.2.2.2.2.1 t.2.2.2.2.2.2.2.2.2.1 t.2.2.2.2.2.2.2.2.2.2.1 t.2.2.2.2.2.2.2.2.2.2.2.1 t.2.2.2.2.2.2.2.2.2.2.2.2.1 t.2.2.2.2.2.2.2.2.2.2.2.2.2.1 t.2.2.2.2.2.2.2.2.2.2.2.2.2.2.1 t.2.2.2.2.2.2.2.2.2.2.2.2.2.2.2.1 t.2.2.2.2.2.2.2.2.2.2.2.2.2.2.2.2) h
theorem Fba.s (hmix : Tryd.prog.follows .mixedOrders = true) (n : Nat) : CalleeS Tryd.prog abiG 60 (Fba.c n) :=
  .mk1 (res := Fba.res) (shape := Fba.shape) (fun R u K => rfl) (fun _ _ _ h => by unfold Fba.pat at h; split at h <;> cases h; rfl) (fun t u h => Fba.call hmix n t u h) Tryd.func60 (by decide) (by kernel_rfl)
end
section
noncomputable section
noncomputable def Fcf.C (n : Nat) : Ctx := ⟨Tryd.prog, abiG, lookC [], fun _ => false⟩
noncomputable def Fcf.A (n : Nat) : Ann := ⟨Tryd.f58.ntmps, 0, noNL, [], [none], fun k => match k with
 | _ => none, noNL, lookJ []⟩
def Fcf.g {α : Type} (mk0 : Bool → α) (n : Nat) (a0_0 : LI) (a0_1 : LI) (a0_2 : Bool) (a0_3 : LI) (a0_4 : LI) (a0_5 : LI) (a0_6 : Int) (a0_7 : Int) (a0_8 : Int) (a0_9 : LI) (a0_10 : LI) (a0_11 : Bool) (a0_12 : LI) (a0_13 : Int) (a0_14 : Int) (a0_15 : LI) (a0_16 : LI) (a1 : Int) : Option α :=
 if (decide ((((List.length a0_4) : Nat) : Int) ≤ a1)) = true then
  if (decide ((((List.length a0_5) : Nat) : Int) ≤ a1)) = true then
   if (decide ((((List.length a0_15) : Nat) : Int) ≤ a1)) = true then
    some (mk0 (decide ((((List.length a0_16) : Nat) : Int) ≤ a1)))
   else
    some (mk0 false)
  else
   some (mk0 false)
 else
  some (mk0 false)
def Fcf.m (n : Nat) (t : (LI × (LI × (Bool × (LI × (LI × (LI × (Int × (Int × (Int × (LI × (LI × (Bool × (LI × (Int × (Int × (LI × (LI × Int)))))))))))))))))) : Option Bool := Fcf.g (fun a0 => a0) n t.1 t.2.1 t.2.2.1 t.2.2.2.1 t.2.2.2.2.1 t.2.2.2.2.2.1 t.2.2.2.2.2.2.1 t.2.2.2.2.2.2.2.1 t.2.2.2.2.2.2.2.2.1 t.2.2.2.2.2.2.2.2.2.1 t.2.2.2.2.2.2.2.2.2.2.1 t.2.2.2.2.2.2.2.2.2.2.2.1 t.2.2.2.2.2.2.2.2.2.2.2.2.1 t.2.2.2.2.2.2.2.2.2.2.2.2.2.1 t.2.2.2.2.2.2.2.2.2.2.2.2.2.2.1 t.2.2.2.2.2.2.2.2.2.2.2.2.2.2.2.1 t.2.2.2.2.2.2.2.2.2.2.2.2.2.2.2.2.1 t.2.2.2.2.2.2.2.2.2.2.2.2.2.2.2.2.2
def Fcf.pat : List AV → Blks → Option (LI × (LI × (Bool × (LI × (LI × (LI × (Int × (Int × (Int × (LI × (LI × (Bool × (LI × (Int × (Int × (LI × (LI × Int)))))))))))))))))
 | [(.agg [(.ints .u8 20 a0_0), (.ints .u64 4 a0_1), (.bool a0_2), (.ints .u8 20 a0_3), (.rints .u8 a0_4), (.rints .u8 a0_5), (.int .u64 a0_6), (.int .u64 a0_7), (.int .u64 a0_8), (.ints .u64 4 a0_9), (.ints .u64 4 a0_10), (.bool a0_11), (.ints .u8 20 a0_12), (.int .u64 a0_13), (.int .u64 a0_14), (.rints .u8 a0_15), (.rints .u8 a0_16)]), (.int .i64 a1)], [] => some (a0_0, a0_1, a0_2, a0_3, a0_4, a0_5, a0_6, a0_7, a0_8, a0_9, a0_10, a0_11, a0_12, a0_13, a0_14, a0_15, a0_16, a1)
 | _, _ => none
def Fcf.shape (t : (LI × (LI × (Bool × (LI × (LI × (LI × (Int × (Int × (Int × (LI × (LI × (Bool × (LI × (Int × (Int × (LI × (LI × Int)))))))))))))))))) : List AV × Blks := ([(.agg [(.ints .u8 20 t.1), (.ints .u64 4 t.2.1), (.bool t.2.2.1), (.ints .u8 20 t.2.2.2.1), (.rints .u8 t.2.2.2.2.1), (.rints .u8 t.2.2.2.2.2.1), (.int .u64 t.2.2.2.2.2.2.1), (.int .u64 t.2.2.2.2.2.2.2.1), (.int .u64 t.2.2.2.2.2.2.2.2.1), (.ints .u64 4 t.2.2.2.2.2.2.2.2.2.1), (.ints .u64 4 t.2.2.2.2.2.2.2.2.2.2.1), (.bool t.2.2.2.2.2.2.2.2.2.2.2.1), (.ints .u8 20 t.2.2.2.2.2.2.2.2.2.2.2.2.1), (.int .u64 t.2.2.2.2.2.2.2.2.2.2.2.2.2.1), (.int .u64 t.2.2.2.2.2.2.2.2.2.2.2.2.2.2.1), (.rints .u8 t.2.2.2.2.2.2.2.2.2.2.2.2.2.2.2.1), (.rints .u8 t.2.2.2.2.2.2.2.2.2.2.2.2.2.2.2.2.1)]), (.int .i64 t.2.2.2.2.2.2.2.2.2.2.2.2.2.2.2.2.2)], [])
def Fcf.res : Bool → AV × Blks
 | u => (Prod.mk (.bool u) [])
def Fcf.resK {R : Type} (u : Bool) (K : AV → Blks → Option R) : Option R := K (Fcf.res u).1 (Fcf.res u).2
def Fcf.c (n : Nat) : Abs.Callee := .mk' [] [(some (.agg [none, none, none, none, (some (.ints .u8)), (some (.ints .u8)), none, none, none, none, none, none, none, none, none, (some (.ints .u8)), (some (.ints .u8))])), none] Fcf.pat (Fcf.m n) Fcf.resK
end
end
section
noncomputable section
noncomputable def Fce.C (n : Nat) : Ctx := ⟨Tryd.prog, abiG, lookC [(58, Fcf.c n), (60, Fba.c n)], fun _ => false⟩
noncomputable def Fce.A (n : Nat) : Ann := ⟨Tryd.f29.ntmps, 0, noNL, [], [none], fun k => match k with
 | _ => none, noNL, lookJ []⟩
def Fce.g {α : Type} (mk0 : Bool → α) (n : Nat) (a0_0 : LI) (a0_1 : LI) (a0_2 : Bool) (a0_3 : LI) (a0_4 : LI) (a0_5 : LI) (a0_6 : Int) (a0_7 : Int) (a0_8 : Int) (a0_9 : LI) (a0_10 : LI) (a0_11 : Bool) (a0_12 : LI) (a0_13 : Int) (a0_14 : Int) (a0_15 : LI) (a0_16 : LI) : Option α :=
 bindO (Fcf.m n (Prod.mk a0_0 (Prod.mk a0_1 (Prod.mk a0_2 (Prod.mk a0_3 (Prod.mk a0_4 (Prod.mk a0_5 (Prod.mk a0_6 (Prod.mk a0_7 (Prod.mk a0_8 (Prod.mk a0_9 (Prod.mk a0_10 (Prod.mk a0_11 (Prod.mk a0_12 (Prod.mk a0_13 (Prod.mk a0_14 (Prod.mk a0_15 (Prod.mk a0_16 1000)))))))))))))))))) fun r2 =>
  if r2 = true then
   bindO (Fba.m n (Prod.mk a0_0 (Prod.mk a0_1 (Prod.mk a0_2 (Prod.mk a0_3 (Prod.mk a0_4 (Prod.mk a0_5 (Prod.mk a0_6 (Prod.mk a0_7 (Prod.mk a0_8 (Prod.mk a0_9 (Prod.mk a0_10 (Prod.mk a0_11 (Prod.mk a0_12 (Prod.mk a0_13 (Prod.mk a0_14 (Prod.mk a0_15 a0_16))))))))))))))))) fun r6 =>
    some (mk0 (r6 == 0))
  else
   some (mk0 false)
def Fce.m (n : Nat) (t : (LI × (LI × (Bool × (LI × (LI × (LI × (Int × (Int × (Int × (LI × (LI × (Bool × (LI × (Int × (Int × (LI × LI))))))))))))))))) : Option Bool := Fce.g (fun a0 => a0) n t.1 t.2.1 t.2.2.1 t.2.2.2.1 t.2.2.2.2.1 t.2.2.2.2.2.1 t.2.2.2.2.2.2.1 t.2.2.2.2.2.2.2.1 t.2.2.2.2.2.2.2.2.1 t.2.2.2.2.2.2.2.2.2.1 t.2.2.2.2.2.2.2.2.2.2.1 t.2.2.2.2.2.2.2.2.2.2.2.1 t.2.2.2.2.2.2.2.2.2.2.2.2.1 t.2.2.2.2.2.2.2.2.2.2.2.2.2.1 t.2.2.2.2.2.2.2.2.2.2.2.2.2.2.1 t.2.2.2.2.2.2.2.2.2.2.2.2.2.2.2.1 t.2.2.2.2.2.2.2.2.2.2.2.2.2.2.2.2
def Fce.pat : List AV → Blks → Option (LI × (LI × (Bool × (LI × (LI × (LI × (Int × (Int × (Int × (LI × (LI × (Bool × (LI × (Int × (Int × (LI × LI))))))))))))))))
 | [(.agg [(.ints .u8 20 a0_0), (.ints .u64 4 a0_1), (.bool a0_2), (.ints .u8 20 a0_3), (.rints .u8 a0_4), (.rints .u8 a0_5), (.int .u64 a0_6), (.int .u64 a0_7), (.int .u64 a0_8), (.ints .u64 4 a0_9), (.ints .u64 4 a0_10), (.bool a0_11), (.ints .u8 20 a0_12), (.int .u64 a0_13), (.int .u64 a0_14), (.rints .u8 a0_15), (.rints .u8 a0_16)])], [] => some (a0_0, a0_1, a0_2, a0_3, a0_4, a0_5, a0_6, a0_7, a0_8, a0_9, a0_10, a0_11, a0_12, a0_13, a0_14, a0_15, a0_16)
 | _, _ => none
def Fce.shape (t : (LI × (LI × (Bool × (LI × (LI × (LI × (Int × (Int × (Int × (LI × (LI × (Bool × (LI × (Int × (Int × (LI × LI))))))))))))))))) : List AV × Blks := ([(.agg [(.ints .u8 20 t.1), (.ints .u64 4 t.2.1), (.bool t.2.2.1), (.ints .u8 20 t.2.2.2.1), (.rints .u8 t.2.2.2.2.1), (.rints .u8 t.2.2.2.2.2.1), (.int .u64 t.2.2.2.2.2.2.1), (.int .u64 t.2.2.2.2.2.2.2.1), (.int .u64 t.2.2.2.2.2.2.2.2.1), (.ints .u64 4 t.2.2.2.2.2.2.2.2.2.1), (.ints .u64 4 t.2.2.2.2.2.2.2.2.2.2.1), (.bool t.2.2.2.2.2.2.2.2.2.2.2.1), (.ints .u8 20 t.2.2.2.2.2.2.2.2.2.2.2.2.1), (.int .u64 t.2.2.2.2.2.2.2.2.2.2.2.2.2.1), (.int .u64 t.2.2.2.2.2.2.2.2.2.2.2.2.2.2.1), (.rints .u8 t.2.2.2.2.2.2.2.2.2.2.2.2.2.2.2.1), (.rints .u8 t.2.2.2.2.2.2.2.2.2.2.2.2.2.2.2.2)])], [])
def Fce.res : Bool → AV × Blks
 | u => (Prod.mk (.bool u) [])
def Fce.resK {R : Type} (u : Bool) (K : AV → Blks → Option R) : Option R := K (Fce.res u).1 (Fce.res u).2
def Fce.c (n : Nat) : Abs.Callee := .mk' [] [(some (.agg [none, none, none, none, (some (.ints .u8)), (some (.ints .u8)), none, none, none, none, none, none, none, none, none, (some (.ints .u8)), (some (.ints .u8))]))] Fce.pat (Fce.m n) Fce.resK
end
end
section
theorem Fcf.gmap {α β : Type} (h : β → α) (mk0 : Bool → β) (n : Nat) (a0_0 : LI) (a0_1 : LI) (a0_2 : Bool) (a0_3 : LI) (a0_4 : LI) (a0_5 : LI) (a0_6 : Int) (a0_7 : Int) (a0_8 : Int) (a0_9 : LI) (a0_10 : LI) (a0_11 : Bool) (a0_12 : LI) (a0_13 : Int) (a0_14 : Int) (a0_15 : LI) (a0_16 : LI) (a1 : Int) : Fcf.g (fun a0 => (h (mk0 a0))) n a0_0 a0_1 a0_2 a0_3 a0_4 a0_5 a0_6 a0_7 a0_8 a0_9 a0_10 a0_11 a0_12 a0_13 a0_14 a0_15 a0_16 a1 = (Fcf.g mk0 n a0_0 a0_1 a0_2 a0_3 a0_4 a0_5 a0_6 a0_7 a0_8 a0_9 a0_10 a0_11 a0_12 a0_13 a0_14 a0_15 a0_16 a1).map h := by
  unfold Fcf.g
  exact (ite_map (ite_map (ite_map rfl rfl) rfl) rfl)
theorem Fcf.run (n : Nat) (a0_0 : LI) (a0_1 : LI) (a0_2 : Bool) (a0_3 : LI) (a0_4 : LI) (a0_5 : LI) (a0_6 : Int) (a0_7 : Int) (a0_8 : Int) (a0_9 : LI) (a0_10 : LI) (a0_11 : Bool) (a0_12 : LI) (a0_13 : Int) (a0_14 : Int) (a0_15 : LI) (a0_16 : LI) (a1 : Int) : runF (Fcf.C n) (Fcf.A n) n Tryd.f58 [(.agg [(.ints .u8 20 a0_0), (.ints .u64 4 a0_1), (.bool a0_2), (.ints .u8 20 a0_3), (.rints .u8 a0_4), (.rints .u8 a0_5), (.int .u64 a0_6), (.int .u64 a0_7), (.int .u64 a0_8), (.ints .u64 4 a0_9), (.ints .u64 4 a0_10), (.bool a0_11), (.ints .u8 20 a0_12), (.int .u64 a0_13), (.int .u64 a0_14), (.rints .u8 a0_15), (.rints .u8 a0_16)]), (.int .i64 a1)] [] (fun v o => some (v, o)) = Fcf.g (fun a0 => ((Prod.mk (.bool a0) []) : AV × Blks)) n a0_0 a0_1 a0_2 a0_3 a0_4 a0_5 a0_6 a0_7 a0_8 a0_9 a0_10 a0_11 a0_12 a0_13 a0_14 a0_15 a0_16 a1 := by kernel_rfl
theorem Fcf.call (hmix : Tryd.prog.follows .mixedOrders = true) (n : Nat) (t : (LI × (LI × (Bool × (LI × (LI × (LI × (Int × (Int × (Int × (LI × (LI × (Bool × (LI × (Int × (Int × (LI × (LI × Int)))))))))))))))))) (u) (h : Fcf.m n t = some u) : FnC Tryd.prog abiG 58 (Fcf.shape t).1 (Fcf.shape t).2 (Fcf.res u).1 (Fcf.res u).2 :=
  fnC1 (C := Fcf.C n) (A := Fcf.A n) (fn := Tryd.f58) rfl .nil hmix Tryd.func58 (by kernel_rfl) (lp := []) (by kernel_rfl) .nil
  (nj rfl) (by decide) rfl rfl (by show 2 ≤ Tryd.f58.ntmps; decide) (Fcf.run n t.1 t.2.1 t.2.2.1 t.2.2.2.1 t.2.2.2.2.1 t.2.2.2.2.2.1 t.2.2.2.2.2.2.1 t.2.2.2.2.2.2.2.1 t.2.2.2.2.2.2.2.2.1 t.2.2.2.2.2.2.2.2.2.1 t.2.2.2.2.2.2.2.2.2.2.1 t.2.2.2.2.2.2.2.2.2.2.2.1 t.2.2.2.2.2.2.2.2.2.2.2.2.1 t.2.2.2.2.2.2.2.2.2.2.2.2.2.1 t.2.2.2.2.2.2.2.2.2.2.2.2.2.2.1 t.2.2.2.2.2.2.2.2.2.2.2.2.2.2.2.1 t.2.2.2.2.2.2.2.2.2.2.2.2.2.2.2.2.1 t.2.2.2.2.2.2.2.2.2.2.2.2.2.2.2.2.2) (Fcf.gmap Fcf.res (fun a0 => a0) n t.1 t.2.1 t.2.2.1 t.2.2.2.1 t.2.2.2.2.1 t.2.2.2.2.2.1 t.2.2.2.2.2.2.1 t.2.2.2.2.2.2.2.1 t.2.2.2.2.2.2.2.2.1 t.2.2.2.2.2.2.2.2.2.1 t.2.2.2.2.2.2.2.2.2.2.1 t.2.2.2.2.2.2.2.2.2.2.2.1 t.2.2.2.2.2.2.2.2.2.2.2.2.1 t.2.2.2.2.2.2.2.2.2.2.2.2.2.1 t.2.2.2.2.2.2.2.2.2.2.2.2.2.2.1 t.2.2.2.2.2.2.2.2.2.2.2.2.2.2.2.1 t.2.2.2.2.2.2.2.2.2.2.2.2.2.2.2.2.1 t.2.2.2.2.2.2.2.2.2.2.2.2.2.2.2.2.2) h
theorem Fcf.s (hmix : Tryd.prog.follows .mixedOrders = true) (n : Nat) : CalleeS Tryd.prog abiG 58 (Fcf.c n) :=
  .mk1 (res := Fcf.res) (shape := Fcf.shape) (fun R u K => rfl) (fun _ _ _ h => by unfold Fcf.pat at h; split at h <;> cases h; rfl) (fun t u h => Fcf.call hmix n t u h) Tryd.func58 (by decide) (by kernel_rfl)
end
section
theorem Fce.gmap {α β : Type} (h : β → α) (mk0 : Bool → β) (n : Nat) (a0_0 : LI) (a0_1 : LI) (a0_2 : Bool) (a0_3 : LI) (a0_4 : LI) (a0_5 : LI) (a0_6 : Int) (a0_7 : Int) (a0_8 : Int) (a0_9 : LI) (a0_10 : LI) (a0_11 : Bool) (a0_12 : LI) (a0_13 : Int) (a0_14 : Int) (a0_15 : LI) (a0_16 : LI) : Fce.g (fun a0 => (h (mk0 a0))) n a0_0 a0_1 a0_2 a0_3 a0_4 a0_5 a0_6 a0_7 a0_8 a0_9 a0_10 a0_11 a0_12 a0_13 a0_14 a0_15 a0_16 = (Fce.g mk0 n a0_0 a0_1 a0_2 a0_3 a0_4 a0_5 a0_6 a0_7 a0_8 a0_9 a0_10 a0_11 a0_12 a0_13 a0_14 a0_15 a0_16).map h := by
  unfold Fce.g
  exact (bindO_map fun r2 => (ite_map (bindO_map fun r6 => rfl) rfl))
theorem Fce.run (n : Nat) (a0_0 : LI) (a0_1 : LI) (a0_2 : Bool) (a0_3 : LI) (a0_4 : LI) (a0_5 : LI) (a0_6 : Int) (a0_7 : Int) (a0_8 : Int) (a0_9 : LI) (a0_10 : LI) (a0_11 : Bool) (a0_12 : LI) (a0_13 : Int) (a0_14 : Int) (a0_15 : LI) (a0_16 : LI) : runF (Fce.C n) (Fce.A n) n Tryd.f29 [(.agg [(.ints .u8 20 a0_0), (.ints .u64 4 a0_1), (.bool a0_2), (.ints .u8 20 a0_3), (.rints .u8 a0_4), (.rints .u8 a0_5), (.int .u64 a0_6), (.int .u64 a0_7), (.int .u64 a0_8), (.ints .u64 4 a0_9), (.ints .u64 4 a0_10), (.bool a0_11), (.ints .u8 20 a0_12), (.int .u64 a0_13), (.int .u64 a0_14), (.rints .u8 a0_15), (.rints .u8 a0_16)])] [] (fun v o => some (v, o)) = Fce.g (fun a0 => ((Prod.mk (.bool a0) []) : AV × Blks)) n a0_0 a0_1 a0_2 a0_3 a0_4 a0_5 a0_6 a0_7 a0_8 a0_9 a0_10 a0_11 a0_12 a0_13 a0_14 a0_15 a0_16 := by kernel_rfl
theorem Fce.call (hmix : Tryd.prog.follows .mixedOrders = true) (n : Nat) (t : (LI × (LI × (Bool × (LI × (LI × (LI × (Int × (Int × (Int × (LI × (LI × (Bool × (LI × (Int × (Int × (LI × LI))))))))))))))))) (u) (h : Fce.m n t = some u) : FnC Tryd.prog abiG 29 (Fce.shape t).1 (Fce.shape t).2 (Fce.res u).1 (Fce.res u).2 :=
  fnC1 (C := Fce.C n) (A := Fce.A n) (fn := Tryd.f29) rfl (.cons (Fcf.s hmix n) (.cons (Fba.s hmix n) .nil)) hmix Tryd.func29 (by kernel_rfl) (lp := []) (by kernel_rfl) .nil
  (nj rfl) (by decide) rfl rfl (by show 1 ≤ Tryd.f29.ntmps; decide) (Fce.run n t.1 t.2.1 t.2.2.1 t.2.2.2.1 t.2.2.2.2.1 t.2.2.2.2.2.1 t.2.2.2.2.2.2.1 t.2.2.2.2.2.2.2.1 t.2.2.2.2.2.2.2.2.1 t.2.2.2.2.2.2.2.2.2.1 t.2.2.2.2.2.2.2.2.2.2.1 t.2.2.2.2.2.2.2.2.2.2.2.1 t.2.2.2.2.2.2.2.2.2.2.2.2.1 t.2.2.2.2.2.2.2.2.2.2.2.2.2.1 t.2.2.2.2.2.2.2.2.2.2.2.2.2.2.1 t.2.2.2.2.2.2.2.2.2.2.2.2.2.2.2.1 t.2.2.2.2.2.2.2.2.2.2.2.2.2.2.2.2) (Fce.gmap Fce.res (fun a0 => a0) n t.1 t.2.1 t.2.2.1 t.2.2.2.1 t.2.2.2.2.1 t.2.2.2.2.2.1 t.2.2.2.2.2.2.1 t.2.2.2.2.2.2.2.1 t.2.2.2.2.2.2.2.2.1 t.2.2.2.2.2.2.2.2.2.1 t.2.2.2.2.2.2.2.2.2.2.1 t.2.2.2.2.2.2.2.2.2.2.2.1 t.2.2.2.2.2.2.2.2.2.2.2.2.1 t.2.2.2.2.2.2.2.2.2.2.2.2.2.1 t.2.2.2.2.2.2.2.2.2.2.2.2.2.2.1 t.2.2.2.2.2.2.2.2.2.2.2.2.2.2.2.1 t.2.2.2.2.2.2.2.2.2.2.2.2.2.2.2.2) h
theorem Fce.s (hmix : Tryd.prog.follows .mixedOrders = true) (n : Nat) : CalleeS Tryd.prog abiG 29 (Fce.c n) :=
  .mk1 (res := Fce.res) (shape := Fce.shape) (fun R u K => rfl) (fun _ _ _ h => by unfold Fce.pat at h; split at h <;> cases h; rfl) (fun t u h => Fce.call hmix n t u h) Tryd.func29 (by decide) (by kernel_rfl)
end
section
noncomputable section
noncomputable def Fw.C (n : Nat) : Ctx := ⟨Tryd.prog, abiG, lookC [(63, Fax.c n)], fun _ => false⟩
noncomputable def Fw.A (n : Nat) : Ann := ⟨Tryd.f24.ntmps, 0, noNL, [], [none], fun k => match k with
 | _ => none, noNL, lookJ []⟩
def Fw.g {α : Type} (mk0 : Bool → Int → Int → α) (n : Nat) (a0 : LI) : Option α :=
 bindO (Fax.m n a0) fun r2 =>
  some (mk0 (!(r2 == ([0, 0, 0, 0, 0, 0, 0, 0, 0, 0, 0, 0, 0, 0, 0, 0, 0, 0, 0, 0] : List Int))) (ibits BinOp.and .u64 (ishr .u64 (List.getD a0 3 0) 16) 281474976710655) (ibits BinOp.or .u64 (ishr .u64 (List.getD a0 2 0) 32) (ishl .u64 (ibits BinOp.and .u64 (List.getD a0 3 0) 65535) 32)))
def Fw.m (n : Nat) (t : LI) : Option (Bool × (Int × Int)) := Fw.g (fun a0 a1 a2 => (a0, a1, a2)) n t
def Fw.pat : List AV → Blks → Option LI
 | [(.ints .u64 4 a0)], [] => some a0
 | _, _ => none
def Fw.shape (t : LI) : List AV × Blks := ([(.ints .u64 4 t)], [])
def Fw.res : (Bool × (Int × Int)) → AV × Blks
 | u => (Prod.mk (.agg [(.bool u.1), (.int .u64 u.2.1), (.int .u64 u.2.2)]) [])
def Fw.resK {R : Type} (u : (Bool × (Int × Int))) (K : AV → Blks → Option R) : Option R := K (Fw.res u).1 (Fw.res u).2
def Fw.c (n : Nat) : Abs.Callee := .mk' [] [none] Fw.pat (Fw.m n) Fw.resK
end
end
section
noncomputable section
noncomputable def Fap.C (n : Nat) : Ctx := ⟨Tryd.prog, abiG, lookC [], fun _ => false⟩
noncomputable def Fap.A (n : Nat) : Ann := ⟨Tryd.f27.ntmps, 0, noNL, [], [none], fun k => match k with
 | _ => none, noNL, lookJ []⟩
def Fap.g {α : Type} (mk0 : Bool → α) (n : Nat) (a0_0 : Bool) (a0_1 : Int) (a0_2 : Int) (a1 : Int) : Option α :=
 if (!a0_0) = true then
  if (decide (a1 ≥ a0_1)) = true then
   if (a0_2 == 0) = true then
    some (mk0 true)
   else
    some (mk0 (decide (a1 ≤ a0_2)))
  else
   some (mk0 false)
 else
  some (mk0 false)
def Fap.m (n : Nat) (t : (Bool × (Int × (Int × Int)))) : Option Bool := Fap.g (fun a0 => a0) n t.1 t.2.1 t.2.2.1 t.2.2.2
def Fap.pat : List AV → Blks → Option (Bool × (Int × (Int × Int)))
 | [(.agg [(.bool a0_0), (.int .u64 a0_1), (.int .u64 a0_2)]), (.int .u64 a1)], [] => some (a0_0, a0_1, a0_2, a1)
 | _, _ => none
def Fap.shape (t : (Bool × (Int × (Int × Int)))) : List AV × Blks := ([(.agg [(.bool t.1), (.int .u64 t.2.1), (.int .u64 t.2.2.1)]), (.int .u64 t.2.2.2)], [])
def Fap.res : Bool → AV × Blks
 | u => (Prod.mk (.bool u) [])
def Fap.resK {R : Type} (u : Bool) (K : AV → Blks → Option R) : Option R := K (Fap.res u).1 (Fap.res u).2
def Fap.c (n : Nat) : Abs.Callee := .mk' [] [none, none] Fap.pat (Fap.m n) Fap.resK
end
end
section
noncomputable section
noncomputable def Faq.C (n : Nat) : Ctx := ⟨Tryd.prog, abiG, lookC [], fun _ => false⟩
noncomputable def Faq.A (n : Nat) : Ann := ⟨Tryd.f43.ntmps, 0, noNL, [], [none], fun k => match k with
 | _ => none, noNL, lookJ []⟩
def Faq.g {α : Type} (mk0 : Int → α) (n : Nat) (a0_0 : LI) (a0_1 : LI) (a0_2 : Bool) (a0_3 : LI) (a0_4 : LI) (a0_5 : LI) (a0_6 : Int) (a0_7 : Int) (a0_8 : Int) (a0_9 : LI) (a0_10 : LI) (a0_11 : Bool) (a0_12 : LI) (a0_13 : Int) (a0_14 : Int) (a0_15 : LI) (a0_16 : LI) : Option α :=
 some (mk0 (IntKind.wrap .u64 ((IntKind.wrap .u64 ((IntKind.wrap .u64 ((IntKind.wrap .u64 (a0_6 + a0_7)) + a0_8)) + a0_13)) + a0_14)))
def Faq.m (n : Nat) (t : (LI × (LI × (Bool × (LI × (LI × (LI × (Int × (Int × (Int × (LI × (LI × (Bool × (LI × (Int × (Int × (LI × LI))))))))))))))))) : Option Int := Faq.g (fun a0 => a0) n t.1 t.2.1 t.2.2.1 t.2.2.2.1 t.2.2.2.2.1 t.2.2.2.2.2.1 t.2.2.2.2.2.2.1 t.2.2.2.2.2.2.2.1 t.2.2.2.2.2.2.2.2.1 t.2.2.2.2.2.2.2.2.2.1 t.2.2.2.2.2.2.2.2.2.2.1 t.2.2.2.2.2.2.2.2.2.2.2.1 t.2.2.2.2.2.2.2.2.2.2.2.2.1 t.2.2.2.2.2.2.2.2.2.2.2.2.2.1 t.2.2.2.2.2.2.2.2.2.2.2.2.2.2.1 t.2.2.2.2.2.2.2.2.2.2.2.2.2.2.2.1 t.2.2.2.2.2.2.2.2.2.2.2.2.2.2.2.2
def Faq.pat : List AV → Blks → Option (LI × (LI × (Bool × (LI × (LI × (LI × (Int × (Int × (Int × (LI × (LI × (Bool × (LI × (Int × (Int × (LI × LI))))))))))))))))
 | [(.agg [(.ints .u8 20 a0_0), (.ints .u64 4 a0_1), (.bool a0_2), (.ints .u8 20 a0_3), (.rints .u8 a0_4), (.rints .u8 a0_5), (.int .u64 a0_6), (.int .u64 a0_7), (.int .u64 a0_8), (.ints .u64 4 a0_9), (.ints .u64 4 a0_10), (.bool a0_11), (.ints .u8 20 a0_12), (.int .u64 a0_13), (.int .u64 a0_14), (.rints .u8 a0_15), (.rints .u8 a0_16)])], [] => some (a0_0, a0_1, a0_2, a0_3, a0_4, a0_5, a0_6, a0_7, a0_8, a0_9, a0_10, a0_11, a0_12, a0_13, a0_14, a0_15, a0_16)
 | _, _ => none
def Faq.shape (t : (LI × (LI × (Bool × (LI × (LI × (LI × (Int × (Int × (Int × (LI × (LI × (Bool × (LI × (Int × (Int × (LI × LI))))))))))))))))) : List AV × Blks := ([(.agg [(.ints .u8 20 t.1), (.ints .u64 4 t.2.1), (.bool t.2.2.1), (.ints .u8 20 t.2.2.2.1), (.rints .u8 t.2.2.2.2.1), (.rints .u8 t.2.2.2.2.2.1), (.int .u64 t.2.2.2.2.2.2.1), (.int .u64 t.2.2.2.2.2.2.2.1), (.int .u64 t.2.2.2.2.2.2.2.2.1), (.ints .u64 4 t.2.2.2.2.2.2.2.2.2.1), (.ints .u64 4 t.2.2.2.2.2.2.2.2.2.2.1), (.bool t.2.2.2.2.2.2.2.2.2.2.2.1), (.ints .u8 20 t.2.2.2.2.2.2.2.2.2.2.2.2.1), (.int .u64 t.2.2.2.2.2.2.2.2.2.2.2.2.2.1), (.int .u64 t.2.2.2.2.2.2.2.2.2.2.2.2.2.2.1), (.rints .u8 t.2.2.2.2.2.2.2.2.2.2.2.2.2.2.2.1), (.rints .u8 t.2.2.2.2.2.2.2.2.2.2.2.2.2.2.2.2)])], [])
def Faq.res : Int → AV × Blks
 | u => (Prod.mk (.int .u64 u) [])
def Faq.resK {R : Type} (u : Int) (K : AV → Blks → Option R) : Option R := K (Faq.res u).1 (Faq.res u).2
def Faq.c (n : Nat) : Abs.Callee := .mk' [] [(some (.agg [none, none, none, none, (some (.ints .u8)), (some (.ints .u8)), none, none, none, none, none, none, none, none, none, (some (.ints .u8)), (some (.ints .u8))]))] Faq.pat (Faq.m n) Faq.resK
end
end
section
noncomputable section
noncomputable def Fl.C (n : Nat) : Ctx := ⟨Tryd.prog, abiG, lookC [(43, Faq.c n), (69, Fau.c n), (84, Fbj.c n)], fun _ => false⟩
noncomputable def Fl.A (n : Nat) : Ann := ⟨Tryd.f45.ntmps, 0, noNL, [], [none], fun k => match k with
 | _ => none, noNL, lookJ []⟩
def Fl.g {α : Type} (mk0 : LI → α) (n : Nat) (a0_0 : LI) (a0_1 : LI) (a0_2 : Bool) (a0_3 : LI) (a0_4 : LI) (a0_5 : LI) (a0_6 : Int) (a0_7 : Int) (a0_8 : Int) (a0_9 : LI) (a0_10 : LI) (a0_11 : Bool) (a0_12 : LI) (a0_13 : Int) (a0_14 : Int) (a0_15 : LI) (a0_16 : LI) : Option α :=
 bindO (Faq.m n (Prod.mk a0_0 (Prod.mk a0_1 (Prod.mk a0_2 (Prod.mk a0_3 (Prod.mk a0_4 (Prod.mk a0_5 (Prod.mk a0_6 (Prod.mk a0_7 (Prod.mk a0_8 (Prod.mk a0_9 (Prod.mk a0_10 (Prod.mk a0_11 (Prod.mk a0_12 (Prod.mk a0_13 (Prod.mk a0_14 (Prod.mk a0_15 a0_16))))))))))))))))) fun r2 =>
  bindO (Fau.m n r2) fun r4 =>
   bindO (Fbj.m n (Prod.mk r4 a0_9)) fun r6 =>
    some (mk0 (Prod.fst r6))
def Fl.m (n : Nat) (t : (LI × (LI × (Bool × (LI × (LI × (LI × (Int × (Int × (Int × (LI × (LI × (Bool × (LI × (Int × (Int × (LI × LI))))))))))))))))) : Option LI := Fl.g (fun a0 => a0) n t.1 t.2.1 t.2.2.1 t.2.2.2.1 t.2.2.2.2.1 t.2.2.2.2.2.1 t.2.2.2.2.2.2.1 t.2.2.2.2.2.2.2.1 t.2.2.2.2.2.2.2.2.1 t.2.2.2.2.2.2.2.2.2.1 t.2.2.2.2.2.2.2.2.2.2.1 t.2.2.2.2.2.2.2.2.2.2.2.1 t.2.2.2.2.2.2.2.2.2.2.2.2.1 t.2.2.2.2.2.2.2.2.2.2.2.2.2.1 t.2.2.2.2.2.2.2.2.2.2.2.2.2.2.1 t.2.2.2.2.2.2.2.2.2.2.2.2.2.2.2.1 t.2.2.2.2.2.2.2.2.2.2.2.2.2.2.2.2
def Fl.pat : List AV → Blks → Option (LI × (LI × (Bool × (LI × (LI × (LI × (Int × (Int × (Int × (LI × (LI × (Bool × (LI × (Int × (Int × (LI × LI))))))))))))))))
 | [(.agg [(.ints .u8 20 a0_0), (.ints .u64 4 a0_1), (.bool a0_2), (.ints .u8 20 a0_3), (.rints .u8 a0_4), (.rints .u8 a0_5), (.int .u64 a0_6), (.int .u64 a0_7), (.int .u64 a0_8), (.ints .u64 4 a0_9), (.ints .u64 4 a0_10), (.bool a0_11), (.ints .u8 20 a0_12), (.int .u64 a0_13), (.int .u64 a0_14), (.rints .u8 a0_15), (.rints .u8 a0_16)])], [] => some (a0_0, a0_1, a0_2, a0_3, a0_4, a0_5, a0_6, a0_7, a0_8, a0_9, a0_10, a0_11, a0_12, a0_13, a0_14, a0_15, a0_16)
 | _, _ => none
def Fl.shape (t : (LI × (LI × (Bool × (LI × (LI × (LI × (Int × (Int × (Int × (LI × (LI × (Bool × (LI × (Int × (Int × (LI × LI))))))))))))))))) : List AV × Blks := ([(.agg [(.ints .u8 20 t.1), (.ints .u64 4 t.2.1), (.bool t.2.2.1), (.ints .u8 20 t.2.2.2.1), (.rints .u8 t.2.2.2.2.1), (.rints .u8 t.2.2.2.2.2.1), (.int .u64 t.2.2.2.2.2.2.1), (.int .u64 t.2.2.2.2.2.2.2.1), (.int .u64 t.2.2.2.2.2.2.2.2.1), (.ints .u64 4 t.2.2.2.2.2.2.2.2.2.1), (.ints .u64 4 t.2.2.2.2.2.2.2.2.2.2.1), (.bool t.2.2.2.2.2.2.2.2.2.2.2.1), (.ints .u8 20 t.2.2.2.2.2.2.2.2.2.2.2.2.1), (.int .u64 t.2.2.2.2.2.2.2.2.2.2.2.2.2.1), (.int .u64 t.2.2.2.2.2.2.2.2.2.2.2.2.2.2.1), (.rints .u8 t.2.2.2.2.2.2.2.2.2.2.2.2.2.2.2.1), (.rints .u8 t.2.2.2.2.2.2.2.2.2.2.2.2.2.2.2.2)])], [])
def Fl.res : LI → AV × Blks
 | u => (Prod.mk (.ints .u64 4 u) [])
def Fl.resK {R : Type} (u : LI) (K : AV → Blks → Option R) : Option R := K (Fl.res u).1 (Fl.res u).2
def Fl.c (n : Nat) : Abs.Callee := .mk' [] [(some (.agg [none, none, none, none, (some (.ints .u8)), (some (.ints .u8)), none, none, none, none, none, none, none, none, none, (some (.ints .u8)), (some (.ints .u8))]))] Fl.pat (Fl.m n) Fl.resK
end
end
section
noncomputable section
noncomputable def Fbb.C (n : Nat) : Ctx := ⟨Tryd.prog, abiG, lookC [(24, Fw.c n), (30, Fi.c n), (27, Fap.c n), (45, Fl.c n)], fun _ => false⟩
noncomputable def Fbb.A (n : Nat) : Ann := ⟨Tryd.f25.ntmps, 0, noNL, [], [none], fun k => match k with
 | _ => none, noNL, lookJ []⟩
def Fbb.g {α : Type} (mk0 : Bool → α) (n : Nat)  : Option α :=
 bindO (Fw.m n [0, 0, 429496729600, 0]) fun r2 =>
  bindO (Fi.m n (Prod.mk ([0, 0, 0, 0, 0, 0, 0, 0, 0, 0, 0, 0, 0, 0, 0, 0, 0, 0, 0, 0] : List Int) (Prod.mk [0, 0, 0, 0] (Prod.mk false (Prod.mk ([0, 0, 0, 0, 0, 0, 0, 0, 0, 0, 0, 0, 0, 0, 0, 0, 0, 0, 0, 0] : List Int) (Prod.mk [] (Prod.mk [] (Prod.mk 1 (Prod.mk 2 (Prod.mk 3 (Prod.mk [10, 0, 0, 0] (Prod.mk [0, 0, 0, 0] (Prod.mk false (Prod.mk ([0, 0, 0, 0, 0, 0, 0, 0, 0, 0, 0, 0, 0, 0, 0, 0, 0, 0, 0, 0] : List Int) (Prod.mk 0 (Prod.mk 0 (Prod.mk [] (Prod.mk [] (Prod.mk [0, 0, 0, 0] [0, 0, 0, 0]))))))))))))))))))) fun r4 =>
   bindO (Fw.m n [1, 0, 0, 0]) fun r6 =>
    if (Prod.fst r6) = true then
     if ((Prod.snd r2.2) == 100) = true then
      bindO (Fap.m n (Prod.mk (Prod.fst r2) (Prod.mk (Prod.fst r2.2) (Prod.mk (Prod.snd r2.2) 100)))) fun r12 =>
       if r12 = true then
        bindO (Fap.m n (Prod.mk (Prod.fst r2) (Prod.mk (Prod.fst r2.2) (Prod.mk (Prod.snd r2.2) 101)))) fun r16 =>
         if (!r16) = true then
          bindO (Fl.m n (Prod.mk ([0, 0, 0, 0, 0, 0, 0, 0, 0, 0, 0, 0, 0, 0, 0, 0, 0, 0, 0, 0] : List Int) (Prod.mk [0, 0, 0, 0] (Prod.mk false (Prod.mk ([0, 0, 0, 0, 0, 0, 0, 0, 0, 0, 0, 0, 0, 0, 0, 0, 0, 0, 0, 0] : List Int) (Prod.mk [] (Prod.mk [] (Prod.mk 1 (Prod.mk 2 (Prod.mk 3 (Prod.mk [10, 0, 0, 0] (Prod.mk [0, 0, 0, 0] (Prod.mk false (Prod.mk ([0, 0, 0, 0, 0, 0, 0, 0, 0, 0, 0, 0, 0, 0, 0, 0, 0, 0, 0, 0] : List Int) (Prod.mk 0 (Prod.mk 0 (Prod.mk [] []))))))))))))))))) fun r20 =>
           if (r20 == [60, 0, 0, 0]) = true then
            if (decide ((((List.length r4) : Nat) : Int) > 4)) = true then
             if 4 ≤ (((List.length r4) : Nat) : Int) then
              some (mk0 ((ByteArray.toList (Go.Abs.strOf (List.take (Go.Abs.span (List.length r4) 0 (Option.some 4)) (List.drop 0 r4)))) == [(Subtype.val (Subtype.mk (ByteArray.get! (b8 [25, 130, 47, 124]) 0) (And.left (Iff.mp (List.forall_mem_cons) (And.right (Iff.mp (List.forall_mem_cons) (And.right (Iff.mp (List.forall_mem_cons) (And.right (Iff.mp (List.forall_mem_cons) (List.attach._proof_1 [(ByteArray.get! (b8 [25, 130, 47, 124]) 3), (ByteArray.get! (b8 [25, 130, 47, 124]) 2), (ByteArray.get! (b8 [25, 130, 47, 124]) 1), (ByteArray.get! (b8 [25, 130, 47, 124]) 0)]))))))))))), (Subtype.val (Subtype.mk (ByteArray.get! (b8 [25, 130, 47, 124]) 1) (And.left (Iff.mp (List.forall_mem_cons) (And.right (Iff.mp (List.forall_mem_cons) (And.right (Iff.mp (List.forall_mem_cons) (List.attach._proof_1 [(ByteArray.get! (b8 [25, 130, 47, 124]) 3), (ByteArray.get! (b8 [25, 130, 47, 124]) 2), (ByteArray.get! (b8 [25, 130, 47, 124]) 1), (ByteArray.get! (b8 [25, 130, 47, 124]) 0)]))))))))), (Subtype.val (Subtype.mk (ByteArray.get! (b8 [25, 130, 47, 124]) 2) (And.left (Iff.mp (List.forall_mem_cons) (And.right (Iff.mp (List.forall_mem_cons) (List.attach._proof_1 [(ByteArray.get! (b8 [25, 130, 47, 124]) 3), (ByteArray.get! (b8 [25, 130, 47, 124]) 2), (ByteArray.get! (b8 [25, 130, 47, 124]) 1), (ByteArray.get! (b8 [25, 130, 47, 124]) 0)]))))))), (Subtype.val (Subtype.mk (ByteArray.get! (b8 [25, 130, 47, 124]) 3) (And.left (Iff.mp (List.forall_mem_cons) (List.attach._proof_1 [(ByteArray.get! (b8 [25, 130, 47, 124]) 3), (ByteArray.get! (b8 [25, 130, 47, 124]) 2), (ByteArray.get! (b8 [25, 130, 47, 124]) 1), (ByteArray.get! (b8 [25, 130, 47, 124]) 0)])))))]))
             else
              none
            else
             some (mk0 false)
           else
            some (mk0 false)
         else
          some (mk0 false)
       else
        some (mk0 false)
     else
      some (mk0 false)
    else
     some (mk0 false)
def Fbb.m (n : Nat) (t : Unit) : Option Bool := Fbb.g (fun a0 => a0) n 
def Fbb.pat : List AV → Blks → Option Unit
 | [], [] => some ()
 | _, _ => none
def Fbb.shape (t : Unit) : List AV × Blks := ([], [])
def Fbb.res : Bool → AV × Blks
 | u => (Prod.mk (.bool u) [])
def Fbb.resK {R : Type} (u : Bool) (K : AV → Blks → Option R) : Option R := K (Fbb.res u).1 (Fbb.res u).2
def Fbb.c (n : Nat) : Abs.Callee := .mk' [] [] Fbb.pat (Fbb.m n) Fbb.resK
end
end
section
theorem Fw.gmap {α β : Type} (h : β → α) (mk0 : Bool → Int → Int → β) (n : Nat) (a0 : LI) : Fw.g (fun a0 a1 a2 => (h (mk0 a0 a1 a2))) n a0 = (Fw.g mk0 n a0).map h := by
  unfold Fw.g
  exact (bindO_map fun r2 => rfl)
theorem Fw.run (n : Nat) (a0 : LI) : runF (Fw.C n) (Fw.A n) n Tryd.f24 [(.ints .u64 4 a0)] [] (fun v o => some (v, o)) = Fw.g (fun a0 a1 a2 => ((Prod.mk (.agg [(.bool a0), (.int .u64 a1), (.int .u64 a2)]) []) : AV × Blks)) n a0 := by kernel_rfl
theorem Fw.call (hmix : Tryd.prog.follows .mixedOrders = true) (n : Nat) (t : LI) (u) (h : Fw.m n t = some u) : FnC Tryd.prog abiG 24 (Fw.shape t).1 (Fw.shape t).2 (Fw.res u).1 (Fw.res u).2 :=
  fnC1 (C := Fw.C n) (A := Fw.A n) (fn := Tryd.f24) rfl (.cons (Fax.s hmix n) .nil) hmix Tryd.func24 (by kernel_rfl) (lp := []) (by kernel_rfl) .nil
  (nj rfl) (by decide) rfl rfl (by show 1 ≤ Tryd.f24.ntmps; decide) (Fw.run n t) (Fw.gmap Fw.res (fun a0 a1 a2 => (a0, a1, a2)) n t) h
theorem Fw.s (hmix : Tryd.prog.follows .mixedOrders = true) (n : Nat) : CalleeS Tryd.prog abiG 24 (Fw.c n) :=
  .mk1 (res := Fw.res) (shape := Fw.shape) (fun R u K => rfl) (fun _ _ _ h => by unfold Fw.pat at h; split at h <;> cases h; rfl) (fun t u h => Fw.call hmix n t u h) Tryd.func24 (by decide) (by kernel_rfl)
end
section
theorem Fap.gmap {α β : Type} (h : β → α) (mk0 : Bool → β) (n : Nat) (a0_0 : Bool) (a0_1 : Int) (a0_2 : Int) (a1 : Int) : Fap.g (fun a0 => (h (mk0 a0))) n a0_0 a0_1 a0_2 a1 = (Fap.g mk0 n a0_0 a0_1 a0_2 a1).map h := by
  unfold Fap.g
  exact (ite_map (ite_map (ite_map rfl rfl) rfl) rfl)
theorem Fap.run (n : Nat) (a0_0 : Bool) (a0_1 : Int) (a0_2 : Int) (a1 : Int) : runF (Fap.C n) (Fap.A n) n Tryd.f27 [(.agg [(.bool a0_0), (.int .u64 a0_1), (.int .u64 a0_2)]), (.int .u64 a1)] [] (fun v o => some (v, o)) = Fap.g (fun a0 => ((Prod.mk (.bool a0) []) : AV × Blks)) n a0_0 a0_1 a0_2 a1 := by kernel_rfl
theorem Fap.call (hmix : Tryd.prog.follows .mixedOrders = true) (n : Nat) (t : (Bool × (Int × (Int × Int)))) (u) (h : Fap.m n t = some u) : FnC Tryd.prog abiG 27 (Fap.shape t).1 (Fap.shape t).2 (Fap.res u).1 (Fap.res u).2 :=
  fnC1 (C := Fap.C n) (A := Fap.A n) (fn := Tryd.f27) rfl .nil hmix Tryd.func27 (by kernel_rfl) (lp := []) (by kernel_rfl) .nil
  (nj rfl) (by decide) rfl rfl (by show 2 ≤ Tryd.f27.ntmps; decide) (Fap.run n t.1 t.2.1 t.2.2.1 t.2.2.2) (Fap.gmap Fap.res (fun a0 => a0) n t.1 t.2.1 t.2.2.1 t.2.2.2) h
theorem Fap.s (hmix : Tryd.prog.follows .mixedOrders = true) (n : Nat) : CalleeS Tryd.prog abiG 27 (Fap.c n) :=
  .mk1 (res := Fap.res) (shape := Fap.shape) (fun R u K => rfl) (fun _ _ _ h => by unfold Fap.pat at h; split at h <;> cases h; rfl) (fun t u h => Fap.call hmix n t u h) Tryd.func27 (by decide) (by kernel_rfl)
end
section
theorem Faq.gmap {α β : Type} (h : β → α) (mk0 : Int → β) (n : Nat) (a0_0 : LI) (a0_1 : LI) (a0_2 : Bool) (a0_3 : LI) (a0_4 : LI) (a0_5 : LI) (a0_6 : Int) (a0_7 : Int) (a0_8 : Int) (a0_9 : LI) (a0_10 : LI) (a0_11 : Bool) (a0_12 : LI) (a0_13 : Int) (a0_14 : Int) (a0_15 : LI) (a0_16 : LI) : Faq.g (fun a0 => (h (mk0 a0))) n a0_0 a0_1 a0_2 a0_3 a0_4 a0_5 a0_6 a0_7 a0_8 a0_9 a0_10 a0_11 a0_12 a0_13 a0_14 a0_15 a0_16 = (Faq.g mk0 n a0_0 a0_1 a0_2 a0_3 a0_4 a0_5 a0_6 a0_7 a0_8 a0_9 a0_10 a0_11 a0_12 a0_13 a0_14 a0_15 a0_16).map h := by
  unfold Faq.g
  exact rfl
theorem Faq.run (n : Nat) (a0_0 : LI) (a0_1 : LI) (a0_2 : Bool) (a0_3 : LI) (a0_4 : LI) (a0_5 : LI) (a0_6 : Int) (a0_7 : Int) (a0_8 : Int) (a0_9 : LI) (a0_10 : LI) (a0_11 : Bool) (a0_12 : LI) (a0_13 : Int) (a0_14 : Int) (a0_15 : LI) (a0_16 : LI) : runF (Faq.C n) (Faq.A n) n Tryd.f43 [(.agg [(.ints .u8 20 a0_0), (.ints .u64 4 a0_1), (.bool a0_2), (.ints .u8 20 a0_3), (.rints .u8 a0_4), (.rints .u8 a0_5), (.int .u64 a0_6), (.int .u64 a0_7), (.int .u64 a0_8), (.ints .u64 4 a0_9), (.ints .u64 4 a0_10), (.bool a0_11), (.ints .u8 20 a0_12), (.int .u64 a0_13), (.int .u64 a0_14), (.rints .u8 a0_15), (.rints .u8 a0_16)])] [] (fun v o => some (v, o)) = Faq.g (fun a0 => ((Prod.mk (.int .u64 a0) []) : AV × Blks)) n a0_0 a0_1 a0_2 a0_3 a0_4 a0_5 a0_6 a0_7 a0_8 a0_9 a0_10 a0_11 a0_12 a0_13 a0_14 a0_15 a0_16 := by kernel_rfl
theorem Faq.call (hmix : Tryd.prog.follows .mixedOrders = true) (n : Nat) (t : (LI × (LI × (Bool × (LI × (LI × (LI × (Int × (Int × (Int × (LI × (LI × (Bool × (LI × (Int × (Int × (LI × LI))))))))))))))))) (u) (h : Faq.m n t = some u) : FnC Tryd.prog abiG 43 (Faq.shape t).1 (Faq.shape t).2 (Faq.res u).1 (Faq.res u).2 :=
  fnC1 (C := Faq.C n) (A := Faq.A n) (fn := Tryd.f43) rfl .nil hmix Tryd.func43 (by kernel_rfl) (lp := []) (by kernel_rfl) .nil
  (nj rfl) (by decide) rfl rfl (by show 1 ≤ Tryd.f43.ntmps; decide) (Faq.run n t.1 t.2.1 t.2.2.1 t.2.2.2.1 t.2.2.2.2.1 t.2.2.2.2.2.1 t.2.2.2.2.2.2.1 t.2.2.2.2.2.2.2.1 t.2.2.2.2.2.2.2.2.1 t.2.2.2.2.2.2.2.2.2.1 t.2.2.2.2.2.2.2.2.2.2.1 t.2.2.2.2.2.2.2.2.2.2.2.1 t.2.2.2.2.2.2.2.2.2.2.2.2.1 t.2.2.2.2.2.2.2.2.2.2.2.2.2.1 t.2.2.2.2.2.2.2.2.2.2.2.2.2.2.1 t.2.2.2.2.2.2.2.2.2.2.2.2.2.2.2.1 t.2.2.2.2.2.2.2.2.2.2.2.2.2.2.2.2) (Faq.gmap Faq.res (fun a0 => a0) n t.1 t.2.1 t.2.2.1 t.2.2.2.1 t.2.2.2.2.1 t.2.2.2.2.2.1 t.2.2.2.2.2.2.1 t.2.2.2.2.2.2.2.1 t.2.2.2.2.2.2.2.2.1 t.2.2.2.2.2.2.2.2.2.1 t.2.2.2.2.2.2.2.2.2.2.1 t.2.2.2.2.2.2.2.2.2.2.2.1 t.2.2.2.2.2.2.2.2.2.2.2.2.1 t.2.2.2.2.2.2.2.2.2.2.2.2.2.1 t.2.2.2.2.2.2.2.2.2.2.2.2.2.2.1 t.2.2.2.2.2.2.2.2.2.2.2.2.2.2.2.1 t.2.2.2.2.2.2.2.2.2.2.2.2.2.2.2.2) h
theorem Faq.s (hmix : Tryd.prog.follows .mixedOrders = true) (n : Nat) : CalleeS Tryd.prog abiG 43 (Faq.c n) :=
  .mk1 (res := Faq.res) (shape := Faq.shape) (fun R u K => rfl) (fun _ _ _ h => by unfold Faq.pat at h; split at h <;> cases h; rfl) (fun t u h => Faq.call hmix n t u h) Tryd.func43 (by decide) (by kernel_rfl)
end
section
theorem Fl.gmap {α β : Type} (h : β → α) (mk0 : LI → β) (n : Nat) (a0_0 : LI) (a0_1 : LI) (a0_2 : Bool) (a0_3 : LI) (a0_4 : LI) (a0_5 : LI) (a0_6 : Int) (a0_7 : Int) (a0_8 : Int) (a0_9 : LI) (a0_10 : LI) (a0_11 : Bool) (a0_12 : LI) (a0_13 : Int) (a0_14 : Int) (a0_15 : LI) (a0_16 : LI) : Fl.g (fun a0 => (h (mk0 a0))) n a0_0 a0_1 a0_2 a0_3 a0_4 a0_5 a0_6 a0_7 a0_8 a0_9 a0_10 a0_11 a0_12 a0_13 a0_14 a0_15 a0_16 = (Fl.g mk0 n a0_0 a0_1 a0_2 a0_3 a0_4 a0_5 a0_6 a0_7 a0_8 a0_9 a0_10 a0_11 a0_12 a0_13 a0_14 a0_15 a0_16).map h := by
  unfold Fl.g
  exact (bindO_map fun r2 => (bindO_map fun r4 => (bindO_map fun r6 => rfl)))
theorem Fl.run (n : Nat) (a0_0 : LI) (a0_1 : LI) (a0_2 : Bool) (a0_3 : LI) (a0_4 : LI) (a0_5 : LI) (a0_6 : Int) (a0_7 : Int) (a0_8 : Int) (a0_9 : LI) (a0_10 : LI) (a0_11 : Bool) (a0_12 : LI) (a0_13 : Int) (a0_14 : Int) (a0_15 : LI) (a0_16 : LI) : runF (Fl.C n) (Fl.A n) n Tryd.f45 [(.agg [(.ints .u8 20 a0_0), (.ints .u64 4 a0_1), (.bool a0_2), (.ints .u8 20 a0_3), (.rints .u8 a0_4), (.rints .u8 a0_5), (.int .u64 a0_6), (.int .u64 a0_7), (.int .u64 a0_8), (.ints .u64 4 a0_9), (.ints .u64 4 a0_10), (.bool a0_11), (.ints .u8 20 a0_12), (.int .u64 a0_13), (.int .u64 a0_14), (.rints .u8 a0_15), (.rints .u8 a0_16)])] [] (fun v o => some (v, o)) = Fl.g (fun a0 => ((Prod.mk (.ints .u64 4 a0) []) : AV × Blks)) n a0_0 a0_1 a0_2 a0_3 a0_4 a0_5 a0_6 a0_7 a0_8 a0_9 a0_10 a0_11 a0_12 a0_13 a0_14 a0_15 a0_16 := by kernel_rfl
theorem Fl.call (hmix : Tryd.prog.follows .mixedOrders = true) (n : Nat) (t : (LI × (LI × (Bool × (LI × (LI × (LI × (Int × (Int × (Int × (LI × (LI × (Bool × (LI × (Int × (Int × (LI × LI))))))))))))))))) (u) (h : Fl.m n t = some u) : FnC Tryd.prog abiG 45 (Fl.shape t).1 (Fl.shape t).2 (Fl.res u).1 (Fl.res u).2 :=
  fnC1 (C := Fl.C n) (A := Fl.A n) (fn := Tryd.f45) rfl (.cons (Faq.s hmix n) (.cons (Fau.s hmix n) (.cons (Fbj.s hmix n) .nil))) hmix Tryd.func45 (by kernel_rfl) (lp := []) (by kernel_rfl) .nil
  (nj rfl) (by decide) rfl rfl (by show 1 ≤ Tryd.f45.ntmps; decide) (Fl.run n t.1 t.2.1 t.2.2.1 t.2.2.2.1 t.2.2.2.2.1 t.2.2.2.2.2.1 t.2.2.2.2.2.2.1 t.2.2.2.2.2.2.2.1 t.2.2.2.2.2.2.2.2.1 t.2.2.2.2.2.2.2.2.2.1 t.2.2.2.2.2.2.2.2.2.2.1 t.2.2.2.2.2.2.2.2.2.2.2.1 t.2.2.2.2.2.2.2.2.2.2.2.2.1 t.2.2.2.2.2.2.2.2.2.2.2.2.2.1 t.2.2.2.2.2.2.2.2.2.2.2.2.2.2.1 t.2.2.2.2.2.2.2.2.2.2.2.2.2.2.2.1 t.2.2.2.2.2.2.2.2.2.2.2.2.2.2.2.2) (Fl.gmap Fl.res (fun a0 => a0) n t.1 t.2.1 t.2.2.1 t.2.2.2.1 t.2.2.2.2.1 t.2.2.2.2.2.1 t.2.2.2.2.2.2.1 t.2.2.2.2.2.2.2.1 t.2.2.2.2.2.2.2.2.1 t.2.2.2.2.2.2.2.2.2.1 t.2.2.2.2.2.2.2.2.2.2.1 t.2.2.2.2.2.2.2.2.2.2.2.1 t.2.2.2.2.2.2.2.2.2.2.2.2.1 t.2.2.2.2.2.2.2.2.2.2.2.2.2.1 t.2.2.2.2.2.2.2.2.2.2.2.2.2.2.1 t.2.2.2.2.2.2.2.2.2.2.2.2.2.2.2.1 t.2.2.2.2.2.2.2.2.2.2.2.2.2.2.2.2) h
theorem Fl.s (hmix : Tryd.prog.follows .mixedOrders = true) (n : Nat) : CalleeS Tryd.prog abiG 45 (Fl.c n) :=
  .mk1 (res := Fl.res) (shape := Fl.shape) (fun R u K => rfl) (fun _ _ _ h => by unfold Fl.pat at h; split at h <;> cases h; rfl) (fun t u h => Fl.call hmix n t u h) Tryd.func45 (by decide) (by kernel_rfl)
end
section
theorem Fbb.gmap {α β : Type} (h : β → α) (mk0 : Bool → β) (n : Nat)  : Fbb.g (fun a0 => (h (mk0 a0))) n  = (Fbb.g mk0 n ).map h := by
  unfold Fbb.g
  exact (bindO_map fun r2 => (bindO_map fun r4 => (bindO_map fun r6 => (ite_map (ite_map (bindO_map fun r12 => (ite_map (bindO_map fun r16 => (ite_map (bindO_map fun r20 => (ite_map (ite_map (ite_map rfl rfl) rfl) rfl)) rfl)) rfl)) rfl) rfl))))
theorem Fbb.run (n : Nat)  : runF (Fbb.C n) (Fbb.A n) n Tryd.f25 [] [] (fun v o => some (v, o)) = Fbb.g (fun a0 => ((Prod.mk (.bool a0) []) : AV × Blks)) n  := by kernel_rfl
theorem Fbb.call (hmix : Tryd.prog.follows .mixedOrders = true) (n : Nat) (t : Unit) (u) (h : Fbb.m n t = some u) : FnC Tryd.prog abiG 25 (Fbb.shape t).1 (Fbb.shape t).2 (Fbb.res u).1 (Fbb.res u).2 :=
  fnC1 (C := Fbb.C n) (A := Fbb.A n) (fn := Tryd.f25) rfl (.cons (Fw.s hmix n) (.cons (Fi.s hmix n) (.cons (Fap.s hmix n) (.cons (Fl.s hmix n) .nil)))) hmix Tryd.func25 (by kernel_rfl) (lp := []) (by kernel_rfl) .nil
  (nj rfl) (by decide) rfl rfl (by show 0 ≤ Tryd.f25.ntmps; decide) (Fbb.run n ) (Fbb.gmap Fbb.res (fun a0 => a0) n ) h
theorem Fbb.s (hmix : Tryd.prog.follows .mixedOrders = true) (n : Nat) : CalleeS Tryd.prog abiG 25 (Fbb.c n) :=
  .mk1 (res := Fbb.res) (shape := Fbb.shape) (fun R u K => rfl) (fun _ _ _ h => by unfold Fbb.pat at h; split at h <;> cases h; rfl) (fun t u h => Fbb.call hmix n t u h) Tryd.func25 (by decide) (by kernel_rfl)
end
section
noncomputable section
noncomputable def Fj.C (n : Nat) : Ctx := ⟨Tryd.prog, abiG, lookC [(29, Fce.c n), (25, Fbb.c n), (30, Fi.c n), (31, Fu.c n), (19, Fm.c n), (32, Fk.c n), (33, Fab.c n), (34, Fac.c n), (35, Fbt.c n)], fun _ => false⟩
noncomputable def Fj.A (n : Nat) : Ann := ⟨Tryd.f5.ntmps, 0, noNL, [], [none], fun k => match k with
 | _ => none, noNL, lookJ []⟩
def Fj.g {α : Type} (mk0 : Bool → α) (n : Nat) (a0_0 : LI) (a0_1 : LI) (a0_2 : Bool) (a0_3 : LI) (a0_4 : LI) (a0_5 : LI) (a0_6 : Int) (a0_7 : Int) (a0_8 : Int) (a0_9 : LI) (a0_10 : LI) (a0_11 : Bool) (a0_12 : LI) (a0_13 : Int) (a0_14 : Int) (a0_15 : LI) (a0_16 : LI) (a1 : LI) (a2 : LI) (a3 : Int) (a4 : LI) : Option α :=
 bindO (Fce.m n (Prod.mk a0_0 (Prod.mk a0_1 (Prod.mk a0_2 (Prod.mk a0_3 (Prod.mk a0_4 (Prod.mk a0_5 (Prod.mk a0_6 (Prod.mk a0_7 (Prod.mk a0_8 (Prod.mk a0_9 (Prod.mk a0_10 (Prod.mk a0_11 (Prod.mk a0_12 (Prod.mk a0_13 (Prod.mk a0_14 (Prod.mk a0_15 a0_16))))))))))))))))) fun r2 =>
  if (!r2) = true then
   bindO (Fbb.m n Unit.unit) fun r6 =>
    some (mk0 r6)
  else
   if (decide ((((List.length a4) : Nat) : Int) > 1000)) = true then
    bindO (Fbb.m n Unit.unit) fun r8 =>
     some (mk0 r8)
   else
    bindO (Fi.m n (Prod.mk a0_0 (Prod.mk a0_1 (Prod.mk a0_2 (Prod.mk a0_3 (Prod.mk a0_4 (Prod.mk a0_5 (Prod.mk a0_6 (Prod.mk a0_7 (Prod.mk a0_8 (Prod.mk a0_9 (Prod.mk a0_10 (Prod.mk a0_11 (Prod.mk a0_12 (Prod.mk a0_13 (Prod.mk a0_14 (Prod.mk a0_15 (Prod.mk a0_16 (Prod.mk a1 a2))))))))))))))))))) fun r8 =>
     bindO (Fu.m n (Prod.mk a0_0 (Prod.mk a0_1 (Prod.mk a0_2 (Prod.mk a0_3 (Prod.mk a0_4 (Prod.mk a0_5 (Prod.mk a0_6 (Prod.mk a0_7 (Prod.mk a0_8 (Prod.mk a0_9 (Prod.mk a0_10 (Prod.mk a0_11 (Prod.mk a0_12 (Prod.mk a0_13 (Prod.mk a0_14 (Prod.mk a0_15 (Prod.mk a0_16 (Prod.mk a1 a2))))))))))))))))))) fun r10 =>
      bindO (Fm.m n (Prod.mk r8 r10)) fun r12 =>
       if r12 = true then
        bindO (Fk.m n (Prod.mk a0_0 (Prod.mk a0_1 (Prod.mk a0_2 (Prod.mk a0_3 (Prod.mk a0_4 (Prod.mk a0_5 (Prod.mk a0_6 (Prod.mk a0_7 (Prod.mk a0_8 (Prod.mk a0_9 (Prod.mk a0_10 (Prod.mk a0_11 (Prod.mk a0_12 (Prod.mk a0_13 (Prod.mk a0_14 (Prod.mk a0_15 (Prod.mk a0_16 (Prod.mk a1 a2))))))))))))))))))) fun r16 =>
         bindO (Fab.m n (Prod.mk a0_0 (Prod.mk a0_1 (Prod.mk a0_2 (Prod.mk a0_3 (Prod.mk a0_4 (Prod.mk a0_5 (Prod.mk a0_6 (Prod.mk a0_7 (Prod.mk a0_8 (Prod.mk a0_9 (Prod.mk a0_10 (Prod.mk a0_11 (Prod.mk a0_12 (Prod.mk a0_13 (Prod.mk a0_14 (Prod.mk a0_15 (Prod.mk a0_16 (Prod.mk a1 a2))))))))))))))))))) fun r18 =>
          bindO (Fm.m n (Prod.mk r16 r18)) fun r20 =>
           bindO (Fbb.m n Unit.unit) fun r22 =>
            if r22 = true then
             if r20 = true then
              bindO (Fac.m n (Prod.mk a3 (Prod.mk a4 (Prod.mk a1 a2)))) fun r28 =>
               bindO (Fbt.m n (Prod.mk a3 (Prod.mk a4 (Prod.mk a1 a2)))) fun r30 =>
                bindO (Fm.m n (Prod.mk r28 r30)) fun r32 =>
                 some (mk0 r32)
             else
              some (mk0 false)
            else
             some (mk0 false)
       else
        bindO (Fbb.m n Unit.unit) fun r16 =>
         if r16 = true then
          some (mk0 false)
         else
          some (mk0 false)
def Fj.m (n : Nat) (t : (LI × (LI × (Bool × (LI × (LI × (LI × (Int × (Int × (Int × (LI × (LI × (Bool × (LI × (Int × (Int × (LI × (LI × (LI × (LI × (Int × LI))))))))))))))))))))) : Option Bool := Fj.g (fun a0 => a0) n t.1 t.2.1 t.2.2.1 t.2.2.2.1 t.2.2.2.2.1 t.2.2.2.2.2.1 t.2.2.2.2.2.2.1 t.2.2.2.2.2.2.2.1 t.2.2.2.2.2.2.2.2.1 t.2.2.2.2.2.2.2.2.2.1 t.2.2.2.2.2.2.2.2.2.2.1 t.2.2.2.2.2.2.2.2.2.2.2.1 t.2.2.2.2.2.2.2.2.2.2.2.2.1 t.2.2.2.2.2.2.2.2.2.2.2.2.2.1 t.2.2.2.2.2.2.2.2.2.2.2.2.2.2.1 t.2.2.2.2.2.2.2.2.2.2.2.2.2.2.2.1 t.2.2.2.2.2.2.2.2.2.2.2.2.2.2.2.2.1 t.2.2.2.2.2.2.2.2.2.2.2.2.2.2.2.2.2.1 t.2.2.2.2.2.2.2.2.2.2.2.2.2.2.2.2.2.2.1 t.2.2.2.2.2.2.2.2.2.2.2.2.2.2.2.2.2.2.2.1 t.2.2.2.2.2.2.2.2.2.2.2.2.2.2.2.2.2.2.2.2
def Fj.shape (t : (LI × (LI × (Bool × (LI × (LI × (LI × (Int × (Int × (Int × (LI × (LI × (Bool × (LI × (Int × (Int × (LI × (LI × (LI × (LI × (Int × LI))))))))))))))))))))) : List AV × Blks := ([(.agg [(.ints .u8 20 t.1), (.ints .u64 4 t.2.1), (.bool t.2.2.1), (.ints .u8 20 t.2.2.2.1), (.rints .u8 t.2.2.2.2.1), (.rints .u8 t.2.2.2.2.2.1), (.int .u64 t.2.2.2.2.2.2.1), (.int .u64 t.2.2.2.2.2.2.2.1), (.int .u64 t.2.2.2.2.2.2.2.2.1), (.ints .u64 4 t.2.2.2.2.2.2.2.2.2.1), (.ints .u64 4 t.2.2.2.2.2.2.2.2.2.2.1), (.bool t.2.2.2.2.2.2.2.2.2.2.2.1), (.ints .u8 20 t.2.2.2.2.2.2.2.2.2.2.2.2.1), (.int .u64 t.2.2.2.2.2.2.2.2.2.2.2.2.2.1), (.int .u64 t.2.2.2.2.2.2.2.2.2.2.2.2.2.2.1), (.rints .u8 t.2.2.2.2.2.2.2.2.2.2.2.2.2.2.2.1), (.rints .u8 t.2.2.2.2.2.2.2.2.2.2.2.2.2.2.2.2.1)]), (.ints .u64 4 t.2.2.2.2.2.2.2.2.2.2.2.2.2.2.2.2.2.1), (.ints .u64 4 t.2.2.2.2.2.2.2.2.2.2.2.2.2.2.2.2.2.2.1), (.int .u64 t.2.2.2.2.2.2.2.2.2.2.2.2.2.2.2.2.2.2.2.1), (.rints .u8 t.2.2.2.2.2.2.2.2.2.2.2.2.2.2.2.2.2.2.2.2)], [])
def Fj.res : Bool → AV × Blks
 | u => (Prod.mk (.bool u) [])
end
end
section
theorem Fj.gmap {α β : Type} (h : β → α) (mk0 : Bool → β) (n : Nat) (a0_0 : LI) (a0_1 : LI) (a0_2 : Bool) (a0_3 : LI) (a0_4 : LI) (a0_5 : LI) (a0_6 : Int) (a0_7 : Int) (a0_8 : Int) (a0_9 : LI) (a0_10 : LI) (a0_11 : Bool) (a0_12 : LI) (a0_13 : Int) (a0_14 : Int) (a0_15 : LI) (a0_16 : LI) (a1 : LI) (a2 : LI) (a3 : Int) (a4 : LI) : Fj.g (fun a0 => (h (mk0 a0))) n a0_0 a0_1 a0_2 a0_3 a0_4 a0_5 a0_6 a0_7 a0_8 a0_9 a0_10 a0_11 a0_12 a0_13 a0_14 a0_15 a0_16 a1 a2 a3 a4 = (Fj.g mk0 n a0_0 a0_1 a0_2 a0_3 a0_4 a0_5 a0_6 a0_7 a0_8 a0_9 a0_10 a0_11 a0_12 a0_13 a0_14 a0_15 a0_16 a1 a2 a3 a4).map h := by
  unfold Fj.g
  exact (bindO_map fun r2 => (ite_map (bindO_map fun r6 => rfl) (ite_map (bindO_map fun r8 => rfl) (bindO_map fun r8 => (bindO_map fun r10 => (bindO_map fun r12 => (ite_map (bindO_map fun r16 => (bindO_map fun r18 => (bindO_map fun r20 => (bindO_map fun r22 => (ite_map (ite_map (bindO_map fun r28 => (bindO_map fun r30 => (bindO_map fun r32 => rfl))) rfl) rfl))))) (bindO_map fun r16 => (ite_map rfl rfl)))))))))
theorem Fj.run (n : Nat) (a0_0 : LI) (a0_1 : LI) (a0_2 : Bool) (a0_3 : LI) (a0_4 : LI) (a0_5 : LI) (a0_6 : Int) (a0_7 : Int) (a0_8 : Int) (a0_9 : LI) (a0_10 : LI) (a0_11 : Bool) (a0_12 : LI) (a0_13 : Int) (a0_14 : Int) (a0_15 : LI) (a0_16 : LI) (a1 : LI) (a2 : LI) (a3 : Int) (a4 : LI) : runF (Fj.C n) (Fj.A n) n Tryd.f5 [(.agg [(.ints .u8 20 a0_0), (.ints .u64 4 a0_1), (.bool a0_2), (.ints .u8 20 a0_3), (.rints .u8 a0_4), (.rints .u8 a0_5), (.int .u64 a0_6), (.int .u64 a0_7), (.int .u64 a0_8), (.ints .u64 4 a0_9), (.ints .u64 4 a0_10), (.bool a0_11), (.ints .u8 20 a0_12), (.int .u64 a0_13), (.int .u64 a0_14), (.rints .u8 a0_15), (.rints .u8 a0_16)]), (.ints .u64 4 a1), (.ints .u64 4 a2), (.int .u64 a3), (.rints .u8 a4)] [] (fun v o => some (v, o)) = Fj.g (fun a0 => ((Prod.mk (.bool a0) []) : AV × Blks)) n a0_0 a0_1 a0_2 a0_3 a0_4 a0_5 a0_6 a0_7 a0_8 a0_9 a0_10 a0_11 a0_12 a0_13 a0_14 a0_15 a0_16 a1 a2 a3 a4 := by kernel_rfl
theorem Fj.call (hmix : Tryd.prog.follows .mixedOrders = true) (n : Nat) (t : (LI × (LI × (Bool × (LI × (LI × (LI × (Int × (Int × (Int × (LI × (LI × (Bool × (LI × (Int × (Int × (LI × (LI × (LI × (LI × (Int × LI))))))))))))))))))))) (u) (h : Fj.m n t = some u) : FnC Tryd.prog abiG 5 (Fj.shape t).1 (Fj.shape t).2 (Fj.res u).1 (Fj.res u).2 :=
  fnC1 (C := Fj.C n) (A := Fj.A n) (fn := Tryd.f5) rfl (.cons (Fce.s hmix n) (.cons (Fbb.s hmix n) (.cons (Fi.s hmix n) (.cons (Fu.s hmix n) (.cons (Fm.s hmix n) (.cons (Fk.s hmix n) (.cons (Fab.s hmix n) (.cons (Fac.s hmix n) (.cons (Fbt.s hmix n) .nil))))))))) hmix Tryd.func5 (by kernel_rfl) (lp := []) (by kernel_rfl) .nil
  (nj rfl) (by decide) rfl rfl (by show 5 ≤ Tryd.f5.ntmps; decide) (Fj.run n t.1 t.2.1 t.2.2.1 t.2.2.2.1 t.2.2.2.2.1 t.2.2.2.2.2.1 t.2.2.2.2.2.2.1 t.2.2.2.2.2.2.2.1 t.2.2.2.2.2.2.2.2.1 t.2.2.2.2.2.2.2.2.2.1 t.2.2.2.2.2.2.2.2.2.2.1 t.2.2.2.2.2.2.2.2.2.2.2.1 t.2.2.2.2.2.2.2.2.2.2.2.2.1 t.2.2.2.2.2.2.2.2.2.2.2.2.2.1 t.2.2.2.2.2.2.2.2.2.2.2.2.2.2.1 t.2.2.2.2.2.2.2.2.2.2.2.2.2.2.2.1 t.2.2.2.2.2.2.2.2.2.2.2.2.2.2.2.2.1 t.2.2.2.2.2.2.2.2.2.2.2.2.2.2.2.2.2.1 t.2.2.2.2.2.2.2.2.2.2.2.2.2.2.2.2.2.2.1 t.2.2.2.2.2.2.2.2.2.2.2.2.2.2.2.2.2.2.2.1 t.2.2.2.2.2.2.2.2.2.2.2.2.2.2.2.2.2.2.2.2) (Fj.gmap Fj.res (fun a0 => a0) n t.1 t.2.1 t.2.2.1 t.2.2.2.1 t.2.2.2.2.1 t.2.2.2.2.2.1 t.2.2.2.2.2.2.1 t.2.2.2.2.2.2.2.1 t.2.2.2.2.2.2.2.2.1 t.2.2.2.2.2.2.2.2.2.1 t.2.2.2.2.2.2.2.2.2.2.1 t.2.2.2.2.2.2.2.2.2.2.2.1 t.2.2.2.2.2.2.2.2.2.2.2.2.1 t.2.2.2.2.2.2.2.2.2.2.2.2.2.1 t.2.2.2.2.2.2.2.2.2.2.2.2.2.2.1 t.2.2.2.2.2.2.2.2.2.2.2.2.2.2.2.1 t.2.2.2.2.2.2.2.2.2.2.2.2.2.2.2.2.1 t.2.2.2.2.2.2.2.2.2.2.2.2.2.2.2.2.2.1 t.2.2.2.2.2.2.2.2.2.2.2.2.2.2.2.2.2.2.1 t.2.2.2.2.2.2.2.2.2.2.2.2.2.2.2.2.2.2.2.1 t.2.2.2.2.2.2.2.2.2.2.2.2.2.2.2.2.2.2.2.2) h
end
