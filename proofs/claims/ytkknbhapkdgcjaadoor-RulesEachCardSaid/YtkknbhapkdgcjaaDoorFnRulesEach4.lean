/- What the program's functions compute, as plain functions, each with its proof: the function does just that. Condition: the plain function has an answer. -/
import Derived.Test.YtkknbhapkdgcjaaDoorFnRulesEach2
import Derived.Test.YtkknbhapkdgcjaaDoorFnRulesEach3
set_option linter.unusedVariables false
set_option linter.unusedSimpArgs false
set_option maxRecDepth 100000
open Go Go.Abs Go.Proofs
section
noncomputable abbrev Fag.R0 (n : Nat) := roundOf (Fag.C n) (Fag.A n) n Fag.b0
theorem Fag.l12_0.rmap {α β : Type} (h : β → α) (mk0 : Bool → β) (mk1 : β) (n : Nat) (f : Int → LA → LA → Option β)  (x0 : Int) (x1 : LA) (x2 : LA) : Fag.l12_0.r (fun a0 => (h (mk0 a0))) (h mk1) n (fun y0 y1 y2 => (f y0 y1 y2).map h) x0 x1 x2 = (Fag.l12_0.r mk0 mk1 n f x0 x1 x2).map h := by
  unfold Fag.l12_0.r
  exact (ite_map (ite_map (ite_map (bindO_map fun r10 => (bindO_map fun r12 => (bindO_map fun r14 => (bindO_map fun r16 => (ite_map (ite_map (bindO_map fun r22 => (bindO_map fun r24 => (bindO_map fun r26 => (bindO_map fun r28 => (ite_map rfl rfl))))) rfl) rfl))))) rfl) rfl) rfl)
theorem Fag.l12_0.gmap {α β : Type} (h : β → α) (mk0 : Bool → β) (mk1 : β) (n : Nat) : ∀ (m : Nat) (x0 : Int) (x1 : LA) (x2 : LA), Fag.l12_0.g (fun a0 => (h (mk0 a0))) (h mk1) n m x0 x1 x2 = (Fag.l12_0.g mk0 mk1 n m x0 x1 x2).map h
  | 0, _, _, _ => rfl
  | m + 1, x0, x1, x2 => by
    unfold Fag.l12_0.g
    rw [← Fag.l12_0.rmap]
    congr
    · funext y0 y1 y2; exact Fag.l12_0.gmap h mk0 mk1 n m y0 y1 y2
theorem Fag.l12_0.pat_shape : ∀ st t, Fag.l12_0.pat st = some t → st = Fag.l12_0.shape t := fun _ _ h => by unfold Fag.l12_0.pat at h; split at h <;> cases h; rfl
def Fag.l12_0.k0 : Bool → Ex × St := (fun a0 => ((.ret, (St.mk [(.bool a0)] [])) : Ex × St))
def Fag.l12_0.k1 : Ex × St := (((.exit 0), (St.mk [.any] [])) : Ex × St)
theorem Fag.l12_0.round (n : Nat) (rc : St → Option (Ex × St)) (x0 : Int) (x1 : LA) (x2 : LA) : Fag.R0 n rc ((St.mk [(.int .i64 x0), (.own 0 3), (.own 1 3)] [(some (.objs 41 3 x1)), (some (.objs 41 3 x2))])) = Fag.l12_0.r Fag.l12_0.k0 Fag.l12_0.k1 n (fun y0 y1 y2 => rc ((St.mk [(.int .i64 y0), (.own 0 3), (.own 1 3)] [(some (.objs 41 3 y1)), (some (.objs 41 3 y2))]))) x0 x1 x2 := by kernel_rfl
theorem Fag.l12_0.loop' (n : Nat) : ∀ (m : Nat) (t : (Int × (LA × LA))), loopOf (Fag.R0 n) m (Fag.l12_0.shape t) = Fag.l12_0.g Fag.l12_0.k0 Fag.l12_0.k1 n m t.1 t.2.1 t.2.2 :=
  loop_of_round (shape := Fag.l12_0.shape) (body := Fag.R0 n) (g := fun m t => Fag.l12_0.g Fag.l12_0.k0 Fag.l12_0.k1 n m t.1 t.2.1 t.2.2) (fun t => rfl)
    fun m t ih => (Fag.l12_0.round n (loopOf (Fag.R0 n) m) t.1 t.2.1 t.2.2).trans (congrFun (congrFun (congrFun (congrArg (Fag.l12_0.r Fag.l12_0.k0 Fag.l12_0.k1 n) (funext fun y0 => funext fun y1 => funext fun y2 => ih (y0, y1, y2))) t.1) t.2.1) t.2.2)
theorem Fag.l12_0.loop (n m : Nat) (t : (Int × (LA × LA))) : loopOf (Fag.R0 n) m (Fag.l12_0.shape t) = (Fag.l12_0.m n m t).map Fag.l12_0.res :=
  (Fag.l12_0.loop' n m t).trans (Fag.l12_0.gmap Fag.l12_0.res (fun a0 => (.inl a0)) (.inr ()) n m t.1 t.2.1 t.2.2)
theorem Fag.gmap {α β : Type} (h : β → α) (mk0 : Bool → β) (n : Nat) (a0 : LA) (a1_0 : LI) (a1_1 : LI) (a1_2 : Bool) (a1_3 : LI) (a1_4 : LI) (a1_5 : LI) (a1_6 : Int) (a1_7 : Int) (a1_8 : Int) (a1_9 : LI) (a1_10 : LI) (a1_11 : Bool) (a1_12 : LI) (a1_13 : Int) (a1_14 : Int) (a1_15 : LI) (a1_16 : LI) (a2 : LA) (a3 : LA) (a4 : LA) (a5_0 : Bool) (a5_1 : Bool) (a5_2 : Bool) (a5_3 : Bool) : Fag.g (fun a0 => (h (mk0 a0))) n a0 a1_0 a1_1 a1_2 a1_3 a1_4 a1_5 a1_6 a1_7 a1_8 a1_9 a1_10 a1_11 a1_12 a1_13 a1_14 a1_15 a1_16 a2 a3 a4 a5_0 a5_1 a5_2 a5_3 = (Fag.g mk0 n a0 a1_0 a1_1 a1_2 a1_3 a1_4 a1_5 a1_6 a1_7 a1_8 a1_9 a1_10 a1_11 a1_12 a1_13 a1_14 a1_15 a1_16 a2 a3 a4 a5_0 a5_1 a5_2 a5_3).map h := by
  unfold Fag.g
  exact (bindO_map fun r2 => (ite_map (bindO_map fun r6 => rfl) (bindO_map fun r6 => (ite_map (bindO_map fun r10 => rfl) (bindO_map fun r10 => (ite_map (bindO_map fun r14 => rfl) (bindO_map fun r14 => (ite_map (bindO_map fun r18 => rfl) (bindO_map fun r18 => (bindO_map fun r20 => (bindO_map fun r22 => (ite_map (bindO_map fun r26 => (ite_map (bindO_map fun r30 => (ite_map (ite_map rfl (bindO_map fun r36 => match r36 with | (.inl r36) => rfl | (.inr r36) => rfl)) rfl)) rfl)) rfl))))))))))))
theorem Fag.run (n : Nat) (a0 : LA) (a1_0 : LI) (a1_1 : LI) (a1_2 : Bool) (a1_3 : LI) (a1_4 : LI) (a1_5 : LI) (a1_6 : Int) (a1_7 : Int) (a1_8 : Int) (a1_9 : LI) (a1_10 : LI) (a1_11 : Bool) (a1_12 : LI) (a1_13 : Int) (a1_14 : Int) (a1_15 : LI) (a1_16 : LI) (a2 : LA) (a3 : LA) (a4 : LA) (a5_0 : Bool) (a5_1 : Bool) (a5_2 : Bool) (a5_3 : Bool) : runF (Fag.C n) (Fag.A n) n Tryd.f5 [(.robjs 72 27 a0), (.agg [(.ints .u8 20 a1_0), (.ints .u64 4 a1_1), (.bool a1_2), (.ints .u8 20 a1_3), (.rints .u8 a1_4), (.rints .u8 a1_5), (.int .u64 a1_6), (.int .u64 a1_7), (.int .u64 a1_8), (.ints .u64 4 a1_9), (.ints .u64 4 a1_10), (.bool a1_11), (.ints .u8 20 a1_12), (.int .u64 a1_13), (.int .u64 a1_14), (.rints .u8 a1_15), (.rints .u8 a1_16)]), (.robjs 47 32 a2), (.robjs 47 32 a3), (.robjs 47 32 a4), (.agg [(.bool a5_0), (.bool a5_1), (.bool a5_2), (.bool a5_3)])] [] (fun v o => some (v, o)) = Fag.g (fun a0 => (((.bool a0), []) : AV × Blks)) n a0 a1_0 a1_1 a1_2 a1_3 a1_4 a1_5 a1_6 a1_7 a1_8 a1_9 a1_10 a1_11 a1_12 a1_13 a1_14 a1_15 a1_16 a2 a3 a4 a5_0 a5_1 a5_2 a5_3 := by kernel_rfl
theorem Fag.call (hmix : Tryd.prog.follows .mixedOrders = true) (n : Nat) (t : (LA × (LI × (LI × (Bool × (LI × (LI × (LI × (Int × (Int × (Int × (LI × (LI × (Bool × (LI × (Int × (Int × (LI × (LI × (LA × (LA × (LA × (Bool × (Bool × (Bool × Bool))))))))))))))))))))))))) (u) (h : Fag.m n t = some u) : FnC Tryd.prog kecG 5 (Fag.shape t).1 (Fag.shape t).2 (Fag.res u).1 (Fag.res u).2 :=
  fnC1 (C := Fag.C n) (A := Fag.A n) (fn := Tryd.f5) rfl (.cons (Fay.s hmix n) (.cons (Faz.s hmix n) (.cons (Fax.s hmix n) (.cons (Fam.s hmix n) .nil)))) hmix Tryd.func5 (by kernel_rfl) (lp := [Fag.b0]) (by kernel_rfl) (.cons (show (Fag.A n).loop (key Fag.b0) = some (.mk' Fag.l12_0.pat (Fag.l12_0.m n n) Fag.l12_0.resK) by kernel_rfl) (LoopS.of (res := Fag.l12_0.res) (fun R u K => by rcases u with u | u <;> rfl) Fag.l12_0.pat_shape fun t => Fag.l12_0.loop n n t)
  .nil)
  (nj rfl) (by decide) rfl rfl (by show 6 ≤ Tryd.f5.ntmps; decide) (Fag.run n t.1 t.2.1 t.2.2.1 t.2.2.2.1 t.w.1 t.w.2.1 t.w.2.2.1 t.w.2.2.2.1 t.x.1 t.x.2.1 t.x.2.2.1 t.x.2.2.2.1 t.x.w.1 t.x.w.2.1 t.x.w.2.2.1 t.x.w.2.2.2.1 t.y.1 t.y.2.1 t.y.2.2.1 t.y.2.2.2.1 t.y.w.1 t.y.w.2.1 t.y.w.2.2.1 t.y.w.2.2.2.1 t.y.x) (Fag.gmap Fag.res (fun a0 => a0) n t.1 t.2.1 t.2.2.1 t.2.2.2.1 t.w.1 t.w.2.1 t.w.2.2.1 t.w.2.2.2.1 t.x.1 t.x.2.1 t.x.2.2.1 t.x.2.2.2.1 t.x.w.1 t.x.w.2.1 t.x.w.2.2.1 t.x.w.2.2.2.1 t.y.1 t.y.2.1 t.y.2.2.1 t.y.2.2.2.1 t.y.w.1 t.y.w.2.1 t.y.w.2.2.1 t.y.w.2.2.2.1 t.y.x) h
end
