/- What the program's functions compute, as plain functions, each with its proof: the function does just that. Condition: the plain function has an answer. -/
import Derived.Test.YtehhocoldpdijaaDoorFnUseropChecks3
import Derived.Test.YtehhocoldpdijaaDoorFnUseropChecks2
import Derived.Test.YtehhocoldpdijaaDoorFnUseropChecks1
import Derived.Test.YtehhocoldpdijaaDoorAbsF6
import Derived.Test.YtehhocoldpdijaaDoorProg
set_option linter.unusedVariables false
set_option linter.unusedSimpArgs false
set_option maxRecDepth 100000
open Go Go.Abs Go.Proofs
section
theorem userop_Pack.gmap {α β : Type} (h : β → α) (mk0 : (List AV) → β) (n : Nat) (a0_0 : (List Int)) (a0_1 : (List Int)) (a0_2 : Bool) (a0_3 : (List Int)) (a0_4 : (List Int)) (a0_5 : (List Int)) (a0_6 : Int) (a0_7 : Int) (a0_8 : Int) (a0_9 : (List Int)) (a0_10 : (List Int)) (a0_11 : Bool) (a0_12 : (List Int)) (a0_13 : Int) (a0_14 : Int) (a0_15 : (List Int)) (a0_16 : (List Int)) : userop_Pack.g (fun a0 => (h (mk0 a0))) n a0_0 a0_1 a0_2 a0_3 a0_4 a0_5 a0_6 a0_7 a0_8 a0_9 a0_10 a0_11 a0_12 a0_13 a0_14 a0_15 a0_16 = (userop_Pack.g mk0 n a0_0 a0_1 a0_2 a0_3 a0_4 a0_5 a0_6 a0_7 a0_8 a0_9 a0_10 a0_11 a0_12 a0_13 a0_14 a0_15 a0_16).map h := by
  unfold userop_Pack.g
  exact (bindO_map fun r2 => (bindO_map fun r4 => (ite_map (bindO_map fun r8 => (ite_map (bindO_map fun r12 => (bindO_map fun r14 => (bindO_map fun r16 => (bindO_map fun r18 => (bindO_map fun r20 => (bindO_map fun r22 => (bindO_map fun r24 => (bindO_map fun r26 => (bindO_map fun r28 => (bindO_map fun r30 => (bindO_map fun r32 => (bindO_map fun r34 => (bindO_map fun r36 => (bindO_map fun r38 => (bindO_map fun r40 => (bindO_map fun r42 => rfl)))))))))))))))) (bindO_map fun r12 => (bindO_map fun r14 => (bindO_map fun r16 => (bindO_map fun r18 => (bindO_map fun r20 => (bindO_map fun r22 => (bindO_map fun r24 => (bindO_map fun r26 => (bindO_map fun r28 => (bindO_map fun r30 => (bindO_map fun r32 => (bindO_map fun r34 => (bindO_map fun r36 => rfl))))))))))))))) (ite_map (bindO_map fun r10 => (bindO_map fun r12 => (bindO_map fun r14 => (bindO_map fun r16 => (bindO_map fun r18 => (bindO_map fun r20 => (bindO_map fun r22 => (bindO_map fun r24 => (bindO_map fun r26 => (bindO_map fun r28 => (bindO_map fun r30 => (bindO_map fun r32 => (bindO_map fun r34 => (bindO_map fun r36 => (bindO_map fun r38 => (bindO_map fun r40 => rfl)))))))))))))))) (bindO_map fun r10 => (bindO_map fun r12 => (bindO_map fun r14 => (bindO_map fun r16 => (bindO_map fun r18 => (bindO_map fun r20 => (bindO_map fun r22 => (bindO_map fun r24 => (bindO_map fun r26 => (bindO_map fun r28 => (bindO_map fun r30 => (bindO_map fun r32 => (bindO_map fun r34 => rfl)))))))))))))))))
theorem userop_Pack.run (n : Nat) (a0_0 : (List Int)) (a0_1 : (List Int)) (a0_2 : Bool) (a0_3 : (List Int)) (a0_4 : (List Int)) (a0_5 : (List Int)) (a0_6 : Int) (a0_7 : Int) (a0_8 : Int) (a0_9 : (List Int)) (a0_10 : (List Int)) (a0_11 : Bool) (a0_12 : (List Int)) (a0_13 : Int) (a0_14 : Int) (a0_15 : (List Int)) (a0_16 : (List Int)) : runF (userop_Pack.C n) (userop_Pack.A n) n Tryd.f38 [(.agg [(.ints .u8 20 a0_0), (.ints .u64 4 a0_1), (.bool a0_2), (.ints .u8 20 a0_3), (.rints .u8 a0_4), (.rints .u8 a0_5), (.int .u64 a0_6), (.int .u64 a0_7), (.int .u64 a0_8), (.ints .u64 4 a0_9), (.ints .u64 4 a0_10), (.bool a0_11), (.ints .u8 20 a0_12), (.int .u64 a0_13), (.int .u64 a0_14), (.rints .u8 a0_15), (.rints .u8 a0_16)])] [] (fun v o => some (v, o)) = userop_Pack.g (fun a0 => ((Prod.mk (.robjs 69 6 a0) []) : AV × Blks)) n a0_0 a0_1 a0_2 a0_3 a0_4 a0_5 a0_6 a0_7 a0_8 a0_9 a0_10 a0_11 a0_12 a0_13 a0_14 a0_15 a0_16 := by kernel_rfl
theorem userop_Pack.call (hmix : Tryd.prog.follows .mixedOrders = true) (n : Nat) (t : ((List Int) × ((List Int) × (Bool × ((List Int) × ((List Int) × ((List Int) × (Int × (Int × (Int × ((List Int) × ((List Int) × (Bool × ((List Int) × (Int × (Int × ((List Int) × (List Int)))))))))))))))))) (u) (h : userop_Pack.m n t = some u) : FnC Tryd.prog abiG 38 (userop_Pack.shape t).1 (userop_Pack.shape t).2 (userop_Pack.res u).1 (userop_Pack.res u).2 := by
  have hg : ∀ f m, (userop_Pack.C n).Γ f = some m → CalleeS Tryd.prog abiG f m := by
    intro f m hm
    unfold userop_Pack.C at hm
    simp only at hm
    first
    | (cases hm; done)
    | (split at hm <;> first
    | (cases hm; exact userop_piece.s hmix n)
    | (cases hm; exact userop_half.s hmix n)
    | (cases hm; exact word_From.s hmix n)
    | (cases hm; exact userop_halves.s hmix n)
    | (cases hm; exact word_Wide.s hmix n)
    | (cases hm; exact userop_part.s hmix n)
    | (cases hm; done))
  have hb : Tryd.f38.body = some (Tryd.f38.body.getD .skip) := by kernel_rfl
  refine runF_calls (C := userop_Pack.C n) (A := userop_Pack.A n) (n := n) (fn := Tryd.f38) hg hmix Tryd.func38 hb ?_ ?_ (by decide) rfl rfl (by show 1 ≤ Tryd.f38.ntmps; decide) ?_
  · rw [show loopsIn (Tryd.f38.body.getD .skip) = [] by kernel_rfl]
    intro b hb
    cases hb
  · intro a ha m hm
    cases (show none = some m from hm)
  · rw [show runF (userop_Pack.C n) (userop_Pack.A n) n Tryd.f38 (userop_Pack.shape t).1 (userop_Pack.shape t).2 (fun v o => some (v, o)) = _ from userop_Pack.run n t.1 t.2.1 t.2.2.1 t.2.2.2.1 t.2.2.2.2.1 t.2.2.2.2.2.1 t.2.2.2.2.2.2.1 t.2.2.2.2.2.2.2.1 t.2.2.2.2.2.2.2.2.1 t.2.2.2.2.2.2.2.2.2.1 t.2.2.2.2.2.2.2.2.2.2.1 t.2.2.2.2.2.2.2.2.2.2.2.1 t.2.2.2.2.2.2.2.2.2.2.2.2.1 t.2.2.2.2.2.2.2.2.2.2.2.2.2.1 t.2.2.2.2.2.2.2.2.2.2.2.2.2.2.1 t.2.2.2.2.2.2.2.2.2.2.2.2.2.2.2.1 t.2.2.2.2.2.2.2.2.2.2.2.2.2.2.2.2]
    have e := userop_Pack.gmap userop_Pack.res (fun a0 => a0) n t.1 t.2.1 t.2.2.1 t.2.2.2.1 t.2.2.2.2.1 t.2.2.2.2.2.1 t.2.2.2.2.2.2.1 t.2.2.2.2.2.2.2.1 t.2.2.2.2.2.2.2.2.1 t.2.2.2.2.2.2.2.2.2.1 t.2.2.2.2.2.2.2.2.2.2.1 t.2.2.2.2.2.2.2.2.2.2.2.1 t.2.2.2.2.2.2.2.2.2.2.2.2.1 t.2.2.2.2.2.2.2.2.2.2.2.2.2.1 t.2.2.2.2.2.2.2.2.2.2.2.2.2.2.1 t.2.2.2.2.2.2.2.2.2.2.2.2.2.2.2.1 t.2.2.2.2.2.2.2.2.2.2.2.2.2.2.2.2
    unfold userop_Pack.m at h
    rw [h] at e
    exact e
theorem userop_Pack.s (hmix : Tryd.prog.follows .mixedOrders = true) (n : Nat) : CalleeS Tryd.prog abiG 38 (userop_Pack.c n) :=
  CalleeS.of (res := userop_Pack.res) (shape := userop_Pack.shape) (fun R u K => rfl) (fun args lent t h => by
    unfold userop_Pack.pat at h
    split at h
    · cases h; rfl
    · cases h) fun t u h => (userop_Pack.call hmix n t u h).ok Tryd.func38 (by decide) (by kernel_rfl)
end
section
theorem abi_number.gmap {α β : Type} (h : β → α) (mk0 : (List Int) → β) (n : Nat) (a0 : Int) : abi_number.g (fun a0 => (h (mk0 a0))) n a0 = (abi_number.g mk0 n a0).map h := by
  unfold abi_number.g
  exact (bindO_map fun r2 => (bindO_map fun r4 => rfl))
theorem abi_number.run (n : Nat) (a0 : Int) : runF (abi_number.C n) (abi_number.A n) n Tryd.f61 [(.int .i64 a0)] [] (fun v o => some (v, o)) = abi_number.g (fun a0 => ((Prod.mk (.own 0 1) [(some (.ints .u8 a0))]) : AV × Blks)) n a0 := by kernel_rfl
theorem abi_number.call (hmix : Tryd.prog.follows .mixedOrders = true) (n : Nat) (t : Int) (u) (h : abi_number.m n t = some u) : FnC Tryd.prog abiG 61 (abi_number.shape t).1 (abi_number.shape t).2 (abi_number.res u).1 (abi_number.res u).2 := by
  have hg : ∀ f m, (abi_number.C n).Γ f = some m → CalleeS Tryd.prog abiG f m := by
    intro f m hm
    unfold abi_number.C at hm
    simp only at hm
    first
    | (cases hm; done)
    | (split at hm <;> first
    | (cases hm; exact word_From.s hmix n)
    | (cases hm; exact word_Bytes.s hmix n)
    | (cases hm; done))
  have hb : Tryd.f61.body = some (Tryd.f61.body.getD .skip) := by kernel_rfl
  refine runF_calls (C := abi_number.C n) (A := abi_number.A n) (n := n) (fn := Tryd.f61) hg hmix Tryd.func61 hb ?_ ?_ (by decide) rfl rfl (by show 1 ≤ Tryd.f61.ntmps; decide) ?_
  · rw [show loopsIn (Tryd.f61.body.getD .skip) = [] by kernel_rfl]
    intro b hb
    cases hb
  · intro a ha m hm
    cases (show none = some m from hm)
  · rw [show runF (abi_number.C n) (abi_number.A n) n Tryd.f61 (abi_number.shape t).1 (abi_number.shape t).2 (fun v o => some (v, o)) = _ from abi_number.run n t]
    have e := abi_number.gmap abi_number.res (fun a0 => a0) n t
    unfold abi_number.m at h
    rw [h] at e
    exact e
theorem abi_number.s (hmix : Tryd.prog.follows .mixedOrders = true) (n : Nat) : CalleeS Tryd.prog abiG 61 (abi_number.c n) :=
  CalleeS.of (res := abi_number.res) (shape := abi_number.shape) (fun R u K => rfl) (fun args lent t h => by
    unfold abi_number.pat at h
    split at h
    · cases h; rfl
    · cases h) fun t u h => (abi_number.call hmix n t u h).ok Tryd.func61 (by decide) (by kernel_rfl)
end
section
theorem abi_Encode.l3_0.rmap {α β : Type} (h : β → α) (mk0 : (List Int) → (List Int) → β) (n : Nat) (f : Int → Int → (List AV) → (List AV) → (List Int) → (List Int) → Option β)  (x0 : Int) (x1 : Int) (x2 : (List AV)) (x3 : (List AV)) (x4 : (List Int)) (x5 : (List Int)) : abi_Encode.l3_0.r (fun a0 a1 => (h (mk0 a0 a1))) n (fun y0 y1 y2 y3 y4 y5 => (f y0 y1 y2 y3 y4 y5).map h) x0 x1 x2 x3 x4 x5 = (abi_Encode.l3_0.r mk0 n f x0 x1 x2 x3 x4 x5).map h := by
  unfold abi_Encode.l3_0.r
  exact (ite_map (ite_map (ite_map (bindO_map fun r10 => (bindO_map fun r12 => (bindO_map fun r14 => (bindO_map fun r16 => (ite_map (bindO_map fun r20 => (ite_map rfl rfl)) (bindO_map fun r20 => (ite_map (bindO_map fun r24 => (ite_map (ite_map (ite_map (ite_map rfl rfl) rfl) rfl) rfl)) rfl))))))) rfl) rfl) rfl)
theorem abi_Encode.l3_0.gmap {α β : Type} (h : β → α) (mk0 : (List Int) → (List Int) → β) (n : Nat) : ∀ (m : Nat) (x0 : Int) (x1 : Int) (x2 : (List AV)) (x3 : (List AV)) (x4 : (List Int)) (x5 : (List Int)), abi_Encode.l3_0.g (fun a0 a1 => (h (mk0 a0 a1))) n m x0 x1 x2 x3 x4 x5 = (abi_Encode.l3_0.g mk0 n m x0 x1 x2 x3 x4 x5).map h
  | 0, _, _, _, _, _, _ => rfl
  | m + 1, x0, x1, x2, x3, x4, x5 => by
    unfold abi_Encode.l3_0.g
    rw [← abi_Encode.l3_0.rmap]
    congr
    · funext y0 y1 y2 y3 y4 y5; exact abi_Encode.l3_0.gmap h mk0 n m y0 y1 y2 y3 y4 y5
theorem abi_Encode.l3_0.pat_shape : ∀ st t, abi_Encode.l3_0.pat st = some t → st = abi_Encode.l3_0.shape t := by
  intro st t h
  unfold abi_Encode.l3_0.pat at h
  split at h
  · cases h; rfl
  · cases h
theorem abi_Encode.l3_0.round (n : Nat) (rc : St → Option (Ex × St)) (x0 : Int) (x1 : Int) (x2 : (List AV)) (x3 : (List AV)) (x4 : (List Int)) (x5 : (List Int)) : roundOf (abi_Encode.C n) (abi_Encode.A n) n abi_Encode.b0 rc ((St.mk [(.int .i64 x0), (.int .i64 x1), (.robjs 69 6 x2), (.own 0 1), (.robjs 69 6 x3), (.own 1 1)] [(some (.ints .u8 x4)), (some (.ints .u8 x5))])) = abi_Encode.l3_0.r (fun a0 a1 => ((Prod.mk (.exit 0) (St.mk [(.own 0 1), (.own 1 1)] [(some (.ints .u8 a0)), (some (.ints .u8 a1))])) : Ex × St)) n (fun y0 y1 y2 y3 y4 y5 => rc ((St.mk [(.int .i64 y0), (.int .i64 y1), (.robjs 69 6 y2), (.own 0 1), (.robjs 69 6 y3), (.own 1 1)] [(some (.ints .u8 y4)), (some (.ints .u8 y5))]))) x0 x1 x2 x3 x4 x5 := by kernel_rfl
theorem abi_Encode.l3_0.loop' (n : Nat) : ∀ (m : Nat) (t : (Int × (Int × ((List AV) × ((List AV) × ((List Int) × (List Int))))))), loopOf (roundOf (abi_Encode.C n) (abi_Encode.A n) n abi_Encode.b0) m (abi_Encode.l3_0.shape t) = abi_Encode.l3_0.g (fun a0 a1 => ((Prod.mk (.exit 0) (St.mk [(.own 0 1), (.own 1 1)] [(some (.ints .u8 a0)), (some (.ints .u8 a1))])) : Ex × St)) n m t.1 t.2.1 t.2.2.1 t.2.2.2.1 t.2.2.2.2.1 t.2.2.2.2.2 :=
  loop_of_round (shape := abi_Encode.l3_0.shape) (body := roundOf (abi_Encode.C n) (abi_Encode.A n) n abi_Encode.b0) (g := fun m t => abi_Encode.l3_0.g (fun a0 a1 => ((Prod.mk (.exit 0) (St.mk [(.own 0 1), (.own 1 1)] [(some (.ints .u8 a0)), (some (.ints .u8 a1))])) : Ex × St)) n m t.1 t.2.1 t.2.2.1 t.2.2.2.1 t.2.2.2.2.1 t.2.2.2.2.2) (fun t => rfl)
    fun m t ih => (abi_Encode.l3_0.round n (loopOf (roundOf (abi_Encode.C n) (abi_Encode.A n) n abi_Encode.b0) m) t.1 t.2.1 t.2.2.1 t.2.2.2.1 t.2.2.2.2.1 t.2.2.2.2.2).trans (congrFun (congrFun (congrFun (congrFun (congrFun (congrFun (congrArg (abi_Encode.l3_0.r (fun a0 a1 => ((Prod.mk (.exit 0) (St.mk [(.own 0 1), (.own 1 1)] [(some (.ints .u8 a0)), (some (.ints .u8 a1))])) : Ex × St)) n) (funext fun y0 => funext fun y1 => funext fun y2 => funext fun y3 => funext fun y4 => funext fun y5 => ih (y0, y1, y2, y3, y4, y5))) t.1) t.2.1) t.2.2.1) t.2.2.2.1) t.2.2.2.2.1) t.2.2.2.2.2)
theorem abi_Encode.l3_0.loop (n m : Nat) (t : (Int × (Int × ((List AV) × ((List AV) × ((List Int) × (List Int))))))) : loopOf (roundOf (abi_Encode.C n) (abi_Encode.A n) n abi_Encode.b0) m (abi_Encode.l3_0.shape t) = (abi_Encode.l3_0.m n m t).map abi_Encode.l3_0.res :=
  (abi_Encode.l3_0.loop' n m t).trans (abi_Encode.l3_0.gmap abi_Encode.l3_0.res (fun a0 a1 => (a0, a1)) n m t.1 t.2.1 t.2.2.1 t.2.2.2.1 t.2.2.2.2.1 t.2.2.2.2.2)
theorem abi_Encode.gmap {α β : Type} (h : β → α) (mk0 : (List Int) → β) (n : Nat) (a0 : (List AV)) : abi_Encode.g (fun a0 => (h (mk0 a0))) n a0 = (abi_Encode.g mk0 n a0).map h := by
  unfold abi_Encode.g
  exact (bindO_map fun r2 => (ite_map rfl rfl))
theorem abi_Encode.run (n : Nat) (a0 : (List AV)) : runF (abi_Encode.C n) (abi_Encode.A n) n Tryd.f20 [(.robjs 69 6 a0)] [] (fun v o => some (v, o)) = abi_Encode.g (fun a0 => ((Prod.mk (.own 0 1) [(some (.ints .u8 a0))]) : AV × Blks)) n a0 := by kernel_rfl
theorem abi_Encode.call (hmix : Tryd.prog.follows .mixedOrders = true) (n : Nat) (t : (List AV)) (u) (h : abi_Encode.m n t = some u) : FnC Tryd.prog abiG 20 (abi_Encode.shape t).1 (abi_Encode.shape t).2 (abi_Encode.res u).1 (abi_Encode.res u).2 := by
  have hg : ∀ f m, (abi_Encode.C n).Γ f = some m → CalleeS Tryd.prog abiG f m := by
    intro f m hm
    unfold abi_Encode.C at hm
    simp only at hm
    first
    | (cases hm; done)
    | (split at hm <;> first
    | (cases hm; exact word_Bytes.s hmix n)
    | (cases hm; exact abi_number.s hmix n)
    | (cases hm; done))
  have hb : Tryd.f20.body = some (Tryd.f20.body.getD .skip) := by kernel_rfl
  refine runF_calls (C := abi_Encode.C n) (A := abi_Encode.A n) (n := n) (fn := Tryd.f20) hg hmix Tryd.func20 hb ?_ ?_ (by decide) rfl rfl (by show 1 ≤ Tryd.f20.ntmps; decide) ?_
  · rw [show loopsIn (Tryd.f20.body.getD .skip) = [abi_Encode.b0] by kernel_rfl]
    intro b hb m hm
    simp only [List.mem_cons, List.not_mem_nil, or_false] at hb
    rcases hb with rfl
    · have e : (abi_Encode.A n).loop (key abi_Encode.b0) = some (.mk' abi_Encode.l3_0.pat (abi_Encode.l3_0.m n n) abi_Encode.l3_0.resK) := by rw [show key abi_Encode.b0 = 3 by kernel_rfl]; rfl
      rw [e] at hm
      cases hm
      exact (LoopS.of (res := abi_Encode.l3_0.res) (fun R u K => rfl) abi_Encode.l3_0.pat_shape fun t => abi_Encode.l3_0.loop n n t)
  · intro a ha m hm
    cases (show none = some m from hm)
  · rw [show runF (abi_Encode.C n) (abi_Encode.A n) n Tryd.f20 (abi_Encode.shape t).1 (abi_Encode.shape t).2 (fun v o => some (v, o)) = _ from abi_Encode.run n t]
    have e := abi_Encode.gmap abi_Encode.res (fun a0 => a0) n t
    unfold abi_Encode.m at h
    rw [h] at e
    exact e
theorem abi_Encode.s (hmix : Tryd.prog.follows .mixedOrders = true) (n : Nat) : CalleeS Tryd.prog abiG 20 (abi_Encode.c n) :=
  CalleeS.of (res := abi_Encode.res) (shape := abi_Encode.shape) (fun R u K => rfl) (fun args lent t h => by
    unfold abi_Encode.pat at h
    split at h
    · cases h; rfl
    · cases h) fun t u h => (abi_Encode.call hmix n t u h).ok Tryd.func20 (by decide) (by kernel_rfl)
end
section
theorem userop_asked.gmap {α β : Type} (h : β → α) (mk0 : (List Int) → β) (n : Nat) (a0 : ByteArray) (a1_0 : (List Int)) (a1_1 : (List Int)) (a1_2 : Bool) (a1_3 : (List Int)) (a1_4 : (List Int)) (a1_5 : (List Int)) (a1_6 : Int) (a1_7 : Int) (a1_8 : Int) (a1_9 : (List Int)) (a1_10 : (List Int)) (a1_11 : Bool) (a1_12 : (List Int)) (a1_13 : Int) (a1_14 : Int) (a1_15 : (List Int)) (a1_16 : (List Int)) (a2 : (List Int)) (a3 : (List Int)) : userop_asked.g (fun a0 => (h (mk0 a0))) n a0 a1_0 a1_1 a1_2 a1_3 a1_4 a1_5 a1_6 a1_7 a1_8 a1_9 a1_10 a1_11 a1_12 a1_13 a1_14 a1_15 a1_16 a2 a3 = (userop_asked.g mk0 n a0 a1_0 a1_1 a1_2 a1_3 a1_4 a1_5 a1_6 a1_7 a1_8 a1_9 a1_10 a1_11 a1_12 a1_13 a1_14 a1_15 a1_16 a2 a3).map h := by
  unfold userop_asked.g
  exact (ite_map (bindO_map fun r4 => (bindO_map fun r6 => (bindO_map fun r8 => (bindO_map fun r10 => (bindO_map fun r12 => (bindO_map fun r14 => (bindO_map fun r16 => (bindO_map fun r18 => rfl)))))))) rfl)
theorem userop_asked.run (n : Nat) (a0 : ByteArray) (a1_0 : (List Int)) (a1_1 : (List Int)) (a1_2 : Bool) (a1_3 : (List Int)) (a1_4 : (List Int)) (a1_5 : (List Int)) (a1_6 : Int) (a1_7 : Int) (a1_8 : Int) (a1_9 : (List Int)) (a1_10 : (List Int)) (a1_11 : Bool) (a1_12 : (List Int)) (a1_13 : Int) (a1_14 : Int) (a1_15 : (List Int)) (a1_16 : (List Int)) (a2 : (List Int)) (a3 : (List Int)) : runF (userop_asked.C n) (userop_asked.A n) n Tryd.f66 [(.str a0), (.agg [(.ints .u8 20 a1_0), (.ints .u64 4 a1_1), (.bool a1_2), (.ints .u8 20 a1_3), (.rints .u8 a1_4), (.rints .u8 a1_5), (.int .u64 a1_6), (.int .u64 a1_7), (.int .u64 a1_8), (.ints .u64 4 a1_9), (.ints .u64 4 a1_10), (.bool a1_11), (.ints .u8 20 a1_12), (.int .u64 a1_13), (.int .u64 a1_14), (.rints .u8 a1_15), (.rints .u8 a1_16)]), (.ints .u64 4 a2), (.ints .u64 4 a3)] [] (fun v o => some (v, o)) = userop_asked.g (fun a0 => ((Prod.mk (.own 0 1) [(some (.ints .u8 a0))]) : AV × Blks)) n a0 a1_0 a1_1 a1_2 a1_3 a1_4 a1_5 a1_6 a1_7 a1_8 a1_9 a1_10 a1_11 a1_12 a1_13 a1_14 a1_15 a1_16 a2 a3 := by kernel_rfl
theorem userop_asked.call (hmix : Tryd.prog.follows .mixedOrders = true) (n : Nat) (t : (ByteArray × ((List Int) × ((List Int) × (Bool × ((List Int) × ((List Int) × ((List Int) × (Int × (Int × (Int × ((List Int) × ((List Int) × (Bool × ((List Int) × (Int × (Int × ((List Int) × ((List Int) × ((List Int) × (List Int))))))))))))))))))))) (u) (h : userop_asked.m n t = some u) : FnC Tryd.prog abiG 66 (userop_asked.shape t).1 (userop_asked.shape t).2 (userop_asked.res u).1 (userop_asked.res u).2 := by
  have hg : ∀ f m, (userop_asked.C n).Γ f = some m → CalleeS Tryd.prog abiG f m := by
    intro f m hm
    unfold userop_asked.C at hm
    simp only at hm
    first
    | (cases hm; done)
    | (split at hm <;> first
    | (cases hm; exact abi_Selector.s hmix n)
    | (cases hm; exact word_From.s hmix n)
    | (cases hm; exact word_Bytes.s hmix n)
    | (cases hm; exact userop_Pack.s hmix n)
    | (cases hm; exact abi_Encode.s hmix n)
    | (cases hm; exact zslicesConcatbytebyte.s hmix n)
    | (cases hm; done))
  have hb : Tryd.f66.body = some (Tryd.f66.body.getD .skip) := by kernel_rfl
  refine runF_calls (C := userop_asked.C n) (A := userop_asked.A n) (n := n) (fn := Tryd.f66) hg hmix Tryd.func66 hb ?_ ?_ (by decide) rfl rfl (by show 4 ≤ Tryd.f66.ntmps; decide) ?_
  · rw [show loopsIn (Tryd.f66.body.getD .skip) = [] by kernel_rfl]
    intro b hb
    cases hb
  · intro a ha m hm
    cases (show none = some m from hm)
  · rw [show runF (userop_asked.C n) (userop_asked.A n) n Tryd.f66 (userop_asked.shape t).1 (userop_asked.shape t).2 (fun v o => some (v, o)) = _ from userop_asked.run n t.1 t.2.1 t.2.2.1 t.2.2.2.1 t.2.2.2.2.1 t.2.2.2.2.2.1 t.2.2.2.2.2.2.1 t.2.2.2.2.2.2.2.1 t.2.2.2.2.2.2.2.2.1 t.2.2.2.2.2.2.2.2.2.1 t.2.2.2.2.2.2.2.2.2.2.1 t.2.2.2.2.2.2.2.2.2.2.2.1 t.2.2.2.2.2.2.2.2.2.2.2.2.1 t.2.2.2.2.2.2.2.2.2.2.2.2.2.1 t.2.2.2.2.2.2.2.2.2.2.2.2.2.2.1 t.2.2.2.2.2.2.2.2.2.2.2.2.2.2.2.1 t.2.2.2.2.2.2.2.2.2.2.2.2.2.2.2.2.1 t.2.2.2.2.2.2.2.2.2.2.2.2.2.2.2.2.2.1 t.2.2.2.2.2.2.2.2.2.2.2.2.2.2.2.2.2.2.1 t.2.2.2.2.2.2.2.2.2.2.2.2.2.2.2.2.2.2.2]
    have e := userop_asked.gmap userop_asked.res (fun a0 => a0) n t.1 t.2.1 t.2.2.1 t.2.2.2.1 t.2.2.2.2.1 t.2.2.2.2.2.1 t.2.2.2.2.2.2.1 t.2.2.2.2.2.2.2.1 t.2.2.2.2.2.2.2.2.1 t.2.2.2.2.2.2.2.2.2.1 t.2.2.2.2.2.2.2.2.2.2.1 t.2.2.2.2.2.2.2.2.2.2.2.1 t.2.2.2.2.2.2.2.2.2.2.2.2.1 t.2.2.2.2.2.2.2.2.2.2.2.2.2.1 t.2.2.2.2.2.2.2.2.2.2.2.2.2.2.1 t.2.2.2.2.2.2.2.2.2.2.2.2.2.2.2.1 t.2.2.2.2.2.2.2.2.2.2.2.2.2.2.2.2.1 t.2.2.2.2.2.2.2.2.2.2.2.2.2.2.2.2.2.1 t.2.2.2.2.2.2.2.2.2.2.2.2.2.2.2.2.2.2.1 t.2.2.2.2.2.2.2.2.2.2.2.2.2.2.2.2.2.2.2
    unfold userop_asked.m at h
    rw [h] at e
    exact e
theorem userop_asked.s (hmix : Tryd.prog.follows .mixedOrders = true) (n : Nat) : CalleeS Tryd.prog abiG 66 (userop_asked.c n) :=
  CalleeS.of (res := userop_asked.res) (shape := userop_asked.shape) (fun R u K => rfl) (fun args lent t h => by
    unfold userop_asked.pat at h
    split at h
    · cases h; rfl
    · cases h) fun t u h => (userop_asked.call hmix n t u h).ok Tryd.func66 (by decide) (by kernel_rfl)
end
section
theorem userop_Validate.gmap {α β : Type} (h : β → α) (mk0 : (List Int) → β) (n : Nat) (a0_0 : (List Int)) (a0_1 : (List Int)) (a0_2 : Bool) (a0_3 : (List Int)) (a0_4 : (List Int)) (a0_5 : (List Int)) (a0_6 : Int) (a0_7 : Int) (a0_8 : Int) (a0_9 : (List Int)) (a0_10 : (List Int)) (a0_11 : Bool) (a0_12 : (List Int)) (a0_13 : Int) (a0_14 : Int) (a0_15 : (List Int)) (a0_16 : (List Int)) (a1 : (List Int)) (a2 : (List Int)) : userop_Validate.g (fun a0 => (h (mk0 a0))) n a0_0 a0_1 a0_2 a0_3 a0_4 a0_5 a0_6 a0_7 a0_8 a0_9 a0_10 a0_11 a0_12 a0_13 a0_14 a0_15 a0_16 a1 a2 = (userop_Validate.g mk0 n a0_0 a0_1 a0_2 a0_3 a0_4 a0_5 a0_6 a0_7 a0_8 a0_9 a0_10 a0_11 a0_12 a0_13 a0_14 a0_15 a0_16 a1 a2).map h := by
  unfold userop_Validate.g
  exact (bindO_map fun r2 => rfl)
theorem userop_Validate.run (n : Nat) (a0_0 : (List Int)) (a0_1 : (List Int)) (a0_2 : Bool) (a0_3 : (List Int)) (a0_4 : (List Int)) (a0_5 : (List Int)) (a0_6 : Int) (a0_7 : Int) (a0_8 : Int) (a0_9 : (List Int)) (a0_10 : (List Int)) (a0_11 : Bool) (a0_12 : (List Int)) (a0_13 : Int) (a0_14 : Int) (a0_15 : (List Int)) (a0_16 : (List Int)) (a1 : (List Int)) (a2 : (List Int)) : runF (userop_Validate.C n) (userop_Validate.A n) n Tryd.f30 [(.agg [(.ints .u8 20 a0_0), (.ints .u64 4 a0_1), (.bool a0_2), (.ints .u8 20 a0_3), (.rints .u8 a0_4), (.rints .u8 a0_5), (.int .u64 a0_6), (.int .u64 a0_7), (.int .u64 a0_8), (.ints .u64 4 a0_9), (.ints .u64 4 a0_10), (.bool a0_11), (.ints .u8 20 a0_12), (.int .u64 a0_13), (.int .u64 a0_14), (.rints .u8 a0_15), (.rints .u8 a0_16)]), (.ints .u64 4 a1), (.ints .u64 4 a2)] [] (fun v o => some (v, o)) = userop_Validate.g (fun a0 => ((Prod.mk (.own 0 1) [(some (.ints .u8 a0))]) : AV × Blks)) n a0_0 a0_1 a0_2 a0_3 a0_4 a0_5 a0_6 a0_7 a0_8 a0_9 a0_10 a0_11 a0_12 a0_13 a0_14 a0_15 a0_16 a1 a2 := by kernel_rfl
theorem userop_Validate.call (hmix : Tryd.prog.follows .mixedOrders = true) (n : Nat) (t : ((List Int) × ((List Int) × (Bool × ((List Int) × ((List Int) × ((List Int) × (Int × (Int × (Int × ((List Int) × ((List Int) × (Bool × ((List Int) × (Int × (Int × ((List Int) × ((List Int) × ((List Int) × (List Int)))))))))))))))))))) (u) (h : userop_Validate.m n t = some u) : FnC Tryd.prog abiG 30 (userop_Validate.shape t).1 (userop_Validate.shape t).2 (userop_Validate.res u).1 (userop_Validate.res u).2 := by
  have hg : ∀ f m, (userop_Validate.C n).Γ f = some m → CalleeS Tryd.prog abiG f m := by
    intro f m hm
    unfold userop_Validate.C at hm
    simp only at hm
    first
    | (cases hm; done)
    | (split at hm <;> first
    | (cases hm; exact userop_asked.s hmix n)
    | (cases hm; done))
  have hb : Tryd.f30.body = some (Tryd.f30.body.getD .skip) := by kernel_rfl
  refine runF_calls (C := userop_Validate.C n) (A := userop_Validate.A n) (n := n) (fn := Tryd.f30) hg hmix Tryd.func30 hb ?_ ?_ (by decide) rfl rfl (by show 3 ≤ Tryd.f30.ntmps; decide) ?_
  · rw [show loopsIn (Tryd.f30.body.getD .skip) = [] by kernel_rfl]
    intro b hb
    cases hb
  · intro a ha m hm
    cases (show none = some m from hm)
  · rw [show runF (userop_Validate.C n) (userop_Validate.A n) n Tryd.f30 (userop_Validate.shape t).1 (userop_Validate.shape t).2 (fun v o => some (v, o)) = _ from userop_Validate.run n t.1 t.2.1 t.2.2.1 t.2.2.2.1 t.2.2.2.2.1 t.2.2.2.2.2.1 t.2.2.2.2.2.2.1 t.2.2.2.2.2.2.2.1 t.2.2.2.2.2.2.2.2.1 t.2.2.2.2.2.2.2.2.2.1 t.2.2.2.2.2.2.2.2.2.2.1 t.2.2.2.2.2.2.2.2.2.2.2.1 t.2.2.2.2.2.2.2.2.2.2.2.2.1 t.2.2.2.2.2.2.2.2.2.2.2.2.2.1 t.2.2.2.2.2.2.2.2.2.2.2.2.2.2.1 t.2.2.2.2.2.2.2.2.2.2.2.2.2.2.2.1 t.2.2.2.2.2.2.2.2.2.2.2.2.2.2.2.2.1 t.2.2.2.2.2.2.2.2.2.2.2.2.2.2.2.2.2.1 t.2.2.2.2.2.2.2.2.2.2.2.2.2.2.2.2.2.2]
    have e := userop_Validate.gmap userop_Validate.res (fun a0 => a0) n t.1 t.2.1 t.2.2.1 t.2.2.2.1 t.2.2.2.2.1 t.2.2.2.2.2.1 t.2.2.2.2.2.2.1 t.2.2.2.2.2.2.2.1 t.2.2.2.2.2.2.2.2.1 t.2.2.2.2.2.2.2.2.2.1 t.2.2.2.2.2.2.2.2.2.2.1 t.2.2.2.2.2.2.2.2.2.2.2.1 t.2.2.2.2.2.2.2.2.2.2.2.2.1 t.2.2.2.2.2.2.2.2.2.2.2.2.2.1 t.2.2.2.2.2.2.2.2.2.2.2.2.2.2.1 t.2.2.2.2.2.2.2.2.2.2.2.2.2.2.2.1 t.2.2.2.2.2.2.2.2.2.2.2.2.2.2.2.2.1 t.2.2.2.2.2.2.2.2.2.2.2.2.2.2.2.2.2.1 t.2.2.2.2.2.2.2.2.2.2.2.2.2.2.2.2.2.2
    unfold userop_Validate.m at h
    rw [h] at e
    exact e
theorem userop_Validate.s (hmix : Tryd.prog.follows .mixedOrders = true) (n : Nat) : CalleeS Tryd.prog abiG 30 (userop_Validate.c n) :=
  CalleeS.of (res := userop_Validate.res) (shape := userop_Validate.shape) (fun R u K => rfl) (fun args lent t h => by
    unfold userop_Validate.pat at h
    split at h
    · cases h; rfl
    · cases h) fun t u h => (userop_Validate.call hmix n t u h).ok Tryd.func30 (by decide) (by kernel_rfl)
end
section
theorem userop_Now.gmap {α β : Type} (h : β → α) (mk0 : Bool → β) (n : Nat) (a0_0 : Bool) (a0_1 : Int) (a0_2 : Int) (a1 : Int) : userop_Now.g (fun a0 => (h (mk0 a0))) n a0_0 a0_1 a0_2 a1 = (userop_Now.g mk0 n a0_0 a0_1 a0_2 a1).map h := by
  unfold userop_Now.g
  exact (ite_map (ite_map (ite_map rfl rfl) rfl) rfl)
theorem userop_Now.run (n : Nat) (a0_0 : Bool) (a0_1 : Int) (a0_2 : Int) (a1 : Int) : runF (userop_Now.C n) (userop_Now.A n) n Tryd.f27 [(.agg [(.bool a0_0), (.int .u64 a0_1), (.int .u64 a0_2)]), (.int .u64 a1)] [] (fun v o => some (v, o)) = userop_Now.g (fun a0 => ((Prod.mk (.bool a0) []) : AV × Blks)) n a0_0 a0_1 a0_2 a1 := by kernel_rfl
theorem userop_Now.call (hmix : Tryd.prog.follows .mixedOrders = true) (n : Nat) (t : (Bool × (Int × (Int × Int)))) (u) (h : userop_Now.m n t = some u) : FnC Tryd.prog abiG 27 (userop_Now.shape t).1 (userop_Now.shape t).2 (userop_Now.res u).1 (userop_Now.res u).2 := by
  have hg : ∀ f m, (userop_Now.C n).Γ f = some m → CalleeS Tryd.prog abiG f m := by
    intro f m hm
    unfold userop_Now.C at hm
    simp only at hm
    first
    | (cases hm; done)
    | (split at hm <;> first
    | (cases hm; done))
  have hb : Tryd.f27.body = some (Tryd.f27.body.getD .skip) := by kernel_rfl
  refine runF_calls (C := userop_Now.C n) (A := userop_Now.A n) (n := n) (fn := Tryd.f27) hg hmix Tryd.func27 hb ?_ ?_ (by decide) rfl rfl (by show 2 ≤ Tryd.f27.ntmps; decide) ?_
  · rw [show loopsIn (Tryd.f27.body.getD .skip) = [] by kernel_rfl]
    intro b hb
    cases hb
  · intro a ha m hm
    cases (show none = some m from hm)
  · rw [show runF (userop_Now.C n) (userop_Now.A n) n Tryd.f27 (userop_Now.shape t).1 (userop_Now.shape t).2 (fun v o => some (v, o)) = _ from userop_Now.run n t.1 t.2.1 t.2.2.1 t.2.2.2]
    have e := userop_Now.gmap userop_Now.res (fun a0 => a0) n t.1 t.2.1 t.2.2.1 t.2.2.2
    unfold userop_Now.m at h
    rw [h] at e
    exact e
theorem userop_Now.s (hmix : Tryd.prog.follows .mixedOrders = true) (n : Nat) : CalleeS Tryd.prog abiG 27 (userop_Now.c n) :=
  CalleeS.of (res := userop_Now.res) (shape := userop_Now.shape) (fun R u K => rfl) (fun args lent t h => by
    unfold userop_Now.pat at h
    split at h
    · cases h; rfl
    · cases h) fun t u h => (userop_Now.call hmix n t u h).ok Tryd.func27 (by decide) (by kernel_rfl)
end
section
theorem userop_Gas.gmap {α β : Type} (h : β → α) (mk0 : Int → β) (n : Nat) (a0_0 : (List Int)) (a0_1 : (List Int)) (a0_2 : Bool) (a0_3 : (List Int)) (a0_4 : (List Int)) (a0_5 : (List Int)) (a0_6 : Int) (a0_7 : Int) (a0_8 : Int) (a0_9 : (List Int)) (a0_10 : (List Int)) (a0_11 : Bool) (a0_12 : (List Int)) (a0_13 : Int) (a0_14 : Int) (a0_15 : (List Int)) (a0_16 : (List Int)) : userop_Gas.g (fun a0 => (h (mk0 a0))) n a0_0 a0_1 a0_2 a0_3 a0_4 a0_5 a0_6 a0_7 a0_8 a0_9 a0_10 a0_11 a0_12 a0_13 a0_14 a0_15 a0_16 = (userop_Gas.g mk0 n a0_0 a0_1 a0_2 a0_3 a0_4 a0_5 a0_6 a0_7 a0_8 a0_9 a0_10 a0_11 a0_12 a0_13 a0_14 a0_15 a0_16).map h := by
  unfold userop_Gas.g
  exact rfl
theorem userop_Gas.run (n : Nat) (a0_0 : (List Int)) (a0_1 : (List Int)) (a0_2 : Bool) (a0_3 : (List Int)) (a0_4 : (List Int)) (a0_5 : (List Int)) (a0_6 : Int) (a0_7 : Int) (a0_8 : Int) (a0_9 : (List Int)) (a0_10 : (List Int)) (a0_11 : Bool) (a0_12 : (List Int)) (a0_13 : Int) (a0_14 : Int) (a0_15 : (List Int)) (a0_16 : (List Int)) : runF (userop_Gas.C n) (userop_Gas.A n) n Tryd.f43 [(.agg [(.ints .u8 20 a0_0), (.ints .u64 4 a0_1), (.bool a0_2), (.ints .u8 20 a0_3), (.rints .u8 a0_4), (.rints .u8 a0_5), (.int .u64 a0_6), (.int .u64 a0_7), (.int .u64 a0_8), (.ints .u64 4 a0_9), (.ints .u64 4 a0_10), (.bool a0_11), (.ints .u8 20 a0_12), (.int .u64 a0_13), (.int .u64 a0_14), (.rints .u8 a0_15), (.rints .u8 a0_16)])] [] (fun v o => some (v, o)) = userop_Gas.g (fun a0 => ((Prod.mk (.int .u64 a0) []) : AV × Blks)) n a0_0 a0_1 a0_2 a0_3 a0_4 a0_5 a0_6 a0_7 a0_8 a0_9 a0_10 a0_11 a0_12 a0_13 a0_14 a0_15 a0_16 := by kernel_rfl
theorem userop_Gas.call (hmix : Tryd.prog.follows .mixedOrders = true) (n : Nat) (t : ((List Int) × ((List Int) × (Bool × ((List Int) × ((List Int) × ((List Int) × (Int × (Int × (Int × ((List Int) × ((List Int) × (Bool × ((List Int) × (Int × (Int × ((List Int) × (List Int)))))))))))))))))) (u) (h : userop_Gas.m n t = some u) : FnC Tryd.prog abiG 43 (userop_Gas.shape t).1 (userop_Gas.shape t).2 (userop_Gas.res u).1 (userop_Gas.res u).2 := by
  have hg : ∀ f m, (userop_Gas.C n).Γ f = some m → CalleeS Tryd.prog abiG f m := by
    intro f m hm
    unfold userop_Gas.C at hm
    simp only at hm
    first
    | (cases hm; done)
    | (split at hm <;> first
    | (cases hm; done))
  have hb : Tryd.f43.body = some (Tryd.f43.body.getD .skip) := by kernel_rfl
  refine runF_calls (C := userop_Gas.C n) (A := userop_Gas.A n) (n := n) (fn := Tryd.f43) hg hmix Tryd.func43 hb ?_ ?_ (by decide) rfl rfl (by show 1 ≤ Tryd.f43.ntmps; decide) ?_
  · rw [show loopsIn (Tryd.f43.body.getD .skip) = [] by kernel_rfl]
    intro b hb
    cases hb
  · intro a ha m hm
    cases (show none = some m from hm)
  · rw [show runF (userop_Gas.C n) (userop_Gas.A n) n Tryd.f43 (userop_Gas.shape t).1 (userop_Gas.shape t).2 (fun v o => some (v, o)) = _ from userop_Gas.run n t.1 t.2.1 t.2.2.1 t.2.2.2.1 t.2.2.2.2.1 t.2.2.2.2.2.1 t.2.2.2.2.2.2.1 t.2.2.2.2.2.2.2.1 t.2.2.2.2.2.2.2.2.1 t.2.2.2.2.2.2.2.2.2.1 t.2.2.2.2.2.2.2.2.2.2.1 t.2.2.2.2.2.2.2.2.2.2.2.1 t.2.2.2.2.2.2.2.2.2.2.2.2.1 t.2.2.2.2.2.2.2.2.2.2.2.2.2.1 t.2.2.2.2.2.2.2.2.2.2.2.2.2.2.1 t.2.2.2.2.2.2.2.2.2.2.2.2.2.2.2.1 t.2.2.2.2.2.2.2.2.2.2.2.2.2.2.2.2]
    have e := userop_Gas.gmap userop_Gas.res (fun a0 => a0) n t.1 t.2.1 t.2.2.1 t.2.2.2.1 t.2.2.2.2.1 t.2.2.2.2.2.1 t.2.2.2.2.2.2.1 t.2.2.2.2.2.2.2.1 t.2.2.2.2.2.2.2.2.1 t.2.2.2.2.2.2.2.2.2.1 t.2.2.2.2.2.2.2.2.2.2.1 t.2.2.2.2.2.2.2.2.2.2.2.1 t.2.2.2.2.2.2.2.2.2.2.2.2.1 t.2.2.2.2.2.2.2.2.2.2.2.2.2.1 t.2.2.2.2.2.2.2.2.2.2.2.2.2.2.1 t.2.2.2.2.2.2.2.2.2.2.2.2.2.2.2.1 t.2.2.2.2.2.2.2.2.2.2.2.2.2.2.2.2
    unfold userop_Gas.m at h
    rw [h] at e
    exact e
theorem userop_Gas.s (hmix : Tryd.prog.follows .mixedOrders = true) (n : Nat) : CalleeS Tryd.prog abiG 43 (userop_Gas.c n) :=
  CalleeS.of (res := userop_Gas.res) (shape := userop_Gas.shape) (fun R u K => rfl) (fun args lent t h => by
    unfold userop_Gas.pat at h
    split at h
    · cases h; rfl
    · cases h) fun t u h => (userop_Gas.call hmix n t u h).ok Tryd.func43 (by decide) (by kernel_rfl)
end
section
theorem userop_Prefund.gmap {α β : Type} (h : β → α) (mk0 : (List Int) → β) (n : Nat) (a0_0 : (List Int)) (a0_1 : (List Int)) (a0_2 : Bool) (a0_3 : (List Int)) (a0_4 : (List Int)) (a0_5 : (List Int)) (a0_6 : Int) (a0_7 : Int) (a0_8 : Int) (a0_9 : (List Int)) (a0_10 : (List Int)) (a0_11 : Bool) (a0_12 : (List Int)) (a0_13 : Int) (a0_14 : Int) (a0_15 : (List Int)) (a0_16 : (List Int)) : userop_Prefund.g (fun a0 => (h (mk0 a0))) n a0_0 a0_1 a0_2 a0_3 a0_4 a0_5 a0_6 a0_7 a0_8 a0_9 a0_10 a0_11 a0_12 a0_13 a0_14 a0_15 a0_16 = (userop_Prefund.g mk0 n a0_0 a0_1 a0_2 a0_3 a0_4 a0_5 a0_6 a0_7 a0_8 a0_9 a0_10 a0_11 a0_12 a0_13 a0_14 a0_15 a0_16).map h := by
  unfold userop_Prefund.g
  exact (bindO_map fun r2 => (bindO_map fun r4 => (bindO_map fun r6 => rfl)))
theorem userop_Prefund.run (n : Nat) (a0_0 : (List Int)) (a0_1 : (List Int)) (a0_2 : Bool) (a0_3 : (List Int)) (a0_4 : (List Int)) (a0_5 : (List Int)) (a0_6 : Int) (a0_7 : Int) (a0_8 : Int) (a0_9 : (List Int)) (a0_10 : (List Int)) (a0_11 : Bool) (a0_12 : (List Int)) (a0_13 : Int) (a0_14 : Int) (a0_15 : (List Int)) (a0_16 : (List Int)) : runF (userop_Prefund.C n) (userop_Prefund.A n) n Tryd.f45 [(.agg [(.ints .u8 20 a0_0), (.ints .u64 4 a0_1), (.bool a0_2), (.ints .u8 20 a0_3), (.rints .u8 a0_4), (.rints .u8 a0_5), (.int .u64 a0_6), (.int .u64 a0_7), (.int .u64 a0_8), (.ints .u64 4 a0_9), (.ints .u64 4 a0_10), (.bool a0_11), (.ints .u8 20 a0_12), (.int .u64 a0_13), (.int .u64 a0_14), (.rints .u8 a0_15), (.rints .u8 a0_16)])] [] (fun v o => some (v, o)) = userop_Prefund.g (fun a0 => ((Prod.mk (.ints .u64 4 a0) []) : AV × Blks)) n a0_0 a0_1 a0_2 a0_3 a0_4 a0_5 a0_6 a0_7 a0_8 a0_9 a0_10 a0_11 a0_12 a0_13 a0_14 a0_15 a0_16 := by kernel_rfl
theorem userop_Prefund.call (hmix : Tryd.prog.follows .mixedOrders = true) (n : Nat) (t : ((List Int) × ((List Int) × (Bool × ((List Int) × ((List Int) × ((List Int) × (Int × (Int × (Int × ((List Int) × ((List Int) × (Bool × ((List Int) × (Int × (Int × ((List Int) × (List Int)))))))))))))))))) (u) (h : userop_Prefund.m n t = some u) : FnC Tryd.prog abiG 45 (userop_Prefund.shape t).1 (userop_Prefund.shape t).2 (userop_Prefund.res u).1 (userop_Prefund.res u).2 := by
  have hg : ∀ f m, (userop_Prefund.C n).Γ f = some m → CalleeS Tryd.prog abiG f m := by
    intro f m hm
    unfold userop_Prefund.C at hm
    simp only at hm
    first
    | (cases hm; done)
    | (split at hm <;> first
    | (cases hm; exact userop_Gas.s hmix n)
    | (cases hm; exact word_From.s hmix n)
    | (cases hm; exact word_Mul.s hmix n)
    | (cases hm; done))
  have hb : Tryd.f45.body = some (Tryd.f45.body.getD .skip) := by kernel_rfl
  refine runF_calls (C := userop_Prefund.C n) (A := userop_Prefund.A n) (n := n) (fn := Tryd.f45) hg hmix Tryd.func45 hb ?_ ?_ (by decide) rfl rfl (by show 1 ≤ Tryd.f45.ntmps; decide) ?_
  · rw [show loopsIn (Tryd.f45.body.getD .skip) = [] by kernel_rfl]
    intro b hb
    cases hb
  · intro a ha m hm
    cases (show none = some m from hm)
  · rw [show runF (userop_Prefund.C n) (userop_Prefund.A n) n Tryd.f45 (userop_Prefund.shape t).1 (userop_Prefund.shape t).2 (fun v o => some (v, o)) = _ from userop_Prefund.run n t.1 t.2.1 t.2.2.1 t.2.2.2.1 t.2.2.2.2.1 t.2.2.2.2.2.1 t.2.2.2.2.2.2.1 t.2.2.2.2.2.2.2.1 t.2.2.2.2.2.2.2.2.1 t.2.2.2.2.2.2.2.2.2.1 t.2.2.2.2.2.2.2.2.2.2.1 t.2.2.2.2.2.2.2.2.2.2.2.1 t.2.2.2.2.2.2.2.2.2.2.2.2.1 t.2.2.2.2.2.2.2.2.2.2.2.2.2.1 t.2.2.2.2.2.2.2.2.2.2.2.2.2.2.1 t.2.2.2.2.2.2.2.2.2.2.2.2.2.2.2.1 t.2.2.2.2.2.2.2.2.2.2.2.2.2.2.2.2]
    have e := userop_Prefund.gmap userop_Prefund.res (fun a0 => a0) n t.1 t.2.1 t.2.2.1 t.2.2.2.1 t.2.2.2.2.1 t.2.2.2.2.2.1 t.2.2.2.2.2.2.1 t.2.2.2.2.2.2.2.1 t.2.2.2.2.2.2.2.2.1 t.2.2.2.2.2.2.2.2.2.1 t.2.2.2.2.2.2.2.2.2.2.1 t.2.2.2.2.2.2.2.2.2.2.2.1 t.2.2.2.2.2.2.2.2.2.2.2.2.1 t.2.2.2.2.2.2.2.2.2.2.2.2.2.1 t.2.2.2.2.2.2.2.2.2.2.2.2.2.2.1 t.2.2.2.2.2.2.2.2.2.2.2.2.2.2.2.1 t.2.2.2.2.2.2.2.2.2.2.2.2.2.2.2.2
    unfold userop_Prefund.m at h
    rw [h] at e
    exact e
theorem userop_Prefund.s (hmix : Tryd.prog.follows .mixedOrders = true) (n : Nat) : CalleeS Tryd.prog abiG 45 (userop_Prefund.c n) :=
  CalleeS.of (res := userop_Prefund.res) (shape := userop_Prefund.shape) (fun R u K => rfl) (fun args lent t h => by
    unfold userop_Prefund.pat at h
    split at h
    · cases h; rfl
    · cases h) fun t u h => (userop_Prefund.call hmix n t u h).ok Tryd.func45 (by decide) (by kernel_rfl)
end
section
theorem l15_known.gmap {α β : Type} (h : β → α) (mk0 : Bool → β) (n : Nat)  : l15_known.g (fun a0 => (h (mk0 a0))) n  = (l15_known.g mk0 n ).map h := by
  unfold l15_known.g
  exact (bindO_map fun r2 => (bindO_map fun r4 => (bindO_map fun r6 => (ite_map (ite_map (bindO_map fun r12 => (ite_map (bindO_map fun r16 => (ite_map (bindO_map fun r20 => (ite_map (ite_map (ite_map rfl rfl) rfl) rfl)) rfl)) rfl)) rfl) rfl))))
theorem l15_known.run (n : Nat)  : runF (l15_known.C n) (l15_known.A n) n Tryd.f25 [] [] (fun v o => some (v, o)) = l15_known.g (fun a0 => ((Prod.mk (.bool a0) []) : AV × Blks)) n  := by kernel_rfl
theorem l15_known.call (hmix : Tryd.prog.follows .mixedOrders = true) (n : Nat) (t : Unit) (u) (h : l15_known.m n t = some u) : FnC Tryd.prog abiG 25 (l15_known.shape t).1 (l15_known.shape t).2 (l15_known.res u).1 (l15_known.res u).2 := by
  have hg : ∀ f m, (l15_known.C n).Γ f = some m → CalleeS Tryd.prog abiG f m := by
    intro f m hm
    unfold l15_known.C at hm
    simp only at hm
    first
    | (cases hm; done)
    | (split at hm <;> first
    | (cases hm; exact userop_Spans.s hmix n)
    | (cases hm; exact userop_Validate.s hmix n)
    | (cases hm; exact userop_Now.s hmix n)
    | (cases hm; exact userop_Prefund.s hmix n)
    | (cases hm; done))
  have hb : Tryd.f25.body = some (Tryd.f25.body.getD .skip) := by kernel_rfl
  refine runF_calls (C := l15_known.C n) (A := l15_known.A n) (n := n) (fn := Tryd.f25) hg hmix Tryd.func25 hb ?_ ?_ (by decide) rfl rfl (by show 0 ≤ Tryd.f25.ntmps; decide) ?_
  · rw [show loopsIn (Tryd.f25.body.getD .skip) = [] by kernel_rfl]
    intro b hb
    cases hb
  · intro a ha m hm
    cases (show none = some m from hm)
  · rw [show runF (l15_known.C n) (l15_known.A n) n Tryd.f25 (l15_known.shape t).1 (l15_known.shape t).2 (fun v o => some (v, o)) = _ from l15_known.run n ]
    have e := l15_known.gmap l15_known.res (fun a0 => a0) n 
    unfold l15_known.m at h
    rw [h] at e
    exact e
theorem l15_known.s (hmix : Tryd.prog.follows .mixedOrders = true) (n : Nat) : CalleeS Tryd.prog abiG 25 (l15_known.c n) :=
  CalleeS.of (res := l15_known.res) (shape := l15_known.shape) (fun R u K => rfl) (fun args lent t h => by
    unfold l15_known.pat at h
    split at h
    · cases h; rfl
    · cases h) fun t u h => (l15_known.call hmix n t u h).ok Tryd.func25 (by decide) (by kernel_rfl)
end
section
noncomputable section
noncomputable def l15_UseropChecks.C (n : Nat) : Ctx := ⟨Tryd.prog, abiG, fun f => match f with
 | 58 => some (q00_Op.c n)
 | 25 => some (l15_known.c n)
 | 59 => some (userop_Check.c n)
 | 60 => some (q15_Check.c n)
 | _ => none, fun _ => false⟩
def l15_UseropChecks.live : Nat → List Nat × List Nat := fun k => match k with
 | _ => ([], [])
def l15_UseropChecks.jlive : Nat → List Nat × List Nat := fun k => match k with
 | _ => ([], [])
noncomputable def l15_UseropChecks.A (n : Nat) : Ann := ⟨Tryd.f15.ntmps, 0, l15_UseropChecks.live, [], [none], fun k => match k with
 | _ => none, l15_UseropChecks.jlive, lookJ []⟩
def l15_UseropChecks.g {α : Type} (mk0 : Bool → α) (n : Nat) (a0_0 : (List Int)) (a0_1 : (List Int)) (a0_2 : Bool) (a0_3 : (List Int)) (a0_4 : (List Int)) (a0_5 : (List Int)) (a0_6 : Int) (a0_7 : Int) (a0_8 : Int) (a0_9 : (List Int)) (a0_10 : (List Int)) (a0_11 : Bool) (a0_12 : (List Int)) (a0_13 : Int) (a0_14 : Int) (a0_15 : (List Int)) (a0_16 : (List Int)) : Option α :=
 bindO (q00_Op.m n (Prod.mk a0_0 (Prod.mk a0_1 (Prod.mk a0_2 (Prod.mk a0_3 (Prod.mk a0_4 (Prod.mk a0_5 (Prod.mk a0_6 (Prod.mk a0_7 (Prod.mk a0_8 (Prod.mk a0_9 (Prod.mk a0_10 (Prod.mk a0_11 (Prod.mk a0_12 (Prod.mk a0_13 (Prod.mk a0_14 (Prod.mk a0_15 (Prod.mk a0_16 6000)))))))))))))))))) fun r2 =>
  if (!r2) = true then
   some (mk0 true)
  else
   bindO (l15_known.m n Unit.unit) fun r6 =>
    if r6 = true then
     bindO (userop_Check.m n (Prod.mk a0_0 (Prod.mk a0_1 (Prod.mk a0_2 (Prod.mk a0_3 (Prod.mk a0_4 (Prod.mk a0_5 (Prod.mk a0_6 (Prod.mk a0_7 (Prod.mk a0_8 (Prod.mk a0_9 (Prod.mk a0_10 (Prod.mk a0_11 (Prod.mk a0_12 (Prod.mk a0_13 (Prod.mk a0_14 (Prod.mk a0_15 a0_16))))))))))))))))) fun r10 =>
      bindO (q15_Check.m n (Prod.mk a0_0 (Prod.mk a0_1 (Prod.mk a0_2 (Prod.mk a0_3 (Prod.mk a0_4 (Prod.mk a0_5 (Prod.mk a0_6 (Prod.mk a0_7 (Prod.mk a0_8 (Prod.mk a0_9 (Prod.mk a0_10 (Prod.mk a0_11 (Prod.mk a0_12 (Prod.mk a0_13 (Prod.mk a0_14 (Prod.mk a0_15 a0_16))))))))))))))))) fun r12 =>
       some (mk0 ((IntKind.wrap .i64 r10) == r12))
    else
     some (mk0 false)
def l15_UseropChecks.m (n : Nat) (t : ((List Int) × ((List Int) × (Bool × ((List Int) × ((List Int) × ((List Int) × (Int × (Int × (Int × ((List Int) × ((List Int) × (Bool × ((List Int) × (Int × (Int × ((List Int) × (List Int)))))))))))))))))) : Option Bool := l15_UseropChecks.g (fun a0 => a0) n t.1 t.2.1 t.2.2.1 t.2.2.2.1 t.2.2.2.2.1 t.2.2.2.2.2.1 t.2.2.2.2.2.2.1 t.2.2.2.2.2.2.2.1 t.2.2.2.2.2.2.2.2.1 t.2.2.2.2.2.2.2.2.2.1 t.2.2.2.2.2.2.2.2.2.2.1 t.2.2.2.2.2.2.2.2.2.2.2.1 t.2.2.2.2.2.2.2.2.2.2.2.2.1 t.2.2.2.2.2.2.2.2.2.2.2.2.2.1 t.2.2.2.2.2.2.2.2.2.2.2.2.2.2.1 t.2.2.2.2.2.2.2.2.2.2.2.2.2.2.2.1 t.2.2.2.2.2.2.2.2.2.2.2.2.2.2.2.2
def l15_UseropChecks.pat : List AV → Blks → Option ((List Int) × ((List Int) × (Bool × ((List Int) × ((List Int) × ((List Int) × (Int × (Int × (Int × ((List Int) × ((List Int) × (Bool × ((List Int) × (Int × (Int × ((List Int) × (List Int)))))))))))))))))
 | [(.agg [(.ints .u8 20 a0_0), (.ints .u64 4 a0_1), (.bool a0_2), (.ints .u8 20 a0_3), (.rints .u8 a0_4), (.rints .u8 a0_5), (.int .u64 a0_6), (.int .u64 a0_7), (.int .u64 a0_8), (.ints .u64 4 a0_9), (.ints .u64 4 a0_10), (.bool a0_11), (.ints .u8 20 a0_12), (.int .u64 a0_13), (.int .u64 a0_14), (.rints .u8 a0_15), (.rints .u8 a0_16)])], [] => some (a0_0, a0_1, a0_2, a0_3, a0_4, a0_5, a0_6, a0_7, a0_8, a0_9, a0_10, a0_11, a0_12, a0_13, a0_14, a0_15, a0_16)
 | _, _ => none
def l15_UseropChecks.shape (t : ((List Int) × ((List Int) × (Bool × ((List Int) × ((List Int) × ((List Int) × (Int × (Int × (Int × ((List Int) × ((List Int) × (Bool × ((List Int) × (Int × (Int × ((List Int) × (List Int)))))))))))))))))) : List AV × Blks := ([(.agg [(.ints .u8 20 t.1), (.ints .u64 4 t.2.1), (.bool t.2.2.1), (.ints .u8 20 t.2.2.2.1), (.rints .u8 t.2.2.2.2.1), (.rints .u8 t.2.2.2.2.2.1), (.int .u64 t.2.2.2.2.2.2.1), (.int .u64 t.2.2.2.2.2.2.2.1), (.int .u64 t.2.2.2.2.2.2.2.2.1), (.ints .u64 4 t.2.2.2.2.2.2.2.2.2.1), (.ints .u64 4 t.2.2.2.2.2.2.2.2.2.2.1), (.bool t.2.2.2.2.2.2.2.2.2.2.2.1), (.ints .u8 20 t.2.2.2.2.2.2.2.2.2.2.2.2.1), (.int .u64 t.2.2.2.2.2.2.2.2.2.2.2.2.2.1), (.int .u64 t.2.2.2.2.2.2.2.2.2.2.2.2.2.2.1), (.rints .u8 t.2.2.2.2.2.2.2.2.2.2.2.2.2.2.2.1), (.rints .u8 t.2.2.2.2.2.2.2.2.2.2.2.2.2.2.2.2)])], [])
def l15_UseropChecks.res : Bool → AV × Blks
 | u => (Prod.mk (.bool u) [])
def l15_UseropChecks.resK {R : Type} (u : Bool) (K : AV → Blks → Option R) : Option R := (fun p : AV × Blks => K p.1 p.2) (Prod.mk (.bool u) [])
def l15_UseropChecks.c (n : Nat) : Abs.Callee := .mk' [] [(some (.agg [none, none, none, none, (some (.ints .u8)), (some (.ints .u8)), none, none, none, none, none, none, none, none, none, (some (.ints .u8)), (some (.ints .u8))]))] l15_UseropChecks.pat (l15_UseropChecks.m n) l15_UseropChecks.resK
end
end
section
theorem l15_UseropChecks.gmap {α β : Type} (h : β → α) (mk0 : Bool → β) (n : Nat) (a0_0 : (List Int)) (a0_1 : (List Int)) (a0_2 : Bool) (a0_3 : (List Int)) (a0_4 : (List Int)) (a0_5 : (List Int)) (a0_6 : Int) (a0_7 : Int) (a0_8 : Int) (a0_9 : (List Int)) (a0_10 : (List Int)) (a0_11 : Bool) (a0_12 : (List Int)) (a0_13 : Int) (a0_14 : Int) (a0_15 : (List Int)) (a0_16 : (List Int)) : l15_UseropChecks.g (fun a0 => (h (mk0 a0))) n a0_0 a0_1 a0_2 a0_3 a0_4 a0_5 a0_6 a0_7 a0_8 a0_9 a0_10 a0_11 a0_12 a0_13 a0_14 a0_15 a0_16 = (l15_UseropChecks.g mk0 n a0_0 a0_1 a0_2 a0_3 a0_4 a0_5 a0_6 a0_7 a0_8 a0_9 a0_10 a0_11 a0_12 a0_13 a0_14 a0_15 a0_16).map h := by
  unfold l15_UseropChecks.g
  exact (bindO_map fun r2 => (ite_map rfl (bindO_map fun r6 => (ite_map (bindO_map fun r10 => (bindO_map fun r12 => rfl)) rfl))))
theorem l15_UseropChecks.run (n : Nat) (a0_0 : (List Int)) (a0_1 : (List Int)) (a0_2 : Bool) (a0_3 : (List Int)) (a0_4 : (List Int)) (a0_5 : (List Int)) (a0_6 : Int) (a0_7 : Int) (a0_8 : Int) (a0_9 : (List Int)) (a0_10 : (List Int)) (a0_11 : Bool) (a0_12 : (List Int)) (a0_13 : Int) (a0_14 : Int) (a0_15 : (List Int)) (a0_16 : (List Int)) : runF (l15_UseropChecks.C n) (l15_UseropChecks.A n) n Tryd.f15 [(.agg [(.ints .u8 20 a0_0), (.ints .u64 4 a0_1), (.bool a0_2), (.ints .u8 20 a0_3), (.rints .u8 a0_4), (.rints .u8 a0_5), (.int .u64 a0_6), (.int .u64 a0_7), (.int .u64 a0_8), (.ints .u64 4 a0_9), (.ints .u64 4 a0_10), (.bool a0_11), (.ints .u8 20 a0_12), (.int .u64 a0_13), (.int .u64 a0_14), (.rints .u8 a0_15), (.rints .u8 a0_16)])] [] (fun v o => some (v, o)) = l15_UseropChecks.g (fun a0 => ((Prod.mk (.bool a0) []) : AV × Blks)) n a0_0 a0_1 a0_2 a0_3 a0_4 a0_5 a0_6 a0_7 a0_8 a0_9 a0_10 a0_11 a0_12 a0_13 a0_14 a0_15 a0_16 := by kernel_rfl
theorem l15_UseropChecks.call (hmix : Tryd.prog.follows .mixedOrders = true) (n : Nat) (t : ((List Int) × ((List Int) × (Bool × ((List Int) × ((List Int) × ((List Int) × (Int × (Int × (Int × ((List Int) × ((List Int) × (Bool × ((List Int) × (Int × (Int × ((List Int) × (List Int)))))))))))))))))) (u) (h : l15_UseropChecks.m n t = some u) : FnC Tryd.prog abiG 15 (l15_UseropChecks.shape t).1 (l15_UseropChecks.shape t).2 (l15_UseropChecks.res u).1 (l15_UseropChecks.res u).2 := by
  have hg : ∀ f m, (l15_UseropChecks.C n).Γ f = some m → CalleeS Tryd.prog abiG f m := by
    intro f m hm
    unfold l15_UseropChecks.C at hm
    simp only at hm
    first
    | (cases hm; done)
    | (split at hm <;> first
    | (cases hm; exact q00_Op.s hmix n)
    | (cases hm; exact l15_known.s hmix n)
    | (cases hm; exact userop_Check.s hmix n)
    | (cases hm; exact q15_Check.s hmix n)
    | (cases hm; done))
  have hb : Tryd.f15.body = some (Tryd.f15.body.getD .skip) := by kernel_rfl
  refine runF_calls (C := l15_UseropChecks.C n) (A := l15_UseropChecks.A n) (n := n) (fn := Tryd.f15) hg hmix Tryd.func15 hb ?_ ?_ (by decide) rfl rfl (by show 1 ≤ Tryd.f15.ntmps; decide) ?_
  · rw [show loopsIn (Tryd.f15.body.getD .skip) = [] by kernel_rfl]
    intro b hb
    cases hb
  · intro a ha m hm
    cases (show none = some m from hm)
  · rw [show runF (l15_UseropChecks.C n) (l15_UseropChecks.A n) n Tryd.f15 (l15_UseropChecks.shape t).1 (l15_UseropChecks.shape t).2 (fun v o => some (v, o)) = _ from l15_UseropChecks.run n t.1 t.2.1 t.2.2.1 t.2.2.2.1 t.2.2.2.2.1 t.2.2.2.2.2.1 t.2.2.2.2.2.2.1 t.2.2.2.2.2.2.2.1 t.2.2.2.2.2.2.2.2.1 t.2.2.2.2.2.2.2.2.2.1 t.2.2.2.2.2.2.2.2.2.2.1 t.2.2.2.2.2.2.2.2.2.2.2.1 t.2.2.2.2.2.2.2.2.2.2.2.2.1 t.2.2.2.2.2.2.2.2.2.2.2.2.2.1 t.2.2.2.2.2.2.2.2.2.2.2.2.2.2.1 t.2.2.2.2.2.2.2.2.2.2.2.2.2.2.2.1 t.2.2.2.2.2.2.2.2.2.2.2.2.2.2.2.2]
    have e := l15_UseropChecks.gmap l15_UseropChecks.res (fun a0 => a0) n t.1 t.2.1 t.2.2.1 t.2.2.2.1 t.2.2.2.2.1 t.2.2.2.2.2.1 t.2.2.2.2.2.2.1 t.2.2.2.2.2.2.2.1 t.2.2.2.2.2.2.2.2.1 t.2.2.2.2.2.2.2.2.2.1 t.2.2.2.2.2.2.2.2.2.2.1 t.2.2.2.2.2.2.2.2.2.2.2.1 t.2.2.2.2.2.2.2.2.2.2.2.2.1 t.2.2.2.2.2.2.2.2.2.2.2.2.2.1 t.2.2.2.2.2.2.2.2.2.2.2.2.2.2.1 t.2.2.2.2.2.2.2.2.2.2.2.2.2.2.2.1 t.2.2.2.2.2.2.2.2.2.2.2.2.2.2.2.2
    unfold l15_UseropChecks.m at h
    rw [h] at e
    exact e
theorem l15_UseropChecks.s (hmix : Tryd.prog.follows .mixedOrders = true) (n : Nat) : CalleeS Tryd.prog abiG 15 (l15_UseropChecks.c n) :=
  CalleeS.of (res := l15_UseropChecks.res) (shape := l15_UseropChecks.shape) (fun R u K => rfl) (fun args lent t h => by
    unfold l15_UseropChecks.pat at h
    split at h
    · cases h; rfl
    · cases h) fun t u h => (l15_UseropChecks.call hmix n t u h).ok Tryd.func15 (by decide) (by kernel_rfl)
end
