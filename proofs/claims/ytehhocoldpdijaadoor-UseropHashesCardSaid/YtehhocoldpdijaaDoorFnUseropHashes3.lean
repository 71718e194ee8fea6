/- What the program's functions compute, as plain functions, each with its proof: the function does just that. Condition: the plain function has an answer. -/
import Derived.Test.YtehhocoldpdijaaDoorAbsG6
import Derived.Test.YtehhocoldpdijaaDoorProg
import Derived.Test.YtehhocoldpdijaaDoorFnUseropHashes1
import Derived.Test.YtehhocoldpdijaaDoorFnUseropHashes2
set_option linter.unusedVariables false
set_option linter.unusedSimpArgs false
set_option maxRecDepth 100000
open Go Go.Abs Go.Proofs
section
noncomputable section
noncomputable def Fz.C (n : Nat) : Ctx := ⟨Tryd.prog, abiG, lookC [(70, Fp.c n), (73, Fx.c n), (69, Faw.c n), (74, Fm.c n), (75, Fba.c n), (68, Fy.c n)], fun t => t == 41⟩
noncomputable def Fz.A (n : Nat) : Ann := ⟨Tryd.f38.ntmps, 0, noNL, [], [(some (.objs 69 6))], fun k => match k with
 | _ => none, noNL, lookJ []⟩
def Fz.g {α : Type} (mk0 : LA → α) (n : Nat) (a0_0 : LI) (a0_1 : LI) (a0_2 : Bool) (a0_3 : LI) (a0_4 : LI) (a0_5 : LI) (a0_6 : Int) (a0_7 : Int) (a0_8 : Int) (a0_9 : LI) (a0_10 : LI) (a0_11 : Bool) (a0_12 : LI) (a0_13 : Int) (a0_14 : Int) (a0_15 : LI) (a0_16 : LI) : Option α :=
 bindO (Fp.m n []) fun r2 =>
  bindO (Fp.m n []) fun r4 =>
   if a0_2 = true then
    bindO (Fp.m n [(AV.rints .u8 (Go.Abs.cut a0_3 0 (Option.none))), (AV.rints .u8 a0_4)]) fun r8 =>
     if a0_11 = true then
      bindO (Fx.m n a0_13) fun r12 =>
       bindO (Fx.m n a0_14) fun r14 =>
        bindO (Fp.m n [(AV.rints .u8 (Go.Abs.cut a0_12 0 (Option.none))), (AV.rints .u8 r12), (AV.rints .u8 r14), (AV.rints .u8 a0_15)]) fun r16 =>
         bindO (Faw.m n a0_7) fun r18 =>
          bindO (Faw.m n a0_6) fun r20 =>
           bindO (Fm.m n (r18, r20)) fun r22 =>
            bindO (Fba.m n a0_0) fun r24 =>
             bindO (Fy.m n r24) fun r26 =>
              bindO (Fy.m n a0_1) fun r28 =>
               bindO (Fp.m n [(AV.rints .u8 a0_5)]) fun r30 =>
                bindO (Fy.m n r22) fun r32 =>
                 bindO (Faw.m n a0_8) fun r34 =>
                  bindO (Fy.m n r34) fun r36 =>
                   bindO (Fm.m n (a0_10, a0_9)) fun r38 =>
                    bindO (Fy.m n r38) fun r40 =>
                     bindO (Fp.m n [(AV.rints .u8 a0_16)]) fun r42 =>
                      some (mk0 [(AV.agg [(AV.bool r26.1), (AV.ints .u64 4 r26.2), AV.snil]), (AV.agg [(AV.bool r28.1), (AV.ints .u64 4 r28.2), AV.snil]), (AV.agg [(AV.bool r8.1), (AV.ints .u64 4 r8.2.1), (AV.rints .u8 r8.2.2)]), (AV.agg [(AV.bool r30.1), (AV.ints .u64 4 r30.2.1), (AV.rints .u8 r30.2.2)]), (AV.agg [(AV.bool r32.1), (AV.ints .u64 4 r32.2), AV.snil]), (AV.agg [(AV.bool r36.1), (AV.ints .u64 4 r36.2), AV.snil]), (AV.agg [(AV.bool r40.1), (AV.ints .u64 4 r40.2), AV.snil]), (AV.agg [(AV.bool r16.1), (AV.ints .u64 4 r16.2.1), (AV.rints .u8 r16.2.2)]), (AV.agg [(AV.bool r42.1), (AV.ints .u64 4 r42.2.1), (AV.rints .u8 r42.2.2)])])
     else
      bindO (Faw.m n a0_7) fun r12 =>
       bindO (Faw.m n a0_6) fun r14 =>
        bindO (Fm.m n (r12, r14)) fun r16 =>
         bindO (Fba.m n a0_0) fun r18 =>
          bindO (Fy.m n r18) fun r20 =>
           bindO (Fy.m n a0_1) fun r22 =>
            bindO (Fp.m n [(AV.rints .u8 a0_5)]) fun r24 =>
             bindO (Fy.m n r16) fun r26 =>
              bindO (Faw.m n a0_8) fun r28 =>
               bindO (Fy.m n r28) fun r30 =>
                bindO (Fm.m n (a0_10, a0_9)) fun r32 =>
                 bindO (Fy.m n r32) fun r34 =>
                  bindO (Fp.m n [(AV.rints .u8 a0_16)]) fun r36 =>
                   some (mk0 [(AV.agg [(AV.bool r20.1), (AV.ints .u64 4 r20.2), AV.snil]), (AV.agg [(AV.bool r22.1), (AV.ints .u64 4 r22.2), AV.snil]), (AV.agg [(AV.bool r8.1), (AV.ints .u64 4 r8.2.1), (AV.rints .u8 r8.2.2)]), (AV.agg [(AV.bool r24.1), (AV.ints .u64 4 r24.2.1), (AV.rints .u8 r24.2.2)]), (AV.agg [(AV.bool r26.1), (AV.ints .u64 4 r26.2), AV.snil]), (AV.agg [(AV.bool r30.1), (AV.ints .u64 4 r30.2), AV.snil]), (AV.agg [(AV.bool r34.1), (AV.ints .u64 4 r34.2), AV.snil]), (AV.agg [(AV.bool r4.1), (AV.ints .u64 4 r4.2.1), (AV.rints .u8 r4.2.2)]), (AV.agg [(AV.bool r36.1), (AV.ints .u64 4 r36.2.1), (AV.rints .u8 r36.2.2)])])
   else
    if a0_11 = true then
     bindO (Fx.m n a0_13) fun r10 =>
      bindO (Fx.m n a0_14) fun r12 =>
       bindO (Fp.m n [(AV.rints .u8 (Go.Abs.cut a0_12 0 (Option.none))), (AV.rints .u8 r10), (AV.rints .u8 r12), (AV.rints .u8 a0_15)]) fun r14 =>
        bindO (Faw.m n a0_7) fun r16 =>
         bindO (Faw.m n a0_6) fun r18 =>
          bindO (Fm.m n (r16, r18)) fun r20 =>
           bindO (Fba.m n a0_0) fun r22 =>
            bindO (Fy.m n r22) fun r24 =>
             bindO (Fy.m n a0_1) fun r26 =>
              bindO (Fp.m n [(AV.rints .u8 a0_5)]) fun r28 =>
               bindO (Fy.m n r20) fun r30 =>
                bindO (Faw.m n a0_8) fun r32 =>
                 bindO (Fy.m n r32) fun r34 =>
                  bindO (Fm.m n (a0_10, a0_9)) fun r36 =>
                   bindO (Fy.m n r36) fun r38 =>
                    bindO (Fp.m n [(AV.rints .u8 a0_16)]) fun r40 =>
                     some (mk0 [(AV.agg [(AV.bool r24.1), (AV.ints .u64 4 r24.2), AV.snil]), (AV.agg [(AV.bool r26.1), (AV.ints .u64 4 r26.2), AV.snil]), (AV.agg [(AV.bool r2.1), (AV.ints .u64 4 r2.2.1), (AV.rints .u8 r2.2.2)]), (AV.agg [(AV.bool r28.1), (AV.ints .u64 4 r28.2.1), (AV.rints .u8 r28.2.2)]), (AV.agg [(AV.bool r30.1), (AV.ints .u64 4 r30.2), AV.snil]), (AV.agg [(AV.bool r34.1), (AV.ints .u64 4 r34.2), AV.snil]), (AV.agg [(AV.bool r38.1), (AV.ints .u64 4 r38.2), AV.snil]), (AV.agg [(AV.bool r14.1), (AV.ints .u64 4 r14.2.1), (AV.rints .u8 r14.2.2)]), (AV.agg [(AV.bool r40.1), (AV.ints .u64 4 r40.2.1), (AV.rints .u8 r40.2.2)])])
    else
     bindO (Faw.m n a0_7) fun r10 =>
      bindO (Faw.m n a0_6) fun r12 =>
       bindO (Fm.m n (r10, r12)) fun r14 =>
        bindO (Fba.m n a0_0) fun r16 =>
         bindO (Fy.m n r16) fun r18 =>
          bindO (Fy.m n a0_1) fun r20 =>
           bindO (Fp.m n [(AV.rints .u8 a0_5)]) fun r22 =>
            bindO (Fy.m n r14) fun r24 =>
             bindO (Faw.m n a0_8) fun r26 =>
              bindO (Fy.m n r26) fun r28 =>
               bindO (Fm.m n (a0_10, a0_9)) fun r30 =>
                bindO (Fy.m n r30) fun r32 =>
                 bindO (Fp.m n [(AV.rints .u8 a0_16)]) fun r34 =>
                  some (mk0 [(AV.agg [(AV.bool r18.1), (AV.ints .u64 4 r18.2), AV.snil]), (AV.agg [(AV.bool r20.1), (AV.ints .u64 4 r20.2), AV.snil]), (AV.agg [(AV.bool r2.1), (AV.ints .u64 4 r2.2.1), (AV.rints .u8 r2.2.2)]), (AV.agg [(AV.bool r22.1), (AV.ints .u64 4 r22.2.1), (AV.rints .u8 r22.2.2)]), (AV.agg [(AV.bool r24.1), (AV.ints .u64 4 r24.2), AV.snil]), (AV.agg [(AV.bool r28.1), (AV.ints .u64 4 r28.2), AV.snil]), (AV.agg [(AV.bool r32.1), (AV.ints .u64 4 r32.2), AV.snil]), (AV.agg [(AV.bool r4.1), (AV.ints .u64 4 r4.2.1), (AV.rints .u8 r4.2.2)]), (AV.agg [(AV.bool r34.1), (AV.ints .u64 4 r34.2.1), (AV.rints .u8 r34.2.2)])])
def Fz.m (n : Nat) (t : (LI × (LI × (Bool × (LI × (LI × (LI × (Int × (Int × (Int × (LI × (LI × (Bool × (LI × (Int × (Int × (LI × LI))))))))))))))))) : Option LA := Fz.g (fun a0 => a0) n t.1 t.2.1 t.2.2.1 t.2.2.2.1 t.2.2.2.2.1 t.2.2.2.2.2.1 t.2.2.2.2.2.2.1 t.2.2.2.2.2.2.2.1 t.2.2.2.2.2.2.2.2.1 t.2.2.2.2.2.2.2.2.2.1 t.2.2.2.2.2.2.2.2.2.2.1 t.2.2.2.2.2.2.2.2.2.2.2.1 t.2.2.2.2.2.2.2.2.2.2.2.2.1 t.2.2.2.2.2.2.2.2.2.2.2.2.2.1 t.2.2.2.2.2.2.2.2.2.2.2.2.2.2.1 t.2.2.2.2.2.2.2.2.2.2.2.2.2.2.2.1 t.2.2.2.2.2.2.2.2.2.2.2.2.2.2.2.2
def Fz.pat : List AV → Blks → Option (LI × (LI × (Bool × (LI × (LI × (LI × (Int × (Int × (Int × (LI × (LI × (Bool × (LI × (Int × (Int × (LI × LI))))))))))))))))
 | [(.agg [(.ints .u8 20 a0_0), (.ints .u64 4 a0_1), (.bool a0_2), (.ints .u8 20 a0_3), (.rints .u8 a0_4), (.rints .u8 a0_5), (.int .u64 a0_6), (.int .u64 a0_7), (.int .u64 a0_8), (.ints .u64 4 a0_9), (.ints .u64 4 a0_10), (.bool a0_11), (.ints .u8 20 a0_12), (.int .u64 a0_13), (.int .u64 a0_14), (.rints .u8 a0_15), (.rints .u8 a0_16)])], [] => some (a0_0, a0_1, a0_2, a0_3, a0_4, a0_5, a0_6, a0_7, a0_8, a0_9, a0_10, a0_11, a0_12, a0_13, a0_14, a0_15, a0_16)
 | _, _ => none
def Fz.shape (t : (LI × (LI × (Bool × (LI × (LI × (LI × (Int × (Int × (Int × (LI × (LI × (Bool × (LI × (Int × (Int × (LI × LI))))))))))))))))) : List AV × Blks := ([(.agg [(.ints .u8 20 t.1), (.ints .u64 4 t.2.1), (.bool t.2.2.1), (.ints .u8 20 t.2.2.2.1), (.rints .u8 t.2.2.2.2.1), (.rints .u8 t.2.2.2.2.2.1), (.int .u64 t.2.2.2.2.2.2.1), (.int .u64 t.2.2.2.2.2.2.2.1), (.int .u64 t.2.2.2.2.2.2.2.2.1), (.ints .u64 4 t.2.2.2.2.2.2.2.2.2.1), (.ints .u64 4 t.2.2.2.2.2.2.2.2.2.2.1), (.bool t.2.2.2.2.2.2.2.2.2.2.2.1), (.ints .u8 20 t.2.2.2.2.2.2.2.2.2.2.2.2.1), (.int .u64 t.2.2.2.2.2.2.2.2.2.2.2.2.2.1), (.int .u64 t.2.2.2.2.2.2.2.2.2.2.2.2.2.2.1), (.rints .u8 t.2.2.2.2.2.2.2.2.2.2.2.2.2.2.2.1), (.rints .u8 t.2.2.2.2.2.2.2.2.2.2.2.2.2.2.2.2)])], [])
def Fz.res : LA → AV × Blks
 | u => ((.robjs 69 6 u), [])
def Fz.resK {R : Type} (u : LA) (K : AV → Blks → Option R) : Option R := K (Fz.res u).1 (Fz.res u).2
def Fz.c (n : Nat) : Abs.Callee := .mk' [] [(some (.agg [none, none, none, none, (some (.ints .u8)), (some (.ints .u8)), none, none, none, none, none, none, none, none, none, (some (.ints .u8)), (some (.ints .u8))]))] Fz.pat (Fz.m n) Fz.resK
end
end
section
theorem Fx.gmap {α β : Type} (h : β → α) (mk0 : LI → β) (n : Nat) (a0 : Int) : Fx.g (fun a0 => (h (mk0 a0))) n a0 = (Fx.g mk0 n a0).map h := by
  unfold Fx.g
  exact (bindO_map fun r2 => (bindO_map fun r4 => (ite_map rfl rfl)))
theorem Fx.run (n : Nat) (a0 : Int) : runF (Fx.C n) (Fx.A n) n Tryd.f73 [(.int .u64 a0)] [] (fun v o => some (v, o)) = Fx.g (fun a0 => (((.own 0 1), [(some (.ints .u8 a0))]) : AV × Blks)) n a0 := by kernel_rfl
theorem Fx.call (hmix : Tryd.prog.follows .mixedOrders = true) (n : Nat) (t : Int) (u) (h : Fx.m n t = some u) : FnC Tryd.prog abiG 73 (Fx.shape t).1 (Fx.shape t).2 (Fx.res u).1 (Fx.res u).2 :=
  fnC1 (C := Fx.C n) (A := Fx.A n) (fn := Tryd.f73) rfl (.cons (Faw.s hmix n) (.cons (Fae.s hmix n) .nil)) hmix Tryd.func73 (by kernel_rfl) (lp := []) (by kernel_rfl) .nil
  (nj rfl) (by decide) rfl rfl (by show 1 ≤ Tryd.f73.ntmps; decide) (Fx.run n t) (Fx.gmap Fx.res (fun a0 => a0) n t) h
theorem Fx.s (hmix : Tryd.prog.follows .mixedOrders = true) (n : Nat) : CalleeS Tryd.prog abiG 73 (Fx.c n) :=
  .mk1 (res := Fx.res) (shape := Fx.shape) (fun R u K => rfl) (fun _ _ _ h => by unfold Fx.pat at h; split at h <;> cases h; rfl) (fun t u h => Fx.call hmix n t u h) Tryd.func73 (by decide) (by kernel_rfl)
end
section
theorem Fm.gmap {α β : Type} (h : β → α) (mk0 : LI → β) (n : Nat) (a0 : LI) (a1 : LI) : Fm.g (fun a0 => (h (mk0 a0))) n a0 a1 = (Fm.g mk0 n a0 a1).map h := by
  unfold Fm.g
  exact (bindO_map fun r2 => (bindO_map fun r4 => (bindO_map fun r6 => rfl)))
theorem Fm.run (n : Nat) (a0 : LI) (a1 : LI) : runF (Fm.C n) (Fm.A n) n Tryd.f74 [(.ints .u64 4 a0), (.ints .u64 4 a1)] [] (fun v o => some (v, o)) = Fm.g (fun a0 => (((.ints .u64 4 a0), []) : AV × Blks)) n a0 a1 := by kernel_rfl
theorem Fm.call (hmix : Tryd.prog.follows .mixedOrders = true) (n : Nat) (t : (LI × LI)) (u) (h : Fm.m n t = some u) : FnC Tryd.prog abiG 74 (Fm.shape t).1 (Fm.shape t).2 (Fm.res u).1 (Fm.res u).2 :=
  fnC1 (C := Fm.C n) (A := Fm.A n) (fn := Tryd.f74) rfl (.cons (Faw.s hmix n) (.cons (Fbo.s hmix n) (.cons (Fbk.s hmix n) .nil))) hmix Tryd.func74 (by kernel_rfl) (lp := []) (by kernel_rfl) .nil
  (nj rfl) (by decide) rfl rfl (by show 2 ≤ Tryd.f74.ntmps; decide) (Fm.run n t.1 t.2) (Fm.gmap Fm.res (fun a0 => a0) n t.1 t.2) h
theorem Fm.s (hmix : Tryd.prog.follows .mixedOrders = true) (n : Nat) : CalleeS Tryd.prog abiG 74 (Fm.c n) :=
  .mk1 (res := Fm.res) (shape := Fm.shape) (fun R u K => rfl) (fun _ _ _ h => by unfold Fm.pat at h; split at h <;> cases h; rfl) (fun t u h => Fm.call hmix n t u h) Tryd.func74 (by decide) (by kernel_rfl)
end
section
theorem Fy.gmap {α β : Type} (h : β → α) (mk0 : Bool → LI → β) (n : Nat) (a0 : LI) : Fy.g (fun a0 a1 => (h (mk0 a0 a1))) n a0 = (Fy.g mk0 n a0).map h := by
  unfold Fy.g
  exact rfl
theorem Fy.run (n : Nat) (a0 : LI) : runF (Fy.C n) (Fy.A n) n Tryd.f68 [(.ints .u64 4 a0)] [] (fun v o => some (v, o)) = Fy.g (fun a0 a1 => (((.agg [(.bool a0), (.ints .u64 4 a1), .snil]), []) : AV × Blks)) n a0 := by kernel_rfl
theorem Fy.call (hmix : Tryd.prog.follows .mixedOrders = true) (n : Nat) (t : LI) (u) (h : Fy.m n t = some u) : FnC Tryd.prog abiG 68 (Fy.shape t).1 (Fy.shape t).2 (Fy.res u).1 (Fy.res u).2 :=
  fnC1 (C := Fy.C n) (A := Fy.A n) (fn := Tryd.f68) rfl .nil hmix Tryd.func68 (by kernel_rfl) (lp := []) (by kernel_rfl) .nil
  (nj rfl) (by decide) rfl rfl (by show 1 ≤ Tryd.f68.ntmps; decide) (Fy.run n t) (Fy.gmap Fy.res (fun a0 a1 => (a0, a1)) n t) h
theorem Fy.s (hmix : Tryd.prog.follows .mixedOrders = true) (n : Nat) : CalleeS Tryd.prog abiG 68 (Fy.c n) :=
  .mk1 (res := Fy.res) (shape := Fy.shape) (fun R u K => rfl) (fun _ _ _ h => by unfold Fy.pat at h; split at h <;> cases h; rfl) (fun t u h => Fy.call hmix n t u h) Tryd.func68 (by decide) (by kernel_rfl)
end
section
theorem Fz.gmap {α β : Type} (h : β → α) (mk0 : LA → β) (n : Nat) (a0_0 : LI) (a0_1 : LI) (a0_2 : Bool) (a0_3 : LI) (a0_4 : LI) (a0_5 : LI) (a0_6 : Int) (a0_7 : Int) (a0_8 : Int) (a0_9 : LI) (a0_10 : LI) (a0_11 : Bool) (a0_12 : LI) (a0_13 : Int) (a0_14 : Int) (a0_15 : LI) (a0_16 : LI) : Fz.g (fun a0 => (h (mk0 a0))) n a0_0 a0_1 a0_2 a0_3 a0_4 a0_5 a0_6 a0_7 a0_8 a0_9 a0_10 a0_11 a0_12 a0_13 a0_14 a0_15 a0_16 = (Fz.g mk0 n a0_0 a0_1 a0_2 a0_3 a0_4 a0_5 a0_6 a0_7 a0_8 a0_9 a0_10 a0_11 a0_12 a0_13 a0_14 a0_15 a0_16).map h := by
  unfold Fz.g
  exact (bindO_map fun r2 => (bindO_map fun r4 => (ite_map (bindO_map fun r8 => (ite_map (bindO_map fun r12 => (bindO_map fun r14 => (bindO_map fun r16 => (bindO_map fun r18 => (bindO_map fun r20 => (bindO_map fun r22 => (bindO_map fun r24 => (bindO_map fun r26 => (bindO_map fun r28 => (bindO_map fun r30 => (bindO_map fun r32 => (bindO_map fun r34 => (bindO_map fun r36 => (bindO_map fun r38 => (bindO_map fun r40 => (bindO_map fun r42 => rfl)))))))))))))))) (bindO_map fun r12 => (bindO_map fun r14 => (bindO_map fun r16 => (bindO_map fun r18 => (bindO_map fun r20 => (bindO_map fun r22 => (bindO_map fun r24 => (bindO_map fun r26 => (bindO_map fun r28 => (bindO_map fun r30 => (bindO_map fun r32 => (bindO_map fun r34 => (bindO_map fun r36 => rfl))))))))))))))) (ite_map (bindO_map fun r10 => (bindO_map fun r12 => (bindO_map fun r14 => (bindO_map fun r16 => (bindO_map fun r18 => (bindO_map fun r20 => (bindO_map fun r22 => (bindO_map fun r24 => (bindO_map fun r26 => (bindO_map fun r28 => (bindO_map fun r30 => (bindO_map fun r32 => (bindO_map fun r34 => (bindO_map fun r36 => (bindO_map fun r38 => (bindO_map fun r40 => rfl)))))))))))))))) (bindO_map fun r10 => (bindO_map fun r12 => (bindO_map fun r14 => (bindO_map fun r16 => (bindO_map fun r18 => (bindO_map fun r20 => (bindO_map fun r22 => (bindO_map fun r24 => (bindO_map fun r26 => (bindO_map fun r28 => (bindO_map fun r30 => (bindO_map fun r32 => (bindO_map fun r34 => rfl)))))))))))))))))
theorem Fz.run (n : Nat) (a0_0 : LI) (a0_1 : LI) (a0_2 : Bool) (a0_3 : LI) (a0_4 : LI) (a0_5 : LI) (a0_6 : Int) (a0_7 : Int) (a0_8 : Int) (a0_9 : LI) (a0_10 : LI) (a0_11 : Bool) (a0_12 : LI) (a0_13 : Int) (a0_14 : Int) (a0_15 : LI) (a0_16 : LI) : runF (Fz.C n) (Fz.A n) n Tryd.f38 [(.agg [(.ints .u8 20 a0_0), (.ints .u64 4 a0_1), (.bool a0_2), (.ints .u8 20 a0_3), (.rints .u8 a0_4), (.rints .u8 a0_5), (.int .u64 a0_6), (.int .u64 a0_7), (.int .u64 a0_8), (.ints .u64 4 a0_9), (.ints .u64 4 a0_10), (.bool a0_11), (.ints .u8 20 a0_12), (.int .u64 a0_13), (.int .u64 a0_14), (.rints .u8 a0_15), (.rints .u8 a0_16)])] [] (fun v o => some (v, o)) = Fz.g (fun a0 => (((.robjs 69 6 a0), []) : AV × Blks)) n a0_0 a0_1 a0_2 a0_3 a0_4 a0_5 a0_6 a0_7 a0_8 a0_9 a0_10 a0_11 a0_12 a0_13 a0_14 a0_15 a0_16 := by kernel_rfl
theorem Fz.call (hmix : Tryd.prog.follows .mixedOrders = true) (n : Nat) (t : (LI × (LI × (Bool × (LI × (LI × (LI × (Int × (Int × (Int × (LI × (LI × (Bool × (LI × (Int × (Int × (LI × LI))))))))))))))))) (u) (h : Fz.m n t = some u) : FnC Tryd.prog abiG 38 (Fz.shape t).1 (Fz.shape t).2 (Fz.res u).1 (Fz.res u).2 :=
  fnC1 (C := Fz.C n) (A := Fz.A n) (fn := Tryd.f38) rfl (.cons (Fp.s hmix n) (.cons (Fx.s hmix n) (.cons (Faw.s hmix n) (.cons (Fm.s hmix n) (.cons (Fba.s hmix n) (.cons (Fy.s hmix n) .nil)))))) hmix Tryd.func38 (by kernel_rfl) (lp := []) (by kernel_rfl) .nil
  (nj rfl) (by decide) rfl rfl (by show 1 ≤ Tryd.f38.ntmps; decide) (Fz.run n t.1 t.2.1 t.2.2.1 t.2.2.2.1 t.2.2.2.2.1 t.2.2.2.2.2.1 t.2.2.2.2.2.2.1 t.2.2.2.2.2.2.2.1 t.2.2.2.2.2.2.2.2.1 t.2.2.2.2.2.2.2.2.2.1 t.2.2.2.2.2.2.2.2.2.2.1 t.2.2.2.2.2.2.2.2.2.2.2.1 t.2.2.2.2.2.2.2.2.2.2.2.2.1 t.2.2.2.2.2.2.2.2.2.2.2.2.2.1 t.2.2.2.2.2.2.2.2.2.2.2.2.2.2.1 t.2.2.2.2.2.2.2.2.2.2.2.2.2.2.2.1 t.2.2.2.2.2.2.2.2.2.2.2.2.2.2.2.2) (Fz.gmap Fz.res (fun a0 => a0) n t.1 t.2.1 t.2.2.1 t.2.2.2.1 t.2.2.2.2.1 t.2.2.2.2.2.1 t.2.2.2.2.2.2.1 t.2.2.2.2.2.2.2.1 t.2.2.2.2.2.2.2.2.1 t.2.2.2.2.2.2.2.2.2.1 t.2.2.2.2.2.2.2.2.2.2.1 t.2.2.2.2.2.2.2.2.2.2.2.1 t.2.2.2.2.2.2.2.2.2.2.2.2.1 t.2.2.2.2.2.2.2.2.2.2.2.2.2.1 t.2.2.2.2.2.2.2.2.2.2.2.2.2.2.1 t.2.2.2.2.2.2.2.2.2.2.2.2.2.2.2.1 t.2.2.2.2.2.2.2.2.2.2.2.2.2.2.2.2) h
theorem Fz.s (hmix : Tryd.prog.follows .mixedOrders = true) (n : Nat) : CalleeS Tryd.prog abiG 38 (Fz.c n) :=
  .mk1 (res := Fz.res) (shape := Fz.shape) (fun R u K => rfl) (fun _ _ _ h => by unfold Fz.pat at h; split at h <;> cases h; rfl) (fun t u h => Fz.call hmix n t u h) Tryd.func38 (by decide) (by kernel_rfl)
end
section
noncomputable section
noncomputable def Faa.C (n : Nat) : Ctx := ⟨Tryd.prog, abiG, lookC [(78, Fbq.c n), (55, Fav.c n)], fun _ => false⟩
noncomputable def Faa.A (n : Nat) : Ann := ⟨Tryd.f76.ntmps, 0, noNL, [], [(some (.ints .u8))], fun k => match k with
 | _ => none, noNL, lookJ []⟩
def Faa.g {α : Type} (mk0 : LI → α) (n : Nat) (a0 : LI) : Option α :=
 bindO (Fbq.m n a0) fun r2 =>
  bindO (Fav.m n r2) fun r4 =>
   if 12 ≤ (((List.length r4) : Nat) : Int) then
    some (mk0 (Go.Abs.partL r4 12 (Go.Abs.span (List.length r4) 12 (Option.none))))
   else
    none
def Faa.m (n : Nat) (t : LI) : Option LI := Faa.g (fun a0 => a0) n t
def Faa.pat : List AV → Blks → Option LI
 | [(.ints .u8 20 a0)], [] => some a0
 | _, _ => none
def Faa.shape (t : LI) : List AV × Blks := ([(.ints .u8 20 t)], [])
def Faa.res : LI → AV × Blks
 | u => ((.own 0 1), [(some (.ints .u8 u))])
def Faa.resK {R : Type} (u : LI) (K : AV → Blks → Option R) : Option R := K (Faa.res u).1 (Faa.res u).2
def Faa.c (n : Nat) : Abs.Callee := .mk' [] [none] Faa.pat (Faa.m n) Faa.resK
end
end
section
noncomputable section
noncomputable def Fbr.C (n : Nat) : Ctx := ⟨Tryd.prog, abiG, lookC [(51, Fbg.c n), (55, Fav.c n)], fun _ => false⟩
noncomputable def Fbr.A (n : Nat) : Ann := ⟨Tryd.f77.ntmps, 0, noNL, [], [(some (.ints .u8))], fun k => match k with
 | _ => none, noNL, lookJ []⟩
def Fbr.g {α : Type} (mk0 : LI → α) (n : Nat) (a0 : Int) : Option α :=
 bindO (Fbg.m n a0) fun r2 =>
  bindO (Fav.m n r2) fun r4 =>
   if 16 ≤ (((List.length r4) : Nat) : Int) then
    some (mk0 (Go.Abs.partL r4 16 (Go.Abs.span (List.length r4) 16 (Option.none))))
   else
    none
def Fbr.m (n : Nat) (t : Int) : Option LI := Fbr.g (fun a0 => a0) n t
def Fbr.pat : List AV → Blks → Option Int
 | [(.int .u64 a0)], [] => some a0
 | _, _ => none
def Fbr.shape (t : Int) : List AV × Blks := ([(.int .u64 t)], [])
def Fbr.res : LI → AV × Blks
 | u => ((.own 0 1), [(some (.ints .u8 u))])
def Fbr.resK {R : Type} (u : LI) (K : AV → Blks → Option R) : Option R := K (Fbr.res u).1 (Fbr.res u).2
def Fbr.c (n : Nat) : Abs.Callee := .mk' [] [none] Fbr.pat (Fbr.m n) Fbr.resK
end
end
section
noncomputable section
noncomputable def Fbs.C (n : Nat) : Ctx := ⟨Tryd.prog, abiG, lookC [], fun _ => false⟩
noncomputable def Fbs.A (n : Nat) : Ann := ⟨Tryd.f71.ntmps, 0, noNL, [], [none], fun k => match k with
 | _ => none, noNL, lookJ []⟩
def Fbs.g {α : Type} (mk0 : Bool → LI → α) (n : Nat) (a0 : LI) : Option α :=
 some (mk0 false a0)
def Fbs.m (n : Nat) (t : LI) : Option (Bool × LI) := Fbs.g (fun a0 a1 => (a0, a1)) n t
def Fbs.pat : List AV → Blks → Option LI
 | [(.ints .u64 4 a0)], [] => some a0
 | _, _ => none
def Fbs.shape (t : LI) : List AV × Blks := ([(.ints .u64 4 t)], [])
def Fbs.res : (Bool × LI) → AV × Blks
 | u => ((.agg [(.bool u.1), (.ints .u64 4 u.2), .snil]), [])
def Fbs.resK {R : Type} (u : (Bool × LI)) (K : AV → Blks → Option R) : Option R := K (Fbs.res u).1 (Fbs.res u).2
def Fbs.c (n : Nat) : Abs.Callee := .mk' [] [none] Fbs.pat (Fbs.m n) Fbs.resK
end
end
section
noncomputable section
noncomputable def Fbt.C (n : Nat) : Ctx := ⟨Tryd.prog, abiG, lookC [], fun _ => false⟩
noncomputable def Fbt.A (n : Nat) : Ann := ⟨Tryd.f72.ntmps, 0, noNL, [], [none], fun k => match k with
 | _ => none, noNL, lookJ []⟩
def Fbt.g {α : Type} (mk0 : Bool → LI → LI → α) (n : Nat) (a0 : LI) : Option α :=
 if (((List.length a0) * 1) ≤ 70368744177664 ∧ (List.length a0) ≤ 9223372036854775807) then
  some (mk0 true [0, 0, 0, 0] a0)
 else
  none
def Fbt.m (n : Nat) (t : LI) : Option (Bool × (LI × LI)) := Fbt.g (fun a0 a1 a2 => (a0, a1, a2)) n t
def Fbt.pat : List AV → Blks → Option LI
 | [(.rints .u8 a0)], [] => some a0
 | _, _ => none
def Fbt.shape (t : LI) : List AV × Blks := ([(.rints .u8 t)], [])
def Fbt.res : (Bool × (LI × LI)) → AV × Blks
 | u => ((.agg [(.bool u.1), (.ints .u64 4 u.2.1), (.own 0 1)]), [(some (.ints .u8 u.2.2))])
def Fbt.resK {R : Type} (u : (Bool × (LI × LI))) (K : AV → Blks → Option R) : Option R := K (Fbt.res u).1 (Fbt.res u).2
def Fbt.c (n : Nat) : Abs.Callee := .mk' [] [(some (.ints .u8))] Fbt.pat (Fbt.m n) Fbt.resK
end
end
section
noncomputable section
noncomputable def Fao.C (n : Nat) : Ctx := ⟨Tryd.prog, abiG, lookC [(51, Fbg.c n), (101, Fcg.c n), (87, Fcc.c n)], fun _ => false⟩
noncomputable def Fao.A (n : Nat) : Ann := ⟨Tryd.f79.ntmps, 0, noNL, [], [none], fun k => match k with
 | _ => none, noNL, lookJ []⟩
def Fao.g {α : Type} (mk0 : LI → α) (n : Nat) (a0 : LI) (a1 : LI) : Option α :=
 bindO (Fbg.m n 128) fun r2 =>
  bindO (Fcg.m n (r2, a0)) fun r4 =>
   bindO (Fcc.m n (r4, a1)) fun r6 =>
    some (mk0 r6.1)
def Fao.m (n : Nat) (t : (LI × LI)) : Option LI := Fao.g (fun a0 => a0) n t.1 t.2
def Fao.pat : List AV → Blks → Option (LI × LI)
 | [(.ints .u64 4 a0), (.ints .u64 4 a1)], [] => some (a0, a1)
 | _, _ => none
def Fao.shape (t : (LI × LI)) : List AV × Blks := ([(.ints .u64 4 t.1), (.ints .u64 4 t.2)], [])
def Fao.res : LI → AV × Blks
 | u => ((.ints .u64 4 u), [])
def Fao.resK {R : Type} (u : LI) (K : AV → Blks → Option R) : Option R := K (Fao.res u).1 (Fao.res u).2
def Fao.c (n : Nat) : Abs.Callee := .mk' [] [none, none] Fao.pat (Fao.m n) Fao.resK
end
end
section
noncomputable section
noncomputable def Fbu.C (n : Nat) : Ctx := ⟨Tryd.prog, abiG, lookC [(76, Faa.c n), (77, Fbr.c n), (78, Fbq.c n), (71, Fbs.c n), (72, Fbt.c n), (51, Fbg.c n), (79, Fao.c n)], fun t => t == 3008000 || t == 3008004 || t == 3008005⟩
noncomputable def Fbu.A (n : Nat) : Ann := ⟨Tryd.f39.ntmps, 0, noNL, [], [(some (.objs 69 6))], fun k => match k with
 | _ => none, noNL, lookJ []⟩
def Fbu.g {α : Type} (mk0 : LA → α) (n : Nat) (a0_0 : LI) (a0_1 : LI) (a0_2 : Bool) (a0_3 : LI) (a0_4 : LI) (a0_5 : LI) (a0_6 : Int) (a0_7 : Int) (a0_8 : Int) (a0_9 : LI) (a0_10 : LI) (a0_11 : Bool) (a0_12 : LI) (a0_13 : Int) (a0_14 : Int) (a0_15 : LI) (a0_16 : LI) : Option α :=
 if a0_2 = true then
  bindO (Faa.m n a0_3) fun r4 =>
   if ((((List.length r4) + (List.length a0_4)) * 1) ≤ 70368744177664 ∧ ((List.length r4) + (List.length a0_4)) ≤ 9223372036854775807) then
    if a0_11 = true then
     bindO (Faa.m n a0_12) fun r10 =>
      bindO (Fbr.m n a0_13) fun r12 =>
       if ((((List.length r10) + (List.length r12)) * 1) ≤ 70368744177664 ∧ ((List.length r10) + (List.length r12)) ≤ 9223372036854775807) then
        bindO (Fbr.m n a0_14) fun r16 =>
         if ((((List.length (r10 ++ r12)) + (List.length r16)) * 1) ≤ 70368744177664 ∧ ((List.length (r10 ++ r12)) + (List.length r16)) ≤ 9223372036854775807) then
          if ((((List.length ((r10 ++ r12) ++ r16)) + (List.length a0_15)) * 1) ≤ 70368744177664 ∧ ((List.length ((r10 ++ r12) ++ r16)) + (List.length a0_15)) ≤ 9223372036854775807) then
           bindO (Fbq.m n a0_0) fun r22 =>
            bindO (Fbs.m n r22) fun r24 =>
             bindO (Fbs.m n a0_1) fun r26 =>
              bindO (Fbt.m n (r4 ++ a0_4)) fun r28 =>
               bindO (Fbt.m n a0_5) fun r30 =>
                bindO (Fbg.m n a0_7) fun r32 =>
                 bindO (Fbg.m n a0_6) fun r34 =>
                  bindO (Fao.m n (r32, r34)) fun r36 =>
                   bindO (Fbs.m n r36) fun r38 =>
                    bindO (Fbg.m n a0_8) fun r40 =>
                     bindO (Fbs.m n r40) fun r42 =>
                      bindO (Fao.m n (a0_10, a0_9)) fun r44 =>
                       bindO (Fbs.m n r44) fun r46 =>
                        bindO (Fbt.m n (((r10 ++ r12) ++ r16) ++ a0_15)) fun r48 =>
                         bindO (Fbt.m n a0_16) fun r50 =>
                          some (mk0 [(AV.agg [(AV.bool r24.1), (AV.ints .u64 4 r24.2), AV.snil]), (AV.agg [(AV.bool r26.1), (AV.ints .u64 4 r26.2), AV.snil]), (AV.agg [(AV.bool r28.1), (AV.ints .u64 4 r28.2.1), (AV.rints .u8 r28.2.2)]), (AV.agg [(AV.bool r30.1), (AV.ints .u64 4 r30.2.1), (AV.rints .u8 r30.2.2)]), (AV.agg [(AV.bool r38.1), (AV.ints .u64 4 r38.2), AV.snil]), (AV.agg [(AV.bool r42.1), (AV.ints .u64 4 r42.2), AV.snil]), (AV.agg [(AV.bool r46.1), (AV.ints .u64 4 r46.2), AV.snil]), (AV.agg [(AV.bool r48.1), (AV.ints .u64 4 r48.2.1), (AV.rints .u8 r48.2.2)]), (AV.agg [(AV.bool r50.1), (AV.ints .u64 4 r50.2.1), (AV.rints .u8 r50.2.2)])])
          else
           none
         else
          none
       else
        none
    else
     bindO (Fbq.m n a0_0) fun r10 =>
      bindO (Fbs.m n r10) fun r12 =>
       bindO (Fbs.m n a0_1) fun r14 =>
        bindO (Fbt.m n (r4 ++ a0_4)) fun r16 =>
         bindO (Fbt.m n a0_5) fun r18 =>
          bindO (Fbg.m n a0_7) fun r20 =>
           bindO (Fbg.m n a0_6) fun r22 =>
            bindO (Fao.m n (r20, r22)) fun r24 =>
             bindO (Fbs.m n r24) fun r26 =>
              bindO (Fbg.m n a0_8) fun r28 =>
               bindO (Fbs.m n r28) fun r30 =>
                bindO (Fao.m n (a0_10, a0_9)) fun r32 =>
                 bindO (Fbs.m n r32) fun r34 =>
                  bindO (Fbt.m n []) fun r36 =>
                   bindO (Fbt.m n a0_16) fun r38 =>
                    some (mk0 [(AV.agg [(AV.bool r12.1), (AV.ints .u64 4 r12.2), AV.snil]), (AV.agg [(AV.bool r14.1), (AV.ints .u64 4 r14.2), AV.snil]), (AV.agg [(AV.bool r16.1), (AV.ints .u64 4 r16.2.1), (AV.rints .u8 r16.2.2)]), (AV.agg [(AV.bool r18.1), (AV.ints .u64 4 r18.2.1), (AV.rints .u8 r18.2.2)]), (AV.agg [(AV.bool r26.1), (AV.ints .u64 4 r26.2), AV.snil]), (AV.agg [(AV.bool r30.1), (AV.ints .u64 4 r30.2), AV.snil]), (AV.agg [(AV.bool r34.1), (AV.ints .u64 4 r34.2), AV.snil]), (AV.agg [(AV.bool r36.1), (AV.ints .u64 4 r36.2.1), (AV.rints .u8 r36.2.2)]), (AV.agg [(AV.bool r38.1), (AV.ints .u64 4 r38.2.1), (AV.rints .u8 r38.2.2)])])
   else
    none
 else
  if a0_11 = true then
   bindO (Faa.m n a0_12) fun r6 =>
    bindO (Fbr.m n a0_13) fun r8 =>
     if ((((List.length r6) + (List.length r8)) * 1) ≤ 70368744177664 ∧ ((List.length r6) + (List.length r8)) ≤ 9223372036854775807) then
      bindO (Fbr.m n a0_14) fun r12 =>
       if ((((List.length (r6 ++ r8)) + (List.length r12)) * 1) ≤ 70368744177664 ∧ ((List.length (r6 ++ r8)) + (List.length r12)) ≤ 9223372036854775807) then
        if ((((List.length ((r6 ++ r8) ++ r12)) + (List.length a0_15)) * 1) ≤ 70368744177664 ∧ ((List.length ((r6 ++ r8) ++ r12)) + (List.length a0_15)) ≤ 9223372036854775807) then
         bindO (Fbq.m n a0_0) fun r18 =>
          bindO (Fbs.m n r18) fun r20 =>
           bindO (Fbs.m n a0_1) fun r22 =>
            bindO (Fbt.m n []) fun r24 =>
             bindO (Fbt.m n a0_5) fun r26 =>
              bindO (Fbg.m n a0_7) fun r28 =>
               bindO (Fbg.m n a0_6) fun r30 =>
                bindO (Fao.m n (r28, r30)) fun r32 =>
                 bindO (Fbs.m n r32) fun r34 =>
                  bindO (Fbg.m n a0_8) fun r36 =>
                   bindO (Fbs.m n r36) fun r38 =>
                    bindO (Fao.m n (a0_10, a0_9)) fun r40 =>
                     bindO (Fbs.m n r40) fun r42 =>
                      bindO (Fbt.m n (((r6 ++ r8) ++ r12) ++ a0_15)) fun r44 =>
                       bindO (Fbt.m n a0_16) fun r46 =>
                        some (mk0 [(AV.agg [(AV.bool r20.1), (AV.ints .u64 4 r20.2), AV.snil]), (AV.agg [(AV.bool r22.1), (AV.ints .u64 4 r22.2), AV.snil]), (AV.agg [(AV.bool r24.1), (AV.ints .u64 4 r24.2.1), (AV.rints .u8 r24.2.2)]), (AV.agg [(AV.bool r26.1), (AV.ints .u64 4 r26.2.1), (AV.rints .u8 r26.2.2)]), (AV.agg [(AV.bool r34.1), (AV.ints .u64 4 r34.2), AV.snil]), (AV.agg [(AV.bool r38.1), (AV.ints .u64 4 r38.2), AV.snil]), (AV.agg [(AV.bool r42.1), (AV.ints .u64 4 r42.2), AV.snil]), (AV.agg [(AV.bool r44.1), (AV.ints .u64 4 r44.2.1), (AV.rints .u8 r44.2.2)]), (AV.agg [(AV.bool r46.1), (AV.ints .u64 4 r46.2.1), (AV.rints .u8 r46.2.2)])])
        else
         none
       else
        none
     else
      none
  else
   bindO (Fbq.m n a0_0) fun r6 =>
    bindO (Fbs.m n r6) fun r8 =>
     bindO (Fbs.m n a0_1) fun r10 =>
      bindO (Fbt.m n []) fun r12 =>
       bindO (Fbt.m n a0_5) fun r14 =>
        bindO (Fbg.m n a0_7) fun r16 =>
         bindO (Fbg.m n a0_6) fun r18 =>
          bindO (Fao.m n (r16, r18)) fun r20 =>
           bindO (Fbs.m n r20) fun r22 =>
            bindO (Fbg.m n a0_8) fun r24 =>
             bindO (Fbs.m n r24) fun r26 =>
              bindO (Fao.m n (a0_10, a0_9)) fun r28 =>
               bindO (Fbs.m n r28) fun r30 =>
                bindO (Fbt.m n []) fun r32 =>
                 bindO (Fbt.m n a0_16) fun r34 =>
                  some (mk0 [(AV.agg [(AV.bool r8.1), (AV.ints .u64 4 r8.2), AV.snil]), (AV.agg [(AV.bool r10.1), (AV.ints .u64 4 r10.2), AV.snil]), (AV.agg [(AV.bool r12.1), (AV.ints .u64 4 r12.2.1), (AV.rints .u8 r12.2.2)]), (AV.agg [(AV.bool r14.1), (AV.ints .u64 4 r14.2.1), (AV.rints .u8 r14.2.2)]), (AV.agg [(AV.bool r22.1), (AV.ints .u64 4 r22.2), AV.snil]), (AV.agg [(AV.bool r26.1), (AV.ints .u64 4 r26.2), AV.snil]), (AV.agg [(AV.bool r30.1), (AV.ints .u64 4 r30.2), AV.snil]), (AV.agg [(AV.bool r32.1), (AV.ints .u64 4 r32.2.1), (AV.rints .u8 r32.2.2)]), (AV.agg [(AV.bool r34.1), (AV.ints .u64 4 r34.2.1), (AV.rints .u8 r34.2.2)])])
def Fbu.m (n : Nat) (t : (LI × (LI × (Bool × (LI × (LI × (LI × (Int × (Int × (Int × (LI × (LI × (Bool × (LI × (Int × (Int × (LI × LI))))))))))))))))) : Option LA := Fbu.g (fun a0 => a0) n t.1 t.2.1 t.2.2.1 t.2.2.2.1 t.2.2.2.2.1 t.2.2.2.2.2.1 t.2.2.2.2.2.2.1 t.2.2.2.2.2.2.2.1 t.2.2.2.2.2.2.2.2.1 t.2.2.2.2.2.2.2.2.2.1 t.2.2.2.2.2.2.2.2.2.2.1 t.2.2.2.2.2.2.2.2.2.2.2.1 t.2.2.2.2.2.2.2.2.2.2.2.2.1 t.2.2.2.2.2.2.2.2.2.2.2.2.2.1 t.2.2.2.2.2.2.2.2.2.2.2.2.2.2.1 t.2.2.2.2.2.2.2.2.2.2.2.2.2.2.2.1 t.2.2.2.2.2.2.2.2.2.2.2.2.2.2.2.2
def Fbu.pat : List AV → Blks → Option (LI × (LI × (Bool × (LI × (LI × (LI × (Int × (Int × (Int × (LI × (LI × (Bool × (LI × (Int × (Int × (LI × LI))))))))))))))))
 | [(.agg [(.ints .u8 20 a0_0), (.ints .u64 4 a0_1), (.bool a0_2), (.ints .u8 20 a0_3), (.rints .u8 a0_4), (.rints .u8 a0_5), (.int .u64 a0_6), (.int .u64 a0_7), (.int .u64 a0_8), (.ints .u64 4 a0_9), (.ints .u64 4 a0_10), (.bool a0_11), (.ints .u8 20 a0_12), (.int .u64 a0_13), (.int .u64 a0_14), (.rints .u8 a0_15), (.rints .u8 a0_16)])], [] => some (a0_0, a0_1, a0_2, a0_3, a0_4, a0_5, a0_6, a0_7, a0_8, a0_9, a0_10, a0_11, a0_12, a0_13, a0_14, a0_15, a0_16)
 | _, _ => none
def Fbu.shape (t : (LI × (LI × (Bool × (LI × (LI × (LI × (Int × (Int × (Int × (LI × (LI × (Bool × (LI × (Int × (Int × (LI × LI))))))))))))))))) : List AV × Blks := ([(.agg [(.ints .u8 20 t.1), (.ints .u64 4 t.2.1), (.bool t.2.2.1), (.ints .u8 20 t.2.2.2.1), (.rints .u8 t.2.2.2.2.1), (.rints .u8 t.2.2.2.2.2.1), (.int .u64 t.2.2.2.2.2.2.1), (.int .u64 t.2.2.2.2.2.2.2.1), (.int .u64 t.2.2.2.2.2.2.2.2.1), (.ints .u64 4 t.2.2.2.2.2.2.2.2.2.1), (.ints .u64 4 t.2.2.2.2.2.2.2.2.2.2.1), (.bool t.2.2.2.2.2.2.2.2.2.2.2.1), (.ints .u8 20 t.2.2.2.2.2.2.2.2.2.2.2.2.1), (.int .u64 t.2.2.2.2.2.2.2.2.2.2.2.2.2.1), (.int .u64 t.2.2.2.2.2.2.2.2.2.2.2.2.2.2.1), (.rints .u8 t.2.2.2.2.2.2.2.2.2.2.2.2.2.2.2.1), (.rints .u8 t.2.2.2.2.2.2.2.2.2.2.2.2.2.2.2.2)])], [])
def Fbu.res : LA → AV × Blks
 | u => ((.robjs 69 6 u), [])
def Fbu.resK {R : Type} (u : LA) (K : AV → Blks → Option R) : Option R := K (Fbu.res u).1 (Fbu.res u).2
def Fbu.c (n : Nat) : Abs.Callee := .mk' [] [(some (.agg [none, none, none, none, (some (.ints .u8)), (some (.ints .u8)), none, none, none, none, none, none, none, none, none, (some (.ints .u8)), (some (.ints .u8))]))] Fbu.pat (Fbu.m n) Fbu.resK
end
end
section
theorem Faa.gmap {α β : Type} (h : β → α) (mk0 : LI → β) (n : Nat) (a0 : LI) : Faa.g (fun a0 => (h (mk0 a0))) n a0 = (Faa.g mk0 n a0).map h := by
  unfold Faa.g
  exact (bindO_map fun r2 => (bindO_map fun r4 => (ite_map rfl rfl)))
theorem Faa.run (n : Nat) (a0 : LI) : runF (Faa.C n) (Faa.A n) n Tryd.f76 [(.ints .u8 20 a0)] [] (fun v o => some (v, o)) = Faa.g (fun a0 => (((.own 0 1), [(some (.ints .u8 a0))]) : AV × Blks)) n a0 := by kernel_rfl
theorem Faa.call (hmix : Tryd.prog.follows .mixedOrders = true) (n : Nat) (t : LI) (u) (h : Faa.m n t = some u) : FnC Tryd.prog abiG 76 (Faa.shape t).1 (Faa.shape t).2 (Faa.res u).1 (Faa.res u).2 :=
  fnC1 (C := Faa.C n) (A := Faa.A n) (fn := Tryd.f76) rfl (.cons (Fbq.s hmix n) (.cons (Fav.s hmix n) .nil)) hmix Tryd.func76 (by kernel_rfl) (lp := []) (by kernel_rfl) .nil
  (nj rfl) (by decide) rfl rfl (by show 1 ≤ Tryd.f76.ntmps; decide) (Faa.run n t) (Faa.gmap Faa.res (fun a0 => a0) n t) h
theorem Faa.s (hmix : Tryd.prog.follows .mixedOrders = true) (n : Nat) : CalleeS Tryd.prog abiG 76 (Faa.c n) :=
  .mk1 (res := Faa.res) (shape := Faa.shape) (fun R u K => rfl) (fun _ _ _ h => by unfold Faa.pat at h; split at h <;> cases h; rfl) (fun t u h => Faa.call hmix n t u h) Tryd.func76 (by decide) (by kernel_rfl)
end
section
theorem Fbr.gmap {α β : Type} (h : β → α) (mk0 : LI → β) (n : Nat) (a0 : Int) : Fbr.g (fun a0 => (h (mk0 a0))) n a0 = (Fbr.g mk0 n a0).map h := by
  unfold Fbr.g
  exact (bindO_map fun r2 => (bindO_map fun r4 => (ite_map rfl rfl)))
theorem Fbr.run (n : Nat) (a0 : Int) : runF (Fbr.C n) (Fbr.A n) n Tryd.f77 [(.int .u64 a0)] [] (fun v o => some (v, o)) = Fbr.g (fun a0 => (((.own 0 1), [(some (.ints .u8 a0))]) : AV × Blks)) n a0 := by kernel_rfl
theorem Fbr.call (hmix : Tryd.prog.follows .mixedOrders = true) (n : Nat) (t : Int) (u) (h : Fbr.m n t = some u) : FnC Tryd.prog abiG 77 (Fbr.shape t).1 (Fbr.shape t).2 (Fbr.res u).1 (Fbr.res u).2 :=
  fnC1 (C := Fbr.C n) (A := Fbr.A n) (fn := Tryd.f77) rfl (.cons (Fbg.s hmix n) (.cons (Fav.s hmix n) .nil)) hmix Tryd.func77 (by kernel_rfl) (lp := []) (by kernel_rfl) .nil
  (nj rfl) (by decide) rfl rfl (by show 1 ≤ Tryd.f77.ntmps; decide) (Fbr.run n t) (Fbr.gmap Fbr.res (fun a0 => a0) n t) h
theorem Fbr.s (hmix : Tryd.prog.follows .mixedOrders = true) (n : Nat) : CalleeS Tryd.prog abiG 77 (Fbr.c n) :=
  .mk1 (res := Fbr.res) (shape := Fbr.shape) (fun R u K => rfl) (fun _ _ _ h => by unfold Fbr.pat at h; split at h <;> cases h; rfl) (fun t u h => Fbr.call hmix n t u h) Tryd.func77 (by decide) (by kernel_rfl)
end
section
theorem Fbs.gmap {α β : Type} (h : β → α) (mk0 : Bool → LI → β) (n : Nat) (a0 : LI) : Fbs.g (fun a0 a1 => (h (mk0 a0 a1))) n a0 = (Fbs.g mk0 n a0).map h := by
  unfold Fbs.g
  exact rfl
theorem Fbs.run (n : Nat) (a0 : LI) : runF (Fbs.C n) (Fbs.A n) n Tryd.f71 [(.ints .u64 4 a0)] [] (fun v o => some (v, o)) = Fbs.g (fun a0 a1 => (((.agg [(.bool a0), (.ints .u64 4 a1), .snil]), []) : AV × Blks)) n a0 := by kernel_rfl
theorem Fbs.call (hmix : Tryd.prog.follows .mixedOrders = true) (n : Nat) (t : LI) (u) (h : Fbs.m n t = some u) : FnC Tryd.prog abiG 71 (Fbs.shape t).1 (Fbs.shape t).2 (Fbs.res u).1 (Fbs.res u).2 :=
  fnC1 (C := Fbs.C n) (A := Fbs.A n) (fn := Tryd.f71) rfl .nil hmix Tryd.func71 (by kernel_rfl) (lp := []) (by kernel_rfl) .nil
  (nj rfl) (by decide) rfl rfl (by show 1 ≤ Tryd.f71.ntmps; decide) (Fbs.run n t) (Fbs.gmap Fbs.res (fun a0 a1 => (a0, a1)) n t) h
theorem Fbs.s (hmix : Tryd.prog.follows .mixedOrders = true) (n : Nat) : CalleeS Tryd.prog abiG 71 (Fbs.c n) :=
  .mk1 (res := Fbs.res) (shape := Fbs.shape) (fun R u K => rfl) (fun _ _ _ h => by unfold Fbs.pat at h; split at h <;> cases h; rfl) (fun t u h => Fbs.call hmix n t u h) Tryd.func71 (by decide) (by kernel_rfl)
end
section
theorem Fbt.gmap {α β : Type} (h : β → α) (mk0 : Bool → LI → LI → β) (n : Nat) (a0 : LI) : Fbt.g (fun a0 a1 a2 => (h (mk0 a0 a1 a2))) n a0 = (Fbt.g mk0 n a0).map h := by
  unfold Fbt.g
  exact (ite_map rfl rfl)
theorem Fbt.run (n : Nat) (a0 : LI) : runF (Fbt.C n) (Fbt.A n) n Tryd.f72 [(.rints .u8 a0)] [] (fun v o => some (v, o)) = Fbt.g (fun a0 a1 a2 => (((.agg [(.bool a0), (.ints .u64 4 a1), (.own 0 1)]), [(some (.ints .u8 a2))]) : AV × Blks)) n a0 := by kernel_rfl
theorem Fbt.call (hmix : Tryd.prog.follows .mixedOrders = true) (n : Nat) (t : LI) (u) (h : Fbt.m n t = some u) : FnC Tryd.prog abiG 72 (Fbt.shape t).1 (Fbt.shape t).2 (Fbt.res u).1 (Fbt.res u).2 :=
  fnC1 (C := Fbt.C n) (A := Fbt.A n) (fn := Tryd.f72) rfl .nil hmix Tryd.func72 (by kernel_rfl) (lp := []) (by kernel_rfl) .nil
  (nj rfl) (by decide) rfl rfl (by show 1 ≤ Tryd.f72.ntmps; decide) (Fbt.run n t) (Fbt.gmap Fbt.res (fun a0 a1 a2 => (a0, a1, a2)) n t) h
theorem Fbt.s (hmix : Tryd.prog.follows .mixedOrders = true) (n : Nat) : CalleeS Tryd.prog abiG 72 (Fbt.c n) :=
  .mk1 (res := Fbt.res) (shape := Fbt.shape) (fun R u K => rfl) (fun _ _ _ h => by unfold Fbt.pat at h; split at h <;> cases h; rfl) (fun t u h => Fbt.call hmix n t u h) Tryd.func72 (by decide) (by kernel_rfl)
end
section
theorem Fao.gmap {α β : Type} (h : β → α) (mk0 : LI → β) (n : Nat) (a0 : LI) (a1 : LI) : Fao.g (fun a0 => (h (mk0 a0))) n a0 a1 = (Fao.g mk0 n a0 a1).map h := by
  unfold Fao.g
  exact (bindO_map fun r2 => (bindO_map fun r4 => (bindO_map fun r6 => rfl)))
theorem Fao.run (n : Nat) (a0 : LI) (a1 : LI) : runF (Fao.C n) (Fao.A n) n Tryd.f79 [(.ints .u64 4 a0), (.ints .u64 4 a1)] [] (fun v o => some (v, o)) = Fao.g (fun a0 => (((.ints .u64 4 a0), []) : AV × Blks)) n a0 a1 := by kernel_rfl
theorem Fao.call (hmix : Tryd.prog.follows .mixedOrders = true) (n : Nat) (t : (LI × LI)) (u) (h : Fao.m n t = some u) : FnC Tryd.prog abiG 79 (Fao.shape t).1 (Fao.shape t).2 (Fao.res u).1 (Fao.res u).2 :=
  fnC1 (C := Fao.C n) (A := Fao.A n) (fn := Tryd.f79) rfl (.cons (Fbg.s hmix n) (.cons (Fcg.s hmix n) (.cons (Fcc.s hmix n) .nil))) hmix Tryd.func79 (by kernel_rfl) (lp := []) (by kernel_rfl) .nil
  (nj rfl) (by decide) rfl rfl (by show 2 ≤ Tryd.f79.ntmps; decide) (Fao.run n t.1 t.2) (Fao.gmap Fao.res (fun a0 => a0) n t.1 t.2) h
theorem Fao.s (hmix : Tryd.prog.follows .mixedOrders = true) (n : Nat) : CalleeS Tryd.prog abiG 79 (Fao.c n) :=
  .mk1 (res := Fao.res) (shape := Fao.shape) (fun R u K => rfl) (fun _ _ _ h => by unfold Fao.pat at h; split at h <;> cases h; rfl) (fun t u h => Fao.call hmix n t u h) Tryd.func79 (by decide) (by kernel_rfl)
end
section
theorem Fbu.gmap {α β : Type} (h : β → α) (mk0 : LA → β) (n : Nat) (a0_0 : LI) (a0_1 : LI) (a0_2 : Bool) (a0_3 : LI) (a0_4 : LI) (a0_5 : LI) (a0_6 : Int) (a0_7 : Int) (a0_8 : Int) (a0_9 : LI) (a0_10 : LI) (a0_11 : Bool) (a0_12 : LI) (a0_13 : Int) (a0_14 : Int) (a0_15 : LI) (a0_16 : LI) : Fbu.g (fun a0 => (h (mk0 a0))) n a0_0 a0_1 a0_2 a0_3 a0_4 a0_5 a0_6 a0_7 a0_8 a0_9 a0_10 a0_11 a0_12 a0_13 a0_14 a0_15 a0_16 = (Fbu.g mk0 n a0_0 a0_1 a0_2 a0_3 a0_4 a0_5 a0_6 a0_7 a0_8 a0_9 a0_10 a0_11 a0_12 a0_13 a0_14 a0_15 a0_16).map h := by
  unfold Fbu.g
  exact (ite_map (bindO_map fun r4 => (ite_map (ite_map (bindO_map fun r10 => (bindO_map fun r12 => (ite_map (bindO_map fun r16 => (ite_map (ite_map (bindO_map fun r22 => (bindO_map fun r24 => (bindO_map fun r26 => (bindO_map fun r28 => (bindO_map fun r30 => (bindO_map fun r32 => (bindO_map fun r34 => (bindO_map fun r36 => (bindO_map fun r38 => (bindO_map fun r40 => (bindO_map fun r42 => (bindO_map fun r44 => (bindO_map fun r46 => (bindO_map fun r48 => (bindO_map fun r50 => rfl))))))))))))))) rfl) rfl)) rfl))) (bindO_map fun r10 => (bindO_map fun r12 => (bindO_map fun r14 => (bindO_map fun r16 => (bindO_map fun r18 => (bindO_map fun r20 => (bindO_map fun r22 => (bindO_map fun r24 => (bindO_map fun r26 => (bindO_map fun r28 => (bindO_map fun r30 => (bindO_map fun r32 => (bindO_map fun r34 => (bindO_map fun r36 => (bindO_map fun r38 => rfl)))))))))))))))) rfl)) (ite_map (bindO_map fun r6 => (bindO_map fun r8 => (ite_map (bindO_map fun r12 => (ite_map (ite_map (bindO_map fun r18 => (bindO_map fun r20 => (bindO_map fun r22 => (bindO_map fun r24 => (bindO_map fun r26 => (bindO_map fun r28 => (bindO_map fun r30 => (bindO_map fun r32 => (bindO_map fun r34 => (bindO_map fun r36 => (bindO_map fun r38 => (bindO_map fun r40 => (bindO_map fun r42 => (bindO_map fun r44 => (bindO_map fun r46 => rfl))))))))))))))) rfl) rfl)) rfl))) (bindO_map fun r6 => (bindO_map fun r8 => (bindO_map fun r10 => (bindO_map fun r12 => (bindO_map fun r14 => (bindO_map fun r16 => (bindO_map fun r18 => (bindO_map fun r20 => (bindO_map fun r22 => (bindO_map fun r24 => (bindO_map fun r26 => (bindO_map fun r28 => (bindO_map fun r30 => (bindO_map fun r32 => (bindO_map fun r34 => rfl)))))))))))))))))
theorem Fbu.run (n : Nat) (a0_0 : LI) (a0_1 : LI) (a0_2 : Bool) (a0_3 : LI) (a0_4 : LI) (a0_5 : LI) (a0_6 : Int) (a0_7 : Int) (a0_8 : Int) (a0_9 : LI) (a0_10 : LI) (a0_11 : Bool) (a0_12 : LI) (a0_13 : Int) (a0_14 : Int) (a0_15 : LI) (a0_16 : LI) : runF (Fbu.C n) (Fbu.A n) n Tryd.f39 [(.agg [(.ints .u8 20 a0_0), (.ints .u64 4 a0_1), (.bool a0_2), (.ints .u8 20 a0_3), (.rints .u8 a0_4), (.rints .u8 a0_5), (.int .u64 a0_6), (.int .u64 a0_7), (.int .u64 a0_8), (.ints .u64 4 a0_9), (.ints .u64 4 a0_10), (.bool a0_11), (.ints .u8 20 a0_12), (.int .u64 a0_13), (.int .u64 a0_14), (.rints .u8 a0_15), (.rints .u8 a0_16)])] [] (fun v o => some (v, o)) = Fbu.g (fun a0 => (((.robjs 69 6 a0), []) : AV × Blks)) n a0_0 a0_1 a0_2 a0_3 a0_4 a0_5 a0_6 a0_7 a0_8 a0_9 a0_10 a0_11 a0_12 a0_13 a0_14 a0_15 a0_16 := by kernel_rfl
theorem Fbu.call (hmix : Tryd.prog.follows .mixedOrders = true) (n : Nat) (t : (LI × (LI × (Bool × (LI × (LI × (LI × (Int × (Int × (Int × (LI × (LI × (Bool × (LI × (Int × (Int × (LI × LI))))))))))))))))) (u) (h : Fbu.m n t = some u) : FnC Tryd.prog abiG 39 (Fbu.shape t).1 (Fbu.shape t).2 (Fbu.res u).1 (Fbu.res u).2 :=
  fnC1 (C := Fbu.C n) (A := Fbu.A n) (fn := Tryd.f39) rfl (.cons (Faa.s hmix n) (.cons (Fbr.s hmix n) (.cons (Fbq.s hmix n) (.cons (Fbs.s hmix n) (.cons (Fbt.s hmix n) (.cons (Fbg.s hmix n) (.cons (Fao.s hmix n) .nil))))))) hmix Tryd.func39 (by kernel_rfl) (lp := []) (by kernel_rfl) .nil
  (nj rfl) (by decide) rfl rfl (by show 1 ≤ Tryd.f39.ntmps; decide) (Fbu.run n t.1 t.2.1 t.2.2.1 t.2.2.2.1 t.2.2.2.2.1 t.2.2.2.2.2.1 t.2.2.2.2.2.2.1 t.2.2.2.2.2.2.2.1 t.2.2.2.2.2.2.2.2.1 t.2.2.2.2.2.2.2.2.2.1 t.2.2.2.2.2.2.2.2.2.2.1 t.2.2.2.2.2.2.2.2.2.2.2.1 t.2.2.2.2.2.2.2.2.2.2.2.2.1 t.2.2.2.2.2.2.2.2.2.2.2.2.2.1 t.2.2.2.2.2.2.2.2.2.2.2.2.2.2.1 t.2.2.2.2.2.2.2.2.2.2.2.2.2.2.2.1 t.2.2.2.2.2.2.2.2.2.2.2.2.2.2.2.2) (Fbu.gmap Fbu.res (fun a0 => a0) n t.1 t.2.1 t.2.2.1 t.2.2.2.1 t.2.2.2.2.1 t.2.2.2.2.2.1 t.2.2.2.2.2.2.1 t.2.2.2.2.2.2.2.1 t.2.2.2.2.2.2.2.2.1 t.2.2.2.2.2.2.2.2.2.1 t.2.2.2.2.2.2.2.2.2.2.1 t.2.2.2.2.2.2.2.2.2.2.2.1 t.2.2.2.2.2.2.2.2.2.2.2.2.1 t.2.2.2.2.2.2.2.2.2.2.2.2.2.1 t.2.2.2.2.2.2.2.2.2.2.2.2.2.2.1 t.2.2.2.2.2.2.2.2.2.2.2.2.2.2.2.1 t.2.2.2.2.2.2.2.2.2.2.2.2.2.2.2.2) h
theorem Fbu.s (hmix : Tryd.prog.follows .mixedOrders = true) (n : Nat) : CalleeS Tryd.prog abiG 39 (Fbu.c n) :=
  .mk1 (res := Fbu.res) (shape := Fbu.shape) (fun R u K => rfl) (fun _ _ _ h => by unfold Fbu.pat at h; split at h <;> cases h; rfl) (fun t u h => Fbu.call hmix n t u h) Tryd.func39 (by decide) (by kernel_rfl)
end
section
noncomputable section
noncomputable def Fs.C (n : Nat) : Ctx := ⟨Tryd.prog, abiG, lookC [(57, Fad.c n), (56, Fae.c n)], fun _ => false⟩
noncomputable def Fs.A (n : Nat) : Ann := ⟨Tryd.f22.ntmps, 0, noNL, [], [(some (.ints .u8))], fun k => match k with
 | _ => none, noNL, lookJ []⟩
def Fs.g {α : Type} (mk0 : LI → α) (n : Nat) (a0 : ByteArray) : Option α :=
 bindO (Fad.m n (Go.Abs.bytesOf a0)) fun r2 =>
  bindO (Fae.m n r2) fun r4 =>
   if 4 ≤ (((List.length r4) : Nat) : Int) then
    some (mk0 (Go.Abs.partL r4 0 (Go.Abs.span (List.length r4) 0 (Option.some 4))))
   else
    none
def Fs.m (n : Nat) (t : ByteArray) : Option LI := Fs.g (fun a0 => a0) n t
def Fs.pat : List AV → Blks → Option ByteArray
 | [(.str a0)], [] => some a0
 | _, _ => none
def Fs.shape (t : ByteArray) : List AV × Blks := ([(.str t)], [])
def Fs.res : LI → AV × Blks
 | u => ((.own 0 1), [(some (.ints .u8 u))])
def Fs.resK {R : Type} (u : LI) (K : AV → Blks → Option R) : Option R := K (Fs.res u).1 (Fs.res u).2
def Fs.c (n : Nat) : Abs.Callee := .mk' [] [none] Fs.pat (Fs.m n) Fs.resK
end
end
section
theorem Fs.gmap {α β : Type} (h : β → α) (mk0 : LI → β) (n : Nat) (a0 : ByteArray) : Fs.g (fun a0 => (h (mk0 a0))) n a0 = (Fs.g mk0 n a0).map h := by
  unfold Fs.g
  exact (bindO_map fun r2 => (bindO_map fun r4 => (ite_map rfl rfl)))
theorem Fs.run (n : Nat) (a0 : ByteArray) : runF (Fs.C n) (Fs.A n) n Tryd.f22 [(.str a0)] [] (fun v o => some (v, o)) = Fs.g (fun a0 => (((.own 0 1), [(some (.ints .u8 a0))]) : AV × Blks)) n a0 := by kernel_rfl
theorem Fs.call (hmix : Tryd.prog.follows .mixedOrders = true) (n : Nat) (t : ByteArray) (u) (h : Fs.m n t = some u) : FnC Tryd.prog abiG 22 (Fs.shape t).1 (Fs.shape t).2 (Fs.res u).1 (Fs.res u).2 :=
  fnC1 (C := Fs.C n) (A := Fs.A n) (fn := Tryd.f22) rfl (.cons (Fad.s hmix n) (.cons (Fae.s hmix n) .nil)) hmix Tryd.func22 (by kernel_rfl) (lp := []) (by kernel_rfl) .nil
  (nj rfl) (by decide) rfl rfl (by show 1 ≤ Tryd.f22.ntmps; decide) (Fs.run n t) (Fs.gmap Fs.res (fun a0 => a0) n t) h
theorem Fs.s (hmix : Tryd.prog.follows .mixedOrders = true) (n : Nat) : CalleeS Tryd.prog abiG 22 (Fs.c n) :=
  .mk1 (res := Fs.res) (shape := Fs.shape) (fun R u K => rfl) (fun _ _ _ h => by unfold Fs.pat at h; split at h <;> cases h; rfl) (fun t u h => Fs.call hmix n t u h) Tryd.func22 (by decide) (by kernel_rfl)
end
section
noncomputable section
noncomputable def Fab.C (n : Nat) : Ctx := ⟨Tryd.prog, abiG, lookC [(56, Fae.c n), (57, Fad.c n)], fun _ => false⟩
def Fab.live : NL := fun k => match k with
 | 3 => ([12, 11, 10, 3, 2], [3, 2])
 | _ => ([], [])
def Fab.l3_0.r {α : Type} (mk0 : LI → LI → α) (n : Nat) (rc : Int → Int → LA → LI → LI → Option α)  (x0 : Int) (x1 : Int) (x2 : LA) (x3 : LI) (x4 : LI) : Option α :=
  if (decide (x0 < x1)) = true then
   if 0 ≤ x0 then
    if x0 < (((List.length x2) : Nat) : Int) then
     bindO (tkInts .u64 4 (List.getD x2 (Int.toNat x0) AV.any)) fun r10 =>
      bindO (Fae.m n r10) fun r12 =>
       if ((((List.length x3) + (List.length r12)) * 1) ≤ 70368744177664 ∧ ((List.length x3) + (List.length r12)) ≤ 9223372036854775807) then
        rc (IntKind.wrap .i64 (x0 + 1)) x1 x2 (x3 ++ r12) x4
       else
        none
    else
     none
   else
    none
  else
   some (mk0 x3 x4)
def Fab.l3_0.g {α : Type} (mk0 : LI → LI → α) (n : Nat) : Nat → Int → Int → LA → LI → LI → Option α
 | 0, _, _, _, _, _ => none
 | m + 1, x0, x1, x2, x3, x4 => Fab.l3_0.r mk0 n (fun y0 y1 y2 y3 y4 => Fab.l3_0.g mk0 n m y0 y1 y2 y3 y4)  x0 x1 x2 x3 x4
def Fab.l3_0.m (n m : Nat) (t : (Int × (Int × (LA × (LI × LI))))) : Option (LI × LI) := Fab.l3_0.g (fun a0 a1 => (a0, a1)) n m t.1 t.2.1 t.2.2.1 t.2.2.2.1 t.2.2.2.2
def Fab.l3_0.pat : St → Option (Int × (Int × (LA × (LI × LI))))
 | (St.mk [(.int .i64 x0), (.int .i64 x1), (.robjs 32 4 x2), (.own 0 1), (.ptr 1 [])] [(some (.ints .u8 x3)), (some (.var (.ints .u64 4 x4)))]) => some (x0, x1, x2, x3, x4)
 | _ => none
def Fab.l3_0.shape (t : (Int × (Int × (LA × (LI × LI))))) : St := (St.mk [(.int .i64 t.1), (.int .i64 t.2.1), (.robjs 32 4 t.2.2.1), (.own 0 1), (.ptr 1 [])] [(some (.ints .u8 t.2.2.2.1)), (some (.var (.ints .u64 4 t.2.2.2.2)))])
def Fab.l3_0.res : (LI × LI) → Ex × St
 | u => ((.exit 0), (St.mk [(.own 0 1), (.ptr 1 [])] [(some (.ints .u8 u.1)), (some (.var (.ints .u64 4 u.2)))]))
def Fab.l3_0.resK {R : Type} (u : (LI × LI)) (K : Ex → St → Option R) : Option R := K (Fab.l3_0.res u).1 (Fab.l3_0.res u).2
noncomputable def Fab.A (n : Nat) : Ann := ⟨Tryd.f80.ntmps, 0, Fab.live, [(10, (.objs 32 4)), (3, (.ints .u8))], [none], fun k => match k with
 | 3 => some (.mk' Fab.l3_0.pat (Fab.l3_0.m n n) Fab.l3_0.resK)
 | _ => none, noNL, lookJ []⟩
noncomputable def Fab.b0 : Code := (loopsIn (Tryd.f80.body.getD .skip)).getD 0 .skip
def Fab.g {α : Type} (mk0 : LI → α) (n : Nat) (a0 : LA) : Option α :=
 if 0 ≤ (IntKind.wrap .i64 (32 * (((List.length a0) : Nat) : Int))) then
  if ((IntKind.wrap .i64 (32 * (((List.length a0) : Nat) : Int))) * ((1 : Nat) : Int)) ≤ 140737488355328 then
   if (IntKind.wrap .i64 (32 * (((List.length a0) : Nat) : Int))) ≤ 1152921504606846976 then
    bindO (Fab.l3_0.m n n (0, (((List.length a0) : Nat) : Int), a0, [], [0, 0, 0, 0])) fun r8 =>
     bindO (Fad.m n r8.1) fun r10 =>
      some (mk0 r10)
   else
    none
  else
   none
 else
  none
def Fab.m (n : Nat) (t : LA) : Option LI := Fab.g (fun a0 => a0) n t
def Fab.pat : List AV → Blks → Option LA
 | [(.robjs 32 4 a0)], [] => some a0
 | _, _ => none
def Fab.shape (t : LA) : List AV × Blks := ([(.robjs 32 4 t)], [])
def Fab.res : LI → AV × Blks
 | u => ((.ints .u64 4 u), [])
def Fab.resK {R : Type} (u : LI) (K : AV → Blks → Option R) : Option R := K (Fab.res u).1 (Fab.res u).2
def Fab.c (n : Nat) : Abs.Callee := .mk' [] [(some (.objs 32 4))] Fab.pat (Fab.m n) Fab.resK
end
end
section
noncomputable abbrev Fab.R0 (n : Nat) := roundOf (Fab.C n) (Fab.A n) n Fab.b0
theorem Fab.l3_0.rmap {α β : Type} (h : β → α) (mk0 : LI → LI → β) (n : Nat) (f : Int → Int → LA → LI → LI → Option β)  (x0 : Int) (x1 : Int) (x2 : LA) (x3 : LI) (x4 : LI) : Fab.l3_0.r (fun a0 a1 => (h (mk0 a0 a1))) n (fun y0 y1 y2 y3 y4 => (f y0 y1 y2 y3 y4).map h) x0 x1 x2 x3 x4 = (Fab.l3_0.r mk0 n f x0 x1 x2 x3 x4).map h := by
  unfold Fab.l3_0.r
  exact (ite_map (ite_map (ite_map (bindO_map fun r10 => (bindO_map fun r12 => (ite_map rfl rfl))) rfl) rfl) rfl)
theorem Fab.l3_0.gmap {α β : Type} (h : β → α) (mk0 : LI → LI → β) (n : Nat) : ∀ (m : Nat) (x0 : Int) (x1 : Int) (x2 : LA) (x3 : LI) (x4 : LI), Fab.l3_0.g (fun a0 a1 => (h (mk0 a0 a1))) n m x0 x1 x2 x3 x4 = (Fab.l3_0.g mk0 n m x0 x1 x2 x3 x4).map h
  | 0, _, _, _, _, _ => rfl
  | m + 1, x0, x1, x2, x3, x4 => by
    unfold Fab.l3_0.g
    rw [← Fab.l3_0.rmap]
    congr
    · funext y0 y1 y2 y3 y4; exact Fab.l3_0.gmap h mk0 n m y0 y1 y2 y3 y4
theorem Fab.l3_0.pat_shape : ∀ st t, Fab.l3_0.pat st = some t → st = Fab.l3_0.shape t := fun _ _ h => by unfold Fab.l3_0.pat at h; split at h <;> cases h; rfl
def Fab.l3_0.k0 : LI → LI → Ex × St := (fun a0 a1 => (((.exit 0), (St.mk [(.own 0 1), (.ptr 1 [])] [(some (.ints .u8 a0)), (some (.var (.ints .u64 4 a1)))])) : Ex × St))
theorem Fab.l3_0.round (n : Nat) (rc : St → Option (Ex × St)) (x0 : Int) (x1 : Int) (x2 : LA) (x3 : LI) (x4 : LI) : Fab.R0 n rc ((St.mk [(.int .i64 x0), (.int .i64 x1), (.robjs 32 4 x2), (.own 0 1), (.ptr 1 [])] [(some (.ints .u8 x3)), (some (.var (.ints .u64 4 x4)))])) = Fab.l3_0.r Fab.l3_0.k0 n (fun y0 y1 y2 y3 y4 => rc ((St.mk [(.int .i64 y0), (.int .i64 y1), (.robjs 32 4 y2), (.own 0 1), (.ptr 1 [])] [(some (.ints .u8 y3)), (some (.var (.ints .u64 4 y4)))]))) x0 x1 x2 x3 x4 := by kernel_rfl
theorem Fab.l3_0.loop' (n : Nat) : ∀ (m : Nat) (t : (Int × (Int × (LA × (LI × LI))))), loopOf (Fab.R0 n) m (Fab.l3_0.shape t) = Fab.l3_0.g Fab.l3_0.k0 n m t.1 t.2.1 t.2.2.1 t.2.2.2.1 t.2.2.2.2 :=
  loop_of_round (shape := Fab.l3_0.shape) (body := Fab.R0 n) (g := fun m t => Fab.l3_0.g Fab.l3_0.k0 n m t.1 t.2.1 t.2.2.1 t.2.2.2.1 t.2.2.2.2) (fun t => rfl)
    fun m t ih => (Fab.l3_0.round n (loopOf (Fab.R0 n) m) t.1 t.2.1 t.2.2.1 t.2.2.2.1 t.2.2.2.2).trans (congrFun (congrFun (congrFun (congrFun (congrFun (congrArg (Fab.l3_0.r Fab.l3_0.k0 n) (funext fun y0 => funext fun y1 => funext fun y2 => funext fun y3 => funext fun y4 => ih (y0, y1, y2, y3, y4))) t.1) t.2.1) t.2.2.1) t.2.2.2.1) t.2.2.2.2)
theorem Fab.l3_0.loop (n m : Nat) (t : (Int × (Int × (LA × (LI × LI))))) : loopOf (Fab.R0 n) m (Fab.l3_0.shape t) = (Fab.l3_0.m n m t).map Fab.l3_0.res :=
  (Fab.l3_0.loop' n m t).trans (Fab.l3_0.gmap Fab.l3_0.res (fun a0 a1 => (a0, a1)) n m t.1 t.2.1 t.2.2.1 t.2.2.2.1 t.2.2.2.2)
theorem Fab.gmap {α β : Type} (h : β → α) (mk0 : LI → β) (n : Nat) (a0 : LA) : Fab.g (fun a0 => (h (mk0 a0))) n a0 = (Fab.g mk0 n a0).map h := by
  unfold Fab.g
  exact (ite_map (ite_map (ite_map (bindO_map fun r8 => (bindO_map fun r10 => rfl)) rfl) rfl) rfl)
theorem Fab.run (n : Nat) (a0 : LA) : runF (Fab.C n) (Fab.A n) n Tryd.f80 [(.robjs 32 4 a0)] [] (fun v o => some (v, o)) = Fab.g (fun a0 => (((.ints .u64 4 a0), []) : AV × Blks)) n a0 := by kernel_rfl
theorem Fab.call (hmix : Tryd.prog.follows .mixedOrders = true) (n : Nat) (t : LA) (u) (h : Fab.m n t = some u) : FnC Tryd.prog abiG 80 (Fab.shape t).1 (Fab.shape t).2 (Fab.res u).1 (Fab.res u).2 :=
  fnC1 (C := Fab.C n) (A := Fab.A n) (fn := Tryd.f80) rfl (.cons (Fae.s hmix n) (.cons (Fad.s hmix n) .nil)) hmix Tryd.func80 (by kernel_rfl) (lp := [Fab.b0]) (by kernel_rfl) (.cons (show (Fab.A n).loop (key Fab.b0) = some (.mk' Fab.l3_0.pat (Fab.l3_0.m n n) Fab.l3_0.resK) by kernel_rfl) (LoopS.of (res := Fab.l3_0.res) (fun R u K => rfl) Fab.l3_0.pat_shape fun t => Fab.l3_0.loop n n t)
  .nil)
  (nj rfl) (by decide) rfl rfl (by show 1 ≤ Tryd.f80.ntmps; decide) (Fab.run n t) (Fab.gmap Fab.res (fun a0 => a0) n t) h
theorem Fab.s (hmix : Tryd.prog.follows .mixedOrders = true) (n : Nat) : CalleeS Tryd.prog abiG 80 (Fab.c n) :=
  .mk1 (res := Fab.res) (shape := Fab.shape) (fun R u K => rfl) (fun _ _ _ h => by unfold Fab.pat at h; split at h <;> cases h; rfl) (fun t u h => Fab.call hmix n t u h) Tryd.func80 (by decide) (by kernel_rfl)
end
section
noncomputable section
noncomputable def Fbv.C (n : Nat) : Ctx := ⟨Tryd.prog, abiG, lookC [(55, Fav.c n), (62, Fca.c n)], fun _ => false⟩
def Fbv.live : NL := fun k => match k with
 | 3 => ([4, 0, 3, 2], [3, 2])
 | _ => ([], [])
def Fbv.l3_0.r {α : Type} (mk0 : LI → LI → α) (n : Nat) (rc : Int → LA → LI → LI → Option α)  (x0 : Int) (x1 : LA) (x2 : LI) (x3 : LI) : Option α :=
  if (decide (x0 < (((List.length x1) : Nat) : Int))) = true then
   if 0 ≤ x0 then
    if x0 < (((List.length x1) : Nat) : Int) then
     bindO (tkInts .u64 4 (List.getD x1 (Int.toNat x0) AV.any)) fun r10 =>
      bindO (Fav.m n r10) fun r12 =>
       if ((((List.length x2) + (List.length r12)) * 1) ≤ 70368744177664 ∧ ((List.length x2) + (List.length r12)) ≤ 9223372036854775807) then
        rc (IntKind.wrap .i64 (x0 + 1)) x1 (x2 ++ r12) x3
       else
        none
    else
     none
   else
    none
  else
   some (mk0 x2 x3)
def Fbv.l3_0.g {α : Type} (mk0 : LI → LI → α) (n : Nat) : Nat → Int → LA → LI → LI → Option α
 | 0, _, _, _, _ => none
 | m + 1, x0, x1, x2, x3 => Fbv.l3_0.r mk0 n (fun y0 y1 y2 y3 => Fbv.l3_0.g mk0 n m y0 y1 y2 y3)  x0 x1 x2 x3
def Fbv.l3_0.m (n m : Nat) (t : (Int × (LA × (LI × LI)))) : Option (LI × LI) := Fbv.l3_0.g (fun a0 a1 => (a0, a1)) n m t.1 t.2.1 t.2.2.1 t.2.2.2
def Fbv.l3_0.pat : St → Option (Int × (LA × (LI × LI)))
 | (St.mk [(.int .i64 x0), (.robjs 32 4 x1), (.own 0 1), (.ptr 1 [])] [(some (.ints .u8 x2)), (some (.var (.ints .u64 4 x3)))]) => some (x0, x1, x2, x3)
 | _ => none
def Fbv.l3_0.shape (t : (Int × (LA × (LI × LI)))) : St := (St.mk [(.int .i64 t.1), (.robjs 32 4 t.2.1), (.own 0 1), (.ptr 1 [])] [(some (.ints .u8 t.2.2.1)), (some (.var (.ints .u64 4 t.2.2.2)))])
def Fbv.l3_0.res : (LI × LI) → Ex × St
 | u => ((.exit 0), (St.mk [(.own 0 1), (.ptr 1 [])] [(some (.ints .u8 u.1)), (some (.var (.ints .u64 4 u.2)))]))
def Fbv.l3_0.resK {R : Type} (u : (LI × LI)) (K : Ex → St → Option R) : Option R := K (Fbv.l3_0.res u).1 (Fbv.l3_0.res u).2
noncomputable def Fbv.A (n : Nat) : Ann := ⟨Tryd.f82.ntmps, 0, Fbv.live, [(0, (.objs 32 4)), (3, (.ints .u8))], [none], fun k => match k with
 | 3 => some (.mk' Fbv.l3_0.pat (Fbv.l3_0.m n n) Fbv.l3_0.resK)
 | _ => none, noNL, lookJ []⟩
noncomputable def Fbv.b0 : Code := (loopsIn (Tryd.f82.body.getD .skip)).getD 0 .skip
def Fbv.g {α : Type} (mk0 : LI → α) (n : Nat) (a0 : LA) : Option α :=
 bindO (Fbv.l3_0.m n n (0, a0, [], [0, 0, 0, 0])) fun r2 =>
  bindO (Fca.m n r2.1) fun r4 =>
   some (mk0 r4)
def Fbv.m (n : Nat) (t : LA) : Option LI := Fbv.g (fun a0 => a0) n t
def Fbv.pat : List AV → Blks → Option LA
 | [(.robjs 32 4 a0)], [] => some a0
 | _, _ => none
def Fbv.shape (t : LA) : List AV × Blks := ([(.robjs 32 4 t)], [])
def Fbv.res : LI → AV × Blks
 | u => ((.ints .u64 4 u), [])
def Fbv.resK {R : Type} (u : LI) (K : AV → Blks → Option R) : Option R := K (Fbv.res u).1 (Fbv.res u).2
def Fbv.c (n : Nat) : Abs.Callee := .mk' [] [(some (.objs 32 4))] Fbv.pat (Fbv.m n) Fbv.resK
end
end
section
noncomputable abbrev Fbv.R0 (n : Nat) := roundOf (Fbv.C n) (Fbv.A n) n Fbv.b0
theorem Fbv.l3_0.rmap {α β : Type} (h : β → α) (mk0 : LI → LI → β) (n : Nat) (f : Int → LA → LI → LI → Option β)  (x0 : Int) (x1 : LA) (x2 : LI) (x3 : LI) : Fbv.l3_0.r (fun a0 a1 => (h (mk0 a0 a1))) n (fun y0 y1 y2 y3 => (f y0 y1 y2 y3).map h) x0 x1 x2 x3 = (Fbv.l3_0.r mk0 n f x0 x1 x2 x3).map h := by
  unfold Fbv.l3_0.r
  exact (ite_map (ite_map (ite_map (bindO_map fun r10 => (bindO_map fun r12 => (ite_map rfl rfl))) rfl) rfl) rfl)
theorem Fbv.l3_0.gmap {α β : Type} (h : β → α) (mk0 : LI → LI → β) (n : Nat) : ∀ (m : Nat) (x0 : Int) (x1 : LA) (x2 : LI) (x3 : LI), Fbv.l3_0.g (fun a0 a1 => (h (mk0 a0 a1))) n m x0 x1 x2 x3 = (Fbv.l3_0.g mk0 n m x0 x1 x2 x3).map h
  | 0, _, _, _, _ => rfl
  | m + 1, x0, x1, x2, x3 => by
    unfold Fbv.l3_0.g
    rw [← Fbv.l3_0.rmap]
    congr
    · funext y0 y1 y2 y3; exact Fbv.l3_0.gmap h mk0 n m y0 y1 y2 y3
theorem Fbv.l3_0.pat_shape : ∀ st t, Fbv.l3_0.pat st = some t → st = Fbv.l3_0.shape t := fun _ _ h => by unfold Fbv.l3_0.pat at h; split at h <;> cases h; rfl
def Fbv.l3_0.k0 : LI → LI → Ex × St := (fun a0 a1 => (((.exit 0), (St.mk [(.own 0 1), (.ptr 1 [])] [(some (.ints .u8 a0)), (some (.var (.ints .u64 4 a1)))])) : Ex × St))
theorem Fbv.l3_0.round (n : Nat) (rc : St → Option (Ex × St)) (x0 : Int) (x1 : LA) (x2 : LI) (x3 : LI) : Fbv.R0 n rc ((St.mk [(.int .i64 x0), (.robjs 32 4 x1), (.own 0 1), (.ptr 1 [])] [(some (.ints .u8 x2)), (some (.var (.ints .u64 4 x3)))])) = Fbv.l3_0.r Fbv.l3_0.k0 n (fun y0 y1 y2 y3 => rc ((St.mk [(.int .i64 y0), (.robjs 32 4 y1), (.own 0 1), (.ptr 1 [])] [(some (.ints .u8 y2)), (some (.var (.ints .u64 4 y3)))]))) x0 x1 x2 x3 := by kernel_rfl
theorem Fbv.l3_0.loop' (n : Nat) : ∀ (m : Nat) (t : (Int × (LA × (LI × LI)))), loopOf (Fbv.R0 n) m (Fbv.l3_0.shape t) = Fbv.l3_0.g Fbv.l3_0.k0 n m t.1 t.2.1 t.2.2.1 t.2.2.2 :=
  loop_of_round (shape := Fbv.l3_0.shape) (body := Fbv.R0 n) (g := fun m t => Fbv.l3_0.g Fbv.l3_0.k0 n m t.1 t.2.1 t.2.2.1 t.2.2.2) (fun t => rfl)
    fun m t ih => (Fbv.l3_0.round n (loopOf (Fbv.R0 n) m) t.1 t.2.1 t.2.2.1 t.2.2.2).trans (congrFun (congrFun (congrFun (congrFun (congrArg (Fbv.l3_0.r Fbv.l3_0.k0 n) (funext fun y0 => funext fun y1 => funext fun y2 => funext fun y3 => ih (y0, y1, y2, y3))) t.1) t.2.1) t.2.2.1) t.2.2.2)
theorem Fbv.l3_0.loop (n m : Nat) (t : (Int × (LA × (LI × LI)))) : loopOf (Fbv.R0 n) m (Fbv.l3_0.shape t) = (Fbv.l3_0.m n m t).map Fbv.l3_0.res :=
  (Fbv.l3_0.loop' n m t).trans (Fbv.l3_0.gmap Fbv.l3_0.res (fun a0 a1 => (a0, a1)) n m t.1 t.2.1 t.2.2.1 t.2.2.2)
theorem Fbv.gmap {α β : Type} (h : β → α) (mk0 : LI → β) (n : Nat) (a0 : LA) : Fbv.g (fun a0 => (h (mk0 a0))) n a0 = (Fbv.g mk0 n a0).map h := by
  unfold Fbv.g
  exact (bindO_map fun r2 => (bindO_map fun r4 => rfl))
theorem Fbv.run (n : Nat) (a0 : LA) : runF (Fbv.C n) (Fbv.A n) n Tryd.f82 [(.robjs 32 4 a0)] [] (fun v o => some (v, o)) = Fbv.g (fun a0 => (((.ints .u64 4 a0), []) : AV × Blks)) n a0 := by kernel_rfl
theorem Fbv.call (hmix : Tryd.prog.follows .mixedOrders = true) (n : Nat) (t : LA) (u) (h : Fbv.m n t = some u) : FnC Tryd.prog abiG 82 (Fbv.shape t).1 (Fbv.shape t).2 (Fbv.res u).1 (Fbv.res u).2 :=
  fnC1 (C := Fbv.C n) (A := Fbv.A n) (fn := Tryd.f82) rfl (.cons (Fav.s hmix n) (.cons (Fca.s hmix n) .nil)) hmix Tryd.func82 (by kernel_rfl) (lp := [Fbv.b0]) (by kernel_rfl) (.cons (show (Fbv.A n).loop (key Fbv.b0) = some (.mk' Fbv.l3_0.pat (Fbv.l3_0.m n n) Fbv.l3_0.resK) by kernel_rfl) (LoopS.of (res := Fbv.l3_0.res) (fun R u K => rfl) Fbv.l3_0.pat_shape fun t => Fbv.l3_0.loop n n t)
  .nil)
  (nj rfl) (by decide) rfl rfl (by show 1 ≤ Tryd.f82.ntmps; decide) (Fbv.run n t) (Fbv.gmap Fbv.res (fun a0 => a0) n t) h
theorem Fbv.s (hmix : Tryd.prog.follows .mixedOrders = true) (n : Nat) : CalleeS Tryd.prog abiG 82 (Fbv.c n) :=
  .mk1 (res := Fbv.res) (shape := Fbv.shape) (fun R u K => rfl) (fun _ _ _ h => by unfold Fbv.pat at h; split at h <;> cases h; rfl) (fun t u h => Fbv.call hmix n t u h) Tryd.func82 (by decide) (by kernel_rfl)
end
section
noncomputable section
noncomputable def Fbb.C (n : Nat) : Ctx := ⟨Tryd.prog, abiG, lookC [], fun _ => false⟩
noncomputable def Fbb.A (n : Nat) : Ann := ⟨Tryd.f81.ntmps, 0, noNL, [], [none], fun k => match k with
 | _ => none, noNL, lookJ []⟩
def Fbb.g {α : Type} (mk0 : LI → α) (n : Nat)  : Option α :=
 some (mk0 ([0, 0, 0, 0, 113, 114, 125, 226, 46, 94, 157, 139, 175, 14, 218, 198, 243, 125, 160, 50] : List Int))
def Fbb.m (n : Nat) (t : Unit) : Option LI := Fbb.g (fun a0 => a0) n 
def Fbb.pat : List AV → Blks → Option Unit
 | [], [] => some ()
 | _, _ => none
def Fbb.shape (t : Unit) : List AV × Blks := ([], [])
def Fbb.res : LI → AV × Blks
 | u => ((.ints .u8 20 u), [])
def Fbb.resK {R : Type} (u : LI) (K : AV → Blks → Option R) : Option R := K (Fbb.res u).1 (Fbb.res u).2
def Fbb.c (n : Nat) : Abs.Callee := .mk' [] [] Fbb.pat (Fbb.m n) Fbb.resK
end
end
section
noncomputable section
noncomputable def Fac.C (n : Nat) : Ctx := ⟨Tryd.prog, abiG, lookC [(38, Fz.c n), (57, Fad.c n), (80, Fab.c n), (81, Fbb.c n), (75, Fba.c n)], fun _ => false⟩
def Fac.live : NL := fun k => match k with
 | 3 => ([12, 11, 10, 5, 3, 4], [5, 3, 4])
 | _ => ([], [])
def Fac.l3_0.r {α : Type} (mk0 : LA → LI → LI → α) (n : Nat) (rc : Int → Int → LA → LA → LI → LI → Option α)  (x0 : Int) (x1 : Int) (x2 : LA) (x3 : LA) (x4 : LI) (x5 : LI) : Option α :=
  if (decide (x0 < x1)) = true then
   if 0 ≤ x0 then
    if x0 < (((List.length x2) : Nat) : Int) then
     bindO (tkAgg 3 (List.getD x2 (Int.toNat x0) AV.any)) fun r10 =>
      bindO (tkBool (List.getD r10 0 AV.any)) fun r12 =>
       bindO (tkInts .u64 4 (List.getD r10 1 AV.any)) fun r14 =>
        bindO (tkRints .u8 (List.getD r10 2 AV.any)) fun r16 =>
         if r12 = true then
          bindO (Fad.m n r16) fun r20 =>
           if ((((List.length x3) + 1) * 32) ≤ 70368744177664 ∧ ((List.length x3) + 1) ≤ 9223372036854775807) then
            rc (IntKind.wrap .i64 (x0 + 1)) x1 x2 (x3 ++ [(AV.ints .u64 4 r20)]) x4 x5
           else
            none
         else
          if ((((List.length x3) + 1) * 32) ≤ 70368744177664 ∧ ((List.length x3) + 1) ≤ 9223372036854775807) then
           rc (IntKind.wrap .i64 (x0 + 1)) x1 x2 (x3 ++ [(AV.ints .u64 4 r14)]) x4 x5
          else
           none
    else
     none
   else
    none
  else
   some (mk0 x3 x4 x5)
def Fac.l3_0.g {α : Type} (mk0 : LA → LI → LI → α) (n : Nat) : Nat → Int → Int → LA → LA → LI → LI → Option α
 | 0, _, _, _, _, _, _ => none
 | m + 1, x0, x1, x2, x3, x4, x5 => Fac.l3_0.r mk0 n (fun y0 y1 y2 y3 y4 y5 => Fac.l3_0.g mk0 n m y0 y1 y2 y3 y4 y5)  x0 x1 x2 x3 x4 x5
def Fac.l3_0.m (n m : Nat) (t : (Int × (Int × (LA × (LA × (LI × LI)))))) : Option (LA × (LI × LI)) := Fac.l3_0.g (fun a0 a1 a2 => (a0, a1, a2)) n m t.1 t.2.1 t.2.2.1 t.2.2.2.1 t.2.2.2.2.1 t.2.2.2.2.2
def Fac.l3_0.pat : St → Option (Int × (Int × (LA × (LA × (LI × LI)))))
 | (St.mk [(.int .i64 x0), (.int .i64 x1), (.robjs 69 6 x2), (.own 0 4), (.ptr 1 []), (.ptr 2 [])] [(some (.objs 32 4 x3)), (some (.var (.ints .u64 4 x4))), (some (.var (.ints .u64 4 x5)))]) => some (x0, x1, x2, x3, x4, x5)
 | _ => none
def Fac.l3_0.shape (t : (Int × (Int × (LA × (LA × (LI × LI)))))) : St := (St.mk [(.int .i64 t.1), (.int .i64 t.2.1), (.robjs 69 6 t.2.2.1), (.own 0 4), (.ptr 1 []), (.ptr 2 [])] [(some (.objs 32 4 t.2.2.2.1)), (some (.var (.ints .u64 4 t.2.2.2.2.1))), (some (.var (.ints .u64 4 t.2.2.2.2.2)))])
def Fac.l3_0.res : (LA × (LI × LI)) → Ex × St
 | u => ((.exit 0), (St.mk [(.own 0 4), (.ptr 1 []), (.ptr 2 [])] [(some (.objs 32 4 u.1)), (some (.var (.ints .u64 4 u.2.1))), (some (.var (.ints .u64 4 u.2.2)))]))
def Fac.l3_0.resK {R : Type} (u : (LA × (LI × LI))) (K : Ex → St → Option R) : Option R := K (Fac.l3_0.res u).1 (Fac.l3_0.res u).2
noncomputable def Fac.A (n : Nat) : Ann := ⟨Tryd.f40.ntmps, 0, Fac.live, [(10, (.objs 69 6)), (5, (.objs 32 4))], [none], fun k => match k with
 | 3 => some (.mk' Fac.l3_0.pat (Fac.l3_0.m n n) Fac.l3_0.resK)
 | _ => none, noNL, lookJ []⟩
noncomputable def Fac.b0 : Code := (loopsIn (Tryd.f40.body.getD .skip)).getD 0 .skip
def Fac.g {α : Type} (mk0 : LI → α) (n : Nat) (a0_0 : LI) (a0_1 : LI) (a0_2 : Bool) (a0_3 : LI) (a0_4 : LI) (a0_5 : LI) (a0_6 : Int) (a0_7 : Int) (a0_8 : Int) (a0_9 : LI) (a0_10 : LI) (a0_11 : Bool) (a0_12 : LI) (a0_13 : Int) (a0_14 : Int) (a0_15 : LI) (a0_16 : LI) (a1 : LI) : Option α :=
 bindO (Fz.m n (a0_0, a0_1, a0_2, a0_3, a0_4, a0_5, a0_6, a0_7, a0_8, a0_9, a0_10, a0_11, a0_12, a0_13, a0_14, a0_15, a0_16)) fun r2 =>
  if 8 ≤ (((List.length r2) : Nat) : Int) then
   bindO (Fac.l3_0.m n n (0, (((List.length (Go.Abs.cut r2 0 (Option.some 8))) : Nat) : Int), (Go.Abs.cut r2 0 (Option.some 8)), [], a1, [0, 0, 0, 0])) fun r6 =>
    bindO (Fab.m n r6.1) fun r8 =>
     bindO (Fbb.m n Unit.unit) fun r10 =>
      bindO (Fba.m n r10) fun r12 =>
       bindO (Fab.m n [(AV.ints .u64 4 r8), (AV.ints .u64 4 r12), (AV.ints .u64 4 r6.2.1)]) fun r14 =>
        some (mk0 r14)
  else
   none
def Fac.m (n : Nat) (t : (LI × (LI × (Bool × (LI × (LI × (LI × (Int × (Int × (Int × (LI × (LI × (Bool × (LI × (Int × (Int × (LI × (LI × LI)))))))))))))))))) : Option LI := Fac.g (fun a0 => a0) n t.1 t.2.1 t.2.2.1 t.2.2.2.1 t.2.2.2.2.1 t.2.2.2.2.2.1 t.2.2.2.2.2.2.1 t.2.2.2.2.2.2.2.1 t.2.2.2.2.2.2.2.2.1 t.2.2.2.2.2.2.2.2.2.1 t.2.2.2.2.2.2.2.2.2.2.1 t.2.2.2.2.2.2.2.2.2.2.2.1 t.2.2.2.2.2.2.2.2.2.2.2.2.1 t.2.2.2.2.2.2.2.2.2.2.2.2.2.1 t.2.2.2.2.2.2.2.2.2.2.2.2.2.2.1 t.2.2.2.2.2.2.2.2.2.2.2.2.2.2.2.1 t.2.2.2.2.2.2.2.2.2.2.2.2.2.2.2.2.1 t.2.2.2.2.2.2.2.2.2.2.2.2.2.2.2.2.2
def Fac.pat : List AV → Blks → Option (LI × (LI × (Bool × (LI × (LI × (LI × (Int × (Int × (Int × (LI × (LI × (Bool × (LI × (Int × (Int × (LI × (LI × LI)))))))))))))))))
 | [(.agg [(.ints .u8 20 a0_0), (.ints .u64 4 a0_1), (.bool a0_2), (.ints .u8 20 a0_3), (.rints .u8 a0_4), (.rints .u8 a0_5), (.int .u64 a0_6), (.int .u64 a0_7), (.int .u64 a0_8), (.ints .u64 4 a0_9), (.ints .u64 4 a0_10), (.bool a0_11), (.ints .u8 20 a0_12), (.int .u64 a0_13), (.int .u64 a0_14), (.rints .u8 a0_15), (.rints .u8 a0_16)]), (.ints .u64 4 a1)], [] => some (a0_0, a0_1, a0_2, a0_3, a0_4, a0_5, a0_6, a0_7, a0_8, a0_9, a0_10, a0_11, a0_12, a0_13, a0_14, a0_15, a0_16, a1)
 | _, _ => none
def Fac.shape (t : (LI × (LI × (Bool × (LI × (LI × (LI × (Int × (Int × (Int × (LI × (LI × (Bool × (LI × (Int × (Int × (LI × (LI × LI)))))))))))))))))) : List AV × Blks := ([(.agg [(.ints .u8 20 t.1), (.ints .u64 4 t.2.1), (.bool t.2.2.1), (.ints .u8 20 t.2.2.2.1), (.rints .u8 t.2.2.2.2.1), (.rints .u8 t.2.2.2.2.2.1), (.int .u64 t.2.2.2.2.2.2.1), (.int .u64 t.2.2.2.2.2.2.2.1), (.int .u64 t.2.2.2.2.2.2.2.2.1), (.ints .u64 4 t.2.2.2.2.2.2.2.2.2.1), (.ints .u64 4 t.2.2.2.2.2.2.2.2.2.2.1), (.bool t.2.2.2.2.2.2.2.2.2.2.2.1), (.ints .u8 20 t.2.2.2.2.2.2.2.2.2.2.2.2.1), (.int .u64 t.2.2.2.2.2.2.2.2.2.2.2.2.2.1), (.int .u64 t.2.2.2.2.2.2.2.2.2.2.2.2.2.2.1), (.rints .u8 t.2.2.2.2.2.2.2.2.2.2.2.2.2.2.2.1), (.rints .u8 t.2.2.2.2.2.2.2.2.2.2.2.2.2.2.2.2.1)]), (.ints .u64 4 t.2.2.2.2.2.2.2.2.2.2.2.2.2.2.2.2.2)], [])
def Fac.res : LI → AV × Blks
 | u => ((.ints .u64 4 u), [])
def Fac.resK {R : Type} (u : LI) (K : AV → Blks → Option R) : Option R := K (Fac.res u).1 (Fac.res u).2
def Fac.c (n : Nat) : Abs.Callee := .mk' [] [(some (.agg [none, none, none, none, (some (.ints .u8)), (some (.ints .u8)), none, none, none, none, none, none, none, none, none, (some (.ints .u8)), (some (.ints .u8))])), none] Fac.pat (Fac.m n) Fac.resK
end
end
section
theorem Fbb.gmap {α β : Type} (h : β → α) (mk0 : LI → β) (n : Nat)  : Fbb.g (fun a0 => (h (mk0 a0))) n  = (Fbb.g mk0 n ).map h := by
  unfold Fbb.g
  exact rfl
theorem Fbb.run (n : Nat)  : runF (Fbb.C n) (Fbb.A n) n Tryd.f81 [] [] (fun v o => some (v, o)) = Fbb.g (fun a0 => (((.ints .u8 20 a0), []) : AV × Blks)) n  := by kernel_rfl
theorem Fbb.call (hmix : Tryd.prog.follows .mixedOrders = true) (n : Nat) (t : Unit) (u) (h : Fbb.m n t = some u) : FnC Tryd.prog abiG 81 (Fbb.shape t).1 (Fbb.shape t).2 (Fbb.res u).1 (Fbb.res u).2 :=
  fnC1 (C := Fbb.C n) (A := Fbb.A n) (fn := Tryd.f81) rfl .nil hmix Tryd.func81 (by kernel_rfl) (lp := []) (by kernel_rfl) .nil
  (nj rfl) (by decide) rfl rfl (by show 0 ≤ Tryd.f81.ntmps; decide) (Fbb.run n ) (Fbb.gmap Fbb.res (fun a0 => a0) n ) h
theorem Fbb.s (hmix : Tryd.prog.follows .mixedOrders = true) (n : Nat) : CalleeS Tryd.prog abiG 81 (Fbb.c n) :=
  .mk1 (res := Fbb.res) (shape := Fbb.shape) (fun R u K => rfl) (fun _ _ _ h => by unfold Fbb.pat at h; split at h <;> cases h; rfl) (fun t u h => Fbb.call hmix n t u h) Tryd.func81 (by decide) (by kernel_rfl)
end
section
noncomputable abbrev Fac.R0 (n : Nat) := roundOf (Fac.C n) (Fac.A n) n Fac.b0
theorem Fac.l3_0.rmap {α β : Type} (h : β → α) (mk0 : LA → LI → LI → β) (n : Nat) (f : Int → Int → LA → LA → LI → LI → Option β)  (x0 : Int) (x1 : Int) (x2 : LA) (x3 : LA) (x4 : LI) (x5 : LI) : Fac.l3_0.r (fun a0 a1 a2 => (h (mk0 a0 a1 a2))) n (fun y0 y1 y2 y3 y4 y5 => (f y0 y1 y2 y3 y4 y5).map h) x0 x1 x2 x3 x4 x5 = (Fac.l3_0.r mk0 n f x0 x1 x2 x3 x4 x5).map h := by
  unfold Fac.l3_0.r
  exact (ite_map (ite_map (ite_map (bindO_map fun r10 => (bindO_map fun r12 => (bindO_map fun r14 => (bindO_map fun r16 => (ite_map (bindO_map fun r20 => (ite_map rfl rfl)) (ite_map rfl rfl)))))) rfl) rfl) rfl)
theorem Fac.l3_0.gmap {α β : Type} (h : β → α) (mk0 : LA → LI → LI → β) (n : Nat) : ∀ (m : Nat) (x0 : Int) (x1 : Int) (x2 : LA) (x3 : LA) (x4 : LI) (x5 : LI), Fac.l3_0.g (fun a0 a1 a2 => (h (mk0 a0 a1 a2))) n m x0 x1 x2 x3 x4 x5 = (Fac.l3_0.g mk0 n m x0 x1 x2 x3 x4 x5).map h
  | 0, _, _, _, _, _, _ => rfl
  | m + 1, x0, x1, x2, x3, x4, x5 => by
    unfold Fac.l3_0.g
    rw [← Fac.l3_0.rmap]
    congr
    · funext y0 y1 y2 y3 y4 y5; exact Fac.l3_0.gmap h mk0 n m y0 y1 y2 y3 y4 y5
theorem Fac.l3_0.pat_shape : ∀ st t, Fac.l3_0.pat st = some t → st = Fac.l3_0.shape t := fun _ _ h => by unfold Fac.l3_0.pat at h; split at h <;> cases h; rfl
def Fac.l3_0.k0 : LA → LI → LI → Ex × St := (fun a0 a1 a2 => (((.exit 0), (St.mk [(.own 0 4), (.ptr 1 []), (.ptr 2 [])] [(some (.objs 32 4 a0)), (some (.var (.ints .u64 4 a1))), (some (.var (.ints .u64 4 a2)))])) : Ex × St))
theorem Fac.l3_0.round (n : Nat) (rc : St → Option (Ex × St)) (x0 : Int) (x1 : Int) (x2 : LA) (x3 : LA) (x4 : LI) (x5 : LI) : Fac.R0 n rc ((St.mk [(.int .i64 x0), (.int .i64 x1), (.robjs 69 6 x2), (.own 0 4), (.ptr 1 []), (.ptr 2 [])] [(some (.objs 32 4 x3)), (some (.var (.ints .u64 4 x4))), (some (.var (.ints .u64 4 x5)))])) = Fac.l3_0.r Fac.l3_0.k0 n (fun y0 y1 y2 y3 y4 y5 => rc ((St.mk [(.int .i64 y0), (.int .i64 y1), (.robjs 69 6 y2), (.own 0 4), (.ptr 1 []), (.ptr 2 [])] [(some (.objs 32 4 y3)), (some (.var (.ints .u64 4 y4))), (some (.var (.ints .u64 4 y5)))]))) x0 x1 x2 x3 x4 x5 := by kernel_rfl
theorem Fac.l3_0.loop' (n : Nat) : ∀ (m : Nat) (t : (Int × (Int × (LA × (LA × (LI × LI)))))), loopOf (Fac.R0 n) m (Fac.l3_0.shape t) = Fac.l3_0.g Fac.l3_0.k0 n m t.1 t.2.1 t.2.2.1 t.2.2.2.1 t.2.2.2.2.1 t.2.2.2.2.2 :=
  loop_of_round (shape := Fac.l3_0.shape) (body := Fac.R0 n) (g := fun m t => Fac.l3_0.g Fac.l3_0.k0 n m t.1 t.2.1 t.2.2.1 t.2.2.2.1 t.2.2.2.2.1 t.2.2.2.2.2) (fun t => rfl)
    fun m t ih => (Fac.l3_0.round n (loopOf (Fac.R0 n) m) t.1 t.2.1 t.2.2.1 t.2.2.2.1 t.2.2.2.2.1 t.2.2.2.2.2).trans (congrFun (congrFun (congrFun (congrFun (congrFun (congrFun (congrArg (Fac.l3_0.r Fac.l3_0.k0 n) (funext fun y0 => funext fun y1 => funext fun y2 => funext fun y3 => funext fun y4 => funext fun y5 => ih (y0, y1, y2, y3, y4, y5))) t.1) t.2.1) t.2.2.1) t.2.2.2.1) t.2.2.2.2.1) t.2.2.2.2.2)
theorem Fac.l3_0.loop (n m : Nat) (t : (Int × (Int × (LA × (LA × (LI × LI)))))) : loopOf (Fac.R0 n) m (Fac.l3_0.shape t) = (Fac.l3_0.m n m t).map Fac.l3_0.res :=
  (Fac.l3_0.loop' n m t).trans (Fac.l3_0.gmap Fac.l3_0.res (fun a0 a1 a2 => (a0, a1, a2)) n m t.1 t.2.1 t.2.2.1 t.2.2.2.1 t.2.2.2.2.1 t.2.2.2.2.2)
theorem Fac.gmap {α β : Type} (h : β → α) (mk0 : LI → β) (n : Nat) (a0_0 : LI) (a0_1 : LI) (a0_2 : Bool) (a0_3 : LI) (a0_4 : LI) (a0_5 : LI) (a0_6 : Int) (a0_7 : Int) (a0_8 : Int) (a0_9 : LI) (a0_10 : LI) (a0_11 : Bool) (a0_12 : LI) (a0_13 : Int) (a0_14 : Int) (a0_15 : LI) (a0_16 : LI) (a1 : LI) : Fac.g (fun a0 => (h (mk0 a0))) n a0_0 a0_1 a0_2 a0_3 a0_4 a0_5 a0_6 a0_7 a0_8 a0_9 a0_10 a0_11 a0_12 a0_13 a0_14 a0_15 a0_16 a1 = (Fac.g mk0 n a0_0 a0_1 a0_2 a0_3 a0_4 a0_5 a0_6 a0_7 a0_8 a0_9 a0_10 a0_11 a0_12 a0_13 a0_14 a0_15 a0_16 a1).map h := by
  unfold Fac.g
  exact (bindO_map fun r2 => (ite_map (bindO_map fun r6 => (bindO_map fun r8 => (bindO_map fun r10 => (bindO_map fun r12 => (bindO_map fun r14 => rfl))))) rfl))
theorem Fac.run (n : Nat) (a0_0 : LI) (a0_1 : LI) (a0_2 : Bool) (a0_3 : LI) (a0_4 : LI) (a0_5 : LI) (a0_6 : Int) (a0_7 : Int) (a0_8 : Int) (a0_9 : LI) (a0_10 : LI) (a0_11 : Bool) (a0_12 : LI) (a0_13 : Int) (a0_14 : Int) (a0_15 : LI) (a0_16 : LI) (a1 : LI) : runF (Fac.C n) (Fac.A n) n Tryd.f40 [(.agg [(.ints .u8 20 a0_0), (.ints .u64 4 a0_1), (.bool a0_2), (.ints .u8 20 a0_3), (.rints .u8 a0_4), (.rints .u8 a0_5), (.int .u64 a0_6), (.int .u64 a0_7), (.int .u64 a0_8), (.ints .u64 4 a0_9), (.ints .u64 4 a0_10), (.bool a0_11), (.ints .u8 20 a0_12), (.int .u64 a0_13), (.int .u64 a0_14), (.rints .u8 a0_15), (.rints .u8 a0_16)]), (.ints .u64 4 a1)] [] (fun v o => some (v, o)) = Fac.g (fun a0 => (((.ints .u64 4 a0), []) : AV × Blks)) n a0_0 a0_1 a0_2 a0_3 a0_4 a0_5 a0_6 a0_7 a0_8 a0_9 a0_10 a0_11 a0_12 a0_13 a0_14 a0_15 a0_16 a1 := by kernel_rfl
theorem Fac.call (hmix : Tryd.prog.follows .mixedOrders = true) (n : Nat) (t : (LI × (LI × (Bool × (LI × (LI × (LI × (Int × (Int × (Int × (LI × (LI × (Bool × (LI × (Int × (Int × (LI × (LI × LI)))))))))))))))))) (u) (h : Fac.m n t = some u) : FnC Tryd.prog abiG 40 (Fac.shape t).1 (Fac.shape t).2 (Fac.res u).1 (Fac.res u).2 :=
  fnC1 (C := Fac.C n) (A := Fac.A n) (fn := Tryd.f40) rfl (.cons (Fz.s hmix n) (.cons (Fad.s hmix n) (.cons (Fab.s hmix n) (.cons (Fbb.s hmix n) (.cons (Fba.s hmix n) .nil))))) hmix Tryd.func40 (by kernel_rfl) (lp := [Fac.b0]) (by kernel_rfl) (.cons (show (Fac.A n).loop (key Fac.b0) = some (.mk' Fac.l3_0.pat (Fac.l3_0.m n n) Fac.l3_0.resK) by kernel_rfl) (LoopS.of (res := Fac.l3_0.res) (fun R u K => rfl) Fac.l3_0.pat_shape fun t => Fac.l3_0.loop n n t)
  .nil)
  (nj rfl) (by decide) rfl rfl (by show 2 ≤ Tryd.f40.ntmps; decide) (Fac.run n t.1 t.2.1 t.2.2.1 t.2.2.2.1 t.2.2.2.2.1 t.2.2.2.2.2.1 t.2.2.2.2.2.2.1 t.2.2.2.2.2.2.2.1 t.2.2.2.2.2.2.2.2.1 t.2.2.2.2.2.2.2.2.2.1 t.2.2.2.2.2.2.2.2.2.2.1 t.2.2.2.2.2.2.2.2.2.2.2.1 t.2.2.2.2.2.2.2.2.2.2.2.2.1 t.2.2.2.2.2.2.2.2.2.2.2.2.2.1 t.2.2.2.2.2.2.2.2.2.2.2.2.2.2.1 t.2.2.2.2.2.2.2.2.2.2.2.2.2.2.2.1 t.2.2.2.2.2.2.2.2.2.2.2.2.2.2.2.2.1 t.2.2.2.2.2.2.2.2.2.2.2.2.2.2.2.2.2) (Fac.gmap Fac.res (fun a0 => a0) n t.1 t.2.1 t.2.2.1 t.2.2.2.1 t.2.2.2.2.1 t.2.2.2.2.2.1 t.2.2.2.2.2.2.1 t.2.2.2.2.2.2.2.1 t.2.2.2.2.2.2.2.2.1 t.2.2.2.2.2.2.2.2.2.1 t.2.2.2.2.2.2.2.2.2.2.1 t.2.2.2.2.2.2.2.2.2.2.2.1 t.2.2.2.2.2.2.2.2.2.2.2.2.1 t.2.2.2.2.2.2.2.2.2.2.2.2.2.1 t.2.2.2.2.2.2.2.2.2.2.2.2.2.2.1 t.2.2.2.2.2.2.2.2.2.2.2.2.2.2.2.1 t.2.2.2.2.2.2.2.2.2.2.2.2.2.2.2.2.1 t.2.2.2.2.2.2.2.2.2.2.2.2.2.2.2.2.2) h
theorem Fac.s (hmix : Tryd.prog.follows .mixedOrders = true) (n : Nat) : CalleeS Tryd.prog abiG 40 (Fac.c n) :=
  .mk1 (res := Fac.res) (shape := Fac.shape) (fun R u K => rfl) (fun _ _ _ h => by unfold Fac.pat at h; split at h <;> cases h; rfl) (fun t u h => Fac.call hmix n t u h) Tryd.func40 (by decide) (by kernel_rfl)
end
section
noncomputable section
noncomputable def Fbw.C (n : Nat) : Ctx := ⟨Tryd.prog, abiG, lookC [], fun _ => false⟩
noncomputable def Fbw.A (n : Nat) : Ann := ⟨Tryd.f83.ntmps, 0, noNL, [], [none], fun k => match k with
 | _ => none, noNL, lookJ []⟩
def Fbw.g {α : Type} (mk0 : LI → α) (n : Nat)  : Option α :=
 some (mk0 ([0, 0, 0, 0, 113, 114, 125, 226, 46, 94, 157, 139, 175, 14, 218, 198, 243, 125, 160, 50] : List Int))
def Fbw.m (n : Nat) (t : Unit) : Option LI := Fbw.g (fun a0 => a0) n 
def Fbw.pat : List AV → Blks → Option Unit
 | [], [] => some ()
 | _, _ => none
def Fbw.shape (t : Unit) : List AV × Blks := ([], [])
def Fbw.res : LI → AV × Blks
 | u => ((.ints .u8 20 u), [])
def Fbw.resK {R : Type} (u : LI) (K : AV → Blks → Option R) : Option R := K (Fbw.res u).1 (Fbw.res u).2
def Fbw.c (n : Nat) : Abs.Callee := .mk' [] [] Fbw.pat (Fbw.m n) Fbw.resK
end
end
section
noncomputable section
noncomputable def Fbx.C (n : Nat) : Ctx := ⟨Tryd.prog, abiG, lookC [(39, Fbu.c n), (62, Fca.c n), (82, Fbv.c n), (83, Fbw.c n), (78, Fbq.c n)], fun _ => false⟩
def Fbx.live : NL := fun k => match k with
 | 4 => ([7, 5, 6, 3, 4], [6, 3, 4])
 | _ => ([], [])
def Fbx.l4_0.r {α : Type} (mk0 : LA → LI → LI → α) (n : Nat) (rc : Int → LA → LA → LI → LI → Option α)  (x0 : Int) (x1 : LA) (x2 : LA) (x3 : LI) (x4 : LI) : Option α :=
  if (decide (x0 < 8)) = true then
   if 0 ≤ x0 then
    if x0 < (((List.length x1) : Nat) : Int) then
     bindO (tkAgg 3 (List.getD x1 (Int.toNat x0) AV.any)) fun r10 =>
      bindO (tkBool (List.getD r10 0 AV.any)) fun r12 =>
       bindO (tkInts .u64 4 (List.getD r10 1 AV.any)) fun r14 =>
        bindO (tkRints .u8 (List.getD r10 2 AV.any)) fun r16 =>
         if r12 = true then
          if 0 ≤ x0 then
           if x0 < (((List.length x1) : Nat) : Int) then
            bindO (tkAgg 3 (List.getD x1 (Int.toNat x0) AV.any)) fun r24 =>
             bindO (tkBool (List.getD r24 0 AV.any)) fun r26 =>
              bindO (tkInts .u64 4 (List.getD r24 1 AV.any)) fun r28 =>
               bindO (tkRints .u8 (List.getD r24 2 AV.any)) fun r30 =>
                bindO (Fca.m n r30) fun r32 =>
                 if ((((List.length x2) + 1) * 32) ≤ 70368744177664 ∧ ((List.length x2) + 1) ≤ 9223372036854775807) then
                  rc (IntKind.wrap .i64 (x0 + 1)) x1 (x2 ++ [(AV.ints .u64 4 r32)]) x3 x4
                 else
                  none
           else
            none
          else
           none
         else
          if 0 ≤ x0 then
           if x0 < (((List.length x1) : Nat) : Int) then
            bindO (tkAgg 3 (List.getD x1 (Int.toNat x0) AV.any)) fun r24 =>
             bindO (tkBool (List.getD r24 0 AV.any)) fun r26 =>
              bindO (tkInts .u64 4 (List.getD r24 1 AV.any)) fun r28 =>
               bindO (tkRints .u8 (List.getD r24 2 AV.any)) fun r30 =>
                if ((((List.length x2) + 1) * 32) ≤ 70368744177664 ∧ ((List.length x2) + 1) ≤ 9223372036854775807) then
                 rc (IntKind.wrap .i64 (x0 + 1)) x1 (x2 ++ [(AV.ints .u64 4 r28)]) x3 x4
                else
                 none
           else
            none
          else
           none
    else
     none
   else
    none
  else
   some (mk0 x2 x3 x4)
def Fbx.l4_0.g {α : Type} (mk0 : LA → LI → LI → α) (n : Nat) : Nat → Int → LA → LA → LI → LI → Option α
 | 0, _, _, _, _, _ => none
 | m + 1, x0, x1, x2, x3, x4 => Fbx.l4_0.r mk0 n (fun y0 y1 y2 y3 y4 => Fbx.l4_0.g mk0 n m y0 y1 y2 y3 y4)  x0 x1 x2 x3 x4
def Fbx.l4_0.m (n m : Nat) (t : (Int × (LA × (LA × (LI × LI))))) : Option (LA × (LI × LI)) := Fbx.l4_0.g (fun a0 a1 a2 => (a0, a1, a2)) n m t.1 t.2.1 t.2.2.1 t.2.2.2.1 t.2.2.2.2
def Fbx.l4_0.pat : St → Option (Int × (LA × (LA × (LI × LI))))
 | (St.mk [(.int .i64 x0), (.robjs 69 6 x1), (.own 0 4), (.ptr 1 []), (.ptr 2 [])] [(some (.objs 32 4 x2)), (some (.var (.ints .u64 4 x3))), (some (.var (.ints .u64 4 x4)))]) => some (x0, x1, x2, x3, x4)
 | _ => none
def Fbx.l4_0.shape (t : (Int × (LA × (LA × (LI × LI))))) : St := (St.mk [(.int .i64 t.1), (.robjs 69 6 t.2.1), (.own 0 4), (.ptr 1 []), (.ptr 2 [])] [(some (.objs 32 4 t.2.2.1)), (some (.var (.ints .u64 4 t.2.2.2.1))), (some (.var (.ints .u64 4 t.2.2.2.2)))])
def Fbx.l4_0.res : (LA × (LI × LI)) → Ex × St
 | u => ((.exit 0), (St.mk [(.own 0 4), (.ptr 1 []), (.ptr 2 [])] [(some (.objs 32 4 u.1)), (some (.var (.ints .u64 4 u.2.1))), (some (.var (.ints .u64 4 u.2.2)))]))
def Fbx.l4_0.resK {R : Type} (u : (LA × (LI × LI))) (K : Ex → St → Option R) : Option R := K (Fbx.l4_0.res u).1 (Fbx.l4_0.res u).2
noncomputable def Fbx.A (n : Nat) : Ann := ⟨Tryd.f41.ntmps, 0, Fbx.live, [(5, (.objs 69 6)), (6, (.objs 32 4))], [none], fun k => match k with
 | 4 => some (.mk' Fbx.l4_0.pat (Fbx.l4_0.m n n) Fbx.l4_0.resK)
 | _ => none, noNL, lookJ []⟩
noncomputable def Fbx.b0 : Code := (loopsIn (Tryd.f41.body.getD .skip)).getD 0 .skip
def Fbx.g {α : Type} (mk0 : LI → α) (n : Nat) (a0_0 : LI) (a0_1 : LI) (a0_2 : Bool) (a0_3 : LI) (a0_4 : LI) (a0_5 : LI) (a0_6 : Int) (a0_7 : Int) (a0_8 : Int) (a0_9 : LI) (a0_10 : LI) (a0_11 : Bool) (a0_12 : LI) (a0_13 : Int) (a0_14 : Int) (a0_15 : LI) (a0_16 : LI) (a1 : LI) : Option α :=
 bindO (Fbu.m n (a0_0, a0_1, a0_2, a0_3, a0_4, a0_5, a0_6, a0_7, a0_8, a0_9, a0_10, a0_11, a0_12, a0_13, a0_14, a0_15, a0_16)) fun r2 =>
  bindO (Fbx.l4_0.m n n (0, r2, [], a1, [0, 0, 0, 0])) fun r4 =>
   bindO (Fbv.m n r4.1) fun r6 =>
    bindO (Fbw.m n Unit.unit) fun r8 =>
     bindO (Fbq.m n r8) fun r10 =>
      bindO (Fbv.m n [(AV.ints .u64 4 r6), (AV.ints .u64 4 r10), (AV.ints .u64 4 r4.2.1)]) fun r12 =>
       some (mk0 r12)
def Fbx.m (n : Nat) (t : (LI × (LI × (Bool × (LI × (LI × (LI × (Int × (Int × (Int × (LI × (LI × (Bool × (LI × (Int × (Int × (LI × (LI × LI)))))))))))))))))) : Option LI := Fbx.g (fun a0 => a0) n t.1 t.2.1 t.2.2.1 t.2.2.2.1 t.2.2.2.2.1 t.2.2.2.2.2.1 t.2.2.2.2.2.2.1 t.2.2.2.2.2.2.2.1 t.2.2.2.2.2.2.2.2.1 t.2.2.2.2.2.2.2.2.2.1 t.2.2.2.2.2.2.2.2.2.2.1 t.2.2.2.2.2.2.2.2.2.2.2.1 t.2.2.2.2.2.2.2.2.2.2.2.2.1 t.2.2.2.2.2.2.2.2.2.2.2.2.2.1 t.2.2.2.2.2.2.2.2.2.2.2.2.2.2.1 t.2.2.2.2.2.2.2.2.2.2.2.2.2.2.2.1 t.2.2.2.2.2.2.2.2.2.2.2.2.2.2.2.2.1 t.2.2.2.2.2.2.2.2.2.2.2.2.2.2.2.2.2
def Fbx.pat : List AV → Blks → Option (LI × (LI × (Bool × (LI × (LI × (LI × (Int × (Int × (Int × (LI × (LI × (Bool × (LI × (Int × (Int × (LI × (LI × LI)))))))))))))))))
 | [(.agg [(.ints .u8 20 a0_0), (.ints .u64 4 a0_1), (.bool a0_2), (.ints .u8 20 a0_3), (.rints .u8 a0_4), (.rints .u8 a0_5), (.int .u64 a0_6), (.int .u64 a0_7), (.int .u64 a0_8), (.ints .u64 4 a0_9), (.ints .u64 4 a0_10), (.bool a0_11), (.ints .u8 20 a0_12), (.int .u64 a0_13), (.int .u64 a0_14), (.rints .u8 a0_15), (.rints .u8 a0_16)]), (.ints .u64 4 a1)], [] => some (a0_0, a0_1, a0_2, a0_3, a0_4, a0_5, a0_6, a0_7, a0_8, a0_9, a0_10, a0_11, a0_12, a0_13, a0_14, a0_15, a0_16, a1)
 | _, _ => none
def Fbx.shape (t : (LI × (LI × (Bool × (LI × (LI × (LI × (Int × (Int × (Int × (LI × (LI × (Bool × (LI × (Int × (Int × (LI × (LI × LI)))))))))))))))))) : List AV × Blks := ([(.agg [(.ints .u8 20 t.1), (.ints .u64 4 t.2.1), (.bool t.2.2.1), (.ints .u8 20 t.2.2.2.1), (.rints .u8 t.2.2.2.2.1), (.rints .u8 t.2.2.2.2.2.1), (.int .u64 t.2.2.2.2.2.2.1), (.int .u64 t.2.2.2.2.2.2.2.1), (.int .u64 t.2.2.2.2.2.2.2.2.1), (.ints .u64 4 t.2.2.2.2.2.2.2.2.2.1), (.ints .u64 4 t.2.2.2.2.2.2.2.2.2.2.1), (.bool t.2.2.2.2.2.2.2.2.2.2.2.1), (.ints .u8 20 t.2.2.2.2.2.2.2.2.2.2.2.2.1), (.int .u64 t.2.2.2.2.2.2.2.2.2.2.2.2.2.1), (.int .u64 t.2.2.2.2.2.2.2.2.2.2.2.2.2.2.1), (.rints .u8 t.2.2.2.2.2.2.2.2.2.2.2.2.2.2.2.1), (.rints .u8 t.2.2.2.2.2.2.2.2.2.2.2.2.2.2.2.2.1)]), (.ints .u64 4 t.2.2.2.2.2.2.2.2.2.2.2.2.2.2.2.2.2)], [])
def Fbx.res : LI → AV × Blks
 | u => ((.ints .u64 4 u), [])
def Fbx.resK {R : Type} (u : LI) (K : AV → Blks → Option R) : Option R := K (Fbx.res u).1 (Fbx.res u).2
def Fbx.c (n : Nat) : Abs.Callee := .mk' [] [(some (.agg [none, none, none, none, (some (.ints .u8)), (some (.ints .u8)), none, none, none, none, none, none, none, none, none, (some (.ints .u8)), (some (.ints .u8))])), none] Fbx.pat (Fbx.m n) Fbx.resK
end
end
section
theorem Fbw.gmap {α β : Type} (h : β → α) (mk0 : LI → β) (n : Nat)  : Fbw.g (fun a0 => (h (mk0 a0))) n  = (Fbw.g mk0 n ).map h := by
  unfold Fbw.g
  exact rfl
theorem Fbw.run (n : Nat)  : runF (Fbw.C n) (Fbw.A n) n Tryd.f83 [] [] (fun v o => some (v, o)) = Fbw.g (fun a0 => (((.ints .u8 20 a0), []) : AV × Blks)) n  := by kernel_rfl
theorem Fbw.call (hmix : Tryd.prog.follows .mixedOrders = true) (n : Nat) (t : Unit) (u) (h : Fbw.m n t = some u) : FnC Tryd.prog abiG 83 (Fbw.shape t).1 (Fbw.shape t).2 (Fbw.res u).1 (Fbw.res u).2 :=
  fnC1 (C := Fbw.C n) (A := Fbw.A n) (fn := Tryd.f83) rfl .nil hmix Tryd.func83 (by kernel_rfl) (lp := []) (by kernel_rfl) .nil
  (nj rfl) (by decide) rfl rfl (by show 0 ≤ Tryd.f83.ntmps; decide) (Fbw.run n ) (Fbw.gmap Fbw.res (fun a0 => a0) n ) h
theorem Fbw.s (hmix : Tryd.prog.follows .mixedOrders = true) (n : Nat) : CalleeS Tryd.prog abiG 83 (Fbw.c n) :=
  .mk1 (res := Fbw.res) (shape := Fbw.shape) (fun R u K => rfl) (fun _ _ _ h => by unfold Fbw.pat at h; split at h <;> cases h; rfl) (fun t u h => Fbw.call hmix n t u h) Tryd.func83 (by decide) (by kernel_rfl)
end
section
noncomputable abbrev Fbx.R0 (n : Nat) := roundOf (Fbx.C n) (Fbx.A n) n Fbx.b0
theorem Fbx.l4_0.rmap {α β : Type} (h : β → α) (mk0 : LA → LI → LI → β) (n : Nat) (f : Int → LA → LA → LI → LI → Option β)  (x0 : Int) (x1 : LA) (x2 : LA) (x3 : LI) (x4 : LI) : Fbx.l4_0.r (fun a0 a1 a2 => (h (mk0 a0 a1 a2))) n (fun y0 y1 y2 y3 y4 => (f y0 y1 y2 y3 y4).map h) x0 x1 x2 x3 x4 = (Fbx.l4_0.r mk0 n f x0 x1 x2 x3 x4).map h := by
  unfold Fbx.l4_0.r
  exact (ite_map (ite_map (ite_map (bindO_map fun r10 => (bindO_map fun r12 => (bindO_map fun r14 => (bindO_map fun r16 => (ite_map (ite_map (ite_map (bindO_map fun r24 => (bindO_map fun r26 => (bindO_map fun r28 => (bindO_map fun r30 => (bindO_map fun r32 => (ite_map rfl rfl)))))) rfl) rfl) (ite_map (ite_map (bindO_map fun r24 => (bindO_map fun r26 => (bindO_map fun r28 => (bindO_map fun r30 => (ite_map rfl rfl))))) rfl) rfl)))))) rfl) rfl) rfl)
theorem Fbx.l4_0.gmap {α β : Type} (h : β → α) (mk0 : LA → LI → LI → β) (n : Nat) : ∀ (m : Nat) (x0 : Int) (x1 : LA) (x2 : LA) (x3 : LI) (x4 : LI), Fbx.l4_0.g (fun a0 a1 a2 => (h (mk0 a0 a1 a2))) n m x0 x1 x2 x3 x4 = (Fbx.l4_0.g mk0 n m x0 x1 x2 x3 x4).map h
  | 0, _, _, _, _, _ => rfl
  | m + 1, x0, x1, x2, x3, x4 => by
    unfold Fbx.l4_0.g
    rw [← Fbx.l4_0.rmap]
    congr
    · funext y0 y1 y2 y3 y4; exact Fbx.l4_0.gmap h mk0 n m y0 y1 y2 y3 y4
theorem Fbx.l4_0.pat_shape : ∀ st t, Fbx.l4_0.pat st = some t → st = Fbx.l4_0.shape t := fun _ _ h => by unfold Fbx.l4_0.pat at h; split at h <;> cases h; rfl
def Fbx.l4_0.k0 : LA → LI → LI → Ex × St := (fun a0 a1 a2 => (((.exit 0), (St.mk [(.own 0 4), (.ptr 1 []), (.ptr 2 [])] [(some (.objs 32 4 a0)), (some (.var (.ints .u64 4 a1))), (some (.var (.ints .u64 4 a2)))])) : Ex × St))
theorem Fbx.l4_0.round (n : Nat) (rc : St → Option (Ex × St)) (x0 : Int) (x1 : LA) (x2 : LA) (x3 : LI) (x4 : LI) : Fbx.R0 n rc ((St.mk [(.int .i64 x0), (.robjs 69 6 x1), (.own 0 4), (.ptr 1 []), (.ptr 2 [])] [(some (.objs 32 4 x2)), (some (.var (.ints .u64 4 x3))), (some (.var (.ints .u64 4 x4)))])) = Fbx.l4_0.r Fbx.l4_0.k0 n (fun y0 y1 y2 y3 y4 => rc ((St.mk [(.int .i64 y0), (.robjs 69 6 y1), (.own 0 4), (.ptr 1 []), (.ptr 2 [])] [(some (.objs 32 4 y2)), (some (.var (.ints .u64 4 y3))), (some (.var (.ints .u64 4 y4)))]))) x0 x1 x2 x3 x4 := by kernel_rfl
theorem Fbx.l4_0.loop' (n : Nat) : ∀ (m : Nat) (t : (Int × (LA × (LA × (LI × LI))))), loopOf (Fbx.R0 n) m (Fbx.l4_0.shape t) = Fbx.l4_0.g Fbx.l4_0.k0 n m t.1 t.2.1 t.2.2.1 t.2.2.2.1 t.2.2.2.2 :=
  loop_of_round (shape := Fbx.l4_0.shape) (body := Fbx.R0 n) (g := fun m t => Fbx.l4_0.g Fbx.l4_0.k0 n m t.1 t.2.1 t.2.2.1 t.2.2.2.1 t.2.2.2.2) (fun t => rfl)
    fun m t ih => (Fbx.l4_0.round n (loopOf (Fbx.R0 n) m) t.1 t.2.1 t.2.2.1 t.2.2.2.1 t.2.2.2.2).trans (congrFun (congrFun (congrFun (congrFun (congrFun (congrArg (Fbx.l4_0.r Fbx.l4_0.k0 n) (funext fun y0 => funext fun y1 => funext fun y2 => funext fun y3 => funext fun y4 => ih (y0, y1, y2, y3, y4))) t.1) t.2.1) t.2.2.1) t.2.2.2.1) t.2.2.2.2)
theorem Fbx.l4_0.loop (n m : Nat) (t : (Int × (LA × (LA × (LI × LI))))) : loopOf (Fbx.R0 n) m (Fbx.l4_0.shape t) = (Fbx.l4_0.m n m t).map Fbx.l4_0.res :=
  (Fbx.l4_0.loop' n m t).trans (Fbx.l4_0.gmap Fbx.l4_0.res (fun a0 a1 a2 => (a0, a1, a2)) n m t.1 t.2.1 t.2.2.1 t.2.2.2.1 t.2.2.2.2)
theorem Fbx.gmap {α β : Type} (h : β → α) (mk0 : LI → β) (n : Nat) (a0_0 : LI) (a0_1 : LI) (a0_2 : Bool) (a0_3 : LI) (a0_4 : LI) (a0_5 : LI) (a0_6 : Int) (a0_7 : Int) (a0_8 : Int) (a0_9 : LI) (a0_10 : LI) (a0_11 : Bool) (a0_12 : LI) (a0_13 : Int) (a0_14 : Int) (a0_15 : LI) (a0_16 : LI) (a1 : LI) : Fbx.g (fun a0 => (h (mk0 a0))) n a0_0 a0_1 a0_2 a0_3 a0_4 a0_5 a0_6 a0_7 a0_8 a0_9 a0_10 a0_11 a0_12 a0_13 a0_14 a0_15 a0_16 a1 = (Fbx.g mk0 n a0_0 a0_1 a0_2 a0_3 a0_4 a0_5 a0_6 a0_7 a0_8 a0_9 a0_10 a0_11 a0_12 a0_13 a0_14 a0_15 a0_16 a1).map h := by
  unfold Fbx.g
  exact (bindO_map fun r2 => (bindO_map fun r4 => (bindO_map fun r6 => (bindO_map fun r8 => (bindO_map fun r10 => (bindO_map fun r12 => rfl))))))
theorem Fbx.run (n : Nat) (a0_0 : LI) (a0_1 : LI) (a0_2 : Bool) (a0_3 : LI) (a0_4 : LI) (a0_5 : LI) (a0_6 : Int) (a0_7 : Int) (a0_8 : Int) (a0_9 : LI) (a0_10 : LI) (a0_11 : Bool) (a0_12 : LI) (a0_13 : Int) (a0_14 : Int) (a0_15 : LI) (a0_16 : LI) (a1 : LI) : runF (Fbx.C n) (Fbx.A n) n Tryd.f41 [(.agg [(.ints .u8 20 a0_0), (.ints .u64 4 a0_1), (.bool a0_2), (.ints .u8 20 a0_3), (.rints .u8 a0_4), (.rints .u8 a0_5), (.int .u64 a0_6), (.int .u64 a0_7), (.int .u64 a0_8), (.ints .u64 4 a0_9), (.ints .u64 4 a0_10), (.bool a0_11), (.ints .u8 20 a0_12), (.int .u64 a0_13), (.int .u64 a0_14), (.rints .u8 a0_15), (.rints .u8 a0_16)]), (.ints .u64 4 a1)] [] (fun v o => some (v, o)) = Fbx.g (fun a0 => (((.ints .u64 4 a0), []) : AV × Blks)) n a0_0 a0_1 a0_2 a0_3 a0_4 a0_5 a0_6 a0_7 a0_8 a0_9 a0_10 a0_11 a0_12 a0_13 a0_14 a0_15 a0_16 a1 := by kernel_rfl
theorem Fbx.call (hmix : Tryd.prog.follows .mixedOrders = true) (n : Nat) (t : (LI × (LI × (Bool × (LI × (LI × (LI × (Int × (Int × (Int × (LI × (LI × (Bool × (LI × (Int × (Int × (LI × (LI × LI)))))))))))))))))) (u) (h : Fbx.m n t = some u) : FnC Tryd.prog abiG 41 (Fbx.shape t).1 (Fbx.shape t).2 (Fbx.res u).1 (Fbx.res u).2 :=
  fnC1 (C := Fbx.C n) (A := Fbx.A n) (fn := Tryd.f41) rfl (.cons (Fbu.s hmix n) (.cons (Fca.s hmix n) (.cons (Fbv.s hmix n) (.cons (Fbw.s hmix n) (.cons (Fbq.s hmix n) .nil))))) hmix Tryd.func41 (by kernel_rfl) (lp := [Fbx.b0]) (by kernel_rfl) (.cons (show (Fbx.A n).loop (key Fbx.b0) = some (.mk' Fbx.l4_0.pat (Fbx.l4_0.m n n) Fbx.l4_0.resK) by kernel_rfl) (LoopS.of (res := Fbx.l4_0.res) (fun R u K => rfl) Fbx.l4_0.pat_shape fun t => Fbx.l4_0.loop n n t)
  .nil)
  (nj rfl) (by decide) rfl rfl (by show 2 ≤ Tryd.f41.ntmps; decide) (Fbx.run n t.1 t.2.1 t.2.2.1 t.2.2.2.1 t.2.2.2.2.1 t.2.2.2.2.2.1 t.2.2.2.2.2.2.1 t.2.2.2.2.2.2.2.1 t.2.2.2.2.2.2.2.2.1 t.2.2.2.2.2.2.2.2.2.1 t.2.2.2.2.2.2.2.2.2.2.1 t.2.2.2.2.2.2.2.2.2.2.2.1 t.2.2.2.2.2.2.2.2.2.2.2.2.1 t.2.2.2.2.2.2.2.2.2.2.2.2.2.1 t.2.2.2.2.2.2.2.2.2.2.2.2.2.2.1 t.2.2.2.2.2.2.2.2.2.2.2.2.2.2.2.1 t.2.2.2.2.2.2.2.2.2.2.2.2.2.2.2.2.1 t.2.2.2.2.2.2.2.2.2.2.2.2.2.2.2.2.2) (Fbx.gmap Fbx.res (fun a0 => a0) n t.1 t.2.1 t.2.2.1 t.2.2.2.1 t.2.2.2.2.1 t.2.2.2.2.2.1 t.2.2.2.2.2.2.1 t.2.2.2.2.2.2.2.1 t.2.2.2.2.2.2.2.2.1 t.2.2.2.2.2.2.2.2.2.1 t.2.2.2.2.2.2.2.2.2.2.1 t.2.2.2.2.2.2.2.2.2.2.2.1 t.2.2.2.2.2.2.2.2.2.2.2.2.1 t.2.2.2.2.2.2.2.2.2.2.2.2.2.1 t.2.2.2.2.2.2.2.2.2.2.2.2.2.2.1 t.2.2.2.2.2.2.2.2.2.2.2.2.2.2.2.1 t.2.2.2.2.2.2.2.2.2.2.2.2.2.2.2.2.1 t.2.2.2.2.2.2.2.2.2.2.2.2.2.2.2.2.2) h
theorem Fbx.s (hmix : Tryd.prog.follows .mixedOrders = true) (n : Nat) : CalleeS Tryd.prog abiG 41 (Fbx.c n) :=
  .mk1 (res := Fbx.res) (shape := Fbx.shape) (fun R u K => rfl) (fun _ _ _ h => by unfold Fbx.pat at h; split at h <;> cases h; rfl) (fun t u h => Fbx.call hmix n t u h) Tryd.func41 (by decide) (by kernel_rfl)
end
section
noncomputable section
noncomputable def Fn.C (n : Nat) : Ctx := ⟨Tryd.prog, abiG, lookC [(19, Fl.c n)], fun _ => false⟩
def Fn.live : NL := fun k => match k with
 | 4 => ([5, 0, 1], [4])
 | _ => ([], [])
def Fn.l4_0.r {α : Type} (mk0 : Bool → α) (mk1 : α) (n : Nat) (rc : Int → LA → LA → Option α)  (x0 : Int) (x1 : LA) (x2 : LA) : Option α :=
  if (decide (x0 < (((List.length x1) : Nat) : Int))) = true then
   if 0 ≤ x0 then
    if x0 < (((List.length x1) : Nat) : Int) then
     bindO (tkAgg 3 (List.getD x1 (Int.toNat x0) AV.any)) fun r10 =>
      bindO (tkBool (List.getD r10 0 AV.any)) fun r12 =>
       bindO (tkInts .u64 4 (List.getD r10 1 AV.any)) fun r14 =>
        bindO (tkRints .u8 (List.getD r10 2 AV.any)) fun r16 =>
         if 0 ≤ x0 then
          if x0 < (((List.length x2) : Nat) : Int) then
           bindO (tkAgg 3 (List.getD x2 (Int.toNat x0) AV.any)) fun r22 =>
            bindO (tkBool (List.getD r22 0 AV.any)) fun r24 =>
             bindO (tkInts .u64 4 (List.getD r22 1 AV.any)) fun r26 =>
              bindO (tkRints .u8 (List.getD r22 2 AV.any)) fun r28 =>
               if (!(r12 == r24)) = true then
                some (mk0 false)
               else
                if 0 ≤ x0 then
                 if x0 < (((List.length x1) : Nat) : Int) then
                  bindO (tkAgg 3 (List.getD x1 (Int.toNat x0) AV.any)) fun r36 =>
                   bindO (tkBool (List.getD r36 0 AV.any)) fun r38 =>
                    bindO (tkInts .u64 4 (List.getD r36 1 AV.any)) fun r40 =>
                     bindO (tkRints .u8 (List.getD r36 2 AV.any)) fun r42 =>
                      if 0 ≤ x0 then
                       if x0 < (((List.length x2) : Nat) : Int) then
                        bindO (tkAgg 3 (List.getD x2 (Int.toNat x0) AV.any)) fun r48 =>
                         bindO (tkBool (List.getD r48 0 AV.any)) fun r50 =>
                          bindO (tkInts .u64 4 (List.getD r48 1 AV.any)) fun r52 =>
                           bindO (tkRints .u8 (List.getD r48 2 AV.any)) fun r54 =>
                            if (!(r40 == r52)) = true then
                             some (mk0 false)
                            else
                             if 0 ≤ x0 then
                              if x0 < (((List.length x1) : Nat) : Int) then
                               bindO (tkAgg 3 (List.getD x1 (Int.toNat x0) AV.any)) fun r62 =>
                                bindO (tkBool (List.getD r62 0 AV.any)) fun r64 =>
                                 bindO (tkInts .u64 4 (List.getD r62 1 AV.any)) fun r66 =>
                                  bindO (tkRints .u8 (List.getD r62 2 AV.any)) fun r68 =>
                                   if 0 ≤ x0 then
                                    if x0 < (((List.length x2) : Nat) : Int) then
                                     bindO (tkAgg 3 (List.getD x2 (Int.toNat x0) AV.any)) fun r74 =>
                                      bindO (tkBool (List.getD r74 0 AV.any)) fun r76 =>
                                       bindO (tkInts .u64 4 (List.getD r74 1 AV.any)) fun r78 =>
                                        bindO (tkRints .u8 (List.getD r74 2 AV.any)) fun r80 =>
                                         bindO (Fl.m n (r68, r80)) fun r82 =>
                                          if (!r82) = true then
                                           some (mk0 false)
                                          else
                                           rc (IntKind.wrap .i64 (x0 + 1)) x1 x2
                                    else
                                     none
                                   else
                                    none
                              else
                               none
                             else
                              none
                       else
                        none
                      else
                       none
                 else
                  none
                else
                 none
          else
           none
         else
          none
    else
     none
   else
    none
  else
   some (mk1)
def Fn.l4_0.g {α : Type} (mk0 : Bool → α) (mk1 : α) (n : Nat) : Nat → Int → LA → LA → Option α
 | 0, _, _, _ => none
 | m + 1, x0, x1, x2 => Fn.l4_0.r mk0 mk1 n (fun y0 y1 y2 => Fn.l4_0.g mk0 mk1 n m y0 y1 y2)  x0 x1 x2
def Fn.l4_0.m (n m : Nat) (t : (Int × (LA × LA))) : Option (Bool ⊕ Unit) := Fn.l4_0.g (fun a0 => (.inl a0)) (.inr ()) n m t.1 t.2.1 t.2.2
def Fn.l4_0.pat : St → Option (Int × (LA × LA))
 | (St.mk [(.int .i64 x0), (.robjs 69 6 x1), (.robjs 69 6 x2)] []) => some (x0, x1, x2)
 | _ => none
def Fn.l4_0.shape (t : (Int × (LA × LA))) : St := (St.mk [(.int .i64 t.1), (.robjs 69 6 t.2.1), (.robjs 69 6 t.2.2)] [])
def Fn.l4_0.res : (Bool ⊕ Unit) → Ex × St
 | (.inl u) => (.ret, (St.mk [(.bool u)] []))
 | (.inr u) => ((.exit 0), (St.mk [.any] []))
def Fn.l4_0.resK {R : Type} (u : (Bool ⊕ Unit)) (K : Ex → St → Option R) : Option R := match u with
 | (.inl u) => (fun p : Ex × St => K p.1 p.2) (.ret, (St.mk [(.bool u)] []))
 | (.inr u) => (fun p : Ex × St => K p.1 p.2) ((.exit 0), (St.mk [.any] []))
noncomputable def Fn.A (n : Nat) : Ann := ⟨Tryd.f37.ntmps, 0, Fn.live, [(0, (.objs 69 6)), (1, (.objs 69 6))], [none], fun k => match k with
 | 4 => some (.mk' Fn.l4_0.pat (Fn.l4_0.m n n) Fn.l4_0.resK)
 | _ => none, noNL, lookJ []⟩
noncomputable def Fn.b0 : Code := (loopsIn (Tryd.f37.body.getD .skip)).getD 0 .skip
def Fn.g {α : Type} (mk0 : Bool → α) (n : Nat) (a0 : LA) (a1 : LA) : Option α :=
 if ((((List.length a0) : Nat) : Int) != (((List.length a1) : Nat) : Int)) = true then
  some (mk0 false)
 else
  bindO (Fn.l4_0.m n n (0, a0, a1)) fun r4 => match r4 with
   | (.inl r4) =>
    some (mk0 r4)
   | (.inr r4) =>
    some (mk0 true)
def Fn.m (n : Nat) (t : (LA × LA)) : Option Bool := Fn.g (fun a0 => a0) n t.1 t.2
def Fn.pat : List AV → Blks → Option (LA × LA)
 | [(.robjs 69 6 a0), (.robjs 69 6 a1)], [] => some (a0, a1)
 | _, _ => none
def Fn.shape (t : (LA × LA)) : List AV × Blks := ([(.robjs 69 6 t.1), (.robjs 69 6 t.2)], [])
def Fn.res : Bool → AV × Blks
 | u => ((.bool u), [])
def Fn.resK {R : Type} (u : Bool) (K : AV → Blks → Option R) : Option R := K (Fn.res u).1 (Fn.res u).2
def Fn.c (n : Nat) : Abs.Callee := .mk' [] [(some (.objs 69 6)), (some (.objs 69 6))] Fn.pat (Fn.m n) Fn.resK
end
end
section
noncomputable abbrev Fn.R0 (n : Nat) := roundOf (Fn.C n) (Fn.A n) n Fn.b0
theorem Fn.l4_0.rmap {α β : Type} (h : β → α) (mk0 : Bool → β) (mk1 : β) (n : Nat) (f : Int → LA → LA → Option β)  (x0 : Int) (x1 : LA) (x2 : LA) : Fn.l4_0.r (fun a0 => (h (mk0 a0))) (h mk1) n (fun y0 y1 y2 => (f y0 y1 y2).map h) x0 x1 x2 = (Fn.l4_0.r mk0 mk1 n f x0 x1 x2).map h := by
  unfold Fn.l4_0.r
  exact (ite_map (ite_map (ite_map (bindO_map fun r10 => (bindO_map fun r12 => (bindO_map fun r14 => (bindO_map fun r16 => (ite_map (ite_map (bindO_map fun r22 => (bindO_map fun r24 => (bindO_map fun r26 => (bindO_map fun r28 => (ite_map rfl (ite_map (ite_map (bindO_map fun r36 => (bindO_map fun r38 => (bindO_map fun r40 => (bindO_map fun r42 => (ite_map (ite_map (bindO_map fun r48 => (bindO_map fun r50 => (bindO_map fun r52 => (bindO_map fun r54 => (ite_map rfl (ite_map (ite_map (bindO_map fun r62 => (bindO_map fun r64 => (bindO_map fun r66 => (bindO_map fun r68 => (ite_map (ite_map (bindO_map fun r74 => (bindO_map fun r76 => (bindO_map fun r78 => (bindO_map fun r80 => (bindO_map fun r82 => (ite_map rfl rfl)))))) rfl) rfl))))) rfl) rfl)))))) rfl) rfl))))) rfl) rfl)))))) rfl) rfl))))) rfl) rfl) rfl)
theorem Fn.l4_0.gmap {α β : Type} (h : β → α) (mk0 : Bool → β) (mk1 : β) (n : Nat) : ∀ (m : Nat) (x0 : Int) (x1 : LA) (x2 : LA), Fn.l4_0.g (fun a0 => (h (mk0 a0))) (h mk1) n m x0 x1 x2 = (Fn.l4_0.g mk0 mk1 n m x0 x1 x2).map h
  | 0, _, _, _ => rfl
  | m + 1, x0, x1, x2 => by
    unfold Fn.l4_0.g
    rw [← Fn.l4_0.rmap]
    congr
    · funext y0 y1 y2; exact Fn.l4_0.gmap h mk0 mk1 n m y0 y1 y2
theorem Fn.l4_0.pat_shape : ∀ st t, Fn.l4_0.pat st = some t → st = Fn.l4_0.shape t := fun _ _ h => by unfold Fn.l4_0.pat at h; split at h <;> cases h; rfl
def Fn.l4_0.k0 : Bool → Ex × St := (fun a0 => ((.ret, (St.mk [(.bool a0)] [])) : Ex × St))
def Fn.l4_0.k1 : Ex × St := (((.exit 0), (St.mk [.any] [])) : Ex × St)
theorem Fn.l4_0.round (n : Nat) (rc : St → Option (Ex × St)) (x0 : Int) (x1 : LA) (x2 : LA) : Fn.R0 n rc ((St.mk [(.int .i64 x0), (.robjs 69 6 x1), (.robjs 69 6 x2)] [])) = Fn.l4_0.r Fn.l4_0.k0 Fn.l4_0.k1 n (fun y0 y1 y2 => rc ((St.mk [(.int .i64 y0), (.robjs 69 6 y1), (.robjs 69 6 y2)] []))) x0 x1 x2 := by kernel_rfl
theorem Fn.l4_0.loop' (n : Nat) : ∀ (m : Nat) (t : (Int × (LA × LA))), loopOf (Fn.R0 n) m (Fn.l4_0.shape t) = Fn.l4_0.g Fn.l4_0.k0 Fn.l4_0.k1 n m t.1 t.2.1 t.2.2 :=
  loop_of_round (shape := Fn.l4_0.shape) (body := Fn.R0 n) (g := fun m t => Fn.l4_0.g Fn.l4_0.k0 Fn.l4_0.k1 n m t.1 t.2.1 t.2.2) (fun t => rfl)
    fun m t ih => (Fn.l4_0.round n (loopOf (Fn.R0 n) m) t.1 t.2.1 t.2.2).trans (congrFun (congrFun (congrFun (congrArg (Fn.l4_0.r Fn.l4_0.k0 Fn.l4_0.k1 n) (funext fun y0 => funext fun y1 => funext fun y2 => ih (y0, y1, y2))) t.1) t.2.1) t.2.2)
theorem Fn.l4_0.loop (n m : Nat) (t : (Int × (LA × LA))) : loopOf (Fn.R0 n) m (Fn.l4_0.shape t) = (Fn.l4_0.m n m t).map Fn.l4_0.res :=
  (Fn.l4_0.loop' n m t).trans (Fn.l4_0.gmap Fn.l4_0.res (fun a0 => (.inl a0)) (.inr ()) n m t.1 t.2.1 t.2.2)
theorem Fn.gmap {α β : Type} (h : β → α) (mk0 : Bool → β) (n : Nat) (a0 : LA) (a1 : LA) : Fn.g (fun a0 => (h (mk0 a0))) n a0 a1 = (Fn.g mk0 n a0 a1).map h := by
  unfold Fn.g
  exact (ite_map rfl (bindO_map fun r4 => match r4 with | (.inl r4) => rfl | (.inr r4) => rfl))
theorem Fn.run (n : Nat) (a0 : LA) (a1 : LA) : runF (Fn.C n) (Fn.A n) n Tryd.f37 [(.robjs 69 6 a0), (.robjs 69 6 a1)] [] (fun v o => some (v, o)) = Fn.g (fun a0 => (((.bool a0), []) : AV × Blks)) n a0 a1 := by kernel_rfl
theorem Fn.call (hmix : Tryd.prog.follows .mixedOrders = true) (n : Nat) (t : (LA × LA)) (u) (h : Fn.m n t = some u) : FnC Tryd.prog abiG 37 (Fn.shape t).1 (Fn.shape t).2 (Fn.res u).1 (Fn.res u).2 :=
  fnC1 (C := Fn.C n) (A := Fn.A n) (fn := Tryd.f37) rfl (.cons (Fl.s hmix n) .nil) hmix Tryd.func37 (by kernel_rfl) (lp := [Fn.b0]) (by kernel_rfl) (.cons (show (Fn.A n).loop (key Fn.b0) = some (.mk' Fn.l4_0.pat (Fn.l4_0.m n n) Fn.l4_0.resK) by kernel_rfl) (LoopS.of (res := Fn.l4_0.res) (fun R u K => by rcases u with u | u <;> rfl) Fn.l4_0.pat_shape fun t => Fn.l4_0.loop n n t)
  .nil)
  (nj rfl) (by decide) rfl rfl (by show 2 ≤ Tryd.f37.ntmps; decide) (Fn.run n t.1 t.2) (Fn.gmap Fn.res (fun a0 => a0) n t.1 t.2) h
theorem Fn.s (hmix : Tryd.prog.follows .mixedOrders = true) (n : Nat) : CalleeS Tryd.prog abiG 37 (Fn.c n) :=
  .mk1 (res := Fn.res) (shape := Fn.shape) (fun R u K => rfl) (fun _ _ _ h => by unfold Fn.pat at h; split at h <;> cases h; rfl) (fun t u h => Fn.call hmix n t u h) Tryd.func37 (by decide) (by kernel_rfl)
end
section
noncomputable section
noncomputable def Fap.C (n : Nat) : Ctx := ⟨Tryd.prog, abiG, lookC [(19, Fl.c n)], fun _ => false⟩
def Fap.jlive : NL := fun k => match k with
 | 20001 => ([2, 3], [2, 3, 5])
 | 20002 => ([2, 3, 5], [5, 6, 2, 3])
 | _ => ([], [])
noncomputable def Fap.jc0 : Code := ((seqsIn (Tryd.f42.body.getD .skip)).filter fun a => jkey a == 20001).getD 0 .skip
noncomputable def Fap.jc1 : Code := ((seqsIn (Tryd.f42.body.getD .skip)).filter fun a => jkey a == 20002).getD 0 .skip
def Fap.j20001.g {α : Type} (mk0 : Bool → LI → LI → Bool → LI → LI → LI → Int → Int → Int → LI → LI → Bool → LI → Int → Int → LI → LI → LI → LI → Bool → LI → LI → LI → Int → Int → Int → LI → LI → Bool → LI → Int → Int → LI → LI → α) (n : Nat) (x0 : LI) (x1 : LI) (x2 : Bool) (x3 : LI) (x4 : LI) (x5 : LI) (x6 : Int) (x7 : Int) (x8 : Int) (x9 : LI) (x10 : LI) (x11 : Bool) (x12 : LI) (x13 : Int) (x14 : Int) (x15 : LI) (x16 : LI) (x17 : LI) (x18 : LI) (x19 : Bool) (x20 : LI) (x21 : LI) (x22 : LI) (x23 : Int) (x24 : Int) (x25 : Int) (x26 : LI) (x27 : LI) (x28 : Bool) (x29 : LI) (x30 : Int) (x31 : Int) (x32 : LI) (x33 : LI) : Option α :=
  if (x0 == x17) = true then
   if (x1 == x18) = true then
    if (x2 == x19) = true then
     if (x3 == x20) = true then
      if (x6 == x23) = true then
       if (x7 == x24) = true then
        some (mk0 (x8 == x25) x0 x1 x2 x3 x4 x5 x6 x7 x8 x9 x10 x11 x12 x13 x14 x15 x16 x17 x18 x19 x20 x21 x22 x23 x24 x25 x26 x27 x28 x29 x30 x31 x32 x33)
       else
        some (mk0 false x0 x1 x2 x3 x4 x5 x6 x7 x8 x9 x10 x11 x12 x13 x14 x15 x16 x17 x18 x19 x20 x21 x22 x23 x24 x25 x26 x27 x28 x29 x30 x31 x32 x33)
      else
       some (mk0 false x0 x1 x2 x3 x4 x5 x6 x7 x8 x9 x10 x11 x12 x13 x14 x15 x16 x17 x18 x19 x20 x21 x22 x23 x24 x25 x26 x27 x28 x29 x30 x31 x32 x33)
     else
      some (mk0 false x0 x1 x2 x3 x4 x5 x6 x7 x8 x9 x10 x11 x12 x13 x14 x15 x16 x17 x18 x19 x20 x21 x22 x23 x24 x25 x26 x27 x28 x29 x30 x31 x32 x33)
    else
     some (mk0 false x0 x1 x2 x3 x4 x5 x6 x7 x8 x9 x10 x11 x12 x13 x14 x15 x16 x17 x18 x19 x20 x21 x22 x23 x24 x25 x26 x27 x28 x29 x30 x31 x32 x33)
   else
    some (mk0 false x0 x1 x2 x3 x4 x5 x6 x7 x8 x9 x10 x11 x12 x13 x14 x15 x16 x17 x18 x19 x20 x21 x22 x23 x24 x25 x26 x27 x28 x29 x30 x31 x32 x33)
  else
   some (mk0 false x0 x1 x2 x3 x4 x5 x6 x7 x8 x9 x10 x11 x12 x13 x14 x15 x16 x17 x18 x19 x20 x21 x22 x23 x24 x25 x26 x27 x28 x29 x30 x31 x32 x33)
def Fap.j20001.m (n : Nat) (t : (LI × (LI × (Bool × (LI × (LI × (LI × (Int × (Int × (Int × (LI × (LI × (Bool × (LI × (Int × (Int × (LI × (LI × (LI × (LI × (Bool × (LI × (LI × (LI × (Int × (Int × (Int × (LI × (LI × (Bool × (LI × (Int × (Int × (LI × LI)))))))))))))))))))))))))))))))))) : Option (Bool × (LI × (LI × (Bool × (LI × (LI × (LI × (Int × (Int × (Int × (LI × (LI × (Bool × (LI × (Int × (Int × (LI × (LI × (LI × (LI × (Bool × (LI × (LI × (LI × (Int × (Int × (Int × (LI × (LI × (Bool × (LI × (Int × (Int × (LI × LI)))))))))))))))))))))))))))))))))) := Fap.j20001.g (fun a0 a1 a2 a3 a4 a5 a6 a7 a8 a9 a10 a11 a12 a13 a14 a15 a16 a17 a18 a19 a20 a21 a22 a23 a24 a25 a26 a27 a28 a29 a30 a31 a32 a33 a34 => (a0, a1, a2, a3, a4, a5, a6, a7, a8, a9, a10, a11, a12, a13, a14, a15, a16, a17, a18, a19, a20, a21, a22, a23, a24, a25, a26, a27, a28, a29, a30, a31, a32, a33, a34)) n t.1 t.2.1 t.2.2.1 t.2.2.2.1 t.2.2.2.2.1 t.2.2.2.2.2.1 t.2.2.2.2.2.2.1 t.2.2.2.2.2.2.2.1 t.2.2.2.2.2.2.2.2.1 t.2.2.2.2.2.2.2.2.2.1 t.2.2.2.2.2.2.2.2.2.2.1 t.2.2.2.2.2.2.2.2.2.2.2.1 t.2.2.2.2.2.2.2.2.2.2.2.2.1 t.2.2.2.2.2.2.2.2.2.2.2.2.2.1 t.2.2.2.2.2.2.2.2.2.2.2.2.2.2.1 t.2.2.2.2.2.2.2.2.2.2.2.2.2.2.2.1 t.2.2.2.2.2.2.2.2.2.2.2.2.2.2.2.2.1 t.2.2.2.2.2.2.2.2.2.2.2.2.2.2.2.2.2.1 t.2.2.2.2.2.2.2.2.2.2.2.2.2.2.2.2.2.2.1 t.2.2.2.2.2.2.2.2.2.2.2.2.2.2.2.2.2.2.2.1 t.2.2.2.2.2.2.2.2.2.2.2.2.2.2.2.2.2.2.2.2.1 t.2.2.2.2.2.2.2.2.2.2.2.2.2.2.2.2.2.2.2.2.2.1 t.2.2.2.2.2.2.2.2.2.2.2.2.2.2.2.2.2.2.2.2.2.2.1 t.2.2.2.2.2.2.2.2.2.2.2.2.2.2.2.2.2.2.2.2.2.2.2.1 t.2.2.2.2.2.2.2.2.2.2.2.2.2.2.2.2.2.2.2.2.2.2.2.2.1 t.2.2.2.2.2.2.2.2.2.2.2.2.2.2.2.2.2.2.2.2.2.2.2.2.2.1 t.2.2.2.2.2.2.2.2.2.2.2.2.2.2.2.2.2.2.2.2.2.2.2.2.2.2.1 t.2.2.2.2.2.2.2.2.2.2.2.2.2.2.2.2.2.2.2.2.2.2.2.2.2.2.2.1 t.2.2.2.2.2.2.2.2.2.2.2.2.2.2.2.2.2.2.2.2.2.2.2.2.2.2.2.2.1 t.2.2.2.2.2.2.2.2.2.2.2.2.2.2.2.2.2.2.2.2.2.2.2.2.2.2.2.2.2.1 t.2.2.2.2.2.2.2.2.2.2.2.2.2.2.2.2.2.2.2.2.2.2.2.2.2.2.2.2.2.2.1 t.2.2.2.2.2.2.2.2.2.2.2.2.2.2.2.2.2.2.2.2.2.2.2.2.2.2.2.2.2.2.2.1 t.2.2.2.2.2.2.2.2.2.2.2.2.2.2.2.2.2.2.2.2.2.2.2.2.2.2.2.2.2.2.2.2.1 t.2.2.2.2.2.2.2.2.2.2.2.2.2.2.2.2.2.2.2.2.2.2.2.2.2.2.2.2.2.2.2.2.2
def Fap.j20001.pat : St → Option (LI × (LI × (Bool × (LI × (LI × (LI × (Int × (Int × (Int × (LI × (LI × (Bool × (LI × (Int × (Int × (LI × (LI × (LI × (LI × (Bool × (LI × (LI × (LI × (Int × (Int × (Int × (LI × (LI × (Bool × (LI × (Int × (Int × (LI × LI)))))))))))))))))))))))))))))))))
 | (St.mk [(.ptr 0 []), (.ptr 1 [])] [(some (.var (.agg [(.ints .u8 20 x0), (.ints .u64 4 x1), (.bool x2), (.ints .u8 20 x3), (.rints .u8 x4), (.rints .u8 x5), (.int .u64 x6), (.int .u64 x7), (.int .u64 x8), (.ints .u64 4 x9), (.ints .u64 4 x10), (.bool x11), (.ints .u8 20 x12), (.int .u64 x13), (.int .u64 x14), (.rints .u8 x15), (.rints .u8 x16)]))), (some (.var (.agg [(.ints .u8 20 x17), (.ints .u64 4 x18), (.bool x19), (.ints .u8 20 x20), (.rints .u8 x21), (.rints .u8 x22), (.int .u64 x23), (.int .u64 x24), (.int .u64 x25), (.ints .u64 4 x26), (.ints .u64 4 x27), (.bool x28), (.ints .u8 20 x29), (.int .u64 x30), (.int .u64 x31), (.rints .u8 x32), (.rints .u8 x33)])))]) => some (x0, x1, x2, x3, x4, x5, x6, x7, x8, x9, x10, x11, x12, x13, x14, x15, x16, x17, x18, x19, x20, x21, x22, x23, x24, x25, x26, x27, x28, x29, x30, x31, x32, x33)
 | _ => none
def Fap.j20001.shape (t : (LI × (LI × (Bool × (LI × (LI × (LI × (Int × (Int × (Int × (LI × (LI × (Bool × (LI × (Int × (Int × (LI × (LI × (LI × (LI × (Bool × (LI × (LI × (LI × (Int × (Int × (Int × (LI × (LI × (Bool × (LI × (Int × (Int × (LI × LI)))))))))))))))))))))))))))))))))) : St := (St.mk [(.ptr 0 []), (.ptr 1 [])] [(some (.var (.agg [(.ints .u8 20 t.1), (.ints .u64 4 t.2.1), (.bool t.2.2.1), (.ints .u8 20 t.2.2.2.1), (.rints .u8 t.2.2.2.2.1), (.rints .u8 t.2.2.2.2.2.1), (.int .u64 t.2.2.2.2.2.2.1), (.int .u64 t.2.2.2.2.2.2.2.1), (.int .u64 t.2.2.2.2.2.2.2.2.1), (.ints .u64 4 t.2.2.2.2.2.2.2.2.2.1), (.ints .u64 4 t.2.2.2.2.2.2.2.2.2.2.1), (.bool t.2.2.2.2.2.2.2.2.2.2.2.1), (.ints .u8 20 t.2.2.2.2.2.2.2.2.2.2.2.2.1), (.int .u64 t.2.2.2.2.2.2.2.2.2.2.2.2.2.1), (.int .u64 t.2.2.2.2.2.2.2.2.2.2.2.2.2.2.1), (.rints .u8 t.2.2.2.2.2.2.2.2.2.2.2.2.2.2.2.1), (.rints .u8 t.2.2.2.2.2.2.2.2.2.2.2.2.2.2.2.2.1)]))), (some (.var (.agg [(.ints .u8 20 t.2.2.2.2.2.2.2.2.2.2.2.2.2.2.2.2.2.1), (.ints .u64 4 t.2.2.2.2.2.2.2.2.2.2.2.2.2.2.2.2.2.2.1), (.bool t.2.2.2.2.2.2.2.2.2.2.2.2.2.2.2.2.2.2.2.1), (.ints .u8 20 t.2.2.2.2.2.2.2.2.2.2.2.2.2.2.2.2.2.2.2.2.1), (.rints .u8 t.2.2.2.2.2.2.2.2.2.2.2.2.2.2.2.2.2.2.2.2.2.1), (.rints .u8 t.2.2.2.2.2.2.2.2.2.2.2.2.2.2.2.2.2.2.2.2.2.2.1), (.int .u64 t.2.2.2.2.2.2.2.2.2.2.2.2.2.2.2.2.2.2.2.2.2.2.2.1), (.int .u64 t.2.2.2.2.2.2.2.2.2.2.2.2.2.2.2.2.2.2.2.2.2.2.2.2.1), (.int .u64 t.2.2.2.2.2.2.2.2.2.2.2.2.2.2.2.2.2.2.2.2.2.2.2.2.2.1), (.ints .u64 4 t.2.2.2.2.2.2.2.2.2.2.2.2.2.2.2.2.2.2.2.2.2.2.2.2.2.2.1), (.ints .u64 4 t.2.2.2.2.2.2.2.2.2.2.2.2.2.2.2.2.2.2.2.2.2.2.2.2.2.2.2.1), (.bool t.2.2.2.2.2.2.2.2.2.2.2.2.2.2.2.2.2.2.2.2.2.2.2.2.2.2.2.2.1), (.ints .u8 20 t.2.2.2.2.2.2.2.2.2.2.2.2.2.2.2.2.2.2.2.2.2.2.2.2.2.2.2.2.2.1), (.int .u64 t.2.2.2.2.2.2.2.2.2.2.2.2.2.2.2.2.2.2.2.2.2.2.2.2.2.2.2.2.2.2.1), (.int .u64 t.2.2.2.2.2.2.2.2.2.2.2.2.2.2.2.2.2.2.2.2.2.2.2.2.2.2.2.2.2.2.2.1), (.rints .u8 t.2.2.2.2.2.2.2.2.2.2.2.2.2.2.2.2.2.2.2.2.2.2.2.2.2.2.2.2.2.2.2.2.1), (.rints .u8 t.2.2.2.2.2.2.2.2.2.2.2.2.2.2.2.2.2.2.2.2.2.2.2.2.2.2.2.2.2.2.2.2.2)])))])
def Fap.j20001.res : (Bool × (LI × (LI × (Bool × (LI × (LI × (LI × (Int × (Int × (Int × (LI × (LI × (Bool × (LI × (Int × (Int × (LI × (LI × (LI × (LI × (Bool × (LI × (LI × (LI × (Int × (Int × (Int × (LI × (LI × (Bool × (LI × (Int × (Int × (LI × LI)))))))))))))))))))))))))))))))))) → Ex × St
 | u => (.normal, (St.mk [(.ptr 0 []), (.ptr 1 []), (.bool u.1)] [(some (.var (.agg [(.ints .u8 20 u.2.1), (.ints .u64 4 u.2.2.1), (.bool u.2.2.2.1), (.ints .u8 20 u.2.2.2.2.1), (.rints .u8 u.2.2.2.2.2.1), (.rints .u8 u.2.2.2.2.2.2.1), (.int .u64 u.2.2.2.2.2.2.2.1), (.int .u64 u.2.2.2.2.2.2.2.2.1), (.int .u64 u.2.2.2.2.2.2.2.2.2.1), (.ints .u64 4 u.2.2.2.2.2.2.2.2.2.2.1), (.ints .u64 4 u.2.2.2.2.2.2.2.2.2.2.2.1), (.bool u.2.2.2.2.2.2.2.2.2.2.2.2.1), (.ints .u8 20 u.2.2.2.2.2.2.2.2.2.2.2.2.2.1), (.int .u64 u.2.2.2.2.2.2.2.2.2.2.2.2.2.2.1), (.int .u64 u.2.2.2.2.2.2.2.2.2.2.2.2.2.2.2.1), (.rints .u8 u.2.2.2.2.2.2.2.2.2.2.2.2.2.2.2.2.1), (.rints .u8 u.2.2.2.2.2.2.2.2.2.2.2.2.2.2.2.2.2.1)]))), (some (.var (.agg [(.ints .u8 20 u.2.2.2.2.2.2.2.2.2.2.2.2.2.2.2.2.2.2.1), (.ints .u64 4 u.2.2.2.2.2.2.2.2.2.2.2.2.2.2.2.2.2.2.2.1), (.bool u.2.2.2.2.2.2.2.2.2.2.2.2.2.2.2.2.2.2.2.2.1), (.ints .u8 20 u.2.2.2.2.2.2.2.2.2.2.2.2.2.2.2.2.2.2.2.2.2.1), (.rints .u8 u.2.2.2.2.2.2.2.2.2.2.2.2.2.2.2.2.2.2.2.2.2.2.1), (.rints .u8 u.2.2.2.2.2.2.2.2.2.2.2.2.2.2.2.2.2.2.2.2.2.2.2.1), (.int .u64 u.2.2.2.2.2.2.2.2.2.2.2.2.2.2.2.2.2.2.2.2.2.2.2.2.1), (.int .u64 u.2.2.2.2.2.2.2.2.2.2.2.2.2.2.2.2.2.2.2.2.2.2.2.2.2.1), (.int .u64 u.2.2.2.2.2.2.2.2.2.2.2.2.2.2.2.2.2.2.2.2.2.2.2.2.2.2.1), (.ints .u64 4 u.2.2.2.2.2.2.2.2.2.2.2.2.2.2.2.2.2.2.2.2.2.2.2.2.2.2.2.1), (.ints .u64 4 u.2.2.2.2.2.2.2.2.2.2.2.2.2.2.2.2.2.2.2.2.2.2.2.2.2.2.2.2.1), (.bool u.2.2.2.2.2.2.2.2.2.2.2.2.2.2.2.2.2.2.2.2.2.2.2.2.2.2.2.2.2.1), (.ints .u8 20 u.2.2.2.2.2.2.2.2.2.2.2.2.2.2.2.2.2.2.2.2.2.2.2.2.2.2.2.2.2.2.1), (.int .u64 u.2.2.2.2.2.2.2.2.2.2.2.2.2.2.2.2.2.2.2.2.2.2.2.2.2.2.2.2.2.2.2.1), (.int .u64 u.2.2.2.2.2.2.2.2.2.2.2.2.2.2.2.2.2.2.2.2.2.2.2.2.2.2.2.2.2.2.2.2.1), (.rints .u8 u.2.2.2.2.2.2.2.2.2.2.2.2.2.2.2.2.2.2.2.2.2.2.2.2.2.2.2.2.2.2.2.2.2.1), (.rints .u8 u.2.2.2.2.2.2.2.2.2.2.2.2.2.2.2.2.2.2.2.2.2.2.2.2.2.2.2.2.2.2.2.2.2.2)])))]))
def Fap.j20001.resK {R : Type} (u : (Bool × (LI × (LI × (Bool × (LI × (LI × (LI × (Int × (Int × (Int × (LI × (LI × (Bool × (LI × (Int × (Int × (LI × (LI × (LI × (LI × (Bool × (LI × (LI × (LI × (Int × (Int × (Int × (LI × (LI × (Bool × (LI × (Int × (Int × (LI × LI))))))))))))))))))))))))))))))))))) (K : Ex → St → Option R) : Option R := K (Fap.j20001.res u).1 (Fap.j20001.res u).2
def Fap.j20002.g {α : Type} (mk0 : Bool → Bool → LI → LI → Bool → LI → LI → LI → Int → Int → Int → LI → LI → Bool → LI → Int → Int → LI → LI → LI → LI → Bool → LI → LI → LI → Int → Int → Int → LI → LI → Bool → LI → Int → Int → LI → LI → α) (n : Nat) (x0 : Bool) (x1 : LI) (x2 : LI) (x3 : Bool) (x4 : LI) (x5 : LI) (x6 : LI) (x7 : Int) (x8 : Int) (x9 : Int) (x10 : LI) (x11 : LI) (x12 : Bool) (x13 : LI) (x14 : Int) (x15 : Int) (x16 : LI) (x17 : LI) (x18 : LI) (x19 : LI) (x20 : Bool) (x21 : LI) (x22 : LI) (x23 : LI) (x24 : Int) (x25 : Int) (x26 : Int) (x27 : LI) (x28 : LI) (x29 : Bool) (x30 : LI) (x31 : Int) (x32 : Int) (x33 : LI) (x34 : LI) : Option α :=
  if (x10 == x27) = true then
   if (x11 == x28) = true then
    if (x12 == x29) = true then
     if (x13 == x30) = true then
      if (x14 == x31) = true then
       some (mk0 x0 (x15 == x32) x1 x2 x3 x4 x5 x6 x7 x8 x9 x10 x11 x12 x13 x14 x15 x16 x17 x18 x19 x20 x21 x22 x23 x24 x25 x26 x27 x28 x29 x30 x31 x32 x33 x34)
      else
       some (mk0 x0 false x1 x2 x3 x4 x5 x6 x7 x8 x9 x10 x11 x12 x13 x14 x15 x16 x17 x18 x19 x20 x21 x22 x23 x24 x25 x26 x27 x28 x29 x30 x31 x32 x33 x34)
     else
      some (mk0 x0 false x1 x2 x3 x4 x5 x6 x7 x8 x9 x10 x11 x12 x13 x14 x15 x16 x17 x18 x19 x20 x21 x22 x23 x24 x25 x26 x27 x28 x29 x30 x31 x32 x33 x34)
    else
     some (mk0 x0 false x1 x2 x3 x4 x5 x6 x7 x8 x9 x10 x11 x12 x13 x14 x15 x16 x17 x18 x19 x20 x21 x22 x23 x24 x25 x26 x27 x28 x29 x30 x31 x32 x33 x34)
   else
    some (mk0 x0 false x1 x2 x3 x4 x5 x6 x7 x8 x9 x10 x11 x12 x13 x14 x15 x16 x17 x18 x19 x20 x21 x22 x23 x24 x25 x26 x27 x28 x29 x30 x31 x32 x33 x34)
  else
   some (mk0 x0 false x1 x2 x3 x4 x5 x6 x7 x8 x9 x10 x11 x12 x13 x14 x15 x16 x17 x18 x19 x20 x21 x22 x23 x24 x25 x26 x27 x28 x29 x30 x31 x32 x33 x34)
def Fap.j20002.m (n : Nat) (t : (Bool × (LI × (LI × (Bool × (LI × (LI × (LI × (Int × (Int × (Int × (LI × (LI × (Bool × (LI × (Int × (Int × (LI × (LI × (LI × (LI × (Bool × (LI × (LI × (LI × (Int × (Int × (Int × (LI × (LI × (Bool × (LI × (Int × (Int × (LI × LI))))))))))))))))))))))))))))))))))) : Option (Bool × (Bool × (LI × (LI × (Bool × (LI × (LI × (LI × (Int × (Int × (Int × (LI × (LI × (Bool × (LI × (Int × (Int × (LI × (LI × (LI × (LI × (Bool × (LI × (LI × (LI × (Int × (Int × (Int × (LI × (LI × (Bool × (LI × (Int × (Int × (LI × LI))))))))))))))))))))))))))))))))))) := Fap.j20002.g (fun a0 a1 a2 a3 a4 a5 a6 a7 a8 a9 a10 a11 a12 a13 a14 a15 a16 a17 a18 a19 a20 a21 a22 a23 a24 a25 a26 a27 a28 a29 a30 a31 a32 a33 a34 a35 => (a0, a1, a2, a3, a4, a5, a6, a7, a8, a9, a10, a11, a12, a13, a14, a15, a16, a17, a18, a19, a20, a21, a22, a23, a24, a25, a26, a27, a28, a29, a30, a31, a32, a33, a34, a35)) n t.1 t.2.1 t.2.2.1 t.2.2.2.1 t.2.2.2.2.1 t.2.2.2.2.2.1 t.2.2.2.2.2.2.1 t.2.2.2.2.2.2.2.1 t.2.2.2.2.2.2.2.2.1 t.2.2.2.2.2.2.2.2.2.1 t.2.2.2.2.2.2.2.2.2.2.1 t.2.2.2.2.2.2.2.2.2.2.2.1 t.2.2.2.2.2.2.2.2.2.2.2.2.1 t.2.2.2.2.2.2.2.2.2.2.2.2.2.1 t.2.2.2.2.2.2.2.2.2.2.2.2.2.2.1 t.2.2.2.2.2.2.2.2.2.2.2.2.2.2.2.1 t.2.2.2.2.2.2.2.2.2.2.2.2.2.2.2.2.1 t.2.2.2.2.2.2.2.2.2.2.2.2.2.2.2.2.2.1 t.2.2.2.2.2.2.2.2.2.2.2.2.2.2.2.2.2.2.1 t.2.2.2.2.2.2.2.2.2.2.2.2.2.2.2.2.2.2.2.1 t.2.2.2.2.2.2.2.2.2.2.2.2.2.2.2.2.2.2.2.2.1 t.2.2.2.2.2.2.2.2.2.2.2.2.2.2.2.2.2.2.2.2.2.1 t.2.2.2.2.2.2.2.2.2.2.2.2.2.2.2.2.2.2.2.2.2.2.1 t.2.2.2.2.2.2.2.2.2.2.2.2.2.2.2.2.2.2.2.2.2.2.2.1 t.2.2.2.2.2.2.2.2.2.2.2.2.2.2.2.2.2.2.2.2.2.2.2.2.1 t.2.2.2.2.2.2.2.2.2.2.2.2.2.2.2.2.2.2.2.2.2.2.2.2.2.1 t.2.2.2.2.2.2.2.2.2.2.2.2.2.2.2.2.2.2.2.2.2.2.2.2.2.2.1 t.2.2.2.2.2.2.2.2.2.2.2.2.2.2.2.2.2.2.2.2.2.2.2.2.2.2.2.1 t.2.2.2.2.2.2.2.2.2.2.2.2.2.2.2.2.2.2.2.2.2.2.2.2.2.2.2.2.1 t.2.2.2.2.2.2.2.2.2.2.2.2.2.2.2.2.2.2.2.2.2.2.2.2.2.2.2.2.2.1 t.2.2.2.2.2.2.2.2.2.2.2.2.2.2.2.2.2.2.2.2.2.2.2.2.2.2.2.2.2.2.1 t.2.2.2.2.2.2.2.2.2.2.2.2.2.2.2.2.2.2.2.2.2.2.2.2.2.2.2.2.2.2.2.1 t.2.2.2.2.2.2.2.2.2.2.2.2.2.2.2.2.2.2.2.2.2.2.2.2.2.2.2.2.2.2.2.2.1 t.2.2.2.2.2.2.2.2.2.2.2.2.2.2.2.2.2.2.2.2.2.2.2.2.2.2.2.2.2.2.2.2.2.1 t.2.2.2.2.2.2.2.2.2.2.2.2.2.2.2.2.2.2.2.2.2.2.2.2.2.2.2.2.2.2.2.2.2.2
def Fap.j20002.pat : St → Option (Bool × (LI × (LI × (Bool × (LI × (LI × (LI × (Int × (Int × (Int × (LI × (LI × (Bool × (LI × (Int × (Int × (LI × (LI × (LI × (LI × (Bool × (LI × (LI × (LI × (Int × (Int × (Int × (LI × (LI × (Bool × (LI × (Int × (Int × (LI × LI))))))))))))))))))))))))))))))))))
 | (St.mk [(.ptr 0 []), (.ptr 1 []), (.bool x0)] [(some (.var (.agg [(.ints .u8 20 x1), (.ints .u64 4 x2), (.bool x3), (.ints .u8 20 x4), (.rints .u8 x5), (.rints .u8 x6), (.int .u64 x7), (.int .u64 x8), (.int .u64 x9), (.ints .u64 4 x10), (.ints .u64 4 x11), (.bool x12), (.ints .u8 20 x13), (.int .u64 x14), (.int .u64 x15), (.rints .u8 x16), (.rints .u8 x17)]))), (some (.var (.agg [(.ints .u8 20 x18), (.ints .u64 4 x19), (.bool x20), (.ints .u8 20 x21), (.rints .u8 x22), (.rints .u8 x23), (.int .u64 x24), (.int .u64 x25), (.int .u64 x26), (.ints .u64 4 x27), (.ints .u64 4 x28), (.bool x29), (.ints .u8 20 x30), (.int .u64 x31), (.int .u64 x32), (.rints .u8 x33), (.rints .u8 x34)])))]) => some (x0, x1, x2, x3, x4, x5, x6, x7, x8, x9, x10, x11, x12, x13, x14, x15, x16, x17, x18, x19, x20, x21, x22, x23, x24, x25, x26, x27, x28, x29, x30, x31, x32, x33, x34)
 | _ => none
def Fap.j20002.shape (t : (Bool × (LI × (LI × (Bool × (LI × (LI × (LI × (Int × (Int × (Int × (LI × (LI × (Bool × (LI × (Int × (Int × (LI × (LI × (LI × (LI × (Bool × (LI × (LI × (LI × (Int × (Int × (Int × (LI × (LI × (Bool × (LI × (Int × (Int × (LI × LI))))))))))))))))))))))))))))))))))) : St := (St.mk [(.ptr 0 []), (.ptr 1 []), (.bool t.1)] [(some (.var (.agg [(.ints .u8 20 t.2.1), (.ints .u64 4 t.2.2.1), (.bool t.2.2.2.1), (.ints .u8 20 t.2.2.2.2.1), (.rints .u8 t.2.2.2.2.2.1), (.rints .u8 t.2.2.2.2.2.2.1), (.int .u64 t.2.2.2.2.2.2.2.1), (.int .u64 t.2.2.2.2.2.2.2.2.1), (.int .u64 t.2.2.2.2.2.2.2.2.2.1), (.ints .u64 4 t.2.2.2.2.2.2.2.2.2.2.1), (.ints .u64 4 t.2.2.2.2.2.2.2.2.2.2.2.1), (.bool t.2.2.2.2.2.2.2.2.2.2.2.2.1), (.ints .u8 20 t.2.2.2.2.2.2.2.2.2.2.2.2.2.1), (.int .u64 t.2.2.2.2.2.2.2.2.2.2.2.2.2.2.1), (.int .u64 t.2.2.2.2.2.2.2.2.2.2.2.2.2.2.2.1), (.rints .u8 t.2.2.2.2.2.2.2.2.2.2.2.2.2.2.2.2.1), (.rints .u8 t.2.2.2.2.2.2.2.2.2.2.2.2.2.2.2.2.2.1)]))), (some (.var (.agg [(.ints .u8 20 t.2.2.2.2.2.2.2.2.2.2.2.2.2.2.2.2.2.2.1), (.ints .u64 4 t.2.2.2.2.2.2.2.2.2.2.2.2.2.2.2.2.2.2.2.1), (.bool t.2.2.2.2.2.2.2.2.2.2.2.2.2.2.2.2.2.2.2.2.1), (.ints .u8 20 t.2.2.2.2.2.2.2.2.2.2.2.2.2.2.2.2.2.2.2.2.2.1), (.rints .u8 t.2.2.2.2.2.2.2.2.2.2.2.2.2.2.2.2.2.2.2.2.2.2.1), (.rints .u8 t.2.2.2.2.2.2.2.2.2.2.2.2.2.2.2.2.2.2.2.2.2.2.2.1), (.int .u64 t.2.2.2.2.2.2.2.2.2.2.2.2.2.2.2.2.2.2.2.2.2.2.2.2.1), (.int .u64 t.2.2.2.2.2.2.2.2.2.2.2.2.2.2.2.2.2.2.2.2.2.2.2.2.2.1), (.int .u64 t.2.2.2.2.2.2.2.2.2.2.2.2.2.2.2.2.2.2.2.2.2.2.2.2.2.2.1), (.ints .u64 4 t.2.2.2.2.2.2.2.2.2.2.2.2.2.2.2.2.2.2.2.2.2.2.2.2.2.2.2.1), (.ints .u64 4 t.2.2.2.2.2.2.2.2.2.2.2.2.2.2.2.2.2.2.2.2.2.2.2.2.2.2.2.2.1), (.bool t.2.2.2.2.2.2.2.2.2.2.2.2.2.2.2.2.2.2.2.2.2.2.2.2.2.2.2.2.2.1), (.ints .u8 20 t.2.2.2.2.2.2.2.2.2.2.2.2.2.2.2.2.2.2.2.2.2.2.2.2.2.2.2.2.2.2.1), (.int .u64 t.2.2.2.2.2.2.2.2.2.2.2.2.2.2.2.2.2.2.2.2.2.2.2.2.2.2.2.2.2.2.2.1), (.int .u64 t.2.2.2.2.2.2.2.2.2.2.2.2.2.2.2.2.2.2.2.2.2.2.2.2.2.2.2.2.2.2.2.2.1), (.rints .u8 t.2.2.2.2.2.2.2.2.2.2.2.2.2.2.2.2.2.2.2.2.2.2.2.2.2.2.2.2.2.2.2.2.2.1), (.rints .u8 t.2.2.2.2.2.2.2.2.2.2.2.2.2.2.2.2.2.2.2.2.2.2.2.2.2.2.2.2.2.2.2.2.2.2)])))])
def Fap.j20002.res : (Bool × (Bool × (LI × (LI × (Bool × (LI × (LI × (LI × (Int × (Int × (Int × (LI × (LI × (Bool × (LI × (Int × (Int × (LI × (LI × (LI × (LI × (Bool × (LI × (LI × (LI × (Int × (Int × (Int × (LI × (LI × (Bool × (LI × (Int × (Int × (LI × LI))))))))))))))))))))))))))))))))))) → Ex × St
 | u => (.normal, (St.mk [(.bool u.1), (.bool u.2.1), (.ptr 0 []), (.ptr 1 [])] [(some (.var (.agg [(.ints .u8 20 u.2.2.1), (.ints .u64 4 u.2.2.2.1), (.bool u.2.2.2.2.1), (.ints .u8 20 u.2.2.2.2.2.1), (.rints .u8 u.2.2.2.2.2.2.1), (.rints .u8 u.2.2.2.2.2.2.2.1), (.int .u64 u.2.2.2.2.2.2.2.2.1), (.int .u64 u.2.2.2.2.2.2.2.2.2.1), (.int .u64 u.2.2.2.2.2.2.2.2.2.2.1), (.ints .u64 4 u.2.2.2.2.2.2.2.2.2.2.2.1), (.ints .u64 4 u.2.2.2.2.2.2.2.2.2.2.2.2.1), (.bool u.2.2.2.2.2.2.2.2.2.2.2.2.2.1), (.ints .u8 20 u.2.2.2.2.2.2.2.2.2.2.2.2.2.2.1), (.int .u64 u.2.2.2.2.2.2.2.2.2.2.2.2.2.2.2.1), (.int .u64 u.2.2.2.2.2.2.2.2.2.2.2.2.2.2.2.2.1), (.rints .u8 u.2.2.2.2.2.2.2.2.2.2.2.2.2.2.2.2.2.1), (.rints .u8 u.2.2.2.2.2.2.2.2.2.2.2.2.2.2.2.2.2.2.1)]))), (some (.var (.agg [(.ints .u8 20 u.2.2.2.2.2.2.2.2.2.2.2.2.2.2.2.2.2.2.2.1), (.ints .u64 4 u.2.2.2.2.2.2.2.2.2.2.2.2.2.2.2.2.2.2.2.2.1), (.bool u.2.2.2.2.2.2.2.2.2.2.2.2.2.2.2.2.2.2.2.2.2.1), (.ints .u8 20 u.2.2.2.2.2.2.2.2.2.2.2.2.2.2.2.2.2.2.2.2.2.2.1), (.rints .u8 u.2.2.2.2.2.2.2.2.2.2.2.2.2.2.2.2.2.2.2.2.2.2.2.1), (.rints .u8 u.2.2.2.2.2.2.2.2.2.2.2.2.2.2.2.2.2.2.2.2.2.2.2.2.1), (.int .u64 u.2.2.2.2.2.2.2.2.2.2.2.2.2.2.2.2.2.2.2.2.2.2.2.2.2.1), (.int .u64 u.2.2.2.2.2.2.2.2.2.2.2.2.2.2.2.2.2.2.2.2.2.2.2.2.2.2.1), (.int .u64 u.2.2.2.2.2.2.2.2.2.2.2.2.2.2.2.2.2.2.2.2.2.2.2.2.2.2.2.1), (.ints .u64 4 u.2.2.2.2.2.2.2.2.2.2.2.2.2.2.2.2.2.2.2.2.2.2.2.2.2.2.2.2.1), (.ints .u64 4 u.2.2.2.2.2.2.2.2.2.2.2.2.2.2.2.2.2.2.2.2.2.2.2.2.2.2.2.2.2.1), (.bool u.2.2.2.2.2.2.2.2.2.2.2.2.2.2.2.2.2.2.2.2.2.2.2.2.2.2.2.2.2.2.1), (.ints .u8 20 u.2.2.2.2.2.2.2.2.2.2.2.2.2.2.2.2.2.2.2.2.2.2.2.2.2.2.2.2.2.2.2.1), (.int .u64 u.2.2.2.2.2.2.2.2.2.2.2.2.2.2.2.2.2.2.2.2.2.2.2.2.2.2.2.2.2.2.2.2.1), (.int .u64 u.2.2.2.2.2.2.2.2.2.2.2.2.2.2.2.2.2.2.2.2.2.2.2.2.2.2.2.2.2.2.2.2.2.1), (.rints .u8 u.2.2.2.2.2.2.2.2.2.2.2.2.2.2.2.2.2.2.2.2.2.2.2.2.2.2.2.2.2.2.2.2.2.2.1), (.rints .u8 u.2.2.2.2.2.2.2.2.2.2.2.2.2.2.2.2.2.2.2.2.2.2.2.2.2.2.2.2.2.2.2.2.2.2.2)])))]))
def Fap.j20002.resK {R : Type} (u : (Bool × (Bool × (LI × (LI × (Bool × (LI × (LI × (LI × (Int × (Int × (Int × (LI × (LI × (Bool × (LI × (Int × (Int × (LI × (LI × (LI × (LI × (Bool × (LI × (LI × (LI × (Int × (Int × (Int × (LI × (LI × (Bool × (LI × (Int × (Int × (LI × LI)))))))))))))))))))))))))))))))))))) (K : Ex → St → Option R) : Option R := K (Fap.j20002.res u).1 (Fap.j20002.res u).2
noncomputable def Fap.A (n : Nat) : Ann := ⟨Tryd.f42.ntmps, 0, noNL, [], [none], fun k => match k with
 | _ => none, Fap.jlive, lookJ [(20001, .mk' Fap.j20001.pat (Fap.j20001.m n) Fap.j20001.resK), (20002, .mk' Fap.j20002.pat (Fap.j20002.m n) Fap.j20002.resK)]⟩
def Fap.g {α : Type} (mk0 : Bool → α) (n : Nat) (a0_0 : LI) (a0_1 : LI) (a0_2 : Bool) (a0_3 : LI) (a0_4 : LI) (a0_5 : LI) (a0_6 : Int) (a0_7 : Int) (a0_8 : Int) (a0_9 : LI) (a0_10 : LI) (a0_11 : Bool) (a0_12 : LI) (a0_13 : Int) (a0_14 : Int) (a0_15 : LI) (a0_16 : LI) (a1_0 : LI) (a1_1 : LI) (a1_2 : Bool) (a1_3 : LI) (a1_4 : LI) (a1_5 : LI) (a1_6 : Int) (a1_7 : Int) (a1_8 : Int) (a1_9 : LI) (a1_10 : LI) (a1_11 : Bool) (a1_12 : LI) (a1_13 : Int) (a1_14 : Int) (a1_15 : LI) (a1_16 : LI) : Option α :=
 bindO (Fap.j20001.m n (a0_0, a0_1, a0_2, a0_3, a0_4, a0_5, a0_6, a0_7, a0_8, a0_9, a0_10, a0_11, a0_12, a0_13, a0_14, a0_15, a0_16, a1_0, a1_1, a1_2, a1_3, a1_4, a1_5, a1_6, a1_7, a1_8, a1_9, a1_10, a1_11, a1_12, a1_13, a1_14, a1_15, a1_16)) fun r2 =>
  bindO (Fap.j20002.m n (r2.1, r2.2.1, r2.2.2.1, r2.2.2.2.1, r2.2.2.2.2.1, r2.2.2.2.2.2.1, r2.2.2.2.2.2.2.1, r2.2.2.2.2.2.2.2.1, r2.2.2.2.2.2.2.2.2.1, r2.2.2.2.2.2.2.2.2.2.1, r2.2.2.2.2.2.2.2.2.2.2.1, r2.2.2.2.2.2.2.2.2.2.2.2.1, r2.2.2.2.2.2.2.2.2.2.2.2.2.1, r2.2.2.2.2.2.2.2.2.2.2.2.2.2.1, r2.2.2.2.2.2.2.2.2.2.2.2.2.2.2.1, r2.2.2.2.2.2.2.2.2.2.2.2.2.2.2.2.1, r2.2.2.2.2.2.2.2.2.2.2.2.2.2.2.2.2.1, r2.2.2.2.2.2.2.2.2.2.2.2.2.2.2.2.2.2.1, r2.2.2.2.2.2.2.2.2.2.2.2.2.2.2.2.2.2.2.1, r2.2.2.2.2.2.2.2.2.2.2.2.2.2.2.2.2.2.2.2.1, r2.2.2.2.2.2.2.2.2.2.2.2.2.2.2.2.2.2.2.2.2.1, r2.2.2.2.2.2.2.2.2.2.2.2.2.2.2.2.2.2.2.2.2.2.1, r2.2.2.2.2.2.2.2.2.2.2.2.2.2.2.2.2.2.2.2.2.2.2.1, r2.2.2.2.2.2.2.2.2.2.2.2.2.2.2.2.2.2.2.2.2.2.2.2.1, r2.2.2.2.2.2.2.2.2.2.2.2.2.2.2.2.2.2.2.2.2.2.2.2.2.1, r2.2.2.2.2.2.2.2.2.2.2.2.2.2.2.2.2.2.2.2.2.2.2.2.2.2.1, r2.2.2.2.2.2.2.2.2.2.2.2.2.2.2.2.2.2.2.2.2.2.2.2.2.2.2.1, r2.2.2.2.2.2.2.2.2.2.2.2.2.2.2.2.2.2.2.2.2.2.2.2.2.2.2.2.1, r2.2.2.2.2.2.2.2.2.2.2.2.2.2.2.2.2.2.2.2.2.2.2.2.2.2.2.2.2.1, r2.2.2.2.2.2.2.2.2.2.2.2.2.2.2.2.2.2.2.2.2.2.2.2.2.2.2.2.2.2.1, r2.2.2.2.2.2.2.2.2.2.2.2.2.2.2.2.2.2.2.2.2.2.2.2.2.2.2.2.2.2.2.1, r2.2.2.2.2.2.2.2.2.2.2.2.2.2.2.2.2.2.2.2.2.2.2.2.2.2.2.2.2.2.2.2.1, r2.2.2.2.2.2.2.2.2.2.2.2.2.2.2.2.2.2.2.2.2.2.2.2.2.2.2.2.2.2.2.2.2.1, r2.2.2.2.2.2.2.2.2.2.2.2.2.2.2.2.2.2.2.2.2.2.2.2.2.2.2.2.2.2.2.2.2.2.1, r2.2.2.2.2.2.2.2.2.2.2.2.2.2.2.2.2.2.2.2.2.2.2.2.2.2.2.2.2.2.2.2.2.2.2)) fun r4 =>
   if r4.1 = true then
    if r4.2.1 = true then
     bindO (Fl.m n (r4.2.2.2.2.2.2.1, r4.2.2.2.2.2.2.2.2.2.2.2.2.2.2.2.2.2.2.2.2.2.2.2.1)) fun r10 =>
      if r10 = true then
       bindO (Fl.m n (r4.2.2.2.2.2.2.2.1, r4.2.2.2.2.2.2.2.2.2.2.2.2.2.2.2.2.2.2.2.2.2.2.2.2.1)) fun r14 =>
        if r14 = true then
         bindO (Fl.m n (r4.2.2.2.2.2.2.2.2.2.2.2.2.2.2.2.2.2.1, r4.2.2.2.2.2.2.2.2.2.2.2.2.2.2.2.2.2.2.2.2.2.2.2.2.2.2.2.2.2.2.2.2.2.2.1)) fun r18 =>
          if r18 = true then
           bindO (Fl.m n (r4.2.2.2.2.2.2.2.2.2.2.2.2.2.2.2.2.2.2.1, r4.2.2.2.2.2.2.2.2.2.2.2.2.2.2.2.2.2.2.2.2.2.2.2.2.2.2.2.2.2.2.2.2.2.2.2)) fun r22 =>
            some (mk0 r22)
          else
           some (mk0 false)
        else
         some (mk0 false)
      else
       some (mk0 false)
    else
     some (mk0 false)
   else
    some (mk0 false)
def Fap.m (n : Nat) (t : (LI × (LI × (Bool × (LI × (LI × (LI × (Int × (Int × (Int × (LI × (LI × (Bool × (LI × (Int × (Int × (LI × (LI × (LI × (LI × (Bool × (LI × (LI × (LI × (Int × (Int × (Int × (LI × (LI × (Bool × (LI × (Int × (Int × (LI × LI)))))))))))))))))))))))))))))))))) : Option Bool := Fap.g (fun a0 => a0) n t.1 t.2.1 t.2.2.1 t.2.2.2.1 t.2.2.2.2.1 t.2.2.2.2.2.1 t.2.2.2.2.2.2.1 t.2.2.2.2.2.2.2.1 t.2.2.2.2.2.2.2.2.1 t.2.2.2.2.2.2.2.2.2.1 t.2.2.2.2.2.2.2.2.2.2.1 t.2.2.2.2.2.2.2.2.2.2.2.1 t.2.2.2.2.2.2.2.2.2.2.2.2.1 t.2.2.2.2.2.2.2.2.2.2.2.2.2.1 t.2.2.2.2.2.2.2.2.2.2.2.2.2.2.1 t.2.2.2.2.2.2.2.2.2.2.2.2.2.2.2.1 t.2.2.2.2.2.2.2.2.2.2.2.2.2.2.2.2.1 t.2.2.2.2.2.2.2.2.2.2.2.2.2.2.2.2.2.1 t.2.2.2.2.2.2.2.2.2.2.2.2.2.2.2.2.2.2.1 t.2.2.2.2.2.2.2.2.2.2.2.2.2.2.2.2.2.2.2.1 t.2.2.2.2.2.2.2.2.2.2.2.2.2.2.2.2.2.2.2.2.1 t.2.2.2.2.2.2.2.2.2.2.2.2.2.2.2.2.2.2.2.2.2.1 t.2.2.2.2.2.2.2.2.2.2.2.2.2.2.2.2.2.2.2.2.2.2.1 t.2.2.2.2.2.2.2.2.2.2.2.2.2.2.2.2.2.2.2.2.2.2.2.1 t.2.2.2.2.2.2.2.2.2.2.2.2.2.2.2.2.2.2.2.2.2.2.2.2.1 t.2.2.2.2.2.2.2.2.2.2.2.2.2.2.2.2.2.2.2.2.2.2.2.2.2.1 t.2.2.2.2.2.2.2.2.2.2.2.2.2.2.2.2.2.2.2.2.2.2.2.2.2.2.1 t.2.2.2.2.2.2.2.2.2.2.2.2.2.2.2.2.2.2.2.2.2.2.2.2.2.2.2.1 t.2.2.2.2.2.2.2.2.2.2.2.2.2.2.2.2.2.2.2.2.2.2.2.2.2.2.2.2.1 t.2.2.2.2.2.2.2.2.2.2.2.2.2.2.2.2.2.2.2.2.2.2.2.2.2.2.2.2.2.1 t.2.2.2.2.2.2.2.2.2.2.2.2.2.2.2.2.2.2.2.2.2.2.2.2.2.2.2.2.2.2.1 t.2.2.2.2.2.2.2.2.2.2.2.2.2.2.2.2.2.2.2.2.2.2.2.2.2.2.2.2.2.2.2.1 t.2.2.2.2.2.2.2.2.2.2.2.2.2.2.2.2.2.2.2.2.2.2.2.2.2.2.2.2.2.2.2.2.1 t.2.2.2.2.2.2.2.2.2.2.2.2.2.2.2.2.2.2.2.2.2.2.2.2.2.2.2.2.2.2.2.2.2
def Fap.pat : List AV → Blks → Option (LI × (LI × (Bool × (LI × (LI × (LI × (Int × (Int × (Int × (LI × (LI × (Bool × (LI × (Int × (Int × (LI × (LI × (LI × (LI × (Bool × (LI × (LI × (LI × (Int × (Int × (Int × (LI × (LI × (Bool × (LI × (Int × (Int × (LI × LI)))))))))))))))))))))))))))))))))
 | [(.agg [(.ints .u8 20 a0_0), (.ints .u64 4 a0_1), (.bool a0_2), (.ints .u8 20 a0_3), (.rints .u8 a0_4), (.rints .u8 a0_5), (.int .u64 a0_6), (.int .u64 a0_7), (.int .u64 a0_8), (.ints .u64 4 a0_9), (.ints .u64 4 a0_10), (.bool a0_11), (.ints .u8 20 a0_12), (.int .u64 a0_13), (.int .u64 a0_14), (.rints .u8 a0_15), (.rints .u8 a0_16)]), (.agg [(.ints .u8 20 a1_0), (.ints .u64 4 a1_1), (.bool a1_2), (.ints .u8 20 a1_3), (.rints .u8 a1_4), (.rints .u8 a1_5), (.int .u64 a1_6), (.int .u64 a1_7), (.int .u64 a1_8), (.ints .u64 4 a1_9), (.ints .u64 4 a1_10), (.bool a1_11), (.ints .u8 20 a1_12), (.int .u64 a1_13), (.int .u64 a1_14), (.rints .u8 a1_15), (.rints .u8 a1_16)])], [] => some (a0_0, a0_1, a0_2, a0_3, a0_4, a0_5, a0_6, a0_7, a0_8, a0_9, a0_10, a0_11, a0_12, a0_13, a0_14, a0_15, a0_16, a1_0, a1_1, a1_2, a1_3, a1_4, a1_5, a1_6, a1_7, a1_8, a1_9, a1_10, a1_11, a1_12, a1_13, a1_14, a1_15, a1_16)
 | _, _ => none
def Fap.shape (t : (LI × (LI × (Bool × (LI × (LI × (LI × (Int × (Int × (Int × (LI × (LI × (Bool × (LI × (Int × (Int × (LI × (LI × (LI × (LI × (Bool × (LI × (LI × (LI × (Int × (Int × (Int × (LI × (LI × (Bool × (LI × (Int × (Int × (LI × LI)))))))))))))))))))))))))))))))))) : List AV × Blks := ([(.agg [(.ints .u8 20 t.1), (.ints .u64 4 t.2.1), (.bool t.2.2.1), (.ints .u8 20 t.2.2.2.1), (.rints .u8 t.2.2.2.2.1), (.rints .u8 t.2.2.2.2.2.1), (.int .u64 t.2.2.2.2.2.2.1), (.int .u64 t.2.2.2.2.2.2.2.1), (.int .u64 t.2.2.2.2.2.2.2.2.1), (.ints .u64 4 t.2.2.2.2.2.2.2.2.2.1), (.ints .u64 4 t.2.2.2.2.2.2.2.2.2.2.1), (.bool t.2.2.2.2.2.2.2.2.2.2.2.1), (.ints .u8 20 t.2.2.2.2.2.2.2.2.2.2.2.2.1), (.int .u64 t.2.2.2.2.2.2.2.2.2.2.2.2.2.1), (.int .u64 t.2.2.2.2.2.2.2.2.2.2.2.2.2.2.1), (.rints .u8 t.2.2.2.2.2.2.2.2.2.2.2.2.2.2.2.1), (.rints .u8 t.2.2.2.2.2.2.2.2.2.2.2.2.2.2.2.2.1)]), (.agg [(.ints .u8 20 t.2.2.2.2.2.2.2.2.2.2.2.2.2.2.2.2.2.1), (.ints .u64 4 t.2.2.2.2.2.2.2.2.2.2.2.2.2.2.2.2.2.2.1), (.bool t.2.2.2.2.2.2.2.2.2.2.2.2.2.2.2.2.2.2.2.1), (.ints .u8 20 t.2.2.2.2.2.2.2.2.2.2.2.2.2.2.2.2.2.2.2.2.1), (.rints .u8 t.2.2.2.2.2.2.2.2.2.2.2.2.2.2.2.2.2.2.2.2.2.1), (.rints .u8 t.2.2.2.2.2.2.2.2.2.2.2.2.2.2.2.2.2.2.2.2.2.2.1), (.int .u64 t.2.2.2.2.2.2.2.2.2.2.2.2.2.2.2.2.2.2.2.2.2.2.2.1), (.int .u64 t.2.2.2.2.2.2.2.2.2.2.2.2.2.2.2.2.2.2.2.2.2.2.2.2.1), (.int .u64 t.2.2.2.2.2.2.2.2.2.2.2.2.2.2.2.2.2.2.2.2.2.2.2.2.2.1), (.ints .u64 4 t.2.2.2.2.2.2.2.2.2.2.2.2.2.2.2.2.2.2.2.2.2.2.2.2.2.2.1), (.ints .u64 4 t.2.2.2.2.2.2.2.2.2.2.2.2.2.2.2.2.2.2.2.2.2.2.2.2.2.2.2.1), (.bool t.2.2.2.2.2.2.2.2.2.2.2.2.2.2.2.2.2.2.2.2.2.2.2.2.2.2.2.2.1), (.ints .u8 20 t.2.2.2.2.2.2.2.2.2.2.2.2.2.2.2.2.2.2.2.2.2.2.2.2.2.2.2.2.2.1), (.int .u64 t.2.2.2.2.2.2.2.2.2.2.2.2.2.2.2.2.2.2.2.2.2.2.2.2.2.2.2.2.2.2.1), (.int .u64 t.2.2.2.2.2.2.2.2.2.2.2.2.2.2.2.2.2.2.2.2.2.2.2.2.2.2.2.2.2.2.2.1), (.rints .u8 t.2.2.2.2.2.2.2.2.2.2.2.2.2.2.2.2.2.2.2.2.2.2.2.2.2.2.2.2.2.2.2.2.1), (.rints .u8 t.2.2.2.2.2.2.2.2.2.2.2.2.2.2.2.2.2.2.2.2.2.2.2.2.2.2.2.2.2.2.2.2.2)])], [])
def Fap.res : Bool → AV × Blks
 | u => ((.bool u), [])
def Fap.resK {R : Type} (u : Bool) (K : AV → Blks → Option R) : Option R := K (Fap.res u).1 (Fap.res u).2
def Fap.c (n : Nat) : Abs.Callee := .mk' [] [(some (.agg [none, none, none, none, (some (.ints .u8)), (some (.ints .u8)), none, none, none, none, none, none, none, none, none, (some (.ints .u8)), (some (.ints .u8))])), (some (.agg [none, none, none, none, (some (.ints .u8)), (some (.ints .u8)), none, none, none, none, none, none, none, none, none, (some (.ints .u8)), (some (.ints .u8))]))] Fap.pat (Fap.m n) Fap.resK
end
end
section
theorem Fap.j20001.gmap {α β : Type} (h : β → α) (mk0 : Bool → LI → LI → Bool → LI → LI → LI → Int → Int → Int → LI → LI → Bool → LI → Int → Int → LI → LI → LI → LI → Bool → LI → LI → LI → Int → Int → Int → LI → LI → Bool → LI → Int → Int → LI → LI → β) (n : Nat) (x0 : LI) (x1 : LI) (x2 : Bool) (x3 : LI) (x4 : LI) (x5 : LI) (x6 : Int) (x7 : Int) (x8 : Int) (x9 : LI) (x10 : LI) (x11 : Bool) (x12 : LI) (x13 : Int) (x14 : Int) (x15 : LI) (x16 : LI) (x17 : LI) (x18 : LI) (x19 : Bool) (x20 : LI) (x21 : LI) (x22 : LI) (x23 : Int) (x24 : Int) (x25 : Int) (x26 : LI) (x27 : LI) (x28 : Bool) (x29 : LI) (x30 : Int) (x31 : Int) (x32 : LI) (x33 : LI) : Fap.j20001.g (fun a0 a1 a2 a3 a4 a5 a6 a7 a8 a9 a10 a11 a12 a13 a14 a15 a16 a17 a18 a19 a20 a21 a22 a23 a24 a25 a26 a27 a28 a29 a30 a31 a32 a33 a34 => (h (mk0 a0 a1 a2 a3 a4 a5 a6 a7 a8 a9 a10 a11 a12 a13 a14 a15 a16 a17 a18 a19 a20 a21 a22 a23 a24 a25 a26 a27 a28 a29 a30 a31 a32 a33 a34))) n x0 x1 x2 x3 x4 x5 x6 x7 x8 x9 x10 x11 x12 x13 x14 x15 x16 x17 x18 x19 x20 x21 x22 x23 x24 x25 x26 x27 x28 x29 x30 x31 x32 x33 = (Fap.j20001.g mk0 n x0 x1 x2 x3 x4 x5 x6 x7 x8 x9 x10 x11 x12 x13 x14 x15 x16 x17 x18 x19 x20 x21 x22 x23 x24 x25 x26 x27 x28 x29 x30 x31 x32 x33).map h := by
  unfold Fap.j20001.g
  exact (ite_map (ite_map (ite_map (ite_map (ite_map (ite_map rfl rfl) rfl) rfl) rfl) rfl) rfl)
theorem Fap.j20001.pat_shape : ∀ st t, Fap.j20001.pat st = some t → st = Fap.j20001.shape t := fun _ _ h => by unfold Fap.j20001.pat at h; split at h <;> cases h; rfl
theorem Fap.j20001.run (n : Nat) (x0 : LI) (x1 : LI) (x2 : Bool) (x3 : LI) (x4 : LI) (x5 : LI) (x6 : Int) (x7 : Int) (x8 : Int) (x9 : LI) (x10 : LI) (x11 : Bool) (x12 : LI) (x13 : Int) (x14 : Int) (x15 : LI) (x16 : LI) (x17 : LI) (x18 : LI) (x19 : Bool) (x20 : LI) (x21 : LI) (x22 : LI) (x23 : Int) (x24 : Int) (x25 : Int) (x26 : LI) (x27 : LI) (x28 : Bool) (x29 : LI) (x30 : Int) (x31 : Int) (x32 : LI) (x33 : LI) : joinOf (Fap.C n) (Fap.A n) n Fap.jc0 ((St.mk [(.ptr 0 []), (.ptr 1 [])] [(some (.var (.agg [(.ints .u8 20 x0), (.ints .u64 4 x1), (.bool x2), (.ints .u8 20 x3), (.rints .u8 x4), (.rints .u8 x5), (.int .u64 x6), (.int .u64 x7), (.int .u64 x8), (.ints .u64 4 x9), (.ints .u64 4 x10), (.bool x11), (.ints .u8 20 x12), (.int .u64 x13), (.int .u64 x14), (.rints .u8 x15), (.rints .u8 x16)]))), (some (.var (.agg [(.ints .u8 20 x17), (.ints .u64 4 x18), (.bool x19), (.ints .u8 20 x20), (.rints .u8 x21), (.rints .u8 x22), (.int .u64 x23), (.int .u64 x24), (.int .u64 x25), (.ints .u64 4 x26), (.ints .u64 4 x27), (.bool x28), (.ints .u8 20 x29), (.int .u64 x30), (.int .u64 x31), (.rints .u8 x32), (.rints .u8 x33)])))])) = Fap.j20001.g (fun a0 a1 a2 a3 a4 a5 a6 a7 a8 a9 a10 a11 a12 a13 a14 a15 a16 a17 a18 a19 a20 a21 a22 a23 a24 a25 a26 a27 a28 a29 a30 a31 a32 a33 a34 => ((.normal, (St.mk [(.ptr 0 []), (.ptr 1 []), (.bool a0)] [(some (.var (.agg [(.ints .u8 20 a1), (.ints .u64 4 a2), (.bool a3), (.ints .u8 20 a4), (.rints .u8 a5), (.rints .u8 a6), (.int .u64 a7), (.int .u64 a8), (.int .u64 a9), (.ints .u64 4 a10), (.ints .u64 4 a11), (.bool a12), (.ints .u8 20 a13), (.int .u64 a14), (.int .u64 a15), (.rints .u8 a16), (.rints .u8 a17)]))), (some (.var (.agg [(.ints .u8 20 a18), (.ints .u64 4 a19), (.bool a20), (.ints .u8 20 a21), (.rints .u8 a22), (.rints .u8 a23), (.int .u64 a24), (.int .u64 a25), (.int .u64 a26), (.ints .u64 4 a27), (.ints .u64 4 a28), (.bool a29), (.ints .u8 20 a30), (.int .u64 a31), (.int .u64 a32), (.rints .u8 a33), (.rints .u8 a34)])))])) : Ex × St)) n x0 x1 x2 x3 x4 x5 x6 x7 x8 x9 x10 x11 x12 x13 x14 x15 x16 x17 x18 x19 x20 x21 x22 x23 x24 x25 x26 x27 x28 x29 x30 x31 x32 x33 := by kernel_rfl
theorem Fap.j20001.join (n : Nat) (t : (LI × (LI × (Bool × (LI × (LI × (LI × (Int × (Int × (Int × (LI × (LI × (Bool × (LI × (Int × (Int × (LI × (LI × (LI × (LI × (Bool × (LI × (LI × (LI × (Int × (Int × (Int × (LI × (LI × (Bool × (LI × (Int × (Int × (LI × LI)))))))))))))))))))))))))))))))))) : joinOf (Fap.C n) (Fap.A n) n Fap.jc0 (Fap.j20001.shape t) = (Fap.j20001.m n t).map Fap.j20001.res :=
  (Fap.j20001.run n t.1 t.2.1 t.2.2.1 t.2.2.2.1 t.2.2.2.2.1 t.2.2.2.2.2.1 t.2.2.2.2.2.2.1 t.2.2.2.2.2.2.2.1 t.2.2.2.2.2.2.2.2.1 t.2.2.2.2.2.2.2.2.2.1 t.2.2.2.2.2.2.2.2.2.2.1 t.2.2.2.2.2.2.2.2.2.2.2.1 t.2.2.2.2.2.2.2.2.2.2.2.2.1 t.2.2.2.2.2.2.2.2.2.2.2.2.2.1 t.2.2.2.2.2.2.2.2.2.2.2.2.2.2.1 t.2.2.2.2.2.2.2.2.2.2.2.2.2.2.2.1 t.2.2.2.2.2.2.2.2.2.2.2.2.2.2.2.2.1 t.2.2.2.2.2.2.2.2.2.2.2.2.2.2.2.2.2.1 t.2.2.2.2.2.2.2.2.2.2.2.2.2.2.2.2.2.2.1 t.2.2.2.2.2.2.2.2.2.2.2.2.2.2.2.2.2.2.2.1 t.2.2.2.2.2.2.2.2.2.2.2.2.2.2.2.2.2.2.2.2.1 t.2.2.2.2.2.2.2.2.2.2.2.2.2.2.2.2.2.2.2.2.2.1 t.2.2.2.2.2.2.2.2.2.2.2.2.2.2.2.2.2.2.2.2.2.2.1 t.2.2.2.2.2.2.2.2.2.2.2.2.2.2.2.2.2.2.2.2.2.2.2.1 t.2.2.2.2.2.2.2.2.2.2.2.2.2.2.2.2.2.2.2.2.2.2.2.2.1 t.2.2.2.2.2.2.2.2.2.2.2.2.2.2.2.2.2.2.2.2.2.2.2.2.2.1 t.2.2.2.2.2.2.2.2.2.2.2.2.2.2.2.2.2.2.2.2.2.2.2.2.2.2.1 t.2.2.2.2.2.2.2.2.2.2.2.2.2.2.2.2.2.2.2.2.2.2.2.2.2.2.2.1 t.2.2.2.2.2.2.2.2.2.2.2.2.2.2.2.2.2.2.2.2.2.2.2.2.2.2.2.2.1 t.2.2.2.2.2.2.2.2.2.2.2.2.2.2.2.2.2.2.2.2.2.2.2.2.2.2.2.2.2.1 t.2.2.2.2.2.2.2.2.2.2.2.2.2.2.2.2.2.2.2.2.2.2.2.2.2.2.2.2.2.2.1 t.2.2.2.2.2.2.2.2.2.2.2.2.2.2.2.2.2.2.2.2.2.2.2.2.2.2.2.2.2.2.2.1 t.2.2.2.2.2.2.2.2.2.2.2.2.2.2.2.2.2.2.2.2.2.2.2.2.2.2.2.2.2.2.2.2.1 t.2.2.2.2.2.2.2.2.2.2.2.2.2.2.2.2.2.2.2.2.2.2.2.2.2.2.2.2.2.2.2.2.2).trans (Fap.j20001.gmap Fap.j20001.res (fun a0 a1 a2 a3 a4 a5 a6 a7 a8 a9 a10 a11 a12 a13 a14 a15 a16 a17 a18 a19 a20 a21 a22 a23 a24 a25 a26 a27 a28 a29 a30 a31 a32 a33 a34 => (a0, a1, a2, a3, a4, a5, a6, a7, a8, a9, a10, a11, a12, a13, a14, a15, a16, a17, a18, a19, a20, a21, a22, a23, a24, a25, a26, a27, a28, a29, a30, a31, a32, a33, a34)) n t.1 t.2.1 t.2.2.1 t.2.2.2.1 t.2.2.2.2.1 t.2.2.2.2.2.1 t.2.2.2.2.2.2.1 t.2.2.2.2.2.2.2.1 t.2.2.2.2.2.2.2.2.1 t.2.2.2.2.2.2.2.2.2.1 t.2.2.2.2.2.2.2.2.2.2.1 t.2.2.2.2.2.2.2.2.2.2.2.1 t.2.2.2.2.2.2.2.2.2.2.2.2.1 t.2.2.2.2.2.2.2.2.2.2.2.2.2.1 t.2.2.2.2.2.2.2.2.2.2.2.2.2.2.1 t.2.2.2.2.2.2.2.2.2.2.2.2.2.2.2.1 t.2.2.2.2.2.2.2.2.2.2.2.2.2.2.2.2.1 t.2.2.2.2.2.2.2.2.2.2.2.2.2.2.2.2.2.1 t.2.2.2.2.2.2.2.2.2.2.2.2.2.2.2.2.2.2.1 t.2.2.2.2.2.2.2.2.2.2.2.2.2.2.2.2.2.2.2.1 t.2.2.2.2.2.2.2.2.2.2.2.2.2.2.2.2.2.2.2.2.1 t.2.2.2.2.2.2.2.2.2.2.2.2.2.2.2.2.2.2.2.2.2.1 t.2.2.2.2.2.2.2.2.2.2.2.2.2.2.2.2.2.2.2.2.2.2.1 t.2.2.2.2.2.2.2.2.2.2.2.2.2.2.2.2.2.2.2.2.2.2.2.1 t.2.2.2.2.2.2.2.2.2.2.2.2.2.2.2.2.2.2.2.2.2.2.2.2.1 t.2.2.2.2.2.2.2.2.2.2.2.2.2.2.2.2.2.2.2.2.2.2.2.2.2.1 t.2.2.2.2.2.2.2.2.2.2.2.2.2.2.2.2.2.2.2.2.2.2.2.2.2.2.1 t.2.2.2.2.2.2.2.2.2.2.2.2.2.2.2.2.2.2.2.2.2.2.2.2.2.2.2.1 t.2.2.2.2.2.2.2.2.2.2.2.2.2.2.2.2.2.2.2.2.2.2.2.2.2.2.2.2.1 t.2.2.2.2.2.2.2.2.2.2.2.2.2.2.2.2.2.2.2.2.2.2.2.2.2.2.2.2.2.1 t.2.2.2.2.2.2.2.2.2.2.2.2.2.2.2.2.2.2.2.2.2.2.2.2.2.2.2.2.2.2.1 t.2.2.2.2.2.2.2.2.2.2.2.2.2.2.2.2.2.2.2.2.2.2.2.2.2.2.2.2.2.2.2.1 t.2.2.2.2.2.2.2.2.2.2.2.2.2.2.2.2.2.2.2.2.2.2.2.2.2.2.2.2.2.2.2.2.1 t.2.2.2.2.2.2.2.2.2.2.2.2.2.2.2.2.2.2.2.2.2.2.2.2.2.2.2.2.2.2.2.2.2)
theorem Fap.j20002.gmap {α β : Type} (h : β → α) (mk0 : Bool → Bool → LI → LI → Bool → LI → LI → LI → Int → Int → Int → LI → LI → Bool → LI → Int → Int → LI → LI → LI → LI → Bool → LI → LI → LI → Int → Int → Int → LI → LI → Bool → LI → Int → Int → LI → LI → β) (n : Nat) (x0 : Bool) (x1 : LI) (x2 : LI) (x3 : Bool) (x4 : LI) (x5 : LI) (x6 : LI) (x7 : Int) (x8 : Int) (x9 : Int) (x10 : LI) (x11 : LI) (x12 : Bool) (x13 : LI) (x14 : Int) (x15 : Int) (x16 : LI) (x17 : LI) (x18 : LI) (x19 : LI) (x20 : Bool) (x21 : LI) (x22 : LI) (x23 : LI) (x24 : Int) (x25 : Int) (x26 : Int) (x27 : LI) (x28 : LI) (x29 : Bool) (x30 : LI) (x31 : Int) (x32 : Int) (x33 : LI) (x34 : LI) : Fap.j20002.g (fun a0 a1 a2 a3 a4 a5 a6 a7 a8 a9 a10 a11 a12 a13 a14 a15 a16 a17 a18 a19 a20 a21 a22 a23 a24 a25 a26 a27 a28 a29 a30 a31 a32 a33 a34 a35 => (h (mk0 a0 a1 a2 a3 a4 a5 a6 a7 a8 a9 a10 a11 a12 a13 a14 a15 a16 a17 a18 a19 a20 a21 a22 a23 a24 a25 a26 a27 a28 a29 a30 a31 a32 a33 a34 a35))) n x0 x1 x2 x3 x4 x5 x6 x7 x8 x9 x10 x11 x12 x13 x14 x15 x16 x17 x18 x19 x20 x21 x22 x23 x24 x25 x26 x27 x28 x29 x30 x31 x32 x33 x34 = (Fap.j20002.g mk0 n x0 x1 x2 x3 x4 x5 x6 x7 x8 x9 x10 x11 x12 x13 x14 x15 x16 x17 x18 x19 x20 x21 x22 x23 x24 x25 x26 x27 x28 x29 x30 x31 x32 x33 x34).map h := by
  unfold Fap.j20002.g
  exact (ite_map (ite_map (ite_map (ite_map (ite_map rfl rfl) rfl) rfl) rfl) rfl)
theorem Fap.j20002.pat_shape : ∀ st t, Fap.j20002.pat st = some t → st = Fap.j20002.shape t := fun _ _ h => by unfold Fap.j20002.pat at h; split at h <;> cases h; rfl
theorem Fap.j20002.run (n : Nat) (x0 : Bool) (x1 : LI) (x2 : LI) (x3 : Bool) (x4 : LI) (x5 : LI) (x6 : LI) (x7 : Int) (x8 : Int) (x9 : Int) (x10 : LI) (x11 : LI) (x12 : Bool) (x13 : LI) (x14 : Int) (x15 : Int) (x16 : LI) (x17 : LI) (x18 : LI) (x19 : LI) (x20 : Bool) (x21 : LI) (x22 : LI) (x23 : LI) (x24 : Int) (x25 : Int) (x26 : Int) (x27 : LI) (x28 : LI) (x29 : Bool) (x30 : LI) (x31 : Int) (x32 : Int) (x33 : LI) (x34 : LI) : joinOf (Fap.C n) (Fap.A n) n Fap.jc1 ((St.mk [(.ptr 0 []), (.ptr 1 []), (.bool x0)] [(some (.var (.agg [(.ints .u8 20 x1), (.ints .u64 4 x2), (.bool x3), (.ints .u8 20 x4), (.rints .u8 x5), (.rints .u8 x6), (.int .u64 x7), (.int .u64 x8), (.int .u64 x9), (.ints .u64 4 x10), (.ints .u64 4 x11), (.bool x12), (.ints .u8 20 x13), (.int .u64 x14), (.int .u64 x15), (.rints .u8 x16), (.rints .u8 x17)]))), (some (.var (.agg [(.ints .u8 20 x18), (.ints .u64 4 x19), (.bool x20), (.ints .u8 20 x21), (.rints .u8 x22), (.rints .u8 x23), (.int .u64 x24), (.int .u64 x25), (.int .u64 x26), (.ints .u64 4 x27), (.ints .u64 4 x28), (.bool x29), (.ints .u8 20 x30), (.int .u64 x31), (.int .u64 x32), (.rints .u8 x33), (.rints .u8 x34)])))])) = Fap.j20002.g (fun a0 a1 a2 a3 a4 a5 a6 a7 a8 a9 a10 a11 a12 a13 a14 a15 a16 a17 a18 a19 a20 a21 a22 a23 a24 a25 a26 a27 a28 a29 a30 a31 a32 a33 a34 a35 => ((.normal, (St.mk [(.bool a0), (.bool a1), (.ptr 0 []), (.ptr 1 [])] [(some (.var (.agg [(.ints .u8 20 a2), (.ints .u64 4 a3), (.bool a4), (.ints .u8 20 a5), (.rints .u8 a6), (.rints .u8 a7), (.int .u64 a8), (.int .u64 a9), (.int .u64 a10), (.ints .u64 4 a11), (.ints .u64 4 a12), (.bool a13), (.ints .u8 20 a14), (.int .u64 a15), (.int .u64 a16), (.rints .u8 a17), (.rints .u8 a18)]))), (some (.var (.agg [(.ints .u8 20 a19), (.ints .u64 4 a20), (.bool a21), (.ints .u8 20 a22), (.rints .u8 a23), (.rints .u8 a24), (.int .u64 a25), (.int .u64 a26), (.int .u64 a27), (.ints .u64 4 a28), (.ints .u64 4 a29), (.bool a30), (.ints .u8 20 a31), (.int .u64 a32), (.int .u64 a33), (.rints .u8 a34), (.rints .u8 a35)])))])) : Ex × St)) n x0 x1 x2 x3 x4 x5 x6 x7 x8 x9 x10 x11 x12 x13 x14 x15 x16 x17 x18 x19 x20 x21 x22 x23 x24 x25 x26 x27 x28 x29 x30 x31 x32 x33 x34 := by kernel_rfl
theorem Fap.j20002.join (n : Nat) (t : (Bool × (LI × (LI × (Bool × (LI × (LI × (LI × (Int × (Int × (Int × (LI × (LI × (Bool × (LI × (Int × (Int × (LI × (LI × (LI × (LI × (Bool × (LI × (LI × (LI × (Int × (Int × (Int × (LI × (LI × (Bool × (LI × (Int × (Int × (LI × LI))))))))))))))))))))))))))))))))))) : joinOf (Fap.C n) (Fap.A n) n Fap.jc1 (Fap.j20002.shape t) = (Fap.j20002.m n t).map Fap.j20002.res :=
  (Fap.j20002.run n t.1 t.2.1 t.2.2.1 t.2.2.2.1 t.2.2.2.2.1 t.2.2.2.2.2.1 t.2.2.2.2.2.2.1 t.2.2.2.2.2.2.2.1 t.2.2.2.2.2.2.2.2.1 t.2.2.2.2.2.2.2.2.2.1 t.2.2.2.2.2.2.2.2.2.2.1 t.2.2.2.2.2.2.2.2.2.2.2.1 t.2.2.2.2.2.2.2.2.2.2.2.2.1 t.2.2.2.2.2.2.2.2.2.2.2.2.2.1 t.2.2.2.2.2.2.2.2.2.2.2.2.2.2.1 t.2.2.2.2.2.2.2.2.2.2.2.2.2.2.2.1 t.2.2.2.2.2.2.2.2.2.2.2.2.2.2.2.2.1 t.2.2.2.2.2.2.2.2.2.2.2.2.2.2.2.2.2.1 t.2.2.2.2.2.2.2.2.2.2.2.2.2.2.2.2.2.2.1 t.2.2.2.2.2.2.2.2.2.2.2.2.2.2.2.2.2.2.2.1 t.2.2.2.2.2.2.2.2.2.2.2.2.2.2.2.2.2.2.2.2.1 t.2.2.2.2.2.2.2.2.2.2.2.2.2.2.2.2.2.2.2.2.2.1 t.2.2.2.2.2.2.2.2.2.2.2.2.2.2.2.2.2.2.2.2.2.2.1 t.2.2.2.2.2.2.2.2.2.2.2.2.2.2.2.2.2.2.2.2.2.2.2.1 t.2.2.2.2.2.2.2.2.2.2.2.2.2.2.2.2.2.2.2.2.2.2.2.2.1 t.2.2.2.2.2.2.2.2.2.2.2.2.2.2.2.2.2.2.2.2.2.2.2.2.2.1 t.2.2.2.2.2.2.2.2.2.2.2.2.2.2.2.2.2.2.2.2.2.2.2.2.2.2.1 t.2.2.2.2.2.2.2.2.2.2.2.2.2.2.2.2.2.2.2.2.2.2.2.2.2.2.2.1 t.2.2.2.2.2.2.2.2.2.2.2.2.2.2.2.2.2.2.2.2.2.2.2.2.2.2.2.2.1 t.2.2.2.2.2.2.2.2.2.2.2.2.2.2.2.2.2.2.2.2.2.2.2.2.2.2.2.2.2.1 t.2.2.2.2.2.2.2.2.2.2.2.2.2.2.2.2.2.2.2.2.2.2.2.2.2.2.2.2.2.2.1 t.2.2.2.2.2.2.2.2.2.2.2.2.2.2.2.2.2.2.2.2.2.2.2.2.2.2.2.2.2.2.2.1 t.2.2.2.2.2.2.2.2.2.2.2.2.2.2.2.2.2.2.2.2.2.2.2.2.2.2.2.2.2.2.2.2.1 t.2.2.2.2.2.2.2.2.2.2.2.2.2.2.2.2.2.2.2.2.2.2.2.2.2.2.2.2.2.2.2.2.2.1 t.2.2.2.2.2.2.2.2.2.2.2.2.2.2.2.2.2.2.2.2.2.2.2.2.2.2.2.2.2.2.2.2.2.2).trans (Fap.j20002.gmap Fap.j20002.res (fun a0 a1 a2 a3 a4 a5 a6 a7 a8 a9 a10 a11 a12 a13 a14 a15 a16 a17 a18 a19 a20 a21 a22 a23 a24 a25 a26 a27 a28 a29 a30 a31 a32 a33 a34 a35 => (a0, a1, a2, a3, a4, a5, a6, a7, a8, a9, a10, a11, a12, a13, a14, a15, a16, a17, a18, a19, a20, a21, a22, a23, a24, a25, a26, a27, a28, a29, a30, a31, a32, a33, a34, a35)) n t.1 t.2.1 t.2.2.1 t.2.2.2.1 t.2.2.2.2.1 t.2.2.2.2.2.1 t.2.2.2.2.2.2.1 t.2.2.2.2.2.2.2.1 t.2.2.2.2.2.2.2.2.1 t.2.2.2.2.2.2.2.2.2.1 t.2.2.2.2.2.2.2.2.2.2.1 t.2.2.2.2.2.2.2.2.2.2.2.1 t.2.2.2.2.2.2.2.2.2.2.2.2.1 t.2.2.2.2.2.2.2.2.2.2.2.2.2.1 t.2.2.2.2.2.2.2.2.2.2.2.2.2.2.1 t.2.2.2.2.2.2.2.2.2.2.2.2.2.2.2.1 t.2.2.2.2.2.2.2.2.2.2.2.2.2.2.2.2.1 t.2.2.2.2.2.2.2.2.2.2.2.2.2.2.2.2.2.1 t.2.2.2.2.2.2.2.2.2.2.2.2.2.2.2.2.2.2.1 t.2.2.2.2.2.2.2.2.2.2.2.2.2.2.2.2.2.2.2.1 t.2.2.2.2.2.2.2.2.2.2.2.2.2.2.2.2.2.2.2.2.1 t.2.2.2.2.2.2.2.2.2.2.2.2.2.2.2.2.2.2.2.2.2.1 t.2.2.2.2.2.2.2.2.2.2.2.2.2.2.2.2.2.2.2.2.2.2.1 t.2.2.2.2.2.2.2.2.2.2.2.2.2.2.2.2.2.2.2.2.2.2.2.1 t.2.2.2.2.2.2.2.2.2.2.2.2.2.2.2.2.2.2.2.2.2.2.2.2.1 t.2.2.2.2.2.2.2.2.2.2.2.2.2.2.2.2.2.2.2.2.2.2.2.2.2.1 t.2.2.2.2.2.2.2.2.2.2.2.2.2.2.2.2.2.2.2.2.2.2.2.2.2.2.1 t.2.2.2.2.2.2.2.2.2.2.2.2.2.2.2.2.2.2.2.2.2.2.2.2.2.2.2.1 t.2.2.2.2.2.2.2.2.2.2.2.2.2.2.2.2.2.2.2.2.2.2.2.2.2.2.2.2.1 t.2.2.2.2.2.2.2.2.2.2.2.2.2.2.2.2.2.2.2.2.2.2.2.2.2.2.2.2.2.1 t.2.2.2.2.2.2.2.2.2.2.2.2.2.2.2.2.2.2.2.2.2.2.2.2.2.2.2.2.2.2.1 t.2.2.2.2.2.2.2.2.2.2.2.2.2.2.2.2.2.2.2.2.2.2.2.2.2.2.2.2.2.2.2.1 t.2.2.2.2.2.2.2.2.2.2.2.2.2.2.2.2.2.2.2.2.2.2.2.2.2.2.2.2.2.2.2.2.1 t.2.2.2.2.2.2.2.2.2.2.2.2.2.2.2.2.2.2.2.2.2.2.2.2.2.2.2.2.2.2.2.2.2.1 t.2.2.2.2.2.2.2.2.2.2.2.2.2.2.2.2.2.2.2.2.2.2.2.2.2.2.2.2.2.2.2.2.2.2)
theorem Fap.gmap {α β : Type} (h : β → α) (mk0 : Bool → β) (n : Nat) (a0_0 : LI) (a0_1 : LI) (a0_2 : Bool) (a0_3 : LI) (a0_4 : LI) (a0_5 : LI) (a0_6 : Int) (a0_7 : Int) (a0_8 : Int) (a0_9 : LI) (a0_10 : LI) (a0_11 : Bool) (a0_12 : LI) (a0_13 : Int) (a0_14 : Int) (a0_15 : LI) (a0_16 : LI) (a1_0 : LI) (a1_1 : LI) (a1_2 : Bool) (a1_3 : LI) (a1_4 : LI) (a1_5 : LI) (a1_6 : Int) (a1_7 : Int) (a1_8 : Int) (a1_9 : LI) (a1_10 : LI) (a1_11 : Bool) (a1_12 : LI) (a1_13 : Int) (a1_14 : Int) (a1_15 : LI) (a1_16 : LI) : Fap.g (fun a0 => (h (mk0 a0))) n a0_0 a0_1 a0_2 a0_3 a0_4 a0_5 a0_6 a0_7 a0_8 a0_9 a0_10 a0_11 a0_12 a0_13 a0_14 a0_15 a0_16 a1_0 a1_1 a1_2 a1_3 a1_4 a1_5 a1_6 a1_7 a1_8 a1_9 a1_10 a1_11 a1_12 a1_13 a1_14 a1_15 a1_16 = (Fap.g mk0 n a0_0 a0_1 a0_2 a0_3 a0_4 a0_5 a0_6 a0_7 a0_8 a0_9 a0_10 a0_11 a0_12 a0_13 a0_14 a0_15 a0_16 a1_0 a1_1 a1_2 a1_3 a1_4 a1_5 a1_6 a1_7 a1_8 a1_9 a1_10 a1_11 a1_12 a1_13 a1_14 a1_15 a1_16).map h := by
  unfold Fap.g
  exact (bindO_map fun r2 => (bindO_map fun r4 => (ite_map (ite_map (bindO_map fun r10 => (ite_map (bindO_map fun r14 => (ite_map (bindO_map fun r18 => (ite_map (bindO_map fun r22 => rfl) rfl)) rfl)) rfl)) rfl) rfl)))
theorem Fap.run (n : Nat) (a0_0 : LI) (a0_1 : LI) (a0_2 : Bool) (a0_3 : LI) (a0_4 : LI) (a0_5 : LI) (a0_6 : Int) (a0_7 : Int) (a0_8 : Int) (a0_9 : LI) (a0_10 : LI) (a0_11 : Bool) (a0_12 : LI) (a0_13 : Int) (a0_14 : Int) (a0_15 : LI) (a0_16 : LI) (a1_0 : LI) (a1_1 : LI) (a1_2 : Bool) (a1_3 : LI) (a1_4 : LI) (a1_5 : LI) (a1_6 : Int) (a1_7 : Int) (a1_8 : Int) (a1_9 : LI) (a1_10 : LI) (a1_11 : Bool) (a1_12 : LI) (a1_13 : Int) (a1_14 : Int) (a1_15 : LI) (a1_16 : LI) : runF (Fap.C n) (Fap.A n) n Tryd.f42 [(.agg [(.ints .u8 20 a0_0), (.ints .u64 4 a0_1), (.bool a0_2), (.ints .u8 20 a0_3), (.rints .u8 a0_4), (.rints .u8 a0_5), (.int .u64 a0_6), (.int .u64 a0_7), (.int .u64 a0_8), (.ints .u64 4 a0_9), (.ints .u64 4 a0_10), (.bool a0_11), (.ints .u8 20 a0_12), (.int .u64 a0_13), (.int .u64 a0_14), (.rints .u8 a0_15), (.rints .u8 a0_16)]), (.agg [(.ints .u8 20 a1_0), (.ints .u64 4 a1_1), (.bool a1_2), (.ints .u8 20 a1_3), (.rints .u8 a1_4), (.rints .u8 a1_5), (.int .u64 a1_6), (.int .u64 a1_7), (.int .u64 a1_8), (.ints .u64 4 a1_9), (.ints .u64 4 a1_10), (.bool a1_11), (.ints .u8 20 a1_12), (.int .u64 a1_13), (.int .u64 a1_14), (.rints .u8 a1_15), (.rints .u8 a1_16)])] [] (fun v o => some (v, o)) = Fap.g (fun a0 => (((.bool a0), []) : AV × Blks)) n a0_0 a0_1 a0_2 a0_3 a0_4 a0_5 a0_6 a0_7 a0_8 a0_9 a0_10 a0_11 a0_12 a0_13 a0_14 a0_15 a0_16 a1_0 a1_1 a1_2 a1_3 a1_4 a1_5 a1_6 a1_7 a1_8 a1_9 a1_10 a1_11 a1_12 a1_13 a1_14 a1_15 a1_16 := by kernel_rfl
theorem Fap.call (hmix : Tryd.prog.follows .mixedOrders = true) (n : Nat) (t : (LI × (LI × (Bool × (LI × (LI × (LI × (Int × (Int × (Int × (LI × (LI × (Bool × (LI × (Int × (Int × (LI × (LI × (LI × (LI × (Bool × (LI × (LI × (LI × (Int × (Int × (Int × (LI × (LI × (Bool × (LI × (Int × (Int × (LI × LI)))))))))))))))))))))))))))))))))) (u) (h : Fap.m n t = some u) : FnC Tryd.prog abiG 42 (Fap.shape t).1 (Fap.shape t).2 (Fap.res u).1 (Fap.res u).2 :=
  fnC1 (C := Fap.C n) (A := Fap.A n) (fn := Tryd.f42) rfl (.cons (Fl.s hmix n) .nil) hmix Tryd.func42 (by kernel_rfl) (lp := []) (by kernel_rfl) .nil
  (by
    intro a ha m hm
    have hm' := lookJ_mem (show lookJ [(20001, .mk' Fap.j20001.pat (Fap.j20001.m n) Fap.j20001.resK), (20002, .mk' Fap.j20002.pat (Fap.j20002.m n) Fap.j20002.resK)] (jkey a) = some m from hm)
    simp only [List.mem_cons, List.not_mem_nil, or_false, Prod.mk.injEq] at hm'
    rcases hm' with ⟨hk, rfl⟩ | ⟨hk, rfl⟩
    · obtain rfl := only ha hk (c := Fap.jc0) (by kernel_rfl)
      exact JoinS.of (res := Fap.j20001.res) (fun R u K => rfl) Fap.j20001.pat_shape fun t => Fap.j20001.join n t
    · obtain rfl := only ha hk (c := Fap.jc1) (by kernel_rfl)
      exact JoinS.of (res := Fap.j20002.res) (fun R u K => rfl) Fap.j20002.pat_shape fun t => Fap.j20002.join n t) (by decide) rfl rfl (by show 2 ≤ Tryd.f42.ntmps; decide) (Fap.run n t.1 t.2.1 t.2.2.1 t.2.2.2.1 t.2.2.2.2.1 t.2.2.2.2.2.1 t.2.2.2.2.2.2.1 t.2.2.2.2.2.2.2.1 t.2.2.2.2.2.2.2.2.1 t.2.2.2.2.2.2.2.2.2.1 t.2.2.2.2.2.2.2.2.2.2.1 t.2.2.2.2.2.2.2.2.2.2.2.1 t.2.2.2.2.2.2.2.2.2.2.2.2.1 t.2.2.2.2.2.2.2.2.2.2.2.2.2.1 t.2.2.2.2.2.2.2.2.2.2.2.2.2.2.1 t.2.2.2.2.2.2.2.2.2.2.2.2.2.2.2.1 t.2.2.2.2.2.2.2.2.2.2.2.2.2.2.2.2.1 t.2.2.2.2.2.2.2.2.2.2.2.2.2.2.2.2.2.1 t.2.2.2.2.2.2.2.2.2.2.2.2.2.2.2.2.2.2.1 t.2.2.2.2.2.2.2.2.2.2.2.2.2.2.2.2.2.2.2.1 t.2.2.2.2.2.2.2.2.2.2.2.2.2.2.2.2.2.2.2.2.1 t.2.2.2.2.2.2.2.2.2.2.2.2.2.2.2.2.2.2.2.2.2.1 t.2.2.2.2.2.2.2.2.2.2.2.2.2.2.2.2.2.2.2.2.2.2.1 t.2.2.2.2.2.2.2.2.2.2.2.2.2.2.2.2.2.2.2.2.2.2.2.1 t.2.2.2.2.2.2.2.2.2.2.2.2.2.2.2.2.2.2.2.2.2.2.2.2.1 t.2.2.2.2.2.2.2.2.2.2.2.2.2.2.2.2.2.2.2.2.2.2.2.2.2.1 t.2.2.2.2.2.2.2.2.2.2.2.2.2.2.2.2.2.2.2.2.2.2.2.2.2.2.1 t.2.2.2.2.2.2.2.2.2.2.2.2.2.2.2.2.2.2.2.2.2.2.2.2.2.2.2.1 t.2.2.2.2.2.2.2.2.2.2.2.2.2.2.2.2.2.2.2.2.2.2.2.2.2.2.2.2.1 t.2.2.2.2.2.2.2.2.2.2.2.2.2.2.2.2.2.2.2.2.2.2.2.2.2.2.2.2.2.1 t.2.2.2.2.2.2.2.2.2.2.2.2.2.2.2.2.2.2.2.2.2.2.2.2.2.2.2.2.2.2.1 t.2.2.2.2.2.2.2.2.2.2.2.2.2.2.2.2.2.2.2.2.2.2.2.2.2.2.2.2.2.2.2.1 t.2.2.2.2.2.2.2.2.2.2.2.2.2.2.2.2.2.2.2.2.2.2.2.2.2.2.2.2.2.2.2.2.1 t.2.2.2.2.2.2.2.2.2.2.2.2.2.2.2.2.2.2.2.2.2.2.2.2.2.2.2.2.2.2.2.2.2) (Fap.gmap Fap.res (fun a0 => a0) n t.1 t.2.1 t.2.2.1 t.2.2.2.1 t.2.2.2.2.1 t.2.2.2.2.2.1 t.2.2.2.2.2.2.1 t.2.2.2.2.2.2.2.1 t.2.2.2.2.2.2.2.2.1 t.2.2.2.2.2.2.2.2.2.1 t.2.2.2.2.2.2.2.2.2.2.1 t.2.2.2.2.2.2.2.2.2.2.2.1 t.2.2.2.2.2.2.2.2.2.2.2.2.1 t.2.2.2.2.2.2.2.2.2.2.2.2.2.1 t.2.2.2.2.2.2.2.2.2.2.2.2.2.2.1 t.2.2.2.2.2.2.2.2.2.2.2.2.2.2.2.1 t.2.2.2.2.2.2.2.2.2.2.2.2.2.2.2.2.1 t.2.2.2.2.2.2.2.2.2.2.2.2.2.2.2.2.2.1 t.2.2.2.2.2.2.2.2.2.2.2.2.2.2.2.2.2.2.1 t.2.2.2.2.2.2.2.2.2.2.2.2.2.2.2.2.2.2.2.1 t.2.2.2.2.2.2.2.2.2.2.2.2.2.2.2.2.2.2.2.2.1 t.2.2.2.2.2.2.2.2.2.2.2.2.2.2.2.2.2.2.2.2.2.1 t.2.2.2.2.2.2.2.2.2.2.2.2.2.2.2.2.2.2.2.2.2.2.1 t.2.2.2.2.2.2.2.2.2.2.2.2.2.2.2.2.2.2.2.2.2.2.2.1 t.2.2.2.2.2.2.2.2.2.2.2.2.2.2.2.2.2.2.2.2.2.2.2.2.1 t.2.2.2.2.2.2.2.2.2.2.2.2.2.2.2.2.2.2.2.2.2.2.2.2.2.1 t.2.2.2.2.2.2.2.2.2.2.2.2.2.2.2.2.2.2.2.2.2.2.2.2.2.2.1 t.2.2.2.2.2.2.2.2.2.2.2.2.2.2.2.2.2.2.2.2.2.2.2.2.2.2.2.1 t.2.2.2.2.2.2.2.2.2.2.2.2.2.2.2.2.2.2.2.2.2.2.2.2.2.2.2.2.1 t.2.2.2.2.2.2.2.2.2.2.2.2.2.2.2.2.2.2.2.2.2.2.2.2.2.2.2.2.2.1 t.2.2.2.2.2.2.2.2.2.2.2.2.2.2.2.2.2.2.2.2.2.2.2.2.2.2.2.2.2.2.1 t.2.2.2.2.2.2.2.2.2.2.2.2.2.2.2.2.2.2.2.2.2.2.2.2.2.2.2.2.2.2.2.1 t.2.2.2.2.2.2.2.2.2.2.2.2.2.2.2.2.2.2.2.2.2.2.2.2.2.2.2.2.2.2.2.2.1 t.2.2.2.2.2.2.2.2.2.2.2.2.2.2.2.2.2.2.2.2.2.2.2.2.2.2.2.2.2.2.2.2.2) h
theorem Fap.s (hmix : Tryd.prog.follows .mixedOrders = true) (n : Nat) : CalleeS Tryd.prog abiG 42 (Fap.c n) :=
  .mk1 (res := Fap.res) (shape := Fap.shape) (fun R u K => rfl) (fun _ _ _ h => by unfold Fap.pat at h; split at h <;> cases h; rfl) (fun t u h => Fap.call hmix n t u h) Tryd.func42 (by decide) (by kernel_rfl)
end
section
noncomputable section
noncomputable def Fo.C (n : Nat) : Ctx := ⟨Tryd.prog, abiG, lookC [], fun _ => false⟩
noncomputable def Fo.A (n : Nat) : Ann := ⟨Tryd.f52.ntmps, 0, noNL, [], [(some (.ints .u8))], fun k => match k with
 | _ => none, noNL, lookJ []⟩
def Fo.g {α : Type} (mk0 : LI → α) (n : Nat) (a0 : LI) : Option α :=
 if (((List.length a0) * 1) ≤ 70368744177664 ∧ (List.length a0) ≤ 9223372036854775807) then
  some (mk0 a0)
 else
  none
def Fo.m (n : Nat) (t : LI) : Option LI := Fo.g (fun a0 => a0) n t
def Fo.pat : List AV → Blks → Option LI
 | [(.rints .u8 a0)], [] => some a0
 | _, _ => none
def Fo.shape (t : LI) : List AV × Blks := ([(.rints .u8 t)], [])
def Fo.res : LI → AV × Blks
 | u => ((.own 0 1), [(some (.ints .u8 u))])
def Fo.resK {R : Type} (u : LI) (K : AV → Blks → Option R) : Option R := K (Fo.res u).1 (Fo.res u).2
def Fo.c (n : Nat) : Abs.Callee := .mk' [] [(some (.ints .u8))] Fo.pat (Fo.m n) Fo.resK
end
end
section
noncomputable section
noncomputable def Faq.C (n : Nat) : Ctx := ⟨Tryd.prog, abiG, lookC [(52, Fo.c n)], fun _ => false⟩
noncomputable def Faq.A (n : Nat) : Ann := ⟨Tryd.f36.ntmps, 0, noNL, [], [none], fun k => match k with
 | _ => none, noNL, lookJ []⟩
def Faq.g {α : Type} (mk0 : LI → LI → Bool → LI → Int → Int → Int → LI → LI → Bool → LI → Int → Int → LI → LI → LI → LI → α) (n : Nat) (a0_0 : LI) (a0_1 : LI) (a0_2 : Bool) (a0_3 : LI) (a0_4 : LI) (a0_5 : LI) (a0_6 : Int) (a0_7 : Int) (a0_8 : Int) (a0_9 : LI) (a0_10 : LI) (a0_11 : Bool) (a0_12 : LI) (a0_13 : Int) (a0_14 : Int) (a0_15 : LI) (a0_16 : LI) : Option α :=
 bindO (Fo.m n a0_4) fun r2 =>
  bindO (Fo.m n a0_5) fun r4 =>
   bindO (Fo.m n a0_15) fun r6 =>
    bindO (Fo.m n a0_16) fun r8 =>
     some (mk0 a0_0 a0_1 a0_2 a0_3 a0_6 a0_7 a0_8 a0_9 a0_10 a0_11 a0_12 a0_13 a0_14 r2 r4 r6 r8)
def Faq.m (n : Nat) (t : (LI × (LI × (Bool × (LI × (LI × (LI × (Int × (Int × (Int × (LI × (LI × (Bool × (LI × (Int × (Int × (LI × LI))))))))))))))))) : Option (LI × (LI × (Bool × (LI × (Int × (Int × (Int × (LI × (LI × (Bool × (LI × (Int × (Int × (LI × (LI × (LI × LI)))))))))))))))) := Faq.g (fun a0 a1 a2 a3 a4 a5 a6 a7 a8 a9 a10 a11 a12 a13 a14 a15 a16 => (a0, a1, a2, a3, a4, a5, a6, a7, a8, a9, a10, a11, a12, a13, a14, a15, a16)) n t.1 t.2.1 t.2.2.1 t.2.2.2.1 t.2.2.2.2.1 t.2.2.2.2.2.1 t.2.2.2.2.2.2.1 t.2.2.2.2.2.2.2.1 t.2.2.2.2.2.2.2.2.1 t.2.2.2.2.2.2.2.2.2.1 t.2.2.2.2.2.2.2.2.2.2.1 t.2.2.2.2.2.2.2.2.2.2.2.1 t.2.2.2.2.2.2.2.2.2.2.2.2.1 t.2.2.2.2.2.2.2.2.2.2.2.2.2.1 t.2.2.2.2.2.2.2.2.2.2.2.2.2.2.1 t.2.2.2.2.2.2.2.2.2.2.2.2.2.2.2.1 t.2.2.2.2.2.2.2.2.2.2.2.2.2.2.2.2
def Faq.pat : List AV → Blks → Option (LI × (LI × (Bool × (LI × (LI × (LI × (Int × (Int × (Int × (LI × (LI × (Bool × (LI × (Int × (Int × (LI × LI))))))))))))))))
 | [(.agg [(.ints .u8 20 a0_0), (.ints .u64 4 a0_1), (.bool a0_2), (.ints .u8 20 a0_3), (.rints .u8 a0_4), (.rints .u8 a0_5), (.int .u64 a0_6), (.int .u64 a0_7), (.int .u64 a0_8), (.ints .u64 4 a0_9), (.ints .u64 4 a0_10), (.bool a0_11), (.ints .u8 20 a0_12), (.int .u64 a0_13), (.int .u64 a0_14), (.rints .u8 a0_15), (.rints .u8 a0_16)])], [] => some (a0_0, a0_1, a0_2, a0_3, a0_4, a0_5, a0_6, a0_7, a0_8, a0_9, a0_10, a0_11, a0_12, a0_13, a0_14, a0_15, a0_16)
 | _, _ => none
def Faq.shape (t : (LI × (LI × (Bool × (LI × (LI × (LI × (Int × (Int × (Int × (LI × (LI × (Bool × (LI × (Int × (Int × (LI × LI))))))))))))))))) : List AV × Blks := ([(.agg [(.ints .u8 20 t.1), (.ints .u64 4 t.2.1), (.bool t.2.2.1), (.ints .u8 20 t.2.2.2.1), (.rints .u8 t.2.2.2.2.1), (.rints .u8 t.2.2.2.2.2.1), (.int .u64 t.2.2.2.2.2.2.1), (.int .u64 t.2.2.2.2.2.2.2.1), (.int .u64 t.2.2.2.2.2.2.2.2.1), (.ints .u64 4 t.2.2.2.2.2.2.2.2.2.1), (.ints .u64 4 t.2.2.2.2.2.2.2.2.2.2.1), (.bool t.2.2.2.2.2.2.2.2.2.2.2.1), (.ints .u8 20 t.2.2.2.2.2.2.2.2.2.2.2.2.1), (.int .u64 t.2.2.2.2.2.2.2.2.2.2.2.2.2.1), (.int .u64 t.2.2.2.2.2.2.2.2.2.2.2.2.2.2.1), (.rints .u8 t.2.2.2.2.2.2.2.2.2.2.2.2.2.2.2.1), (.rints .u8 t.2.2.2.2.2.2.2.2.2.2.2.2.2.2.2.2)])], [])
def Faq.res : (LI × (LI × (Bool × (LI × (Int × (Int × (Int × (LI × (LI × (Bool × (LI × (Int × (Int × (LI × (LI × (LI × LI)))))))))))))))) → AV × Blks
 | u => ((.agg [(.ints .u8 20 u.1), (.ints .u64 4 u.2.1), (.bool u.2.2.1), (.ints .u8 20 u.2.2.2.1), (.own 0 1), (.own 1 1), (.int .u64 u.2.2.2.2.1), (.int .u64 u.2.2.2.2.2.1), (.int .u64 u.2.2.2.2.2.2.1), (.ints .u64 4 u.2.2.2.2.2.2.2.1), (.ints .u64 4 u.2.2.2.2.2.2.2.2.1), (.bool u.2.2.2.2.2.2.2.2.2.1), (.ints .u8 20 u.2.2.2.2.2.2.2.2.2.2.1), (.int .u64 u.2.2.2.2.2.2.2.2.2.2.2.1), (.int .u64 u.2.2.2.2.2.2.2.2.2.2.2.2.1), (.own 2 1), (.own 3 1)]), [(some (.ints .u8 u.2.2.2.2.2.2.2.2.2.2.2.2.2.1)), (some (.ints .u8 u.2.2.2.2.2.2.2.2.2.2.2.2.2.2.1)), (some (.ints .u8 u.2.2.2.2.2.2.2.2.2.2.2.2.2.2.2.1)), (some (.ints .u8 u.2.2.2.2.2.2.2.2.2.2.2.2.2.2.2.2))])
def Faq.resK {R : Type} (u : (LI × (LI × (Bool × (LI × (Int × (Int × (Int × (LI × (LI × (Bool × (LI × (Int × (Int × (LI × (LI × (LI × LI))))))))))))))))) (K : AV → Blks → Option R) : Option R := K (Faq.res u).1 (Faq.res u).2
def Faq.c (n : Nat) : Abs.Callee := .mk' [] [(some (.agg [none, none, none, none, (some (.ints .u8)), (some (.ints .u8)), none, none, none, none, none, none, none, none, none, (some (.ints .u8)), (some (.ints .u8))]))] Faq.pat (Faq.m n) Faq.resK
end
end
section
theorem Fo.gmap {α β : Type} (h : β → α) (mk0 : LI → β) (n : Nat) (a0 : LI) : Fo.g (fun a0 => (h (mk0 a0))) n a0 = (Fo.g mk0 n a0).map h := by
  unfold Fo.g
  exact (ite_map rfl rfl)
theorem Fo.run (n : Nat) (a0 : LI) : runF (Fo.C n) (Fo.A n) n Tryd.f52 [(.rints .u8 a0)] [] (fun v o => some (v, o)) = Fo.g (fun a0 => (((.own 0 1), [(some (.ints .u8 a0))]) : AV × Blks)) n a0 := by kernel_rfl
theorem Fo.call (hmix : Tryd.prog.follows .mixedOrders = true) (n : Nat) (t : LI) (u) (h : Fo.m n t = some u) : FnC Tryd.prog abiG 52 (Fo.shape t).1 (Fo.shape t).2 (Fo.res u).1 (Fo.res u).2 :=
  fnC1 (C := Fo.C n) (A := Fo.A n) (fn := Tryd.f52) rfl .nil hmix Tryd.func52 (by kernel_rfl) (lp := []) (by kernel_rfl) .nil
  (nj rfl) (by decide) rfl rfl (by show 1 ≤ Tryd.f52.ntmps; decide) (Fo.run n t) (Fo.gmap Fo.res (fun a0 => a0) n t) h
theorem Fo.s (hmix : Tryd.prog.follows .mixedOrders = true) (n : Nat) : CalleeS Tryd.prog abiG 52 (Fo.c n) :=
  .mk1 (res := Fo.res) (shape := Fo.shape) (fun R u K => rfl) (fun _ _ _ h => by unfold Fo.pat at h; split at h <;> cases h; rfl) (fun t u h => Fo.call hmix n t u h) Tryd.func52 (by decide) (by kernel_rfl)
end
section
theorem Faq.gmap {α β : Type} (h : β → α) (mk0 : LI → LI → Bool → LI → Int → Int → Int → LI → LI → Bool → LI → Int → Int → LI → LI → LI → LI → β) (n : Nat) (a0_0 : LI) (a0_1 : LI) (a0_2 : Bool) (a0_3 : LI) (a0_4 : LI) (a0_5 : LI) (a0_6 : Int) (a0_7 : Int) (a0_8 : Int) (a0_9 : LI) (a0_10 : LI) (a0_11 : Bool) (a0_12 : LI) (a0_13 : Int) (a0_14 : Int) (a0_15 : LI) (a0_16 : LI) : Faq.g (fun a0 a1 a2 a3 a4 a5 a6 a7 a8 a9 a10 a11 a12 a13 a14 a15 a16 => (h (mk0 a0 a1 a2 a3 a4 a5 a6 a7 a8 a9 a10 a11 a12 a13 a14 a15 a16))) n a0_0 a0_1 a0_2 a0_3 a0_4 a0_5 a0_6 a0_7 a0_8 a0_9 a0_10 a0_11 a0_12 a0_13 a0_14 a0_15 a0_16 = (Faq.g mk0 n a0_0 a0_1 a0_2 a0_3 a0_4 a0_5 a0_6 a0_7 a0_8 a0_9 a0_10 a0_11 a0_12 a0_13 a0_14 a0_15 a0_16).map h := by
  unfold Faq.g
  exact (bindO_map fun r2 => (bindO_map fun r4 => (bindO_map fun r6 => (bindO_map fun r8 => rfl))))
theorem Faq.run (n : Nat) (a0_0 : LI) (a0_1 : LI) (a0_2 : Bool) (a0_3 : LI) (a0_4 : LI) (a0_5 : LI) (a0_6 : Int) (a0_7 : Int) (a0_8 : Int) (a0_9 : LI) (a0_10 : LI) (a0_11 : Bool) (a0_12 : LI) (a0_13 : Int) (a0_14 : Int) (a0_15 : LI) (a0_16 : LI) : runF (Faq.C n) (Faq.A n) n Tryd.f36 [(.agg [(.ints .u8 20 a0_0), (.ints .u64 4 a0_1), (.bool a0_2), (.ints .u8 20 a0_3), (.rints .u8 a0_4), (.rints .u8 a0_5), (.int .u64 a0_6), (.int .u64 a0_7), (.int .u64 a0_8), (.ints .u64 4 a0_9), (.ints .u64 4 a0_10), (.bool a0_11), (.ints .u8 20 a0_12), (.int .u64 a0_13), (.int .u64 a0_14), (.rints .u8 a0_15), (.rints .u8 a0_16)])] [] (fun v o => some (v, o)) = Faq.g (fun a0 a1 a2 a3 a4 a5 a6 a7 a8 a9 a10 a11 a12 a13 a14 a15 a16 => (((.agg [(.ints .u8 20 a0), (.ints .u64 4 a1), (.bool a2), (.ints .u8 20 a3), (.own 0 1), (.own 1 1), (.int .u64 a4), (.int .u64 a5), (.int .u64 a6), (.ints .u64 4 a7), (.ints .u64 4 a8), (.bool a9), (.ints .u8 20 a10), (.int .u64 a11), (.int .u64 a12), (.own 2 1), (.own 3 1)]), [(some (.ints .u8 a13)), (some (.ints .u8 a14)), (some (.ints .u8 a15)), (some (.ints .u8 a16))]) : AV × Blks)) n a0_0 a0_1 a0_2 a0_3 a0_4 a0_5 a0_6 a0_7 a0_8 a0_9 a0_10 a0_11 a0_12 a0_13 a0_14 a0_15 a0_16 := by kernel_rfl
theorem Faq.call (hmix : Tryd.prog.follows .mixedOrders = true) (n : Nat) (t : (LI × (LI × (Bool × (LI × (LI × (LI × (Int × (Int × (Int × (LI × (LI × (Bool × (LI × (Int × (Int × (LI × LI))))))))))))))))) (u) (h : Faq.m n t = some u) : FnC Tryd.prog abiG 36 (Faq.shape t).1 (Faq.shape t).2 (Faq.res u).1 (Faq.res u).2 :=
  fnC1 (C := Faq.C n) (A := Faq.A n) (fn := Tryd.f36) rfl (.cons (Fo.s hmix n) .nil) hmix Tryd.func36 (by kernel_rfl) (lp := []) (by kernel_rfl) .nil
  (nj rfl) (by decide) rfl rfl (by show 1 ≤ Tryd.f36.ntmps; decide) (Faq.run n t.1 t.2.1 t.2.2.1 t.2.2.2.1 t.2.2.2.2.1 t.2.2.2.2.2.1 t.2.2.2.2.2.2.1 t.2.2.2.2.2.2.2.1 t.2.2.2.2.2.2.2.2.1 t.2.2.2.2.2.2.2.2.2.1 t.2.2.2.2.2.2.2.2.2.2.1 t.2.2.2.2.2.2.2.2.2.2.2.1 t.2.2.2.2.2.2.2.2.2.2.2.2.1 t.2.2.2.2.2.2.2.2.2.2.2.2.2.1 t.2.2.2.2.2.2.2.2.2.2.2.2.2.2.1 t.2.2.2.2.2.2.2.2.2.2.2.2.2.2.2.1 t.2.2.2.2.2.2.2.2.2.2.2.2.2.2.2.2) (Faq.gmap Faq.res (fun a0 a1 a2 a3 a4 a5 a6 a7 a8 a9 a10 a11 a12 a13 a14 a15 a16 => (a0, a1, a2, a3, a4, a5, a6, a7, a8, a9, a10, a11, a12, a13, a14, a15, a16)) n t.1 t.2.1 t.2.2.1 t.2.2.2.1 t.2.2.2.2.1 t.2.2.2.2.2.1 t.2.2.2.2.2.2.1 t.2.2.2.2.2.2.2.1 t.2.2.2.2.2.2.2.2.1 t.2.2.2.2.2.2.2.2.2.1 t.2.2.2.2.2.2.2.2.2.2.1 t.2.2.2.2.2.2.2.2.2.2.2.1 t.2.2.2.2.2.2.2.2.2.2.2.2.1 t.2.2.2.2.2.2.2.2.2.2.2.2.2.1 t.2.2.2.2.2.2.2.2.2.2.2.2.2.2.1 t.2.2.2.2.2.2.2.2.2.2.2.2.2.2.2.1 t.2.2.2.2.2.2.2.2.2.2.2.2.2.2.2.2) h
theorem Faq.s (hmix : Tryd.prog.follows .mixedOrders = true) (n : Nat) : CalleeS Tryd.prog abiG 36 (Faq.c n) :=
  .mk1 (res := Faq.res) (shape := Faq.shape) (fun R u K => rfl) (fun _ _ _ h => by unfold Faq.pat at h; split at h <;> cases h; rfl) (fun t u h => Faq.call hmix n t u h) Tryd.func36 (by decide) (by kernel_rfl)
end
section
noncomputable section
noncomputable def Fbc.C (n : Nat) : Ctx := ⟨Tryd.prog, abiG, lookC [(51, Fbg.c n), (95, Fch.c n), (49, Fcd.c n)], fun _ => false⟩
noncomputable def Fbc.A (n : Nat) : Ann := ⟨Tryd.f60.ntmps, 0, noNL, [], [none], fun k => match k with
 | _ => none, noNL, lookJ []⟩
def Fbc.g {α : Type} (mk0 : Int → α) (n : Nat) (a0_0 : LI) (a0_1 : LI) (a0_2 : Bool) (a0_3 : LI) (a0_4 : LI) (a0_5 : LI) (a0_6 : Int) (a0_7 : Int) (a0_8 : Int) (a0_9 : LI) (a0_10 : LI) (a0_11 : Bool) (a0_12 : LI) (a0_13 : Int) (a0_14 : Int) (a0_15 : LI) (a0_16 : LI) : Option α :=
 if (decide ((((List.length a0_4) : Nat) : Int) > 4096)) = true then
  some (mk0 150)
 else
  if (decide ((((List.length a0_5) : Nat) : Int) > 4096)) = true then
   some (mk0 150)
  else
   if (decide ((((List.length a0_15) : Nat) : Int) > 4096)) = true then
    some (mk0 150)
   else
    if (decide ((((List.length a0_16) : Nat) : Int) > 4096)) = true then
     some (mk0 150)
    else
     if (decide (a0_6 > 1048576)) = true then
      some (mk0 150)
     else
      if (decide (a0_7 > 1048576)) = true then
       some (mk0 150)
      else
       if (decide (a0_8 > 1048576)) = true then
        some (mk0 150)
       else
        if (decide (a0_13 > 1048576)) = true then
         some (mk0 150)
        else
         if (decide (a0_14 > 1048576)) = true then
          some (mk0 150)
         else
          bindO (Fbg.m n 120) fun r20 =>
           bindO (Fch.m n (r20, a0_9)) fun r22 =>
            if (!(r22 == [0, 0, 0, 0])) = true then
             some (mk0 150)
            else
             bindO (Fcd.m n (a0_10, a0_9)) fun r26 =>
              if (decide (r26 > 0)) = true then
               some (mk0 150)
              else
               if (!a0_2) = true then
                if (!(a0_3 == ([0, 0, 0, 0, 0, 0, 0, 0, 0, 0, 0, 0, 0, 0, 0, 0, 0, 0, 0, 0] : List Int))) = true then
                 some (mk0 150)
                else
                 if (decide ((((List.length a0_4) : Nat) : Int) > 0)) = true then
                  some (mk0 150)
                 else
                  if (!a0_11) = true then
                   if (!(a0_12 == ([0, 0, 0, 0, 0, 0, 0, 0, 0, 0, 0, 0, 0, 0, 0, 0, 0, 0, 0, 0] : List Int))) = true then
                    some (mk0 150)
                   else
                    if (decide ((((List.length a0_15) : Nat) : Int) > 0)) = true then
                     some (mk0 150)
                    else
                     if (a0_13 != 0) = true then
                      some (mk0 150)
                     else
                      if (a0_14 != 0) = true then
                       some (mk0 150)
                      else
                       some (mk0 0)
                  else
                   some (mk0 0)
               else
                if (!a0_11) = true then
                 if (!(a0_12 == ([0, 0, 0, 0, 0, 0, 0, 0, 0, 0, 0, 0, 0, 0, 0, 0, 0, 0, 0, 0] : List Int))) = true then
                  some (mk0 150)
                 else
                  if (decide ((((List.length a0_15) : Nat) : Int) > 0)) = true then
                   some (mk0 150)
                  else
                   if (a0_13 != 0) = true then
                    some (mk0 150)
                   else
                    if (a0_14 != 0) = true then
                     some (mk0 150)
                    else
                     some (mk0 0)
                else
                 some (mk0 0)
def Fbc.m (n : Nat) (t : (LI × (LI × (Bool × (LI × (LI × (LI × (Int × (Int × (Int × (LI × (LI × (Bool × (LI × (Int × (Int × (LI × LI))))))))))))))))) : Option Int := Fbc.g (fun a0 => a0) n t.1 t.2.1 t.2.2.1 t.2.2.2.1 t.2.2.2.2.1 t.2.2.2.2.2.1 t.2.2.2.2.2.2.1 t.2.2.2.2.2.2.2.1 t.2.2.2.2.2.2.2.2.1 t.2.2.2.2.2.2.2.2.2.1 t.2.2.2.2.2.2.2.2.2.2.1 t.2.2.2.2.2.2.2.2.2.2.2.1 t.2.2.2.2.2.2.2.2.2.2.2.2.1 t.2.2.2.2.2.2.2.2.2.2.2.2.2.1 t.2.2.2.2.2.2.2.2.2.2.2.2.2.2.1 t.2.2.2.2.2.2.2.2.2.2.2.2.2.2.2.1 t.2.2.2.2.2.2.2.2.2.2.2.2.2.2.2.2
def Fbc.pat : List AV → Blks → Option (LI × (LI × (Bool × (LI × (LI × (LI × (Int × (Int × (Int × (LI × (LI × (Bool × (LI × (Int × (Int × (LI × LI))))))))))))))))
 | [(.agg [(.ints .u8 20 a0_0), (.ints .u64 4 a0_1), (.bool a0_2), (.ints .u8 20 a0_3), (.rints .u8 a0_4), (.rints .u8 a0_5), (.int .u64 a0_6), (.int .u64 a0_7), (.int .u64 a0_8), (.ints .u64 4 a0_9), (.ints .u64 4 a0_10), (.bool a0_11), (.ints .u8 20 a0_12), (.int .u64 a0_13), (.int .u64 a0_14), (.rints .u8 a0_15), (.rints .u8 a0_16)])], [] => some (a0_0, a0_1, a0_2, a0_3, a0_4, a0_5, a0_6, a0_7, a0_8, a0_9, a0_10, a0_11, a0_12, a0_13, a0_14, a0_15, a0_16)
 | _, _ => none
def Fbc.shape (t : (LI × (LI × (Bool × (LI × (LI × (LI × (Int × (Int × (Int × (LI × (LI × (Bool × (LI × (Int × (Int × (LI × LI))))))))))))))))) : List AV × Blks := ([(.agg [(.ints .u8 20 t.1), (.ints .u64 4 t.2.1), (.bool t.2.2.1), (.ints .u8 20 t.2.2.2.1), (.rints .u8 t.2.2.2.2.1), (.rints .u8 t.2.2.2.2.2.1), (.int .u64 t.2.2.2.2.2.2.1), (.int .u64 t.2.2.2.2.2.2.2.1), (.int .u64 t.2.2.2.2.2.2.2.2.1), (.ints .u64 4 t.2.2.2.2.2.2.2.2.2.1), (.ints .u64 4 t.2.2.2.2.2.2.2.2.2.2.1), (.bool t.2.2.2.2.2.2.2.2.2.2.2.1), (.ints .u8 20 t.2.2.2.2.2.2.2.2.2.2.2.2.1), (.int .u64 t.2.2.2.2.2.2.2.2.2.2.2.2.2.1), (.int .u64 t.2.2.2.2.2.2.2.2.2.2.2.2.2.2.1), (.rints .u8 t.2.2.2.2.2.2.2.2.2.2.2.2.2.2.2.1), (.rints .u8 t.2.2.2.2.2.2.2.2.2.2.2.2.2.2.2.2)])], [])
def Fbc.res : Int → AV × Blks
 | u => ((.int .i64 u), [])
def Fbc.resK {R : Type} (u : Int) (K : AV → Blks → Option R) : Option R := K (Fbc.res u).1 (Fbc.res u).2
def Fbc.c (n : Nat) : Abs.Callee := .mk' [] [(some (.agg [none, none, none, none, (some (.ints .u8)), (some (.ints .u8)), none, none, none, none, none, none, none, none, none, (some (.ints .u8)), (some (.ints .u8))]))] Fbc.pat (Fbc.m n) Fbc.resK
end
end
section
theorem Fbc.gmap {α β : Type} (h : β → α) (mk0 : Int → β) (n : Nat) (a0_0 : LI) (a0_1 : LI) (a0_2 : Bool) (a0_3 : LI) (a0_4 : LI) (a0_5 : LI) (a0_6 : Int) (a0_7 : Int) (a0_8 : Int) (a0_9 : LI) (a0_10 : LI) (a0_11 : Bool) (a0_12 : LI) (a0_13 : Int) (a0_14 : Int) (a0_15 : LI) (a0_16 : LI) : Fbc.g (fun a0 => (h (mk0 a0))) n a0_0 a0_1 a0_2 a0_3 a0_4 a0_5 a0_6 a0_7 a0_8 a0_9 a0_10 a0_11 a0_12 a0_13 a0_14 a0_15 a0_16 = (Fbc.g mk0 n a0_0 a0_1 a0_2 a0_3 a0_4 a0_5 a0_6 a0_7 a0_8 a0_9 a0_10 a0_11 a0_12 a0_13 a0_14 a0_15 a0_16).map h := by
  unfold Fbc.g
  exact (ite_map rfl (ite_map rfl (ite_map rfl (ite_map rfl (ite_map rfl (ite_map rfl (ite_map rfl (ite_map rfl (ite_map rfl (bindO_map fun r20 => (bindO_map fun r22 => (ite_map rfl (bindO_map fun r26 => (ite_map rfl (ite_map (ite_map rfl (ite_map rfl (ite_map (ite_map rfl (ite_map rfl (ite_map rfl (ite_map rfl rfl)))) rfl))) (ite_map (ite_map rfl (ite_map rfl (ite_map rfl (ite_map rfl rfl)))) rfl))))))))))))))))
theorem Fbc.run (n : Nat) (a0_0 : LI) (a0_1 : LI) (a0_2 : Bool) (a0_3 : LI) (a0_4 : LI) (a0_5 : LI) (a0_6 : Int) (a0_7 : Int) (a0_8 : Int) (a0_9 : LI) (a0_10 : LI) (a0_11 : Bool) (a0_12 : LI) (a0_13 : Int) (a0_14 : Int) (a0_15 : LI) (a0_16 : LI) : runF (Fbc.C n) (Fbc.A n) n Tryd.f60 [(.agg [(.ints .u8 20 a0_0), (.ints .u64 4 a0_1), (.bool a0_2), (.ints .u8 20 a0_3), (.rints .u8 a0_4), (.rints .u8 a0_5), (.int .u64 a0_6), (.int .u64 a0_7), (.int .u64 a0_8), (.ints .u64 4 a0_9), (.ints .u64 4 a0_10), (.bool a0_11), (.ints .u8 20 a0_12), (.int .u64 a0_13), (.int .u64 a0_14), (.rints .u8 a0_15), (.rints .u8 a0_16)])] [] (fun v o => some (v, o)) = Fbc.g (fun a0 => (((.int .i64 a0), []) : AV × Blks)) n a0_0 a0_1 a0_2 a0_3 a0_4 a0_5 a0_6 a0_7 a0_8 a0_9 a0_10 a0_11 a0_12 a0_13 a0_14 a0_15 a0_16 := by kernel_rfl
theorem Fbc.call (hmix : Tryd.prog.follows .mixedOrders = true) (n : Nat) (t : (LI × (LI × (Bool × (LI × (LI × (LI × (Int × (Int × (Int × (LI × (LI × (Bool × (LI × (Int × (Int × (LI × LI))))))))))))))))) (u) (h : Fbc.m n t = some u) : FnC Tryd.prog abiG 60 (Fbc.shape t).1 (Fbc.shape t).2 (Fbc.res u).1 (Fbc.res u).2 :=
  fnC1 (C := Fbc.C n) (A := Fbc.A n) (fn := Tryd.f60) rfl (.cons (Fbg.s hmix n) (.cons (Fch.s hmix n) (.cons (Fcd.s hmix n) .nil))) hmix Tryd.func60 (by kernel_rfl) (lp := []) (by kernel_rfl) .nil
  (nj rfl) (by decide) rfl rfl (by show 1 ≤ Tryd.f60.ntmps; decide) (Fbc.run n t.1 t.2.1 t.2.2.1 t.2.2.2.1 t.2.2.2.2.1 t.2.2.2.2.2.1 t.2.2.2.2.2.2.1 t.2.2.2.2.2.2.2.1 t.2.2.2.2.2.2.2.2.1 t.2.2.2.2.2.2.2.2.2.1 t.2.2.2.2.2.2.2.2.2.2.1 t.2.2.2.2.2.2.2.2.2.2.2.1 t.2.2.2.2.2.2.2.2.2.2.2.2.1 t.2.2.2.2.2.2.2.2.2.2.2.2.2.1 t.2.2.2.2.2.2.2.2.2.2.2.2.2.2.1 t.2.2.2.2.2.2.2.2.2.2.2.2.2.2.2.1 t.2.2.2.2.2.2.2.2.2.2.2.2.2.2.2.2) (Fbc.gmap Fbc.res (fun a0 => a0) n t.1 t.2.1 t.2.2.1 t.2.2.2.1 t.2.2.2.2.1 t.2.2.2.2.2.1 t.2.2.2.2.2.2.1 t.2.2.2.2.2.2.2.1 t.2.2.2.2.2.2.2.2.1 t.2.2.2.2.2.2.2.2.2.1 t.2.2.2.2.2.2.2.2.2.2.1 t.2.2.2.2.2.2.2.2.2.2.2.1 t.2.2.2.2.2.2.2.2.2.2.2.2.1 t.2.2.2.2.2.2.2.2.2.2.2.2.2.1 t.2.2.2.2.2.2.2.2.2.2.2.2.2.2.1 t.2.2.2.2.2.2.2.2.2.2.2.2.2.2.2.1 t.2.2.2.2.2.2.2.2.2.2.2.2.2.2.2.2) h
theorem Fbc.s (hmix : Tryd.prog.follows .mixedOrders = true) (n : Nat) : CalleeS Tryd.prog abiG 60 (Fbc.c n) :=
  .mk1 (res := Fbc.res) (shape := Fbc.shape) (fun R u K => rfl) (fun _ _ _ h => by unfold Fbc.pat at h; split at h <;> cases h; rfl) (fun t u h => Fbc.call hmix n t u h) Tryd.func60 (by decide) (by kernel_rfl)
end
section
noncomputable section
noncomputable def Fcj.C (n : Nat) : Ctx := ⟨Tryd.prog, abiG, lookC [], fun _ => false⟩
noncomputable def Fcj.A (n : Nat) : Ann := ⟨Tryd.f58.ntmps, 0, noNL, [], [none], fun k => match k with
 | _ => none, noNL, lookJ []⟩
def Fcj.g {α : Type} (mk0 : Bool → α) (n : Nat) (a0_0 : LI) (a0_1 : LI) (a0_2 : Bool) (a0_3 : LI) (a0_4 : LI) (a0_5 : LI) (a0_6 : Int) (a0_7 : Int) (a0_8 : Int) (a0_9 : LI) (a0_10 : LI) (a0_11 : Bool) (a0_12 : LI) (a0_13 : Int) (a0_14 : Int) (a0_15 : LI) (a0_16 : LI) (a1 : Int) : Option α :=
 if (decide ((((List.length a0_4) : Nat) : Int) ≤ a1)) = true then
  if (decide ((((List.length a0_5) : Nat) : Int) ≤ a1)) = true then
   if (decide ((((List.length a0_15) : Nat) : Int) ≤ a1)) = true then
    some (mk0 (decide ((((List.length a0_16) : Nat) : Int) ≤ a1)))
   else
    some (mk0 false)
  else
   some (mk0 false)
 else
  some (mk0 false)
def Fcj.m (n : Nat) (t : (LI × (LI × (Bool × (LI × (LI × (LI × (Int × (Int × (Int × (LI × (LI × (Bool × (LI × (Int × (Int × (LI × (LI × Int)))))))))))))))))) : Option Bool := Fcj.g (fun a0 => a0) n t.1 t.2.1 t.2.2.1 t.2.2.2.1 t.2.2.2.2.1 t.2.2.2.2.2.1 t.2.2.2.2.2.2.1 t.2.2.2.2.2.2.2.1 t.2.2.2.2.2.2.2.2.1 t.2.2.2.2.2.2.2.2.2.1 t.2.2.2.2.2.2.2.2.2.2.1 t.2.2.2.2.2.2.2.2.2.2.2.1 t.2.2.2.2.2.2.2.2.2.2.2.2.1 t.2.2.2.2.2.2.2.2.2.2.2.2.2.1 t.2.2.2.2.2.2.2.2.2.2.2.2.2.2.1 t.2.2.2.2.2.2.2.2.2.2.2.2.2.2.2.1 t.2.2.2.2.2.2.2.2.2.2.2.2.2.2.2.2.1 t.2.2.2.2.2.2.2.2.2.2.2.2.2.2.2.2.2
def Fcj.pat : List AV → Blks → Option (LI × (LI × (Bool × (LI × (LI × (LI × (Int × (Int × (Int × (LI × (LI × (Bool × (LI × (Int × (Int × (LI × (LI × Int)))))))))))))))))
 | [(.agg [(.ints .u8 20 a0_0), (.ints .u64 4 a0_1), (.bool a0_2), (.ints .u8 20 a0_3), (.rints .u8 a0_4), (.rints .u8 a0_5), (.int .u64 a0_6), (.int .u64 a0_7), (.int .u64 a0_8), (.ints .u64 4 a0_9), (.ints .u64 4 a0_10), (.bool a0_11), (.ints .u8 20 a0_12), (.int .u64 a0_13), (.int .u64 a0_14), (.rints .u8 a0_15), (.rints .u8 a0_16)]), (.int .i64 a1)], [] => some (a0_0, a0_1, a0_2, a0_3, a0_4, a0_5, a0_6, a0_7, a0_8, a0_9, a0_10, a0_11, a0_12, a0_13, a0_14, a0_15, a0_16, a1)
 | _, _ => none
def Fcj.shape (t : (LI × (LI × (Bool × (LI × (LI × (LI × (Int × (Int × (Int × (LI × (LI × (Bool × (LI × (Int × (Int × (LI × (LI × Int)))))))))))))))))) : List AV × Blks := ([(.agg [(.ints .u8 20 t.1), (.ints .u64 4 t.2.1), (.bool t.2.2.1), (.ints .u8 20 t.2.2.2.1), (.rints .u8 t.2.2.2.2.1), (.rints .u8 t.2.2.2.2.2.1), (.int .u64 t.2.2.2.2.2.2.1), (.int .u64 t.2.2.2.2.2.2.2.1), (.int .u64 t.2.2.2.2.2.2.2.2.1), (.ints .u64 4 t.2.2.2.2.2.2.2.2.2.1), (.ints .u64 4 t.2.2.2.2.2.2.2.2.2.2.1), (.bool t.2.2.2.2.2.2.2.2.2.2.2.1), (.ints .u8 20 t.2.2.2.2.2.2.2.2.2.2.2.2.1), (.int .u64 t.2.2.2.2.2.2.2.2.2.2.2.2.2.1), (.int .u64 t.2.2.2.2.2.2.2.2.2.2.2.2.2.2.1), (.rints .u8 t.2.2.2.2.2.2.2.2.2.2.2.2.2.2.2.1), (.rints .u8 t.2.2.2.2.2.2.2.2.2.2.2.2.2.2.2.2.1)]), (.int .i64 t.2.2.2.2.2.2.2.2.2.2.2.2.2.2.2.2.2)], [])
def Fcj.res : Bool → AV × Blks
 | u => ((.bool u), [])
def Fcj.resK {R : Type} (u : Bool) (K : AV → Blks → Option R) : Option R := K (Fcj.res u).1 (Fcj.res u).2
def Fcj.c (n : Nat) : Abs.Callee := .mk' [] [(some (.agg [none, none, none, none, (some (.ints .u8)), (some (.ints .u8)), none, none, none, none, none, none, none, none, none, (some (.ints .u8)), (some (.ints .u8))])), none] Fcj.pat (Fcj.m n) Fcj.resK
end
end
