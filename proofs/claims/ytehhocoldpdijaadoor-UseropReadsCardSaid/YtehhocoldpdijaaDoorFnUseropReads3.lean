/- What the program's functions compute, as plain functions, each with its proof: the function does just that. Condition: the plain function has an answer. -/
import Derived.Test.YtehhocoldpdijaaDoorFnUseropReads2
import Derived.Test.YtehhocoldpdijaaDoorFnUseropReads1
import Derived.Test.YtehhocoldpdijaaDoorAbsR6
import Derived.Test.YtehhocoldpdijaaDoorProg
set_option linter.unusedVariables false
set_option linter.unusedSimpArgs false
set_option maxRecDepth 100000
open Go Go.Abs Go.Proofs
section
theorem Fah.gmap {α β : Type} (h : β → α) (mk0 : Bool → LI → β) (n : Nat) (a0 : LI) : Fah.g (fun a0 a1 => (h (mk0 a0 a1))) n a0 = (Fah.g mk0 n a0).map h := by
  unfold Fah.g
  exact rfl
theorem Fah.run (n : Nat) (a0 : LI) : runF (Fah.C n) (Fah.A n) n Tryd.f68 [(.ints .u64 4 a0)] [] (fun v o => some (v, o)) = Fah.g (fun a0 a1 => (((.agg [(.bool a0), (.ints .u64 4 a1), .snil]), []) : AV × Blks)) n a0 := by kernel_rfl
theorem Fah.call (hmix : Tryd.prog.follows .mixedOrders = true) (n : Nat) (t : LI) (u) (h : Fah.m n t = some u) : FnC Tryd.prog abiG 68 (Fah.shape t).1 (Fah.shape t).2 (Fah.res u).1 (Fah.res u).2 :=
  fnC1 (C := Fah.C n) (A := Fah.A n) (fn := Tryd.f68) rfl .nil hmix Tryd.func68 (by kernel_rfl) (lp := []) (by kernel_rfl) .nil
  (nj rfl) (by decide) rfl rfl (by show 1 ≤ Tryd.f68.ntmps; decide) (Fah.run n t) (Fah.gmap Fah.res (fun a0 a1 => (a0, a1)) n t) h
theorem Fah.s (hmix : Tryd.prog.follows .mixedOrders = true) (n : Nat) : CalleeS Tryd.prog abiG 68 (Fah.c n) :=
  .mk1 (res := Fah.res) (shape := Fah.shape) (fun R u K => rfl) (fun _ _ _ h => by unfold Fah.pat at h; split at h <;> cases h; rfl) (fun t u h => Fah.call hmix n t u h) Tryd.func68 (by decide) (by kernel_rfl)
end
section
theorem Fai.gmap {α β : Type} (h : β → α) (mk0 : LA → β) (n : Nat) (a0_0 : LI) (a0_1 : LI) (a0_2 : Bool) (a0_3 : LI) (a0_4 : LI) (a0_5 : LI) (a0_6 : Int) (a0_7 : Int) (a0_8 : Int) (a0_9 : LI) (a0_10 : LI) (a0_11 : Bool) (a0_12 : LI) (a0_13 : Int) (a0_14 : Int) (a0_15 : LI) (a0_16 : LI) : Fai.g (fun a0 => (h (mk0 a0))) n a0_0 a0_1 a0_2 a0_3 a0_4 a0_5 a0_6 a0_7 a0_8 a0_9 a0_10 a0_11 a0_12 a0_13 a0_14 a0_15 a0_16 = (Fai.g mk0 n a0_0 a0_1 a0_2 a0_3 a0_4 a0_5 a0_6 a0_7 a0_8 a0_9 a0_10 a0_11 a0_12 a0_13 a0_14 a0_15 a0_16).map h := by
  unfold Fai.g
  exact (bindO_map fun r2 => (bindO_map fun r4 => (ite_map (bindO_map fun r8 => (ite_map (bindO_map fun r12 => (bindO_map fun r14 => (bindO_map fun r16 => (bindO_map fun r18 => (bindO_map fun r20 => (bindO_map fun r22 => (bindO_map fun r24 => (bindO_map fun r26 => (bindO_map fun r28 => (bindO_map fun r30 => (bindO_map fun r32 => (bindO_map fun r34 => (bindO_map fun r36 => (bindO_map fun r38 => (bindO_map fun r40 => (bindO_map fun r42 => rfl)))))))))))))))) (bindO_map fun r12 => (bindO_map fun r14 => (bindO_map fun r16 => (bindO_map fun r18 => (bindO_map fun r20 => (bindO_map fun r22 => (bindO_map fun r24 => (bindO_map fun r26 => (bindO_map fun r28 => (bindO_map fun r30 => (bindO_map fun r32 => (bindO_map fun r34 => (bindO_map fun r36 => rfl))))))))))))))) (ite_map (bindO_map fun r10 => (bindO_map fun r12 => (bindO_map fun r14 => (bindO_map fun r16 => (bindO_map fun r18 => (bindO_map fun r20 => (bindO_map fun r22 => (bindO_map fun r24 => (bindO_map fun r26 => (bindO_map fun r28 => (bindO_map fun r30 => (bindO_map fun r32 => (bindO_map fun r34 => (bindO_map fun r36 => (bindO_map fun r38 => (bindO_map fun r40 => rfl)))))))))))))))) (bindO_map fun r10 => (bindO_map fun r12 => (bindO_map fun r14 => (bindO_map fun r16 => (bindO_map fun r18 => (bindO_map fun r20 => (bindO_map fun r22 => (bindO_map fun r24 => (bindO_map fun r26 => (bindO_map fun r28 => (bindO_map fun r30 => (bindO_map fun r32 => (bindO_map fun r34 => rfl)))))))))))))))))
theorem Fai.run (n : Nat) (a0_0 : LI) (a0_1 : LI) (a0_2 : Bool) (a0_3 : LI) (a0_4 : LI) (a0_5 : LI) (a0_6 : Int) (a0_7 : Int) (a0_8 : Int) (a0_9 : LI) (a0_10 : LI) (a0_11 : Bool) (a0_12 : LI) (a0_13 : Int) (a0_14 : Int) (a0_15 : LI) (a0_16 : LI) : runF (Fai.C n) (Fai.A n) n Tryd.f38 [(.agg [(.ints .u8 20 a0_0), (.ints .u64 4 a0_1), (.bool a0_2), (.ints .u8 20 a0_3), (.rints .u8 a0_4), (.rints .u8 a0_5), (.int .u64 a0_6), (.int .u64 a0_7), (.int .u64 a0_8), (.ints .u64 4 a0_9), (.ints .u64 4 a0_10), (.bool a0_11), (.ints .u8 20 a0_12), (.int .u64 a0_13), (.int .u64 a0_14), (.rints .u8 a0_15), (.rints .u8 a0_16)])] [] (fun v o => some (v, o)) = Fai.g (fun a0 => (((.robjs 69 6 a0), []) : AV × Blks)) n a0_0 a0_1 a0_2 a0_3 a0_4 a0_5 a0_6 a0_7 a0_8 a0_9 a0_10 a0_11 a0_12 a0_13 a0_14 a0_15 a0_16 := by kernel_rfl
theorem Fai.call (hmix : Tryd.prog.follows .mixedOrders = true) (n : Nat) (t : (LI × (LI × (Bool × (LI × (LI × (LI × (Int × (Int × (Int × (LI × (LI × (Bool × (LI × (Int × (Int × (LI × LI))))))))))))))))) (u) (h : Fai.m n t = some u) : FnC Tryd.prog abiG 38 (Fai.shape t).1 (Fai.shape t).2 (Fai.res u).1 (Fai.res u).2 :=
  fnC1 (C := Fai.C n) (A := Fai.A n) (fn := Tryd.f38) rfl (.cons (Ft.s hmix n) (.cons (Fag.s hmix n) (.cons (Fbf.s hmix n) (.cons (Fq.s hmix n) (.cons (Fbj.s hmix n) (.cons (Fah.s hmix n) .nil)))))) hmix Tryd.func38 (by kernel_rfl) (lp := []) (by kernel_rfl) .nil
  (nj rfl) (by decide) rfl rfl (by show 1 ≤ Tryd.f38.ntmps; decide) (Fai.run n t.1 t.2.1 t.2.2.1 t.2.2.2.1 t.2.2.2.2.1 t.2.2.2.2.2.1 t.2.2.2.2.2.2.1 t.2.2.2.2.2.2.2.1 t.2.2.2.2.2.2.2.2.1 t.2.2.2.2.2.2.2.2.2.1 t.2.2.2.2.2.2.2.2.2.2.1 t.2.2.2.2.2.2.2.2.2.2.2.1 t.2.2.2.2.2.2.2.2.2.2.2.2.1 t.2.2.2.2.2.2.2.2.2.2.2.2.2.1 t.2.2.2.2.2.2.2.2.2.2.2.2.2.2.1 t.2.2.2.2.2.2.2.2.2.2.2.2.2.2.2.1 t.2.2.2.2.2.2.2.2.2.2.2.2.2.2.2.2) (Fai.gmap Fai.res (fun a0 => a0) n t.1 t.2.1 t.2.2.1 t.2.2.2.1 t.2.2.2.2.1 t.2.2.2.2.2.1 t.2.2.2.2.2.2.1 t.2.2.2.2.2.2.2.1 t.2.2.2.2.2.2.2.2.1 t.2.2.2.2.2.2.2.2.2.1 t.2.2.2.2.2.2.2.2.2.2.1 t.2.2.2.2.2.2.2.2.2.2.2.1 t.2.2.2.2.2.2.2.2.2.2.2.2.1 t.2.2.2.2.2.2.2.2.2.2.2.2.2.1 t.2.2.2.2.2.2.2.2.2.2.2.2.2.2.1 t.2.2.2.2.2.2.2.2.2.2.2.2.2.2.2.1 t.2.2.2.2.2.2.2.2.2.2.2.2.2.2.2.2) h
theorem Fai.s (hmix : Tryd.prog.follows .mixedOrders = true) (n : Nat) : CalleeS Tryd.prog abiG 38 (Fai.c n) :=
  .mk1 (res := Fai.res) (shape := Fai.shape) (fun R u K => rfl) (fun _ _ _ h => by unfold Fai.pat at h; split at h <;> cases h; rfl) (fun t u h => Fai.call hmix n t u h) Tryd.func38 (by decide) (by kernel_rfl)
end
section
noncomputable section
noncomputable def Fu.C (n : Nat) : Ctx := ⟨Tryd.prog, abiG, lookC [(57, Fam.c n), (56, Fan.c n)], fun _ => false⟩
noncomputable def Fu.A (n : Nat) : Ann := ⟨Tryd.f22.ntmps, 0, noNL, [], [(some (.ints .u8))], fun k => match k with
 | _ => none, noNL, lookJ []⟩
def Fu.g {α : Type} (mk0 : LI → α) (n : Nat) (a0 : ByteArray) : Option α :=
 bindO (Fam.m n (Go.Abs.bytesOf a0)) fun r2 =>
  bindO (Fan.m n r2) fun r4 =>
   if 4 ≤ (((List.length r4) : Nat) : Int) then
    some (mk0 (Go.Abs.partL r4 0 (Go.Abs.span (List.length r4) 0 (Option.some 4))))
   else
    none
def Fu.m (n : Nat) (t : ByteArray) : Option LI := Fu.g (fun a0 => a0) n t
def Fu.pat : List AV → Blks → Option ByteArray
 | [(.str a0)], [] => some a0
 | _, _ => none
def Fu.shape (t : ByteArray) : List AV × Blks := ([(.str t)], [])
def Fu.res : LI → AV × Blks
 | u => ((.own 0 1), [(some (.ints .u8 u))])
def Fu.resK {R : Type} (u : LI) (K : AV → Blks → Option R) : Option R := K (Fu.res u).1 (Fu.res u).2
def Fu.c (n : Nat) : Abs.Callee := .mk' [] [none] Fu.pat (Fu.m n) Fu.resK
end
end
section
theorem Fu.gmap {α β : Type} (h : β → α) (mk0 : LI → β) (n : Nat) (a0 : ByteArray) : Fu.g (fun a0 => (h (mk0 a0))) n a0 = (Fu.g mk0 n a0).map h := by
  unfold Fu.g
  exact (bindO_map fun r2 => (bindO_map fun r4 => (ite_map rfl rfl)))
theorem Fu.run (n : Nat) (a0 : ByteArray) : runF (Fu.C n) (Fu.A n) n Tryd.f22 [(.str a0)] [] (fun v o => some (v, o)) = Fu.g (fun a0 => (((.own 0 1), [(some (.ints .u8 a0))]) : AV × Blks)) n a0 := by kernel_rfl
theorem Fu.call (hmix : Tryd.prog.follows .mixedOrders = true) (n : Nat) (t : ByteArray) (u) (h : Fu.m n t = some u) : FnC Tryd.prog abiG 22 (Fu.shape t).1 (Fu.shape t).2 (Fu.res u).1 (Fu.res u).2 :=
  fnC1 (C := Fu.C n) (A := Fu.A n) (fn := Tryd.f22) rfl (.cons (Fam.s hmix n) (.cons (Fan.s hmix n) .nil)) hmix Tryd.func22 (by kernel_rfl) (lp := []) (by kernel_rfl) .nil
  (nj rfl) (by decide) rfl rfl (by show 1 ≤ Tryd.f22.ntmps; decide) (Fu.run n t) (Fu.gmap Fu.res (fun a0 => a0) n t) h
theorem Fu.s (hmix : Tryd.prog.follows .mixedOrders = true) (n : Nat) : CalleeS Tryd.prog abiG 22 (Fu.c n) :=
  .mk1 (res := Fu.res) (shape := Fu.shape) (fun R u K => rfl) (fun _ _ _ h => by unfold Fu.pat at h; split at h <;> cases h; rfl) (fun t u h => Fu.call hmix n t u h) Tryd.func22 (by decide) (by kernel_rfl)
end
section
noncomputable section
def Fv.g {α : Type} (mk0 : LI → α) (n : Nat) (a0 : ByteArray) : Option α :=
 bindO (Fci.m n (Go.Abs.bytesOf a0)) fun r2 =>
  bindO (Fbe.m n r2) fun r4 =>
   if 4 ≤ (((List.length r4) : Nat) : Int) then
    some (mk0 (Go.Abs.partL r4 0 (Go.Abs.span (List.length r4) 0 (Option.some 4))))
   else
    none
def Fv.m (n : Nat) (t : ByteArray) : Option LI := Fv.g (fun a0 => a0) n t
end
end
section
noncomputable section
noncomputable def Fw.C (n : Nat) : Ctx := ⟨Tryd.prog, abiG, lookC [(22, Fu.c n), (69, Fbf.c n), (56, Fan.c n), (38, Fai.c n), (20, Fap.c n), (99, Fa.c n)], fun _ => false⟩
noncomputable def Fw.A (n : Nat) : Ann := ⟨Tryd.f66.ntmps, 0, noNL, [], [(some (.ints .u8))], fun k => match k with
 | _ => none, noNL, lookJ []⟩
def Fw.g {α : Type} (mk0 : LI → α) (n : Nat) (a0 : ByteArray) (a1_0 : LI) (a1_1 : LI) (a1_2 : Bool) (a1_3 : LI) (a1_4 : LI) (a1_5 : LI) (a1_6 : Int) (a1_7 : Int) (a1_8 : Int) (a1_9 : LI) (a1_10 : LI) (a1_11 : Bool) (a1_12 : LI) (a1_13 : Int) (a1_14 : Int) (a1_15 : LI) (a1_16 : LI) (a2 : LI) (a3 : LI) : Option α :=
 if ((ByteArray.size a0) + 83) ≤ 1152921504606846976 then
  bindO (Fu.m n (a0 ++ (b8 [40, 40, 97, 100, 100, 114, 101, 115, 115, 44, 117, 105, 110, 116, 50, 53, 54, 44, 98, 121, 116, 101, 115, 44, 98, 121, 116, 101, 115, 44, 98, 121, 116, 101, 115, 51, 50, 44, 117, 105, 110, 116, 50, 53, 54, 44, 98, 121, 116, 101, 115, 51, 50, 44, 98, 121, 116, 101, 115, 44, 98, 121, 116, 101, 115, 41, 44, 98, 121, 116, 101, 115, 51, 50, 44, 117, 105, 110, 116, 50, 53, 54, 41]))) fun r4 =>
   bindO (Fbf.m n 96) fun r6 =>
    bindO (Fan.m n r6) fun r8 =>
     bindO (Fan.m n a2) fun r10 =>
      bindO (Fan.m n a3) fun r12 =>
       bindO (Fai.m n (a1_0, a1_1, a1_2, a1_3, a1_4, a1_5, a1_6, a1_7, a1_8, a1_9, a1_10, a1_11, a1_12, a1_13, a1_14, a1_15, a1_16)) fun r14 =>
        bindO (Fap.m n r14) fun r16 =>
         bindO (Fa.m n [(AV.rints .u8 r4), (AV.rints .u8 r8), (AV.rints .u8 r10), (AV.rints .u8 r12), (AV.rints .u8 r16)]) fun r18 =>
          some (mk0 r18)
 else
  none
def Fw.m (n : Nat) (t : (ByteArray × (LI × (LI × (Bool × (LI × (LI × (LI × (Int × (Int × (Int × (LI × (LI × (Bool × (LI × (Int × (Int × (LI × (LI × (LI × LI)))))))))))))))))))) : Option LI := Fw.g (fun a0 => a0) n t.1 t.2.1 t.2.2.1 t.2.2.2.1 t.2.2.2.2.1 t.2.2.2.2.2.1 t.2.2.2.2.2.2.1 t.2.2.2.2.2.2.2.1 t.2.2.2.2.2.2.2.2.1 t.2.2.2.2.2.2.2.2.2.1 t.2.2.2.2.2.2.2.2.2.2.1 t.2.2.2.2.2.2.2.2.2.2.2.1 t.2.2.2.2.2.2.2.2.2.2.2.2.1 t.2.2.2.2.2.2.2.2.2.2.2.2.2.1 t.2.2.2.2.2.2.2.2.2.2.2.2.2.2.1 t.2.2.2.2.2.2.2.2.2.2.2.2.2.2.2.1 t.2.2.2.2.2.2.2.2.2.2.2.2.2.2.2.2.1 t.2.2.2.2.2.2.2.2.2.2.2.2.2.2.2.2.2.1 t.2.2.2.2.2.2.2.2.2.2.2.2.2.2.2.2.2.2.1 t.2.2.2.2.2.2.2.2.2.2.2.2.2.2.2.2.2.2.2
def Fw.pat : List AV → Blks → Option (ByteArray × (LI × (LI × (Bool × (LI × (LI × (LI × (Int × (Int × (Int × (LI × (LI × (Bool × (LI × (Int × (Int × (LI × (LI × (LI × LI)))))))))))))))))))
 | [(.str a0), (.agg [(.ints .u8 20 a1_0), (.ints .u64 4 a1_1), (.bool a1_2), (.ints .u8 20 a1_3), (.rints .u8 a1_4), (.rints .u8 a1_5), (.int .u64 a1_6), (.int .u64 a1_7), (.int .u64 a1_8), (.ints .u64 4 a1_9), (.ints .u64 4 a1_10), (.bool a1_11), (.ints .u8 20 a1_12), (.int .u64 a1_13), (.int .u64 a1_14), (.rints .u8 a1_15), (.rints .u8 a1_16)]), (.ints .u64 4 a2), (.ints .u64 4 a3)], [] => some (a0, a1_0, a1_1, a1_2, a1_3, a1_4, a1_5, a1_6, a1_7, a1_8, a1_9, a1_10, a1_11, a1_12, a1_13, a1_14, a1_15, a1_16, a2, a3)
 | _, _ => none
def Fw.shape (t : (ByteArray × (LI × (LI × (Bool × (LI × (LI × (LI × (Int × (Int × (Int × (LI × (LI × (Bool × (LI × (Int × (Int × (LI × (LI × (LI × LI)))))))))))))))))))) : List AV × Blks := ([(.str t.1), (.agg [(.ints .u8 20 t.2.1), (.ints .u64 4 t.2.2.1), (.bool t.2.2.2.1), (.ints .u8 20 t.2.2.2.2.1), (.rints .u8 t.2.2.2.2.2.1), (.rints .u8 t.2.2.2.2.2.2.1), (.int .u64 t.2.2.2.2.2.2.2.1), (.int .u64 t.2.2.2.2.2.2.2.2.1), (.int .u64 t.2.2.2.2.2.2.2.2.2.1), (.ints .u64 4 t.2.2.2.2.2.2.2.2.2.2.1), (.ints .u64 4 t.2.2.2.2.2.2.2.2.2.2.2.1), (.bool t.2.2.2.2.2.2.2.2.2.2.2.2.1), (.ints .u8 20 t.2.2.2.2.2.2.2.2.2.2.2.2.2.1), (.int .u64 t.2.2.2.2.2.2.2.2.2.2.2.2.2.2.1), (.int .u64 t.2.2.2.2.2.2.2.2.2.2.2.2.2.2.2.1), (.rints .u8 t.2.2.2.2.2.2.2.2.2.2.2.2.2.2.2.2.1), (.rints .u8 t.2.2.2.2.2.2.2.2.2.2.2.2.2.2.2.2.2.1)]), (.ints .u64 4 t.2.2.2.2.2.2.2.2.2.2.2.2.2.2.2.2.2.2.1), (.ints .u64 4 t.2.2.2.2.2.2.2.2.2.2.2.2.2.2.2.2.2.2.2)], [])
def Fw.res : LI → AV × Blks
 | u => ((.own 0 1), [(some (.ints .u8 u))])
def Fw.resK {R : Type} (u : LI) (K : AV → Blks → Option R) : Option R := K (Fw.res u).1 (Fw.res u).2
def Fw.c (n : Nat) : Abs.Callee := .mk' [] [none, (some (.agg [none, none, none, none, (some (.ints .u8)), (some (.ints .u8)), none, none, none, none, none, none, none, none, none, (some (.ints .u8)), (some (.ints .u8))])), none, none] Fw.pat (Fw.m n) Fw.resK
end
end
section
noncomputable section
noncomputable def Fj.C (n : Nat) : Ctx := ⟨Tryd.prog, abiG, lookC [(66, Fw.c n)], fun _ => false⟩
noncomputable def Fj.A (n : Nat) : Ann := ⟨Tryd.f30.ntmps, 0, noNL, [], [(some (.ints .u8))], fun k => match k with
 | _ => none, noNL, lookJ []⟩
def Fj.g {α : Type} (mk0 : LI → α) (n : Nat) (a0_0 : LI) (a0_1 : LI) (a0_2 : Bool) (a0_3 : LI) (a0_4 : LI) (a0_5 : LI) (a0_6 : Int) (a0_7 : Int) (a0_8 : Int) (a0_9 : LI) (a0_10 : LI) (a0_11 : Bool) (a0_12 : LI) (a0_13 : Int) (a0_14 : Int) (a0_15 : LI) (a0_16 : LI) (a1 : LI) (a2 : LI) : Option α :=
 bindO (Fw.m n ((b8 [118, 97, 108, 105, 100, 97, 116, 101, 85, 115, 101, 114, 79, 112]), a0_0, a0_1, a0_2, a0_3, a0_4, a0_5, a0_6, a0_7, a0_8, a0_9, a0_10, a0_11, a0_12, a0_13, a0_14, a0_15, a0_16, a1, a2)) fun r2 =>
  some (mk0 r2)
def Fj.m (n : Nat) (t : (LI × (LI × (Bool × (LI × (LI × (LI × (Int × (Int × (Int × (LI × (LI × (Bool × (LI × (Int × (Int × (LI × (LI × (LI × LI))))))))))))))))))) : Option LI := Fj.g (fun a0 => a0) n t.1 t.2.1 t.2.2.1 t.2.2.2.1 t.2.2.2.2.1 t.2.2.2.2.2.1 t.2.2.2.2.2.2.1 t.2.2.2.2.2.2.2.1 t.2.2.2.2.2.2.2.2.1 t.2.2.2.2.2.2.2.2.2.1 t.2.2.2.2.2.2.2.2.2.2.1 t.2.2.2.2.2.2.2.2.2.2.2.1 t.2.2.2.2.2.2.2.2.2.2.2.2.1 t.2.2.2.2.2.2.2.2.2.2.2.2.2.1 t.2.2.2.2.2.2.2.2.2.2.2.2.2.2.1 t.2.2.2.2.2.2.2.2.2.2.2.2.2.2.2.1 t.2.2.2.2.2.2.2.2.2.2.2.2.2.2.2.2.1 t.2.2.2.2.2.2.2.2.2.2.2.2.2.2.2.2.2.1 t.2.2.2.2.2.2.2.2.2.2.2.2.2.2.2.2.2.2
def Fj.pat : List AV → Blks → Option (LI × (LI × (Bool × (LI × (LI × (LI × (Int × (Int × (Int × (LI × (LI × (Bool × (LI × (Int × (Int × (LI × (LI × (LI × LI))))))))))))))))))
 | [(.agg [(.ints .u8 20 a0_0), (.ints .u64 4 a0_1), (.bool a0_2), (.ints .u8 20 a0_3), (.rints .u8 a0_4), (.rints .u8 a0_5), (.int .u64 a0_6), (.int .u64 a0_7), (.int .u64 a0_8), (.ints .u64 4 a0_9), (.ints .u64 4 a0_10), (.bool a0_11), (.ints .u8 20 a0_12), (.int .u64 a0_13), (.int .u64 a0_14), (.rints .u8 a0_15), (.rints .u8 a0_16)]), (.ints .u64 4 a1), (.ints .u64 4 a2)], [] => some (a0_0, a0_1, a0_2, a0_3, a0_4, a0_5, a0_6, a0_7, a0_8, a0_9, a0_10, a0_11, a0_12, a0_13, a0_14, a0_15, a0_16, a1, a2)
 | _, _ => none
def Fj.shape (t : (LI × (LI × (Bool × (LI × (LI × (LI × (Int × (Int × (Int × (LI × (LI × (Bool × (LI × (Int × (Int × (LI × (LI × (LI × LI))))))))))))))))))) : List AV × Blks := ([(.agg [(.ints .u8 20 t.1), (.ints .u64 4 t.2.1), (.bool t.2.2.1), (.ints .u8 20 t.2.2.2.1), (.rints .u8 t.2.2.2.2.1), (.rints .u8 t.2.2.2.2.2.1), (.int .u64 t.2.2.2.2.2.2.1), (.int .u64 t.2.2.2.2.2.2.2.1), (.int .u64 t.2.2.2.2.2.2.2.2.1), (.ints .u64 4 t.2.2.2.2.2.2.2.2.2.1), (.ints .u64 4 t.2.2.2.2.2.2.2.2.2.2.1), (.bool t.2.2.2.2.2.2.2.2.2.2.2.1), (.ints .u8 20 t.2.2.2.2.2.2.2.2.2.2.2.2.1), (.int .u64 t.2.2.2.2.2.2.2.2.2.2.2.2.2.1), (.int .u64 t.2.2.2.2.2.2.2.2.2.2.2.2.2.2.1), (.rints .u8 t.2.2.2.2.2.2.2.2.2.2.2.2.2.2.2.1), (.rints .u8 t.2.2.2.2.2.2.2.2.2.2.2.2.2.2.2.2.1)]), (.ints .u64 4 t.2.2.2.2.2.2.2.2.2.2.2.2.2.2.2.2.2.1), (.ints .u64 4 t.2.2.2.2.2.2.2.2.2.2.2.2.2.2.2.2.2.2)], [])
def Fj.res : LI → AV × Blks
 | u => ((.own 0 1), [(some (.ints .u8 u))])
def Fj.resK {R : Type} (u : LI) (K : AV → Blks → Option R) : Option R := K (Fj.res u).1 (Fj.res u).2
def Fj.c (n : Nat) : Abs.Callee := .mk' [] [(some (.agg [none, none, none, none, (some (.ints .u8)), (some (.ints .u8)), none, none, none, none, none, none, none, none, none, (some (.ints .u8)), (some (.ints .u8))])), none, none] Fj.pat (Fj.m n) Fj.resK
end
end
section
theorem Fw.gmap {α β : Type} (h : β → α) (mk0 : LI → β) (n : Nat) (a0 : ByteArray) (a1_0 : LI) (a1_1 : LI) (a1_2 : Bool) (a1_3 : LI) (a1_4 : LI) (a1_5 : LI) (a1_6 : Int) (a1_7 : Int) (a1_8 : Int) (a1_9 : LI) (a1_10 : LI) (a1_11 : Bool) (a1_12 : LI) (a1_13 : Int) (a1_14 : Int) (a1_15 : LI) (a1_16 : LI) (a2 : LI) (a3 : LI) : Fw.g (fun a0 => (h (mk0 a0))) n a0 a1_0 a1_1 a1_2 a1_3 a1_4 a1_5 a1_6 a1_7 a1_8 a1_9 a1_10 a1_11 a1_12 a1_13 a1_14 a1_15 a1_16 a2 a3 = (Fw.g mk0 n a0 a1_0 a1_1 a1_2 a1_3 a1_4 a1_5 a1_6 a1_7 a1_8 a1_9 a1_10 a1_11 a1_12 a1_13 a1_14 a1_15 a1_16 a2 a3).map h := by
  unfold Fw.g
  exact (ite_map (bindO_map fun r4 => (bindO_map fun r6 => (bindO_map fun r8 => (bindO_map fun r10 => (bindO_map fun r12 => (bindO_map fun r14 => (bindO_map fun r16 => (bindO_map fun r18 => rfl)))))))) rfl)
theorem Fw.run (n : Nat) (a0 : ByteArray) (a1_0 : LI) (a1_1 : LI) (a1_2 : Bool) (a1_3 : LI) (a1_4 : LI) (a1_5 : LI) (a1_6 : Int) (a1_7 : Int) (a1_8 : Int) (a1_9 : LI) (a1_10 : LI) (a1_11 : Bool) (a1_12 : LI) (a1_13 : Int) (a1_14 : Int) (a1_15 : LI) (a1_16 : LI) (a2 : LI) (a3 : LI) : runF (Fw.C n) (Fw.A n) n Tryd.f66 [(.str a0), (.agg [(.ints .u8 20 a1_0), (.ints .u64 4 a1_1), (.bool a1_2), (.ints .u8 20 a1_3), (.rints .u8 a1_4), (.rints .u8 a1_5), (.int .u64 a1_6), (.int .u64 a1_7), (.int .u64 a1_8), (.ints .u64 4 a1_9), (.ints .u64 4 a1_10), (.bool a1_11), (.ints .u8 20 a1_12), (.int .u64 a1_13), (.int .u64 a1_14), (.rints .u8 a1_15), (.rints .u8 a1_16)]), (.ints .u64 4 a2), (.ints .u64 4 a3)] [] (fun v o => some (v, o)) = Fw.g (fun a0 => (((.own 0 1), [(some (.ints .u8 a0))]) : AV × Blks)) n a0 a1_0 a1_1 a1_2 a1_3 a1_4 a1_5 a1_6 a1_7 a1_8 a1_9 a1_10 a1_11 a1_12 a1_13 a1_14 a1_15 a1_16 a2 a3 := by kernel_rfl
theorem Fw.call (hmix : Tryd.prog.follows .mixedOrders = true) (n : Nat) (t : (ByteArray × (LI × (LI × (Bool × (LI × (LI × (LI × (Int × (Int × (Int × (LI × (LI × (Bool × (LI × (Int × (Int × (LI × (LI × (LI × LI)))))))))))))))))))) (u) (h : Fw.m n t = some u) : FnC Tryd.prog abiG 66 (Fw.shape t).1 (Fw.shape t).2 (Fw.res u).1 (Fw.res u).2 :=
  fnC1 (C := Fw.C n) (A := Fw.A n) (fn := Tryd.f66) rfl (.cons (Fu.s hmix n) (.cons (Fbf.s hmix n) (.cons (Fan.s hmix n) (.cons (Fai.s hmix n) (.cons (Fap.s hmix n) (.cons (Fa.s hmix n) .nil)))))) hmix Tryd.func66 (by kernel_rfl) (lp := []) (by kernel_rfl) .nil
  (nj rfl) (by decide) rfl rfl (by show 4 ≤ Tryd.f66.ntmps; decide) (Fw.run n t.1 t.2.1 t.2.2.1 t.2.2.2.1 t.2.2.2.2.1 t.2.2.2.2.2.1 t.2.2.2.2.2.2.1 t.2.2.2.2.2.2.2.1 t.2.2.2.2.2.2.2.2.1 t.2.2.2.2.2.2.2.2.2.1 t.2.2.2.2.2.2.2.2.2.2.1 t.2.2.2.2.2.2.2.2.2.2.2.1 t.2.2.2.2.2.2.2.2.2.2.2.2.1 t.2.2.2.2.2.2.2.2.2.2.2.2.2.1 t.2.2.2.2.2.2.2.2.2.2.2.2.2.2.1 t.2.2.2.2.2.2.2.2.2.2.2.2.2.2.2.1 t.2.2.2.2.2.2.2.2.2.2.2.2.2.2.2.2.1 t.2.2.2.2.2.2.2.2.2.2.2.2.2.2.2.2.2.1 t.2.2.2.2.2.2.2.2.2.2.2.2.2.2.2.2.2.2.1 t.2.2.2.2.2.2.2.2.2.2.2.2.2.2.2.2.2.2.2) (Fw.gmap Fw.res (fun a0 => a0) n t.1 t.2.1 t.2.2.1 t.2.2.2.1 t.2.2.2.2.1 t.2.2.2.2.2.1 t.2.2.2.2.2.2.1 t.2.2.2.2.2.2.2.1 t.2.2.2.2.2.2.2.2.1 t.2.2.2.2.2.2.2.2.2.1 t.2.2.2.2.2.2.2.2.2.2.1 t.2.2.2.2.2.2.2.2.2.2.2.1 t.2.2.2.2.2.2.2.2.2.2.2.2.1 t.2.2.2.2.2.2.2.2.2.2.2.2.2.1 t.2.2.2.2.2.2.2.2.2.2.2.2.2.2.1 t.2.2.2.2.2.2.2.2.2.2.2.2.2.2.2.1 t.2.2.2.2.2.2.2.2.2.2.2.2.2.2.2.2.1 t.2.2.2.2.2.2.2.2.2.2.2.2.2.2.2.2.2.1 t.2.2.2.2.2.2.2.2.2.2.2.2.2.2.2.2.2.2.1 t.2.2.2.2.2.2.2.2.2.2.2.2.2.2.2.2.2.2.2) h
theorem Fw.s (hmix : Tryd.prog.follows .mixedOrders = true) (n : Nat) : CalleeS Tryd.prog abiG 66 (Fw.c n) :=
  .mk1 (res := Fw.res) (shape := Fw.shape) (fun R u K => rfl) (fun _ _ _ h => by unfold Fw.pat at h; split at h <;> cases h; rfl) (fun t u h => Fw.call hmix n t u h) Tryd.func66 (by decide) (by kernel_rfl)
end
section
theorem Fj.gmap {α β : Type} (h : β → α) (mk0 : LI → β) (n : Nat) (a0_0 : LI) (a0_1 : LI) (a0_2 : Bool) (a0_3 : LI) (a0_4 : LI) (a0_5 : LI) (a0_6 : Int) (a0_7 : Int) (a0_8 : Int) (a0_9 : LI) (a0_10 : LI) (a0_11 : Bool) (a0_12 : LI) (a0_13 : Int) (a0_14 : Int) (a0_15 : LI) (a0_16 : LI) (a1 : LI) (a2 : LI) : Fj.g (fun a0 => (h (mk0 a0))) n a0_0 a0_1 a0_2 a0_3 a0_4 a0_5 a0_6 a0_7 a0_8 a0_9 a0_10 a0_11 a0_12 a0_13 a0_14 a0_15 a0_16 a1 a2 = (Fj.g mk0 n a0_0 a0_1 a0_2 a0_3 a0_4 a0_5 a0_6 a0_7 a0_8 a0_9 a0_10 a0_11 a0_12 a0_13 a0_14 a0_15 a0_16 a1 a2).map h := by
  unfold Fj.g
  exact (bindO_map fun r2 => rfl)
theorem Fj.run (n : Nat) (a0_0 : LI) (a0_1 : LI) (a0_2 : Bool) (a0_3 : LI) (a0_4 : LI) (a0_5 : LI) (a0_6 : Int) (a0_7 : Int) (a0_8 : Int) (a0_9 : LI) (a0_10 : LI) (a0_11 : Bool) (a0_12 : LI) (a0_13 : Int) (a0_14 : Int) (a0_15 : LI) (a0_16 : LI) (a1 : LI) (a2 : LI) : runF (Fj.C n) (Fj.A n) n Tryd.f30 [(.agg [(.ints .u8 20 a0_0), (.ints .u64 4 a0_1), (.bool a0_2), (.ints .u8 20 a0_3), (.rints .u8 a0_4), (.rints .u8 a0_5), (.int .u64 a0_6), (.int .u64 a0_7), (.int .u64 a0_8), (.ints .u64 4 a0_9), (.ints .u64 4 a0_10), (.bool a0_11), (.ints .u8 20 a0_12), (.int .u64 a0_13), (.int .u64 a0_14), (.rints .u8 a0_15), (.rints .u8 a0_16)]), (.ints .u64 4 a1), (.ints .u64 4 a2)] [] (fun v o => some (v, o)) = Fj.g (fun a0 => (((.own 0 1), [(some (.ints .u8 a0))]) : AV × Blks)) n a0_0 a0_1 a0_2 a0_3 a0_4 a0_5 a0_6 a0_7 a0_8 a0_9 a0_10 a0_11 a0_12 a0_13 a0_14 a0_15 a0_16 a1 a2 := by kernel_rfl
theorem Fj.call (hmix : Tryd.prog.follows .mixedOrders = true) (n : Nat) (t : (LI × (LI × (Bool × (LI × (LI × (LI × (Int × (Int × (Int × (LI × (LI × (Bool × (LI × (Int × (Int × (LI × (LI × (LI × LI))))))))))))))))))) (u) (h : Fj.m n t = some u) : FnC Tryd.prog abiG 30 (Fj.shape t).1 (Fj.shape t).2 (Fj.res u).1 (Fj.res u).2 :=
  fnC1 (C := Fj.C n) (A := Fj.A n) (fn := Tryd.f30) rfl (.cons (Fw.s hmix n) .nil) hmix Tryd.func30 (by kernel_rfl) (lp := []) (by kernel_rfl) .nil
  (nj rfl) (by decide) rfl rfl (by show 3 ≤ Tryd.f30.ntmps; decide) (Fj.run n t.1 t.2.1 t.2.2.1 t.2.2.2.1 t.2.2.2.2.1 t.2.2.2.2.2.1 t.2.2.2.2.2.2.1 t.2.2.2.2.2.2.2.1 t.2.2.2.2.2.2.2.2.1 t.2.2.2.2.2.2.2.2.2.1 t.2.2.2.2.2.2.2.2.2.2.1 t.2.2.2.2.2.2.2.2.2.2.2.1 t.2.2.2.2.2.2.2.2.2.2.2.2.1 t.2.2.2.2.2.2.2.2.2.2.2.2.2.1 t.2.2.2.2.2.2.2.2.2.2.2.2.2.2.1 t.2.2.2.2.2.2.2.2.2.2.2.2.2.2.2.1 t.2.2.2.2.2.2.2.2.2.2.2.2.2.2.2.2.1 t.2.2.2.2.2.2.2.2.2.2.2.2.2.2.2.2.2.1 t.2.2.2.2.2.2.2.2.2.2.2.2.2.2.2.2.2.2) (Fj.gmap Fj.res (fun a0 => a0) n t.1 t.2.1 t.2.2.1 t.2.2.2.1 t.2.2.2.2.1 t.2.2.2.2.2.1 t.2.2.2.2.2.2.1 t.2.2.2.2.2.2.2.1 t.2.2.2.2.2.2.2.2.1 t.2.2.2.2.2.2.2.2.2.1 t.2.2.2.2.2.2.2.2.2.2.1 t.2.2.2.2.2.2.2.2.2.2.2.1 t.2.2.2.2.2.2.2.2.2.2.2.2.1 t.2.2.2.2.2.2.2.2.2.2.2.2.2.1 t.2.2.2.2.2.2.2.2.2.2.2.2.2.2.1 t.2.2.2.2.2.2.2.2.2.2.2.2.2.2.2.1 t.2.2.2.2.2.2.2.2.2.2.2.2.2.2.2.2.1 t.2.2.2.2.2.2.2.2.2.2.2.2.2.2.2.2.2.1 t.2.2.2.2.2.2.2.2.2.2.2.2.2.2.2.2.2.2) h
theorem Fj.s (hmix : Tryd.prog.follows .mixedOrders = true) (n : Nat) : CalleeS Tryd.prog abiG 30 (Fj.c n) :=
  .mk1 (res := Fj.res) (shape := Fj.shape) (fun R u K => rfl) (fun _ _ _ h => by unfold Fj.pat at h; split at h <;> cases h; rfl) (fun t u h => Fj.call hmix n t u h) Tryd.func30 (by decide) (by kernel_rfl)
end
section
noncomputable section
noncomputable def Fbm.C (n : Nat) : Ctx := ⟨Tryd.prog, abiG, lookC [(51, Fbq.c n), (95, Fcp.c n), (49, Fcl.c n)], fun _ => false⟩
noncomputable def Fbm.A (n : Nat) : Ann := ⟨Tryd.f60.ntmps, 0, noNL, [], [none], fun k => match k with
 | _ => none, noNL, lookJ []⟩
def Fbm.g {α : Type} (mk0 : Int → α) (n : Nat) (a0_0 : LI) (a0_1 : LI) (a0_2 : Bool) (a0_3 : LI) (a0_4 : LI) (a0_5 : LI) (a0_6 : Int) (a0_7 : Int) (a0_8 : Int) (a0_9 : LI) (a0_10 : LI) (a0_11 : Bool) (a0_12 : LI) (a0_13 : Int) (a0_14 : Int) (a0_15 : LI) (a0_16 : LI) : Option α :=
 if (decide ((((List.length a0_4) : Nat) : Int) > 4096)) = true then
  some (mk0 150)
 else
  if (decide ((((List.length a0_5) : Nat) : Int) > 4096)) = true then
   some (mk0 150)
  else
   if (decide ((((List.length a0_15) : Nat) : Int) > 4096)) = true then
    some (mk0 150)
   else
    if (decide ((((List.length a0_16) : Nat) : Int) > 4096)) = true then
     some (mk0 150)
    else
     if (decide (a0_6 > 1048576)) = true then
      some (mk0 150)
     else
      if (decide (a0_7 > 1048576)) = true then
       some (mk0 150)
      else
       if (decide (a0_8 > 1048576)) = true then
        some (mk0 150)
       else
        if (decide (a0_13 > 1048576)) = true then
         some (mk0 150)
        else
         if (decide (a0_14 > 1048576)) = true then
          some (mk0 150)
         else
          bindO (Fbq.m n 120) fun r20 =>
           bindO (Fcp.m n (r20, a0_9)) fun r22 =>
            if (!(r22 == [0, 0, 0, 0])) = true then
             some (mk0 150)
            else
             bindO (Fcl.m n (a0_10, a0_9)) fun r26 =>
              if (decide (r26 > 0)) = true then
               some (mk0 150)
              else
               if (!a0_2) = true then
                if (!(a0_3 == ([0, 0, 0, 0, 0, 0, 0, 0, 0, 0, 0, 0, 0, 0, 0, 0, 0, 0, 0, 0] : List Int))) = true then
                 some (mk0 150)
                else
                 if (decide ((((List.length a0_4) : Nat) : Int) > 0)) = true then
                  some (mk0 150)
                 else
                  if (!a0_11) = true then
                   if (!(a0_12 == ([0, 0, 0, 0, 0, 0, 0, 0, 0, 0, 0, 0, 0, 0, 0, 0, 0, 0, 0, 0] : List Int))) = true then
                    some (mk0 150)
                   else
                    if (decide ((((List.length a0_15) : Nat) : Int) > 0)) = true then
                     some (mk0 150)
                    else
                     if (a0_13 != 0) = true then
                      some (mk0 150)
                     else
                      if (a0_14 != 0) = true then
                       some (mk0 150)
                      else
                       some (mk0 0)
                  else
                   some (mk0 0)
               else
                if (!a0_11) = true then
                 if (!(a0_12 == ([0, 0, 0, 0, 0, 0, 0, 0, 0, 0, 0, 0, 0, 0, 0, 0, 0, 0, 0, 0] : List Int))) = true then
                  some (mk0 150)
                 else
                  if (decide ((((List.length a0_15) : Nat) : Int) > 0)) = true then
                   some (mk0 150)
                  else
                   if (a0_13 != 0) = true then
                    some (mk0 150)
                   else
                    if (a0_14 != 0) = true then
                     some (mk0 150)
                    else
                     some (mk0 0)
                else
                 some (mk0 0)
def Fbm.m (n : Nat) (t : (LI × (LI × (Bool × (LI × (LI × (LI × (Int × (Int × (Int × (LI × (LI × (Bool × (LI × (Int × (Int × (LI × LI))))))))))))))))) : Option Int := Fbm.g (fun a0 => a0) n t.1 t.2.1 t.2.2.1 t.2.2.2.1 t.2.2.2.2.1 t.2.2.2.2.2.1 t.2.2.2.2.2.2.1 t.2.2.2.2.2.2.2.1 t.2.2.2.2.2.2.2.2.1 t.2.2.2.2.2.2.2.2.2.1 t.2.2.2.2.2.2.2.2.2.2.1 t.2.2.2.2.2.2.2.2.2.2.2.1 t.2.2.2.2.2.2.2.2.2.2.2.2.1 t.2.2.2.2.2.2.2.2.2.2.2.2.2.1 t.2.2.2.2.2.2.2.2.2.2.2.2.2.2.1 t.2.2.2.2.2.2.2.2.2.2.2.2.2.2.2.1 t.2.2.2.2.2.2.2.2.2.2.2.2.2.2.2.2
def Fbm.pat : List AV → Blks → Option (LI × (LI × (Bool × (LI × (LI × (LI × (Int × (Int × (Int × (LI × (LI × (Bool × (LI × (Int × (Int × (LI × LI))))))))))))))))
 | [(.agg [(.ints .u8 20 a0_0), (.ints .u64 4 a0_1), (.bool a0_2), (.ints .u8 20 a0_3), (.rints .u8 a0_4), (.rints .u8 a0_5), (.int .u64 a0_6), (.int .u64 a0_7), (.int .u64 a0_8), (.ints .u64 4 a0_9), (.ints .u64 4 a0_10), (.bool a0_11), (.ints .u8 20 a0_12), (.int .u64 a0_13), (.int .u64 a0_14), (.rints .u8 a0_15), (.rints .u8 a0_16)])], [] => some (a0_0, a0_1, a0_2, a0_3, a0_4, a0_5, a0_6, a0_7, a0_8, a0_9, a0_10, a0_11, a0_12, a0_13, a0_14, a0_15, a0_16)
 | _, _ => none
def Fbm.shape (t : (LI × (LI × (Bool × (LI × (LI × (LI × (Int × (Int × (Int × (LI × (LI × (Bool × (LI × (Int × (Int × (LI × LI))))))))))))))))) : List AV × Blks := ([(.agg [(.ints .u8 20 t.1), (.ints .u64 4 t.2.1), (.bool t.2.2.1), (.ints .u8 20 t.2.2.2.1), (.rints .u8 t.2.2.2.2.1), (.rints .u8 t.2.2.2.2.2.1), (.int .u64 t.2.2.2.2.2.2.1), (.int .u64 t.2.2.2.2.2.2.2.1), (.int .u64 t.2.2.2.2.2.2.2.2.1), (.ints .u64 4 t.2.2.2.2.2.2.2.2.2.1), (.ints .u64 4 t.2.2.2.2.2.2.2.2.2.2.1), (.bool t.2.2.2.2.2.2.2.2.2.2.2.1), (.ints .u8 20 t.2.2.2.2.2.2.2.2.2.2.2.2.1), (.int .u64 t.2.2.2.2.2.2.2.2.2.2.2.2.2.1), (.int .u64 t.2.2.2.2.2.2.2.2.2.2.2.2.2.2.1), (.rints .u8 t.2.2.2.2.2.2.2.2.2.2.2.2.2.2.2.1), (.rints .u8 t.2.2.2.2.2.2.2.2.2.2.2.2.2.2.2.2)])], [])
def Fbm.res : Int → AV × Blks
 | u => ((.int .i64 u), [])
def Fbm.resK {R : Type} (u : Int) (K : AV → Blks → Option R) : Option R := K (Fbm.res u).1 (Fbm.res u).2
def Fbm.c (n : Nat) : Abs.Callee := .mk' [] [(some (.agg [none, none, none, none, (some (.ints .u8)), (some (.ints .u8)), none, none, none, none, none, none, none, none, none, (some (.ints .u8)), (some (.ints .u8))]))] Fbm.pat (Fbm.m n) Fbm.resK
end
end
section
theorem Fbm.gmap {α β : Type} (h : β → α) (mk0 : Int → β) (n : Nat) (a0_0 : LI) (a0_1 : LI) (a0_2 : Bool) (a0_3 : LI) (a0_4 : LI) (a0_5 : LI) (a0_6 : Int) (a0_7 : Int) (a0_8 : Int) (a0_9 : LI) (a0_10 : LI) (a0_11 : Bool) (a0_12 : LI) (a0_13 : Int) (a0_14 : Int) (a0_15 : LI) (a0_16 : LI) : Fbm.g (fun a0 => (h (mk0 a0))) n a0_0 a0_1 a0_2 a0_3 a0_4 a0_5 a0_6 a0_7 a0_8 a0_9 a0_10 a0_11 a0_12 a0_13 a0_14 a0_15 a0_16 = (Fbm.g mk0 n a0_0 a0_1 a0_2 a0_3 a0_4 a0_5 a0_6 a0_7 a0_8 a0_9 a0_10 a0_11 a0_12 a0_13 a0_14 a0_15 a0_16).map h := by
  unfold Fbm.g
  exact (ite_map rfl (ite_map rfl (ite_map rfl (ite_map rfl (ite_map rfl (ite_map rfl (ite_map rfl (ite_map rfl (ite_map rfl (bindO_map fun r20 => (bindO_map fun r22 => (ite_map rfl (bindO_map fun r26 => (ite_map rfl (ite_map (ite_map rfl (ite_map rfl (ite_map (ite_map rfl (ite_map rfl (ite_map rfl (ite_map rfl rfl)))) rfl))) (ite_map (ite_map rfl (ite_map rfl (ite_map rfl (ite_map rfl rfl)))) rfl))))))))))))))))
theorem Fbm.run (n : Nat) (a0_0 : LI) (a0_1 : LI) (a0_2 : Bool) (a0_3 : LI) (a0_4 : LI) (a0_5 : LI) (a0_6 : Int) (a0_7 : Int) (a0_8 : Int) (a0_9 : LI) (a0_10 : LI) (a0_11 : Bool) (a0_12 : LI) (a0_13 : Int) (a0_14 : Int) (a0_15 : LI) (a0_16 : LI) : runF (Fbm.C n) (Fbm.A n) n Tryd.f60 [(.agg [(.ints .u8 20 a0_0), (.ints .u64 4 a0_1), (.bool a0_2), (.ints .u8 20 a0_3), (.rints .u8 a0_4), (.rints .u8 a0_5), (.int .u64 a0_6), (.int .u64 a0_7), (.int .u64 a0_8), (.ints .u64 4 a0_9), (.ints .u64 4 a0_10), (.bool a0_11), (.ints .u8 20 a0_12), (.int .u64 a0_13), (.int .u64 a0_14), (.rints .u8 a0_15), (.rints .u8 a0_16)])] [] (fun v o => some (v, o)) = Fbm.g (fun a0 => (((.int .i64 a0), []) : AV × Blks)) n a0_0 a0_1 a0_2 a0_3 a0_4 a0_5 a0_6 a0_7 a0_8 a0_9 a0_10 a0_11 a0_12 a0_13 a0_14 a0_15 a0_16 := by kernel_rfl
theorem Fbm.call (hmix : Tryd.prog.follows .mixedOrders = true) (n : Nat) (t : (LI × (LI × (Bool × (LI × (LI × (LI × (Int × (Int × (Int × (LI × (LI × (Bool × (LI × (Int × (Int × (LI × LI))))))))))))))))) (u) (h : Fbm.m n t = some u) : FnC Tryd.prog abiG 60 (Fbm.shape t).1 (Fbm.shape t).2 (Fbm.res u).1 (Fbm.res u).2 :=
  fnC1 (C := Fbm.C n) (A := Fbm.A n) (fn := Tryd.f60) rfl (.cons (Fbq.s hmix n) (.cons (Fcp.s hmix n) (.cons (Fcl.s hmix n) .nil))) hmix Tryd.func60 (by kernel_rfl) (lp := []) (by kernel_rfl) .nil
  (nj rfl) (by decide) rfl rfl (by show 1 ≤ Tryd.f60.ntmps; decide) (Fbm.run n t.1 t.2.1 t.2.2.1 t.2.2.2.1 t.2.2.2.2.1 t.2.2.2.2.2.1 t.2.2.2.2.2.2.1 t.2.2.2.2.2.2.2.1 t.2.2.2.2.2.2.2.2.1 t.2.2.2.2.2.2.2.2.2.1 t.2.2.2.2.2.2.2.2.2.2.1 t.2.2.2.2.2.2.2.2.2.2.2.1 t.2.2.2.2.2.2.2.2.2.2.2.2.1 t.2.2.2.2.2.2.2.2.2.2.2.2.2.1 t.2.2.2.2.2.2.2.2.2.2.2.2.2.2.1 t.2.2.2.2.2.2.2.2.2.2.2.2.2.2.2.1 t.2.2.2.2.2.2.2.2.2.2.2.2.2.2.2.2) (Fbm.gmap Fbm.res (fun a0 => a0) n t.1 t.2.1 t.2.2.1 t.2.2.2.1 t.2.2.2.2.1 t.2.2.2.2.2.1 t.2.2.2.2.2.2.1 t.2.2.2.2.2.2.2.1 t.2.2.2.2.2.2.2.2.1 t.2.2.2.2.2.2.2.2.2.1 t.2.2.2.2.2.2.2.2.2.2.1 t.2.2.2.2.2.2.2.2.2.2.2.1 t.2.2.2.2.2.2.2.2.2.2.2.2.1 t.2.2.2.2.2.2.2.2.2.2.2.2.2.1 t.2.2.2.2.2.2.2.2.2.2.2.2.2.2.1 t.2.2.2.2.2.2.2.2.2.2.2.2.2.2.2.1 t.2.2.2.2.2.2.2.2.2.2.2.2.2.2.2.2) h
theorem Fbm.s (hmix : Tryd.prog.follows .mixedOrders = true) (n : Nat) : CalleeS Tryd.prog abiG 60 (Fbm.c n) :=
  .mk1 (res := Fbm.res) (shape := Fbm.shape) (fun R u K => rfl) (fun _ _ _ h => by unfold Fbm.pat at h; split at h <;> cases h; rfl) (fun t u h => Fbm.call hmix n t u h) Tryd.func60 (by decide) (by kernel_rfl)
end
section
noncomputable section
noncomputable def Fcs.C (n : Nat) : Ctx := ⟨Tryd.prog, abiG, lookC [], fun _ => false⟩
noncomputable def Fcs.A (n : Nat) : Ann := ⟨Tryd.f58.ntmps, 0, noNL, [], [none], fun k => match k with
 | _ => none, noNL, lookJ []⟩
def Fcs.g {α : Type} (mk0 : Bool → α) (n : Nat) (a0_0 : LI) (a0_1 : LI) (a0_2 : Bool) (a0_3 : LI) (a0_4 : LI) (a0_5 : LI) (a0_6 : Int) (a0_7 : Int) (a0_8 : Int) (a0_9 : LI) (a0_10 : LI) (a0_11 : Bool) (a0_12 : LI) (a0_13 : Int) (a0_14 : Int) (a0_15 : LI) (a0_16 : LI) (a1 : Int) : Option α :=
 if (decide ((((List.length a0_4) : Nat) : Int) ≤ a1)) = true then
  if (decide ((((List.length a0_5) : Nat) : Int) ≤ a1)) = true then
   if (decide ((((List.length a0_15) : Nat) : Int) ≤ a1)) = true then
    some (mk0 (decide ((((List.length a0_16) : Nat) : Int) ≤ a1)))
   else
    some (mk0 false)
  else
   some (mk0 false)
 else
  some (mk0 false)
def Fcs.m (n : Nat) (t : (LI × (LI × (Bool × (LI × (LI × (LI × (Int × (Int × (Int × (LI × (LI × (Bool × (LI × (Int × (Int × (LI × (LI × Int)))))))))))))))))) : Option Bool := Fcs.g (fun a0 => a0) n t.1 t.2.1 t.2.2.1 t.2.2.2.1 t.2.2.2.2.1 t.2.2.2.2.2.1 t.2.2.2.2.2.2.1 t.2.2.2.2.2.2.2.1 t.2.2.2.2.2.2.2.2.1 t.2.2.2.2.2.2.2.2.2.1 t.2.2.2.2.2.2.2.2.2.2.1 t.2.2.2.2.2.2.2.2.2.2.2.1 t.2.2.2.2.2.2.2.2.2.2.2.2.1 t.2.2.2.2.2.2.2.2.2.2.2.2.2.1 t.2.2.2.2.2.2.2.2.2.2.2.2.2.2.1 t.2.2.2.2.2.2.2.2.2.2.2.2.2.2.2.1 t.2.2.2.2.2.2.2.2.2.2.2.2.2.2.2.2.1 t.2.2.2.2.2.2.2.2.2.2.2.2.2.2.2.2.2
def Fcs.pat : List AV → Blks → Option (LI × (LI × (Bool × (LI × (LI × (LI × (Int × (Int × (Int × (LI × (LI × (Bool × (LI × (Int × (Int × (LI × (LI × Int)))))))))))))))))
 | [(.agg [(.ints .u8 20 a0_0), (.ints .u64 4 a0_1), (.bool a0_2), (.ints .u8 20 a0_3), (.rints .u8 a0_4), (.rints .u8 a0_5), (.int .u64 a0_6), (.int .u64 a0_7), (.int .u64 a0_8), (.ints .u64 4 a0_9), (.ints .u64 4 a0_10), (.bool a0_11), (.ints .u8 20 a0_12), (.int .u64 a0_13), (.int .u64 a0_14), (.rints .u8 a0_15), (.rints .u8 a0_16)]), (.int .i64 a1)], [] => some (a0_0, a0_1, a0_2, a0_3, a0_4, a0_5, a0_6, a0_7, a0_8, a0_9, a0_10, a0_11, a0_12, a0_13, a0_14, a0_15, a0_16, a1)
 | _, _ => none
def Fcs.shape (t : (LI × (LI × (Bool × (LI × (LI × (LI × (Int × (Int × (Int × (LI × (LI × (Bool × (LI × (Int × (Int × (LI × (LI × Int)))))))))))))))))) : List AV × Blks := ([(.agg [(.ints .u8 20 t.1), (.ints .u64 4 t.2.1), (.bool t.2.2.1), (.ints .u8 20 t.2.2.2.1), (.rints .u8 t.2.2.2.2.1), (.rints .u8 t.2.2.2.2.2.1), (.int .u64 t.2.2.2.2.2.2.1), (.int .u64 t.2.2.2.2.2.2.2.1), (.int .u64 t.2.2.2.2.2.2.2.2.1), (.ints .u64 4 t.2.2.2.2.2.2.2.2.2.1), (.ints .u64 4 t.2.2.2.2.2.2.2.2.2.2.1), (.bool t.2.2.2.2.2.2.2.2.2.2.2.1), (.ints .u8 20 t.2.2.2.2.2.2.2.2.2.2.2.2.1), (.int .u64 t.2.2.2.2.2.2.2.2.2.2.2.2.2.1), (.int .u64 t.2.2.2.2.2.2.2.2.2.2.2.2.2.2.1), (.rints .u8 t.2.2.2.2.2.2.2.2.2.2.2.2.2.2.2.1), (.rints .u8 t.2.2.2.2.2.2.2.2.2.2.2.2.2.2.2.2.1)]), (.int .i64 t.2.2.2.2.2.2.2.2.2.2.2.2.2.2.2.2.2)], [])
def Fcs.res : Bool → AV × Blks
 | u => ((.bool u), [])
def Fcs.resK {R : Type} (u : Bool) (K : AV → Blks → Option R) : Option R := K (Fcs.res u).1 (Fcs.res u).2
def Fcs.c (n : Nat) : Abs.Callee := .mk' [] [(some (.agg [none, none, none, none, (some (.ints .u8)), (some (.ints .u8)), none, none, none, none, none, none, none, none, none, (some (.ints .u8)), (some (.ints .u8))])), none] Fcs.pat (Fcs.m n) Fcs.resK
end
end
section
noncomputable section
noncomputable def Fcr.C (n : Nat) : Ctx := ⟨Tryd.prog, abiG, lookC [(58, Fcs.c n), (60, Fbm.c n)], fun _ => false⟩
noncomputable def Fcr.A (n : Nat) : Ann := ⟨Tryd.f29.ntmps, 0, noNL, [], [none], fun k => match k with
 | _ => none, noNL, lookJ []⟩
def Fcr.g {α : Type} (mk0 : Bool → α) (n : Nat) (a0_0 : LI) (a0_1 : LI) (a0_2 : Bool) (a0_3 : LI) (a0_4 : LI) (a0_5 : LI) (a0_6 : Int) (a0_7 : Int) (a0_8 : Int) (a0_9 : LI) (a0_10 : LI) (a0_11 : Bool) (a0_12 : LI) (a0_13 : Int) (a0_14 : Int) (a0_15 : LI) (a0_16 : LI) : Option α :=
 bindO (Fcs.m n (a0_0, a0_1, a0_2, a0_3, a0_4, a0_5, a0_6, a0_7, a0_8, a0_9, a0_10, a0_11, a0_12, a0_13, a0_14, a0_15, a0_16, 1000)) fun r2 =>
  if r2 = true then
   bindO (Fbm.m n (a0_0, a0_1, a0_2, a0_3, a0_4, a0_5, a0_6, a0_7, a0_8, a0_9, a0_10, a0_11, a0_12, a0_13, a0_14, a0_15, a0_16)) fun r6 =>
    some (mk0 (r6 == 0))
  else
   some (mk0 false)
def Fcr.m (n : Nat) (t : (LI × (LI × (Bool × (LI × (LI × (LI × (Int × (Int × (Int × (LI × (LI × (Bool × (LI × (Int × (Int × (LI × LI))))))))))))))))) : Option Bool := Fcr.g (fun a0 => a0) n t.1 t.2.1 t.2.2.1 t.2.2.2.1 t.2.2.2.2.1 t.2.2.2.2.2.1 t.2.2.2.2.2.2.1 t.2.2.2.2.2.2.2.1 t.2.2.2.2.2.2.2.2.1 t.2.2.2.2.2.2.2.2.2.1 t.2.2.2.2.2.2.2.2.2.2.1 t.2.2.2.2.2.2.2.2.2.2.2.1 t.2.2.2.2.2.2.2.2.2.2.2.2.1 t.2.2.2.2.2.2.2.2.2.2.2.2.2.1 t.2.2.2.2.2.2.2.2.2.2.2.2.2.2.1 t.2.2.2.2.2.2.2.2.2.2.2.2.2.2.2.1 t.2.2.2.2.2.2.2.2.2.2.2.2.2.2.2.2
def Fcr.pat : List AV → Blks → Option (LI × (LI × (Bool × (LI × (LI × (LI × (Int × (Int × (Int × (LI × (LI × (Bool × (LI × (Int × (Int × (LI × LI))))))))))))))))
 | [(.agg [(.ints .u8 20 a0_0), (.ints .u64 4 a0_1), (.bool a0_2), (.ints .u8 20 a0_3), (.rints .u8 a0_4), (.rints .u8 a0_5), (.int .u64 a0_6), (.int .u64 a0_7), (.int .u64 a0_8), (.ints .u64 4 a0_9), (.ints .u64 4 a0_10), (.bool a0_11), (.ints .u8 20 a0_12), (.int .u64 a0_13), (.int .u64 a0_14), (.rints .u8 a0_15), (.rints .u8 a0_16)])], [] => some (a0_0, a0_1, a0_2, a0_3, a0_4, a0_5, a0_6, a0_7, a0_8, a0_9, a0_10, a0_11, a0_12, a0_13, a0_14, a0_15, a0_16)
 | _, _ => none
def Fcr.shape (t : (LI × (LI × (Bool × (LI × (LI × (LI × (Int × (Int × (Int × (LI × (LI × (Bool × (LI × (Int × (Int × (LI × LI))))))))))))))))) : List AV × Blks := ([(.agg [(.ints .u8 20 t.1), (.ints .u64 4 t.2.1), (.bool t.2.2.1), (.ints .u8 20 t.2.2.2.1), (.rints .u8 t.2.2.2.2.1), (.rints .u8 t.2.2.2.2.2.1), (.int .u64 t.2.2.2.2.2.2.1), (.int .u64 t.2.2.2.2.2.2.2.1), (.int .u64 t.2.2.2.2.2.2.2.2.1), (.ints .u64 4 t.2.2.2.2.2.2.2.2.2.1), (.ints .u64 4 t.2.2.2.2.2.2.2.2.2.2.1), (.bool t.2.2.2.2.2.2.2.2.2.2.2.1), (.ints .u8 20 t.2.2.2.2.2.2.2.2.2.2.2.2.1), (.int .u64 t.2.2.2.2.2.2.2.2.2.2.2.2.2.1), (.int .u64 t.2.2.2.2.2.2.2.2.2.2.2.2.2.2.1), (.rints .u8 t.2.2.2.2.2.2.2.2.2.2.2.2.2.2.2.1), (.rints .u8 t.2.2.2.2.2.2.2.2.2.2.2.2.2.2.2.2)])], [])
def Fcr.res : Bool → AV × Blks
 | u => ((.bool u), [])
def Fcr.resK {R : Type} (u : Bool) (K : AV → Blks → Option R) : Option R := K (Fcr.res u).1 (Fcr.res u).2
def Fcr.c (n : Nat) : Abs.Callee := .mk' [] [(some (.agg [none, none, none, none, (some (.ints .u8)), (some (.ints .u8)), none, none, none, none, none, none, none, none, none, (some (.ints .u8)), (some (.ints .u8))]))] Fcr.pat (Fcr.m n) Fcr.resK
end
end
section
theorem Fcs.gmap {α β : Type} (h : β → α) (mk0 : Bool → β) (n : Nat) (a0_0 : LI) (a0_1 : LI) (a0_2 : Bool) (a0_3 : LI) (a0_4 : LI) (a0_5 : LI) (a0_6 : Int) (a0_7 : Int) (a0_8 : Int) (a0_9 : LI) (a0_10 : LI) (a0_11 : Bool) (a0_12 : LI) (a0_13 : Int) (a0_14 : Int) (a0_15 : LI) (a0_16 : LI) (a1 : Int) : Fcs.g (fun a0 => (h (mk0 a0))) n a0_0 a0_1 a0_2 a0_3 a0_4 a0_5 a0_6 a0_7 a0_8 a0_9 a0_10 a0_11 a0_12 a0_13 a0_14 a0_15 a0_16 a1 = (Fcs.g mk0 n a0_0 a0_1 a0_2 a0_3 a0_4 a0_5 a0_6 a0_7 a0_8 a0_9 a0_10 a0_11 a0_12 a0_13 a0_14 a0_15 a0_16 a1).map h := by
  unfold Fcs.g
  exact (ite_map (ite_map (ite_map rfl rfl) rfl) rfl)
theorem Fcs.run (n : Nat) (a0_0 : LI) (a0_1 : LI) (a0_2 : Bool) (a0_3 : LI) (a0_4 : LI) (a0_5 : LI) (a0_6 : Int) (a0_7 : Int) (a0_8 : Int) (a0_9 : LI) (a0_10 : LI) (a0_11 : Bool) (a0_12 : LI) (a0_13 : Int) (a0_14 : Int) (a0_15 : LI) (a0_16 : LI) (a1 : Int) : runF (Fcs.C n) (Fcs.A n) n Tryd.f58 [(.agg [(.ints .u8 20 a0_0), (.ints .u64 4 a0_1), (.bool a0_2), (.ints .u8 20 a0_3), (.rints .u8 a0_4), (.rints .u8 a0_5), (.int .u64 a0_6), (.int .u64 a0_7), (.int .u64 a0_8), (.ints .u64 4 a0_9), (.ints .u64 4 a0_10), (.bool a0_11), (.ints .u8 20 a0_12), (.int .u64 a0_13), (.int .u64 a0_14), (.rints .u8 a0_15), (.rints .u8 a0_16)]), (.int .i64 a1)] [] (fun v o => some (v, o)) = Fcs.g (fun a0 => (((.bool a0), []) : AV × Blks)) n a0_0 a0_1 a0_2 a0_3 a0_4 a0_5 a0_6 a0_7 a0_8 a0_9 a0_10 a0_11 a0_12 a0_13 a0_14 a0_15 a0_16 a1 := by kernel_rfl
theorem Fcs.call (hmix : Tryd.prog.follows .mixedOrders = true) (n : Nat) (t : (LI × (LI × (Bool × (LI × (LI × (LI × (Int × (Int × (Int × (LI × (LI × (Bool × (LI × (Int × (Int × (LI × (LI × Int)))))))))))))))))) (u) (h : Fcs.m n t = some u) : FnC Tryd.prog abiG 58 (Fcs.shape t).1 (Fcs.shape t).2 (Fcs.res u).1 (Fcs.res u).2 :=
  fnC1 (C := Fcs.C n) (A := Fcs.A n) (fn := Tryd.f58) rfl .nil hmix Tryd.func58 (by kernel_rfl) (lp := []) (by kernel_rfl) .nil
  (nj rfl) (by decide) rfl rfl (by show 2 ≤ Tryd.f58.ntmps; decide) (Fcs.run n t.1 t.2.1 t.2.2.1 t.2.2.2.1 t.2.2.2.2.1 t.2.2.2.2.2.1 t.2.2.2.2.2.2.1 t.2.2.2.2.2.2.2.1 t.2.2.2.2.2.2.2.2.1 t.2.2.2.2.2.2.2.2.2.1 t.2.2.2.2.2.2.2.2.2.2.1 t.2.2.2.2.2.2.2.2.2.2.2.1 t.2.2.2.2.2.2.2.2.2.2.2.2.1 t.2.2.2.2.2.2.2.2.2.2.2.2.2.1 t.2.2.2.2.2.2.2.2.2.2.2.2.2.2.1 t.2.2.2.2.2.2.2.2.2.2.2.2.2.2.2.1 t.2.2.2.2.2.2.2.2.2.2.2.2.2.2.2.2.1 t.2.2.2.2.2.2.2.2.2.2.2.2.2.2.2.2.2) (Fcs.gmap Fcs.res (fun a0 => a0) n t.1 t.2.1 t.2.2.1 t.2.2.2.1 t.2.2.2.2.1 t.2.2.2.2.2.1 t.2.2.2.2.2.2.1 t.2.2.2.2.2.2.2.1 t.2.2.2.2.2.2.2.2.1 t.2.2.2.2.2.2.2.2.2.1 t.2.2.2.2.2.2.2.2.2.2.1 t.2.2.2.2.2.2.2.2.2.2.2.1 t.2.2.2.2.2.2.2.2.2.2.2.2.1 t.2.2.2.2.2.2.2.2.2.2.2.2.2.1 t.2.2.2.2.2.2.2.2.2.2.2.2.2.2.1 t.2.2.2.2.2.2.2.2.2.2.2.2.2.2.2.1 t.2.2.2.2.2.2.2.2.2.2.2.2.2.2.2.2.1 t.2.2.2.2.2.2.2.2.2.2.2.2.2.2.2.2.2) h
theorem Fcs.s (hmix : Tryd.prog.follows .mixedOrders = true) (n : Nat) : CalleeS Tryd.prog abiG 58 (Fcs.c n) :=
  .mk1 (res := Fcs.res) (shape := Fcs.shape) (fun R u K => rfl) (fun _ _ _ h => by unfold Fcs.pat at h; split at h <;> cases h; rfl) (fun t u h => Fcs.call hmix n t u h) Tryd.func58 (by decide) (by kernel_rfl)
end
section
theorem Fcr.gmap {α β : Type} (h : β → α) (mk0 : Bool → β) (n : Nat) (a0_0 : LI) (a0_1 : LI) (a0_2 : Bool) (a0_3 : LI) (a0_4 : LI) (a0_5 : LI) (a0_6 : Int) (a0_7 : Int) (a0_8 : Int) (a0_9 : LI) (a0_10 : LI) (a0_11 : Bool) (a0_12 : LI) (a0_13 : Int) (a0_14 : Int) (a0_15 : LI) (a0_16 : LI) : Fcr.g (fun a0 => (h (mk0 a0))) n a0_0 a0_1 a0_2 a0_3 a0_4 a0_5 a0_6 a0_7 a0_8 a0_9 a0_10 a0_11 a0_12 a0_13 a0_14 a0_15 a0_16 = (Fcr.g mk0 n a0_0 a0_1 a0_2 a0_3 a0_4 a0_5 a0_6 a0_7 a0_8 a0_9 a0_10 a0_11 a0_12 a0_13 a0_14 a0_15 a0_16).map h := by
  unfold Fcr.g
  exact (bindO_map fun r2 => (ite_map (bindO_map fun r6 => rfl) rfl))
theorem Fcr.run (n : Nat) (a0_0 : LI) (a0_1 : LI) (a0_2 : Bool) (a0_3 : LI) (a0_4 : LI) (a0_5 : LI) (a0_6 : Int) (a0_7 : Int) (a0_8 : Int) (a0_9 : LI) (a0_10 : LI) (a0_11 : Bool) (a0_12 : LI) (a0_13 : Int) (a0_14 : Int) (a0_15 : LI) (a0_16 : LI) : runF (Fcr.C n) (Fcr.A n) n Tryd.f29 [(.agg [(.ints .u8 20 a0_0), (.ints .u64 4 a0_1), (.bool a0_2), (.ints .u8 20 a0_3), (.rints .u8 a0_4), (.rints .u8 a0_5), (.int .u64 a0_6), (.int .u64 a0_7), (.int .u64 a0_8), (.ints .u64 4 a0_9), (.ints .u64 4 a0_10), (.bool a0_11), (.ints .u8 20 a0_12), (.int .u64 a0_13), (.int .u64 a0_14), (.rints .u8 a0_15), (.rints .u8 a0_16)])] [] (fun v o => some (v, o)) = Fcr.g (fun a0 => (((.bool a0), []) : AV × Blks)) n a0_0 a0_1 a0_2 a0_3 a0_4 a0_5 a0_6 a0_7 a0_8 a0_9 a0_10 a0_11 a0_12 a0_13 a0_14 a0_15 a0_16 := by kernel_rfl
theorem Fcr.call (hmix : Tryd.prog.follows .mixedOrders = true) (n : Nat) (t : (LI × (LI × (Bool × (LI × (LI × (LI × (Int × (Int × (Int × (LI × (LI × (Bool × (LI × (Int × (Int × (LI × LI))))))))))))))))) (u) (h : Fcr.m n t = some u) : FnC Tryd.prog abiG 29 (Fcr.shape t).1 (Fcr.shape t).2 (Fcr.res u).1 (Fcr.res u).2 :=
  fnC1 (C := Fcr.C n) (A := Fcr.A n) (fn := Tryd.f29) rfl (.cons (Fcs.s hmix n) (.cons (Fbm.s hmix n) .nil)) hmix Tryd.func29 (by kernel_rfl) (lp := []) (by kernel_rfl) .nil
  (nj rfl) (by decide) rfl rfl (by show 1 ≤ Tryd.f29.ntmps; decide) (Fcr.run n t.1 t.2.1 t.2.2.1 t.2.2.2.1 t.2.2.2.2.1 t.2.2.2.2.2.1 t.2.2.2.2.2.2.1 t.2.2.2.2.2.2.2.1 t.2.2.2.2.2.2.2.2.1 t.2.2.2.2.2.2.2.2.2.1 t.2.2.2.2.2.2.2.2.2.2.1 t.2.2.2.2.2.2.2.2.2.2.2.1 t.2.2.2.2.2.2.2.2.2.2.2.2.1 t.2.2.2.2.2.2.2.2.2.2.2.2.2.1 t.2.2.2.2.2.2.2.2.2.2.2.2.2.2.1 t.2.2.2.2.2.2.2.2.2.2.2.2.2.2.2.1 t.2.2.2.2.2.2.2.2.2.2.2.2.2.2.2.2) (Fcr.gmap Fcr.res (fun a0 => a0) n t.1 t.2.1 t.2.2.1 t.2.2.2.1 t.2.2.2.2.1 t.2.2.2.2.2.1 t.2.2.2.2.2.2.1 t.2.2.2.2.2.2.2.1 t.2.2.2.2.2.2.2.2.1 t.2.2.2.2.2.2.2.2.2.1 t.2.2.2.2.2.2.2.2.2.2.1 t.2.2.2.2.2.2.2.2.2.2.2.1 t.2.2.2.2.2.2.2.2.2.2.2.2.1 t.2.2.2.2.2.2.2.2.2.2.2.2.2.1 t.2.2.2.2.2.2.2.2.2.2.2.2.2.2.1 t.2.2.2.2.2.2.2.2.2.2.2.2.2.2.2.1 t.2.2.2.2.2.2.2.2.2.2.2.2.2.2.2.2) h
theorem Fcr.s (hmix : Tryd.prog.follows .mixedOrders = true) (n : Nat) : CalleeS Tryd.prog abiG 29 (Fcr.c n) :=
  .mk1 (res := Fcr.res) (shape := Fcr.shape) (fun R u K => rfl) (fun _ _ _ h => by unfold Fcr.pat at h; split at h <;> cases h; rfl) (fun t u h => Fcr.call hmix n t u h) Tryd.func29 (by decide) (by kernel_rfl)
end
section
noncomputable section
noncomputable def Fz.C (n : Nat) : Ctx := ⟨Tryd.prog, abiG, lookC [(63, Fbi.c n)], fun _ => false⟩
noncomputable def Fz.A (n : Nat) : Ann := ⟨Tryd.f24.ntmps, 0, noNL, [], [none], fun k => match k with
 | _ => none, noNL, lookJ []⟩
def Fz.g {α : Type} (mk0 : Bool → Int → Int → α) (n : Nat) (a0 : LI) : Option α :=
 bindO (Fbi.m n a0) fun r2 =>
  some (mk0 (!(r2 == ([0, 0, 0, 0, 0, 0, 0, 0, 0, 0, 0, 0, 0, 0, 0, 0, 0, 0, 0, 0] : List Int))) (ibits BinOp.and .u64 (ishr .u64 (List.getD a0 3 0) 16) 281474976710655) (ibits BinOp.or .u64 (ishr .u64 (List.getD a0 2 0) 32) (ishl .u64 (ibits BinOp.and .u64 (List.getD a0 3 0) 65535) 32)))
def Fz.m (n : Nat) (t : LI) : Option (Bool × (Int × Int)) := Fz.g (fun a0 a1 a2 => (a0, a1, a2)) n t
def Fz.pat : List AV → Blks → Option LI
 | [(.ints .u64 4 a0)], [] => some a0
 | _, _ => none
def Fz.shape (t : LI) : List AV × Blks := ([(.ints .u64 4 t)], [])
def Fz.res : (Bool × (Int × Int)) → AV × Blks
 | u => ((.agg [(.bool u.1), (.int .u64 u.2.1), (.int .u64 u.2.2)]), [])
def Fz.resK {R : Type} (u : (Bool × (Int × Int))) (K : AV → Blks → Option R) : Option R := K (Fz.res u).1 (Fz.res u).2
def Fz.c (n : Nat) : Abs.Callee := .mk' [] [none] Fz.pat (Fz.m n) Fz.resK
end
end
section
noncomputable section
noncomputable def Fba.C (n : Nat) : Ctx := ⟨Tryd.prog, abiG, lookC [], fun _ => false⟩
noncomputable def Fba.A (n : Nat) : Ann := ⟨Tryd.f27.ntmps, 0, noNL, [], [none], fun k => match k with
 | _ => none, noNL, lookJ []⟩
def Fba.g {α : Type} (mk0 : Bool → α) (n : Nat) (a0_0 : Bool) (a0_1 : Int) (a0_2 : Int) (a1 : Int) : Option α :=
 if (!a0_0) = true then
  if (decide (a1 ≥ a0_1)) = true then
   if (a0_2 == 0) = true then
    some (mk0 true)
   else
    some (mk0 (decide (a1 ≤ a0_2)))
  else
   some (mk0 false)
 else
  some (mk0 false)
def Fba.m (n : Nat) (t : (Bool × (Int × (Int × Int)))) : Option Bool := Fba.g (fun a0 => a0) n t.1 t.2.1 t.2.2.1 t.2.2.2
def Fba.pat : List AV → Blks → Option (Bool × (Int × (Int × Int)))
 | [(.agg [(.bool a0_0), (.int .u64 a0_1), (.int .u64 a0_2)]), (.int .u64 a1)], [] => some (a0_0, a0_1, a0_2, a1)
 | _, _ => none
def Fba.shape (t : (Bool × (Int × (Int × Int)))) : List AV × Blks := ([(.agg [(.bool t.1), (.int .u64 t.2.1), (.int .u64 t.2.2.1)]), (.int .u64 t.2.2.2)], [])
def Fba.res : Bool → AV × Blks
 | u => ((.bool u), [])
def Fba.resK {R : Type} (u : Bool) (K : AV → Blks → Option R) : Option R := K (Fba.res u).1 (Fba.res u).2
def Fba.c (n : Nat) : Abs.Callee := .mk' [] [none, none] Fba.pat (Fba.m n) Fba.resK
end
end
section
noncomputable section
noncomputable def Fbb.C (n : Nat) : Ctx := ⟨Tryd.prog, abiG, lookC [], fun _ => false⟩
noncomputable def Fbb.A (n : Nat) : Ann := ⟨Tryd.f43.ntmps, 0, noNL, [], [none], fun k => match k with
 | _ => none, noNL, lookJ []⟩
def Fbb.g {α : Type} (mk0 : Int → α) (n : Nat) (a0_0 : LI) (a0_1 : LI) (a0_2 : Bool) (a0_3 : LI) (a0_4 : LI) (a0_5 : LI) (a0_6 : Int) (a0_7 : Int) (a0_8 : Int) (a0_9 : LI) (a0_10 : LI) (a0_11 : Bool) (a0_12 : LI) (a0_13 : Int) (a0_14 : Int) (a0_15 : LI) (a0_16 : LI) : Option α :=
 some (mk0 (IntKind.wrap .u64 ((IntKind.wrap .u64 ((IntKind.wrap .u64 ((IntKind.wrap .u64 (a0_6 + a0_7)) + a0_8)) + a0_13)) + a0_14)))
def Fbb.m (n : Nat) (t : (LI × (LI × (Bool × (LI × (LI × (LI × (Int × (Int × (Int × (LI × (LI × (Bool × (LI × (Int × (Int × (LI × LI))))))))))))))))) : Option Int := Fbb.g (fun a0 => a0) n t.1 t.2.1 t.2.2.1 t.2.2.2.1 t.2.2.2.2.1 t.2.2.2.2.2.1 t.2.2.2.2.2.2.1 t.2.2.2.2.2.2.2.1 t.2.2.2.2.2.2.2.2.1 t.2.2.2.2.2.2.2.2.2.1 t.2.2.2.2.2.2.2.2.2.2.1 t.2.2.2.2.2.2.2.2.2.2.2.1 t.2.2.2.2.2.2.2.2.2.2.2.2.1 t.2.2.2.2.2.2.2.2.2.2.2.2.2.1 t.2.2.2.2.2.2.2.2.2.2.2.2.2.2.1 t.2.2.2.2.2.2.2.2.2.2.2.2.2.2.2.1 t.2.2.2.2.2.2.2.2.2.2.2.2.2.2.2.2
def Fbb.pat : List AV → Blks → Option (LI × (LI × (Bool × (LI × (LI × (LI × (Int × (Int × (Int × (LI × (LI × (Bool × (LI × (Int × (Int × (LI × LI))))))))))))))))
 | [(.agg [(.ints .u8 20 a0_0), (.ints .u64 4 a0_1), (.bool a0_2), (.ints .u8 20 a0_3), (.rints .u8 a0_4), (.rints .u8 a0_5), (.int .u64 a0_6), (.int .u64 a0_7), (.int .u64 a0_8), (.ints .u64 4 a0_9), (.ints .u64 4 a0_10), (.bool a0_11), (.ints .u8 20 a0_12), (.int .u64 a0_13), (.int .u64 a0_14), (.rints .u8 a0_15), (.rints .u8 a0_16)])], [] => some (a0_0, a0_1, a0_2, a0_3, a0_4, a0_5, a0_6, a0_7, a0_8, a0_9, a0_10, a0_11, a0_12, a0_13, a0_14, a0_15, a0_16)
 | _, _ => none
def Fbb.shape (t : (LI × (LI × (Bool × (LI × (LI × (LI × (Int × (Int × (Int × (LI × (LI × (Bool × (LI × (Int × (Int × (LI × LI))))))))))))))))) : List AV × Blks := ([(.agg [(.ints .u8 20 t.1), (.ints .u64 4 t.2.1), (.bool t.2.2.1), (.ints .u8 20 t.2.2.2.1), (.rints .u8 t.2.2.2.2.1), (.rints .u8 t.2.2.2.2.2.1), (.int .u64 t.2.2.2.2.2.2.1), (.int .u64 t.2.2.2.2.2.2.2.1), (.int .u64 t.2.2.2.2.2.2.2.2.1), (.ints .u64 4 t.2.2.2.2.2.2.2.2.2.1), (.ints .u64 4 t.2.2.2.2.2.2.2.2.2.2.1), (.bool t.2.2.2.2.2.2.2.2.2.2.2.1), (.ints .u8 20 t.2.2.2.2.2.2.2.2.2.2.2.2.1), (.int .u64 t.2.2.2.2.2.2.2.2.2.2.2.2.2.1), (.int .u64 t.2.2.2.2.2.2.2.2.2.2.2.2.2.2.1), (.rints .u8 t.2.2.2.2.2.2.2.2.2.2.2.2.2.2.2.1), (.rints .u8 t.2.2.2.2.2.2.2.2.2.2.2.2.2.2.2.2)])], [])
def Fbb.res : Int → AV × Blks
 | u => ((.int .u64 u), [])
def Fbb.resK {R : Type} (u : Int) (K : AV → Blks → Option R) : Option R := K (Fbb.res u).1 (Fbb.res u).2
def Fbb.c (n : Nat) : Abs.Callee := .mk' [] [(some (.agg [none, none, none, none, (some (.ints .u8)), (some (.ints .u8)), none, none, none, none, none, none, none, none, none, (some (.ints .u8)), (some (.ints .u8))]))] Fbb.pat (Fbb.m n) Fbb.resK
end
end
section
noncomputable section
noncomputable def Fm.C (n : Nat) : Ctx := ⟨Tryd.prog, abiG, lookC [(43, Fbb.c n), (69, Fbf.c n), (84, Fbv.c n)], fun _ => false⟩
noncomputable def Fm.A (n : Nat) : Ann := ⟨Tryd.f45.ntmps, 0, noNL, [], [none], fun k => match k with
 | _ => none, noNL, lookJ []⟩
def Fm.g {α : Type} (mk0 : LI → α) (n : Nat) (a0_0 : LI) (a0_1 : LI) (a0_2 : Bool) (a0_3 : LI) (a0_4 : LI) (a0_5 : LI) (a0_6 : Int) (a0_7 : Int) (a0_8 : Int) (a0_9 : LI) (a0_10 : LI) (a0_11 : Bool) (a0_12 : LI) (a0_13 : Int) (a0_14 : Int) (a0_15 : LI) (a0_16 : LI) : Option α :=
 bindO (Fbb.m n (a0_0, a0_1, a0_2, a0_3, a0_4, a0_5, a0_6, a0_7, a0_8, a0_9, a0_10, a0_11, a0_12, a0_13, a0_14, a0_15, a0_16)) fun r2 =>
  bindO (Fbf.m n r2) fun r4 =>
   bindO (Fbv.m n (r4, a0_9)) fun r6 =>
    some (mk0 r6.1)
def Fm.m (n : Nat) (t : (LI × (LI × (Bool × (LI × (LI × (LI × (Int × (Int × (Int × (LI × (LI × (Bool × (LI × (Int × (Int × (LI × LI))))))))))))))))) : Option LI := Fm.g (fun a0 => a0) n t.1 t.2.1 t.2.2.1 t.2.2.2.1 t.2.2.2.2.1 t.2.2.2.2.2.1 t.2.2.2.2.2.2.1 t.2.2.2.2.2.2.2.1 t.2.2.2.2.2.2.2.2.1 t.2.2.2.2.2.2.2.2.2.1 t.2.2.2.2.2.2.2.2.2.2.1 t.2.2.2.2.2.2.2.2.2.2.2.1 t.2.2.2.2.2.2.2.2.2.2.2.2.1 t.2.2.2.2.2.2.2.2.2.2.2.2.2.1 t.2.2.2.2.2.2.2.2.2.2.2.2.2.2.1 t.2.2.2.2.2.2.2.2.2.2.2.2.2.2.2.1 t.2.2.2.2.2.2.2.2.2.2.2.2.2.2.2.2
def Fm.pat : List AV → Blks → Option (LI × (LI × (Bool × (LI × (LI × (LI × (Int × (Int × (Int × (LI × (LI × (Bool × (LI × (Int × (Int × (LI × LI))))))))))))))))
 | [(.agg [(.ints .u8 20 a0_0), (.ints .u64 4 a0_1), (.bool a0_2), (.ints .u8 20 a0_3), (.rints .u8 a0_4), (.rints .u8 a0_5), (.int .u64 a0_6), (.int .u64 a0_7), (.int .u64 a0_8), (.ints .u64 4 a0_9), (.ints .u64 4 a0_10), (.bool a0_11), (.ints .u8 20 a0_12), (.int .u64 a0_13), (.int .u64 a0_14), (.rints .u8 a0_15), (.rints .u8 a0_16)])], [] => some (a0_0, a0_1, a0_2, a0_3, a0_4, a0_5, a0_6, a0_7, a0_8, a0_9, a0_10, a0_11, a0_12, a0_13, a0_14, a0_15, a0_16)
 | _, _ => none
def Fm.shape (t : (LI × (LI × (Bool × (LI × (LI × (LI × (Int × (Int × (Int × (LI × (LI × (Bool × (LI × (Int × (Int × (LI × LI))))))))))))))))) : List AV × Blks := ([(.agg [(.ints .u8 20 t.1), (.ints .u64 4 t.2.1), (.bool t.2.2.1), (.ints .u8 20 t.2.2.2.1), (.rints .u8 t.2.2.2.2.1), (.rints .u8 t.2.2.2.2.2.1), (.int .u64 t.2.2.2.2.2.2.1), (.int .u64 t.2.2.2.2.2.2.2.1), (.int .u64 t.2.2.2.2.2.2.2.2.1), (.ints .u64 4 t.2.2.2.2.2.2.2.2.2.1), (.ints .u64 4 t.2.2.2.2.2.2.2.2.2.2.1), (.bool t.2.2.2.2.2.2.2.2.2.2.2.1), (.ints .u8 20 t.2.2.2.2.2.2.2.2.2.2.2.2.1), (.int .u64 t.2.2.2.2.2.2.2.2.2.2.2.2.2.1), (.int .u64 t.2.2.2.2.2.2.2.2.2.2.2.2.2.2.1), (.rints .u8 t.2.2.2.2.2.2.2.2.2.2.2.2.2.2.2.1), (.rints .u8 t.2.2.2.2.2.2.2.2.2.2.2.2.2.2.2.2)])], [])
def Fm.res : LI → AV × Blks
 | u => ((.ints .u64 4 u), [])
def Fm.resK {R : Type} (u : LI) (K : AV → Blks → Option R) : Option R := K (Fm.res u).1 (Fm.res u).2
def Fm.c (n : Nat) : Abs.Callee := .mk' [] [(some (.agg [none, none, none, none, (some (.ints .u8)), (some (.ints .u8)), none, none, none, none, none, none, none, none, none, (some (.ints .u8)), (some (.ints .u8))]))] Fm.pat (Fm.m n) Fm.resK
end
end
section
noncomputable section
noncomputable def Fbn.C (n : Nat) : Ctx := ⟨Tryd.prog, abiG, lookC [(24, Fz.c n), (30, Fj.c n), (27, Fba.c n), (45, Fm.c n)], fun _ => false⟩
noncomputable def Fbn.A (n : Nat) : Ann := ⟨Tryd.f25.ntmps, 0, noNL, [], [none], fun k => match k with
 | _ => none, noNL, lookJ []⟩
def Fbn.g {α : Type} (mk0 : Bool → α) (n : Nat)  : Option α :=
 bindO (Fz.m n [0, 0, 429496729600, 0]) fun r2 =>
  bindO (Fj.m n (([0, 0, 0, 0, 0, 0, 0, 0, 0, 0, 0, 0, 0, 0, 0, 0, 0, 0, 0, 0] : List Int), [0, 0, 0, 0], false, ([0, 0, 0, 0, 0, 0, 0, 0, 0, 0, 0, 0, 0, 0, 0, 0, 0, 0, 0, 0] : List Int), [], [], 1, 2, 3, [10, 0, 0, 0], [0, 0, 0, 0], false, ([0, 0, 0, 0, 0, 0, 0, 0, 0, 0, 0, 0, 0, 0, 0, 0, 0, 0, 0, 0] : List Int), 0, 0, [], [], [0, 0, 0, 0], [0, 0, 0, 0])) fun r4 =>
   bindO (Fz.m n [1, 0, 0, 0]) fun r6 =>
    if r6.1 = true then
     if (r2.2.2 == 100) = true then
      bindO (Fba.m n (r2.1, r2.2.1, r2.2.2, 100)) fun r12 =>
       if r12 = true then
        bindO (Fba.m n (r2.1, r2.2.1, r2.2.2, 101)) fun r16 =>
         if (!r16) = true then
          bindO (Fm.m n (([0, 0, 0, 0, 0, 0, 0, 0, 0, 0, 0, 0, 0, 0, 0, 0, 0, 0, 0, 0] : List Int), [0, 0, 0, 0], false, ([0, 0, 0, 0, 0, 0, 0, 0, 0, 0, 0, 0, 0, 0, 0, 0, 0, 0, 0, 0] : List Int), [], [], 1, 2, 3, [10, 0, 0, 0], [0, 0, 0, 0], false, ([0, 0, 0, 0, 0, 0, 0, 0, 0, 0, 0, 0, 0, 0, 0, 0, 0, 0, 0, 0] : List Int), 0, 0, [], [])) fun r20 =>
           if (r20 == [60, 0, 0, 0]) = true then
            if (decide ((((List.length r4) : Nat) : Int) > 4)) = true then
             if 4 ≤ (((List.length r4) : Nat) : Int) then
              some (mk0 ((ByteArray.toList (Go.Abs.strOf (List.take (Go.Abs.span (List.length r4) 0 (Option.some 4)) (List.drop 0 r4)))) == [(Subtype.val (Subtype.mk (ByteArray.get! (b8 [25, 130, 47, 124]) 0) (And.left (Iff.mp (List.forall_mem_cons) (And.right (Iff.mp (List.forall_mem_cons) (And.right (Iff.mp (List.forall_mem_cons) (And.right (Iff.mp (List.forall_mem_cons) (List.attach._proof_1 [(ByteArray.get! (b8 [25, 130, 47, 124]) 3), (ByteArray.get! (b8 [25, 130, 47, 124]) 2), (ByteArray.get! (b8 [25, 130, 47, 124]) 1), (ByteArray.get! (b8 [25, 130, 47, 124]) 0)]))))))))))), (Subtype.val (Subtype.mk (ByteArray.get! (b8 [25, 130, 47, 124]) 1) (And.left (Iff.mp (List.forall_mem_cons) (And.right (Iff.mp (List.forall_mem_cons) (And.right (Iff.mp (List.forall_mem_cons) (List.attach._proof_1 [(ByteArray.get! (b8 [25, 130, 47, 124]) 3), (ByteArray.get! (b8 [25, 130, 47, 124]) 2), (ByteArray.get! (b8 [25, 130, 47, 124]) 1), (ByteArray.get! (b8 [25, 130, 47, 124]) 0)]))))))))), (Subtype.val (Subtype.mk (ByteArray.get! (b8 [25, 130, 47, 124]) 2) (And.left (Iff.mp (List.forall_mem_cons) (And.right (Iff.mp (List.forall_mem_cons) (List.attach._proof_1 [(ByteArray.get! (b8 [25, 130, 47, 124]) 3), (ByteArray.get! (b8 [25, 130, 47, 124]) 2), (ByteArray.get! (b8 [25, 130, 47, 124]) 1), (ByteArray.get! (b8 [25, 130, 47, 124]) 0)]))))))), (Subtype.val (Subtype.mk (ByteArray.get! (b8 [25, 130, 47, 124]) 3) (And.left (Iff.mp (List.forall_mem_cons) (List.attach._proof_1 [(ByteArray.get! (b8 [25, 130, 47, 124]) 3), (ByteArray.get! (b8 [25, 130, 47, 124]) 2), (ByteArray.get! (b8 [25, 130, 47, 124]) 1), (ByteArray.get! (b8 [25, 130, 47, 124]) 0)])))))]))
             else
              none
            else
             some (mk0 false)
           else
            some (mk0 false)
         else
          some (mk0 false)
       else
        some (mk0 false)
     else
      some (mk0 false)
    else
     some (mk0 false)
def Fbn.m (n : Nat) (t : Unit) : Option Bool := Fbn.g (fun a0 => a0) n 
def Fbn.pat : List AV → Blks → Option Unit
 | [], [] => some ()
 | _, _ => none
def Fbn.shape (t : Unit) : List AV × Blks := ([], [])
def Fbn.res : Bool → AV × Blks
 | u => ((.bool u), [])
def Fbn.resK {R : Type} (u : Bool) (K : AV → Blks → Option R) : Option R := K (Fbn.res u).1 (Fbn.res u).2
def Fbn.c (n : Nat) : Abs.Callee := .mk' [] [] Fbn.pat (Fbn.m n) Fbn.resK
end
end
section
theorem Fz.gmap {α β : Type} (h : β → α) (mk0 : Bool → Int → Int → β) (n : Nat) (a0 : LI) : Fz.g (fun a0 a1 a2 => (h (mk0 a0 a1 a2))) n a0 = (Fz.g mk0 n a0).map h := by
  unfold Fz.g
  exact (bindO_map fun r2 => rfl)
theorem Fz.run (n : Nat) (a0 : LI) : runF (Fz.C n) (Fz.A n) n Tryd.f24 [(.ints .u64 4 a0)] [] (fun v o => some (v, o)) = Fz.g (fun a0 a1 a2 => (((.agg [(.bool a0), (.int .u64 a1), (.int .u64 a2)]), []) : AV × Blks)) n a0 := by kernel_rfl
theorem Fz.call (hmix : Tryd.prog.follows .mixedOrders = true) (n : Nat) (t : LI) (u) (h : Fz.m n t = some u) : FnC Tryd.prog abiG 24 (Fz.shape t).1 (Fz.shape t).2 (Fz.res u).1 (Fz.res u).2 :=
  fnC1 (C := Fz.C n) (A := Fz.A n) (fn := Tryd.f24) rfl (.cons (Fbi.s hmix n) .nil) hmix Tryd.func24 (by kernel_rfl) (lp := []) (by kernel_rfl) .nil
  (nj rfl) (by decide) rfl rfl (by show 1 ≤ Tryd.f24.ntmps; decide) (Fz.run n t) (Fz.gmap Fz.res (fun a0 a1 a2 => (a0, a1, a2)) n t) h
theorem Fz.s (hmix : Tryd.prog.follows .mixedOrders = true) (n : Nat) : CalleeS Tryd.prog abiG 24 (Fz.c n) :=
  .mk1 (res := Fz.res) (shape := Fz.shape) (fun R u K => rfl) (fun _ _ _ h => by unfold Fz.pat at h; split at h <;> cases h; rfl) (fun t u h => Fz.call hmix n t u h) Tryd.func24 (by decide) (by kernel_rfl)
end
section
theorem Fba.gmap {α β : Type} (h : β → α) (mk0 : Bool → β) (n : Nat) (a0_0 : Bool) (a0_1 : Int) (a0_2 : Int) (a1 : Int) : Fba.g (fun a0 => (h (mk0 a0))) n a0_0 a0_1 a0_2 a1 = (Fba.g mk0 n a0_0 a0_1 a0_2 a1).map h := by
  unfold Fba.g
  exact (ite_map (ite_map (ite_map rfl rfl) rfl) rfl)
theorem Fba.run (n : Nat) (a0_0 : Bool) (a0_1 : Int) (a0_2 : Int) (a1 : Int) : runF (Fba.C n) (Fba.A n) n Tryd.f27 [(.agg [(.bool a0_0), (.int .u64 a0_1), (.int .u64 a0_2)]), (.int .u64 a1)] [] (fun v o => some (v, o)) = Fba.g (fun a0 => (((.bool a0), []) : AV × Blks)) n a0_0 a0_1 a0_2 a1 := by kernel_rfl
theorem Fba.call (hmix : Tryd.prog.follows .mixedOrders = true) (n : Nat) (t : (Bool × (Int × (Int × Int)))) (u) (h : Fba.m n t = some u) : FnC Tryd.prog abiG 27 (Fba.shape t).1 (Fba.shape t).2 (Fba.res u).1 (Fba.res u).2 :=
  fnC1 (C := Fba.C n) (A := Fba.A n) (fn := Tryd.f27) rfl .nil hmix Tryd.func27 (by kernel_rfl) (lp := []) (by kernel_rfl) .nil
  (nj rfl) (by decide) rfl rfl (by show 2 ≤ Tryd.f27.ntmps; decide) (Fba.run n t.1 t.2.1 t.2.2.1 t.2.2.2) (Fba.gmap Fba.res (fun a0 => a0) n t.1 t.2.1 t.2.2.1 t.2.2.2) h
theorem Fba.s (hmix : Tryd.prog.follows .mixedOrders = true) (n : Nat) : CalleeS Tryd.prog abiG 27 (Fba.c n) :=
  .mk1 (res := Fba.res) (shape := Fba.shape) (fun R u K => rfl) (fun _ _ _ h => by unfold Fba.pat at h; split at h <;> cases h; rfl) (fun t u h => Fba.call hmix n t u h) Tryd.func27 (by decide) (by kernel_rfl)
end
section
theorem Fbb.gmap {α β : Type} (h : β → α) (mk0 : Int → β) (n : Nat) (a0_0 : LI) (a0_1 : LI) (a0_2 : Bool) (a0_3 : LI) (a0_4 : LI) (a0_5 : LI) (a0_6 : Int) (a0_7 : Int) (a0_8 : Int) (a0_9 : LI) (a0_10 : LI) (a0_11 : Bool) (a0_12 : LI) (a0_13 : Int) (a0_14 : Int) (a0_15 : LI) (a0_16 : LI) : Fbb.g (fun a0 => (h (mk0 a0))) n a0_0 a0_1 a0_2 a0_3 a0_4 a0_5 a0_6 a0_7 a0_8 a0_9 a0_10 a0_11 a0_12 a0_13 a0_14 a0_15 a0_16 = (Fbb.g mk0 n a0_0 a0_1 a0_2 a0_3 a0_4 a0_5 a0_6 a0_7 a0_8 a0_9 a0_10 a0_11 a0_12 a0_13 a0_14 a0_15 a0_16).map h := by
  unfold Fbb.g
  exact rfl
theorem Fbb.run (n : Nat) (a0_0 : LI) (a0_1 : LI) (a0_2 : Bool) (a0_3 : LI) (a0_4 : LI) (a0_5 : LI) (a0_6 : Int) (a0_7 : Int) (a0_8 : Int) (a0_9 : LI) (a0_10 : LI) (a0_11 : Bool) (a0_12 : LI) (a0_13 : Int) (a0_14 : Int) (a0_15 : LI) (a0_16 : LI) : runF (Fbb.C n) (Fbb.A n) n Tryd.f43 [(.agg [(.ints .u8 20 a0_0), (.ints .u64 4 a0_1), (.bool a0_2), (.ints .u8 20 a0_3), (.rints .u8 a0_4), (.rints .u8 a0_5), (.int .u64 a0_6), (.int .u64 a0_7), (.int .u64 a0_8), (.ints .u64 4 a0_9), (.ints .u64 4 a0_10), (.bool a0_11), (.ints .u8 20 a0_12), (.int .u64 a0_13), (.int .u64 a0_14), (.rints .u8 a0_15), (.rints .u8 a0_16)])] [] (fun v o => some (v, o)) = Fbb.g (fun a0 => (((.int .u64 a0), []) : AV × Blks)) n a0_0 a0_1 a0_2 a0_3 a0_4 a0_5 a0_6 a0_7 a0_8 a0_9 a0_10 a0_11 a0_12 a0_13 a0_14 a0_15 a0_16 := by kernel_rfl
theorem Fbb.call (hmix : Tryd.prog.follows .mixedOrders = true) (n : Nat) (t : (LI × (LI × (Bool × (LI × (LI × (LI × (Int × (Int × (Int × (LI × (LI × (Bool × (LI × (Int × (Int × (LI × LI))))))))))))))))) (u) (h : Fbb.m n t = some u) : FnC Tryd.prog abiG 43 (Fbb.shape t).1 (Fbb.shape t).2 (Fbb.res u).1 (Fbb.res u).2 :=
  fnC1 (C := Fbb.C n) (A := Fbb.A n) (fn := Tryd.f43) rfl .nil hmix Tryd.func43 (by kernel_rfl) (lp := []) (by kernel_rfl) .nil
  (nj rfl) (by decide) rfl rfl (by show 1 ≤ Tryd.f43.ntmps; decide) (Fbb.run n t.1 t.2.1 t.2.2.1 t.2.2.2.1 t.2.2.2.2.1 t.2.2.2.2.2.1 t.2.2.2.2.2.2.1 t.2.2.2.2.2.2.2.1 t.2.2.2.2.2.2.2.2.1 t.2.2.2.2.2.2.2.2.2.1 t.2.2.2.2.2.2.2.2.2.2.1 t.2.2.2.2.2.2.2.2.2.2.2.1 t.2.2.2.2.2.2.2.2.2.2.2.2.1 t.2.2.2.2.2.2.2.2.2.2.2.2.2.1 t.2.2.2.2.2.2.2.2.2.2.2.2.2.2.1 t.2.2.2.2.2.2.2.2.2.2.2.2.2.2.2.1 t.2.2.2.2.2.2.2.2.2.2.2.2.2.2.2.2) (Fbb.gmap Fbb.res (fun a0 => a0) n t.1 t.2.1 t.2.2.1 t.2.2.2.1 t.2.2.2.2.1 t.2.2.2.2.2.1 t.2.2.2.2.2.2.1 t.2.2.2.2.2.2.2.1 t.2.2.2.2.2.2.2.2.1 t.2.2.2.2.2.2.2.2.2.1 t.2.2.2.2.2.2.2.2.2.2.1 t.2.2.2.2.2.2.2.2.2.2.2.1 t.2.2.2.2.2.2.2.2.2.2.2.2.1 t.2.2.2.2.2.2.2.2.2.2.2.2.2.1 t.2.2.2.2.2.2.2.2.2.2.2.2.2.2.1 t.2.2.2.2.2.2.2.2.2.2.2.2.2.2.2.1 t.2.2.2.2.2.2.2.2.2.2.2.2.2.2.2.2) h
theorem Fbb.s (hmix : Tryd.prog.follows .mixedOrders = true) (n : Nat) : CalleeS Tryd.prog abiG 43 (Fbb.c n) :=
  .mk1 (res := Fbb.res) (shape := Fbb.shape) (fun R u K => rfl) (fun _ _ _ h => by unfold Fbb.pat at h; split at h <;> cases h; rfl) (fun t u h => Fbb.call hmix n t u h) Tryd.func43 (by decide) (by kernel_rfl)
end
section
theorem Fm.gmap {α β : Type} (h : β → α) (mk0 : LI → β) (n : Nat) (a0_0 : LI) (a0_1 : LI) (a0_2 : Bool) (a0_3 : LI) (a0_4 : LI) (a0_5 : LI) (a0_6 : Int) (a0_7 : Int) (a0_8 : Int) (a0_9 : LI) (a0_10 : LI) (a0_11 : Bool) (a0_12 : LI) (a0_13 : Int) (a0_14 : Int) (a0_15 : LI) (a0_16 : LI) : Fm.g (fun a0 => (h (mk0 a0))) n a0_0 a0_1 a0_2 a0_3 a0_4 a0_5 a0_6 a0_7 a0_8 a0_9 a0_10 a0_11 a0_12 a0_13 a0_14 a0_15 a0_16 = (Fm.g mk0 n a0_0 a0_1 a0_2 a0_3 a0_4 a0_5 a0_6 a0_7 a0_8 a0_9 a0_10 a0_11 a0_12 a0_13 a0_14 a0_15 a0_16).map h := by
  unfold Fm.g
  exact (bindO_map fun r2 => (bindO_map fun r4 => (bindO_map fun r6 => rfl)))
theorem Fm.run (n : Nat) (a0_0 : LI) (a0_1 : LI) (a0_2 : Bool) (a0_3 : LI) (a0_4 : LI) (a0_5 : LI) (a0_6 : Int) (a0_7 : Int) (a0_8 : Int) (a0_9 : LI) (a0_10 : LI) (a0_11 : Bool) (a0_12 : LI) (a0_13 : Int) (a0_14 : Int) (a0_15 : LI) (a0_16 : LI) : runF (Fm.C n) (Fm.A n) n Tryd.f45 [(.agg [(.ints .u8 20 a0_0), (.ints .u64 4 a0_1), (.bool a0_2), (.ints .u8 20 a0_3), (.rints .u8 a0_4), (.rints .u8 a0_5), (.int .u64 a0_6), (.int .u64 a0_7), (.int .u64 a0_8), (.ints .u64 4 a0_9), (.ints .u64 4 a0_10), (.bool a0_11), (.ints .u8 20 a0_12), (.int .u64 a0_13), (.int .u64 a0_14), (.rints .u8 a0_15), (.rints .u8 a0_16)])] [] (fun v o => some (v, o)) = Fm.g (fun a0 => (((.ints .u64 4 a0), []) : AV × Blks)) n a0_0 a0_1 a0_2 a0_3 a0_4 a0_5 a0_6 a0_7 a0_8 a0_9 a0_10 a0_11 a0_12 a0_13 a0_14 a0_15 a0_16 := by kernel_rfl
theorem Fm.call (hmix : Tryd.prog.follows .mixedOrders = true) (n : Nat) (t : (LI × (LI × (Bool × (LI × (LI × (LI × (Int × (Int × (Int × (LI × (LI × (Bool × (LI × (Int × (Int × (LI × LI))))))))))))))))) (u) (h : Fm.m n t = some u) : FnC Tryd.prog abiG 45 (Fm.shape t).1 (Fm.shape t).2 (Fm.res u).1 (Fm.res u).2 :=
  fnC1 (C := Fm.C n) (A := Fm.A n) (fn := Tryd.f45) rfl (.cons (Fbb.s hmix n) (.cons (Fbf.s hmix n) (.cons (Fbv.s hmix n) .nil))) hmix Tryd.func45 (by kernel_rfl) (lp := []) (by kernel_rfl) .nil
  (nj rfl) (by decide) rfl rfl (by show 1 ≤ Tryd.f45.ntmps; decide) (Fm.run n t.1 t.2.1 t.2.2.1 t.2.2.2.1 t.2.2.2.2.1 t.2.2.2.2.2.1 t.2.2.2.2.2.2.1 t.2.2.2.2.2.2.2.1 t.2.2.2.2.2.2.2.2.1 t.2.2.2.2.2.2.2.2.2.1 t.2.2.2.2.2.2.2.2.2.2.1 t.2.2.2.2.2.2.2.2.2.2.2.1 t.2.2.2.2.2.2.2.2.2.2.2.2.1 t.2.2.2.2.2.2.2.2.2.2.2.2.2.1 t.2.2.2.2.2.2.2.2.2.2.2.2.2.2.1 t.2.2.2.2.2.2.2.2.2.2.2.2.2.2.2.1 t.2.2.2.2.2.2.2.2.2.2.2.2.2.2.2.2) (Fm.gmap Fm.res (fun a0 => a0) n t.1 t.2.1 t.2.2.1 t.2.2.2.1 t.2.2.2.2.1 t.2.2.2.2.2.1 t.2.2.2.2.2.2.1 t.2.2.2.2.2.2.2.1 t.2.2.2.2.2.2.2.2.1 t.2.2.2.2.2.2.2.2.2.1 t.2.2.2.2.2.2.2.2.2.2.1 t.2.2.2.2.2.2.2.2.2.2.2.1 t.2.2.2.2.2.2.2.2.2.2.2.2.1 t.2.2.2.2.2.2.2.2.2.2.2.2.2.1 t.2.2.2.2.2.2.2.2.2.2.2.2.2.2.1 t.2.2.2.2.2.2.2.2.2.2.2.2.2.2.2.1 t.2.2.2.2.2.2.2.2.2.2.2.2.2.2.2.2) h
theorem Fm.s (hmix : Tryd.prog.follows .mixedOrders = true) (n : Nat) : CalleeS Tryd.prog abiG 45 (Fm.c n) :=
  .mk1 (res := Fm.res) (shape := Fm.shape) (fun R u K => rfl) (fun _ _ _ h => by unfold Fm.pat at h; split at h <;> cases h; rfl) (fun t u h => Fm.call hmix n t u h) Tryd.func45 (by decide) (by kernel_rfl)
end
section
theorem Fbn.gmap {α β : Type} (h : β → α) (mk0 : Bool → β) (n : Nat)  : Fbn.g (fun a0 => (h (mk0 a0))) n  = (Fbn.g mk0 n ).map h := by
  unfold Fbn.g
  exact (bindO_map fun r2 => (bindO_map fun r4 => (bindO_map fun r6 => (ite_map (ite_map (bindO_map fun r12 => (ite_map (bindO_map fun r16 => (ite_map (bindO_map fun r20 => (ite_map (ite_map (ite_map rfl rfl) rfl) rfl)) rfl)) rfl)) rfl) rfl))))
theorem Fbn.run (n : Nat)  : runF (Fbn.C n) (Fbn.A n) n Tryd.f25 [] [] (fun v o => some (v, o)) = Fbn.g (fun a0 => (((.bool a0), []) : AV × Blks)) n  := by kernel_rfl
theorem Fbn.call (hmix : Tryd.prog.follows .mixedOrders = true) (n : Nat) (t : Unit) (u) (h : Fbn.m n t = some u) : FnC Tryd.prog abiG 25 (Fbn.shape t).1 (Fbn.shape t).2 (Fbn.res u).1 (Fbn.res u).2 :=
  fnC1 (C := Fbn.C n) (A := Fbn.A n) (fn := Tryd.f25) rfl (.cons (Fz.s hmix n) (.cons (Fj.s hmix n) (.cons (Fba.s hmix n) (.cons (Fm.s hmix n) .nil)))) hmix Tryd.func25 (by kernel_rfl) (lp := []) (by kernel_rfl) .nil
  (nj rfl) (by decide) rfl rfl (by show 0 ≤ Tryd.f25.ntmps; decide) (Fbn.run n ) (Fbn.gmap Fbn.res (fun a0 => a0) n ) h
theorem Fbn.s (hmix : Tryd.prog.follows .mixedOrders = true) (n : Nat) : CalleeS Tryd.prog abiG 25 (Fbn.c n) :=
  .mk1 (res := Fbn.res) (shape := Fbn.shape) (fun R u K => rfl) (fun _ _ _ h => by unfold Fbn.pat at h; split at h <;> cases h; rfl) (fun t u h => Fbn.call hmix n t u h) Tryd.func25 (by decide) (by kernel_rfl)
end
section
noncomputable section
noncomputable def Fk.C (n : Nat) : Ctx := ⟨Tryd.prog, abiG, lookC [(29, Fcr.c n), (25, Fbn.c n), (30, Fj.c n), (53, abi_Decode.c n), (38, Fai.c n), (37, Fo.c n)], fun _ => false⟩
def Fk.live : NL := fun k => match k with
 | 11 => ([13, 11, 12, 8], [12, 8, 11])
 | _ => ([], [])
def Fk.l11_0.r {α : Type} (mk0 : LA → LA → LI → α) (n : Nat) (rc : Int → LA → LA → LI → Option α)  (x0 : Int) (x1 : LA) (x2 : LA) (x3 : LI) : Option α :=
  if (decide (x0 < (((List.length x1) : Nat) : Int))) = true then
   if 0 ≤ x0 then
    if x0 < (((List.length x1) : Nat) : Int) then
     bindO (tkAgg 3 (List.getD x1 (Int.toNat x0) AV.any)) fun r10 =>
      bindO (tkBool (List.getD r10 0 AV.any)) fun r12 =>
       bindO (tkInts .u64 4 (List.getD r10 1 AV.any)) fun r14 =>
        bindO (tkRints .u8 (List.getD r10 2 AV.any)) fun r16 =>
         if ((((List.length x2) + 1) * 1) ≤ 70368744177664 ∧ ((List.length x2) + 1) ≤ 9223372036854775807) then
          rc (IntKind.wrap .i64 (x0 + 1)) x1 (x2 ++ [(AV.bool r12)]) x3
         else
          none
    else
     none
   else
    none
  else
   some (mk0 x1 x2 x3)
def Fk.l11_0.g {α : Type} (mk0 : LA → LA → LI → α) (n : Nat) : Nat → Int → LA → LA → LI → Option α
 | 0, _, _, _, _ => none
 | m + 1, x0, x1, x2, x3 => Fk.l11_0.r mk0 n (fun y0 y1 y2 y3 => Fk.l11_0.g mk0 n m y0 y1 y2 y3)  x0 x1 x2 x3
def Fk.l11_0.m (n m : Nat) (t : (Int × (LA × (LA × LI)))) : Option (LA × (LA × LI)) := Fk.l11_0.g (fun a0 a1 a2 => (a0, a1, a2)) n m t.1 t.2.1 t.2.2.1 t.2.2.2
def Fk.l11_0.pat : St → Option (Int × (LA × (LA × LI)))
 | (St.mk [(.int .i64 x0), (.robjs 69 6 x1), (.own 0 1), (.own 1 1)] [(some (.objs 4 1 x2)), (some (.ints .u8 x3))]) => some (x0, x1, x2, x3)
 | _ => none
def Fk.l11_0.shape (t : (Int × (LA × (LA × LI)))) : St := (St.mk [(.int .i64 t.1), (.robjs 69 6 t.2.1), (.own 0 1), (.own 1 1)] [(some (.objs 4 1 t.2.2.1)), (some (.ints .u8 t.2.2.2))])
def Fk.l11_0.res : (LA × (LA × LI)) → Ex × St
 | u => ((.exit 0), (St.mk [(.own 0 1), (.own 1 1), (.robjs 69 6 u.1)] [(some (.objs 4 1 u.2.1)), (some (.ints .u8 u.2.2))]))
def Fk.l11_0.resK {R : Type} (u : (LA × (LA × LI))) (K : Ex → St → Option R) : Option R := K (Fk.l11_0.res u).1 (Fk.l11_0.res u).2
noncomputable def Fk.A (n : Nat) : Ann := ⟨Tryd.f16.ntmps, 0, Fk.live, [(8, (.ints .u8)), (11, (.objs 69 6)), (12, (.objs 4 1))], [none], fun k => match k with
 | 11 => some (.mk' Fk.l11_0.pat (Fk.l11_0.m n n) Fk.l11_0.resK)
 | _ => none, noNL, lookJ []⟩
noncomputable def Fk.b0 : Code := (loopsIn (Tryd.f16.body.getD .skip)).getD 0 .skip
def Fk.g {α : Type} (mk0 : Bool → α) (n : Nat) (a0_0 : LI) (a0_1 : LI) (a0_2 : Bool) (a0_3 : LI) (a0_4 : LI) (a0_5 : LI) (a0_6 : Int) (a0_7 : Int) (a0_8 : Int) (a0_9 : LI) (a0_10 : LI) (a0_11 : Bool) (a0_12 : LI) (a0_13 : Int) (a0_14 : Int) (a0_15 : LI) (a0_16 : LI) (a1 : LI) (a2 : LI) : Option α :=
 bindO (Fcr.m n (a0_0, a0_1, a0_2, a0_3, a0_4, a0_5, a0_6, a0_7, a0_8, a0_9, a0_10, a0_11, a0_12, a0_13, a0_14, a0_15, a0_16)) fun r2 =>
  if (!r2) = true then
   bindO (Fbn.m n Unit.unit) fun r6 =>
    some (mk0 r6)
  else
   bindO (Fbn.m n Unit.unit) fun r6 =>
    if (!r6) = true then
     bindO (Fbn.m n Unit.unit) fun r10 =>
      some (mk0 r10)
    else
     bindO (Fj.m n (a0_0, a0_1, a0_2, a0_3, a0_4, a0_5, a0_6, a0_7, a0_8, a0_9, a0_10, a0_11, a0_12, a0_13, a0_14, a0_15, a0_16, a1, a2)) fun r10 =>
      if 4 ≤ (((List.length r10) : Nat) : Int) then
       bindO (Fae.m n ([(AV.bool false), (AV.bool false), (AV.bool false)], 4, (Go.Abs.span (List.length r10) 4 (Option.none)), r10)) fun r14 =>
        if (r14.1 != 0) = true then
         some (mk0 false)
        else
         if 0 < (((List.length r14.2.2) : Nat) : Int) then
          bindO (tkAgg 3 (List.getD r14.2.2 0 AV.any)) fun r20 =>
           bindO (tkBool (List.getD r20 0 AV.any)) fun r22 =>
            bindO (tkInts .u64 4 (List.getD r20 1 AV.any)) fun r24 =>
             bindO (tkRints .u8 (List.getD r20 2 AV.any)) fun r26 =>
              bindO (tkAgg 3 (List.getD r14.2.2 0 AV.any)) fun r28 =>
               bindO (tkBool (List.getD r28 0 AV.any)) fun r30 =>
                bindO (tkInts .u64 4 (List.getD r28 1 AV.any)) fun r32 =>
                 bindO (tkRints .u8 (List.getD r28 2 AV.any)) fun r34 =>
                  if (!(r32 == [96, 0, 0, 0])) = true then
                   some (mk0 false)
                  else
                   if 1 < (((List.length r14.2.2) : Nat) : Int) then
                    bindO (tkAgg 3 (List.getD r14.2.2 1 AV.any)) fun r40 =>
                     bindO (tkBool (List.getD r40 0 AV.any)) fun r42 =>
                      bindO (tkInts .u64 4 (List.getD r40 1 AV.any)) fun r44 =>
                       bindO (tkRints .u8 (List.getD r40 2 AV.any)) fun r46 =>
                        bindO (tkAgg 3 (List.getD r14.2.2 1 AV.any)) fun r48 =>
                         bindO (tkBool (List.getD r48 0 AV.any)) fun r50 =>
                          bindO (tkInts .u64 4 (List.getD r48 1 AV.any)) fun r52 =>
                           bindO (tkRints .u8 (List.getD r48 2 AV.any)) fun r54 =>
                            if (!(r52 == a1)) = true then
                             some (mk0 false)
                            else
                             if 2 < (((List.length r14.2.2) : Nat) : Int) then
                              bindO (tkAgg 3 (List.getD r14.2.2 2 AV.any)) fun r60 =>
                               bindO (tkBool (List.getD r60 0 AV.any)) fun r62 =>
                                bindO (tkInts .u64 4 (List.getD r60 1 AV.any)) fun r64 =>
                                 bindO (tkRints .u8 (List.getD r60 2 AV.any)) fun r66 =>
                                  bindO (tkAgg 3 (List.getD r14.2.2 2 AV.any)) fun r68 =>
                                   bindO (tkBool (List.getD r68 0 AV.any)) fun r70 =>
                                    bindO (tkInts .u64 4 (List.getD r68 1 AV.any)) fun r72 =>
                                     bindO (tkRints .u8 (List.getD r68 2 AV.any)) fun r74 =>
                                      if (!(r72 == a2)) = true then
                                       some (mk0 false)
                                      else
                                       bindO (Fai.m n (a0_0, a0_1, a0_2, a0_3, a0_4, a0_5, a0_6, a0_7, a0_8, a0_9, a0_10, a0_11, a0_12, a0_13, a0_14, a0_15, a0_16)) fun r78 =>
                                        bindO (Fk.l11_0.m n n (0, r78, [], r14.2.1)) fun r80 =>
                                         if 100 ≤ (((List.length r80.2.2) : Nat) : Int) then
                                          bindO (Fad.m n (100, (Go.Abs.span (List.length r80.2.2) 100 (Option.none)), r80.2.1, r80.2.2)) fun r84 =>
                                           if (r84.1 == 0) = true then
                                            bindO (Fo.m n (r80.1, r84.2.2.2)) fun r88 =>
                                             some (mk0 r88)
                                           else
                                            some (mk0 false)
                                         else
                                          none
                             else
                              none
                   else
                    none
         else
          none
      else
       none
def Fk.m (n : Nat) (t : (LI × (LI × (Bool × (LI × (LI × (LI × (Int × (Int × (Int × (LI × (LI × (Bool × (LI × (Int × (Int × (LI × (LI × (LI × LI))))))))))))))))))) : Option Bool := Fk.g (fun a0 => a0) n t.1 t.2.1 t.2.2.1 t.2.2.2.1 t.2.2.2.2.1 t.2.2.2.2.2.1 t.2.2.2.2.2.2.1 t.2.2.2.2.2.2.2.1 t.2.2.2.2.2.2.2.2.1 t.2.2.2.2.2.2.2.2.2.1 t.2.2.2.2.2.2.2.2.2.2.1 t.2.2.2.2.2.2.2.2.2.2.2.1 t.2.2.2.2.2.2.2.2.2.2.2.2.1 t.2.2.2.2.2.2.2.2.2.2.2.2.2.1 t.2.2.2.2.2.2.2.2.2.2.2.2.2.2.1 t.2.2.2.2.2.2.2.2.2.2.2.2.2.2.2.1 t.2.2.2.2.2.2.2.2.2.2.2.2.2.2.2.2.1 t.2.2.2.2.2.2.2.2.2.2.2.2.2.2.2.2.2.1 t.2.2.2.2.2.2.2.2.2.2.2.2.2.2.2.2.2.2
def Fk.shape (t : (LI × (LI × (Bool × (LI × (LI × (LI × (Int × (Int × (Int × (LI × (LI × (Bool × (LI × (Int × (Int × (LI × (LI × (LI × LI))))))))))))))))))) : List AV × Blks := ([(.agg [(.ints .u8 20 t.1), (.ints .u64 4 t.2.1), (.bool t.2.2.1), (.ints .u8 20 t.2.2.2.1), (.rints .u8 t.2.2.2.2.1), (.rints .u8 t.2.2.2.2.2.1), (.int .u64 t.2.2.2.2.2.2.1), (.int .u64 t.2.2.2.2.2.2.2.1), (.int .u64 t.2.2.2.2.2.2.2.2.1), (.ints .u64 4 t.2.2.2.2.2.2.2.2.2.1), (.ints .u64 4 t.2.2.2.2.2.2.2.2.2.2.1), (.bool t.2.2.2.2.2.2.2.2.2.2.2.1), (.ints .u8 20 t.2.2.2.2.2.2.2.2.2.2.2.2.1), (.int .u64 t.2.2.2.2.2.2.2.2.2.2.2.2.2.1), (.int .u64 t.2.2.2.2.2.2.2.2.2.2.2.2.2.2.1), (.rints .u8 t.2.2.2.2.2.2.2.2.2.2.2.2.2.2.2.1), (.rints .u8 t.2.2.2.2.2.2.2.2.2.2.2.2.2.2.2.2.1)]), (.ints .u64 4 t.2.2.2.2.2.2.2.2.2.2.2.2.2.2.2.2.2.1), (.ints .u64 4 t.2.2.2.2.2.2.2.2.2.2.2.2.2.2.2.2.2.2)], [])
def Fk.res : Bool → AV × Blks
 | u => ((.bool u), [])
end
end
section
noncomputable abbrev Fk.R0 (n : Nat) := roundOf (Fk.C n) (Fk.A n) n Fk.b0
theorem Fk.l11_0.rmap {α β : Type} (h : β → α) (mk0 : LA → LA → LI → β) (n : Nat) (f : Int → LA → LA → LI → Option β)  (x0 : Int) (x1 : LA) (x2 : LA) (x3 : LI) : Fk.l11_0.r (fun a0 a1 a2 => (h (mk0 a0 a1 a2))) n (fun y0 y1 y2 y3 => (f y0 y1 y2 y3).map h) x0 x1 x2 x3 = (Fk.l11_0.r mk0 n f x0 x1 x2 x3).map h := by
  unfold Fk.l11_0.r
  exact (ite_map (ite_map (ite_map (bindO_map fun r10 => (bindO_map fun r12 => (bindO_map fun r14 => (bindO_map fun r16 => (ite_map rfl rfl))))) rfl) rfl) rfl)
theorem Fk.l11_0.gmap {α β : Type} (h : β → α) (mk0 : LA → LA → LI → β) (n : Nat) : ∀ (m : Nat) (x0 : Int) (x1 : LA) (x2 : LA) (x3 : LI), Fk.l11_0.g (fun a0 a1 a2 => (h (mk0 a0 a1 a2))) n m x0 x1 x2 x3 = (Fk.l11_0.g mk0 n m x0 x1 x2 x3).map h
  | 0, _, _, _, _ => rfl
  | m + 1, x0, x1, x2, x3 => by
    unfold Fk.l11_0.g
    rw [← Fk.l11_0.rmap]
    congr
    · funext y0 y1 y2 y3; exact Fk.l11_0.gmap h mk0 n m y0 y1 y2 y3
theorem Fk.l11_0.pat_shape : ∀ st t, Fk.l11_0.pat st = some t → st = Fk.l11_0.shape t := fun _ _ h => by unfold Fk.l11_0.pat at h; split at h <;> cases h; rfl
def Fk.l11_0.k0 : LA → LA → LI → Ex × St := (fun a0 a1 a2 => (((.exit 0), (St.mk [(.own 0 1), (.own 1 1), (.robjs 69 6 a0)] [(some (.objs 4 1 a1)), (some (.ints .u8 a2))])) : Ex × St))
theorem Fk.l11_0.round (n : Nat) (rc : St → Option (Ex × St)) (x0 : Int) (x1 : LA) (x2 : LA) (x3 : LI) : Fk.R0 n rc ((St.mk [(.int .i64 x0), (.robjs 69 6 x1), (.own 0 1), (.own 1 1)] [(some (.objs 4 1 x2)), (some (.ints .u8 x3))])) = Fk.l11_0.r Fk.l11_0.k0 n (fun y0 y1 y2 y3 => rc ((St.mk [(.int .i64 y0), (.robjs 69 6 y1), (.own 0 1), (.own 1 1)] [(some (.objs 4 1 y2)), (some (.ints .u8 y3))]))) x0 x1 x2 x3 := by kernel_rfl
theorem Fk.l11_0.loop' (n : Nat) : ∀ (m : Nat) (t : (Int × (LA × (LA × LI)))), loopOf (Fk.R0 n) m (Fk.l11_0.shape t) = Fk.l11_0.g Fk.l11_0.k0 n m t.1 t.2.1 t.2.2.1 t.2.2.2 :=
  loop_of_round (shape := Fk.l11_0.shape) (body := Fk.R0 n) (g := fun m t => Fk.l11_0.g Fk.l11_0.k0 n m t.1 t.2.1 t.2.2.1 t.2.2.2) (fun t => rfl)
    fun m t ih => (Fk.l11_0.round n (loopOf (Fk.R0 n) m) t.1 t.2.1 t.2.2.1 t.2.2.2).trans (congrFun (congrFun (congrFun (congrFun (congrArg (Fk.l11_0.r Fk.l11_0.k0 n) (funext fun y0 => funext fun y1 => funext fun y2 => funext fun y3 => ih (y0, y1, y2, y3))) t.1) t.2.1) t.2.2.1) t.2.2.2)
theorem Fk.l11_0.loop (n m : Nat) (t : (Int × (LA × (LA × LI)))) : loopOf (Fk.R0 n) m (Fk.l11_0.shape t) = (Fk.l11_0.m n m t).map Fk.l11_0.res :=
  (Fk.l11_0.loop' n m t).trans (Fk.l11_0.gmap Fk.l11_0.res (fun a0 a1 a2 => (a0, a1, a2)) n m t.1 t.2.1 t.2.2.1 t.2.2.2)
theorem Fk.gmap {α β : Type} (h : β → α) (mk0 : Bool → β) (n : Nat) (a0_0 : LI) (a0_1 : LI) (a0_2 : Bool) (a0_3 : LI) (a0_4 : LI) (a0_5 : LI) (a0_6 : Int) (a0_7 : Int) (a0_8 : Int) (a0_9 : LI) (a0_10 : LI) (a0_11 : Bool) (a0_12 : LI) (a0_13 : Int) (a0_14 : Int) (a0_15 : LI) (a0_16 : LI) (a1 : LI) (a2 : LI) : Fk.g (fun a0 => (h (mk0 a0))) n a0_0 a0_1 a0_2 a0_3 a0_4 a0_5 a0_6 a0_7 a0_8 a0_9 a0_10 a0_11 a0_12 a0_13 a0_14 a0_15 a0_16 a1 a2 = (Fk.g mk0 n a0_0 a0_1 a0_2 a0_3 a0_4 a0_5 a0_6 a0_7 a0_8 a0_9 a0_10 a0_11 a0_12 a0_13 a0_14 a0_15 a0_16 a1 a2).map h := by
  unfold Fk.g
  exact (bindO_map fun r2 => (ite_map (bindO_map fun r6 => rfl) (bindO_map fun r6 => (ite_map (bindO_map fun r10 => rfl) (bindO_map fun r10 => (ite_map (bindO_map fun r14 => (ite_map rfl (ite_map (bindO_map fun r20 => (bindO_map fun r22 => (bindO_map fun r24 => (bindO_map fun r26 => (bindO_map fun r28 => (bindO_map fun r30 => (bindO_map fun r32 => (bindO_map fun r34 => (ite_map rfl (ite_map (bindO_map fun r40 => (bindO_map fun r42 => (bindO_map fun r44 => (bindO_map fun r46 => (bindO_map fun r48 => (bindO_map fun r50 => (bindO_map fun r52 => (bindO_map fun r54 => (ite_map rfl (ite_map (bindO_map fun r60 => (bindO_map fun r62 => (bindO_map fun r64 => (bindO_map fun r66 => (bindO_map fun r68 => (bindO_map fun r70 => (bindO_map fun r72 => (bindO_map fun r74 => (ite_map rfl (bindO_map fun r78 => (bindO_map fun r80 => (ite_map (bindO_map fun r84 => (ite_map (bindO_map fun r88 => rfl) rfl)) rfl)))))))))))) rfl)))))))))) rfl)))))))))) rfl))) rfl))))))
theorem Fk.run (n : Nat) (a0_0 : LI) (a0_1 : LI) (a0_2 : Bool) (a0_3 : LI) (a0_4 : LI) (a0_5 : LI) (a0_6 : Int) (a0_7 : Int) (a0_8 : Int) (a0_9 : LI) (a0_10 : LI) (a0_11 : Bool) (a0_12 : LI) (a0_13 : Int) (a0_14 : Int) (a0_15 : LI) (a0_16 : LI) (a1 : LI) (a2 : LI) : runF (Fk.C n) (Fk.A n) n Tryd.f16 [(.agg [(.ints .u8 20 a0_0), (.ints .u64 4 a0_1), (.bool a0_2), (.ints .u8 20 a0_3), (.rints .u8 a0_4), (.rints .u8 a0_5), (.int .u64 a0_6), (.int .u64 a0_7), (.int .u64 a0_8), (.ints .u64 4 a0_9), (.ints .u64 4 a0_10), (.bool a0_11), (.ints .u8 20 a0_12), (.int .u64 a0_13), (.int .u64 a0_14), (.rints .u8 a0_15), (.rints .u8 a0_16)]), (.ints .u64 4 a1), (.ints .u64 4 a2)] [] (fun v o => some (v, o)) = Fk.g (fun a0 => (((.bool a0), []) : AV × Blks)) n a0_0 a0_1 a0_2 a0_3 a0_4 a0_5 a0_6 a0_7 a0_8 a0_9 a0_10 a0_11 a0_12 a0_13 a0_14 a0_15 a0_16 a1 a2 := by kernel_rfl
theorem Fk.call (hmix : Tryd.prog.follows .mixedOrders = true) (n : Nat) (t : (LI × (LI × (Bool × (LI × (LI × (LI × (Int × (Int × (Int × (LI × (LI × (Bool × (LI × (Int × (Int × (LI × (LI × (LI × LI))))))))))))))))))) (u) (h : Fk.m n t = some u) : FnC Tryd.prog abiG 16 (Fk.shape t).1 (Fk.shape t).2 (Fk.res u).1 (Fk.res u).2 :=
  fnC1 (C := Fk.C n) (A := Fk.A n) (fn := Tryd.f16) rfl (.cons (Fcr.s hmix n) (.cons (Fbn.s hmix n) (.cons (Fj.s hmix n) (.cons (abi_Decode.s hmix n) (.cons (Fai.s hmix n) (.cons (Fo.s hmix n) .nil)))))) hmix Tryd.func16 (by kernel_rfl) (lp := [Fk.b0]) (by kernel_rfl) (.cons (show (Fk.A n).loop (key Fk.b0) = some (.mk' Fk.l11_0.pat (Fk.l11_0.m n n) Fk.l11_0.resK) by kernel_rfl) (LoopS.of (res := Fk.l11_0.res) (fun R u K => rfl) Fk.l11_0.pat_shape fun t => Fk.l11_0.loop n n t)
  .nil)
  (nj rfl) (by decide) rfl rfl (by show 3 ≤ Tryd.f16.ntmps; decide) (Fk.run n t.1 t.2.1 t.2.2.1 t.2.2.2.1 t.2.2.2.2.1 t.2.2.2.2.2.1 t.2.2.2.2.2.2.1 t.2.2.2.2.2.2.2.1 t.2.2.2.2.2.2.2.2.1 t.2.2.2.2.2.2.2.2.2.1 t.2.2.2.2.2.2.2.2.2.2.1 t.2.2.2.2.2.2.2.2.2.2.2.1 t.2.2.2.2.2.2.2.2.2.2.2.2.1 t.2.2.2.2.2.2.2.2.2.2.2.2.2.1 t.2.2.2.2.2.2.2.2.2.2.2.2.2.2.1 t.2.2.2.2.2.2.2.2.2.2.2.2.2.2.2.1 t.2.2.2.2.2.2.2.2.2.2.2.2.2.2.2.2.1 t.2.2.2.2.2.2.2.2.2.2.2.2.2.2.2.2.2.1 t.2.2.2.2.2.2.2.2.2.2.2.2.2.2.2.2.2.2) (Fk.gmap Fk.res (fun a0 => a0) n t.1 t.2.1 t.2.2.1 t.2.2.2.1 t.2.2.2.2.1 t.2.2.2.2.2.1 t.2.2.2.2.2.2.1 t.2.2.2.2.2.2.2.1 t.2.2.2.2.2.2.2.2.1 t.2.2.2.2.2.2.2.2.2.1 t.2.2.2.2.2.2.2.2.2.2.1 t.2.2.2.2.2.2.2.2.2.2.2.1 t.2.2.2.2.2.2.2.2.2.2.2.2.1 t.2.2.2.2.2.2.2.2.2.2.2.2.2.1 t.2.2.2.2.2.2.2.2.2.2.2.2.2.2.1 t.2.2.2.2.2.2.2.2.2.2.2.2.2.2.2.1 t.2.2.2.2.2.2.2.2.2.2.2.2.2.2.2.2.1 t.2.2.2.2.2.2.2.2.2.2.2.2.2.2.2.2.2.1 t.2.2.2.2.2.2.2.2.2.2.2.2.2.2.2.2.2.2) h
end
