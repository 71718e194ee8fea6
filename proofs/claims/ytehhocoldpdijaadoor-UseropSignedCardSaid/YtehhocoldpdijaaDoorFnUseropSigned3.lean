/- What the program's functions compute, as plain functions, each with its proof: the function does just that. Condition: the plain function has an answer. -/
import Derived.Test.YtehhocoldpdijaaDoorFnUseropSigned2
import Derived.Test.YtehhocoldpdijaaDoorAbsG6
import Derived.Test.YtehhocoldpdijaaDoorProg
import Derived.Test.YtehhocoldpdijaaDoorFnUseropSigned1
set_option linter.unusedVariables false
set_option linter.unusedSimpArgs false
set_option maxRecDepth 100000
open Go Go.Abs Go.Proofs
section
theorem Fcj.gmap {α β : Type} (h : β → α) (mk0 : Bool → β) (n : Nat) (a0_0 : LI) (a0_1 : LI) (a0_2 : Bool) (a0_3 : LI) (a0_4 : LI) (a0_5 : LI) (a0_6 : Int) (a0_7 : Int) (a0_8 : Int) (a0_9 : LI) (a0_10 : LI) (a0_11 : Bool) (a0_12 : LI) (a0_13 : Int) (a0_14 : Int) (a0_15 : LI) (a0_16 : LI) (a1 : Int) : Fcj.g (fun a0 => (h (mk0 a0))) n a0_0 a0_1 a0_2 a0_3 a0_4 a0_5 a0_6 a0_7 a0_8 a0_9 a0_10 a0_11 a0_12 a0_13 a0_14 a0_15 a0_16 a1 = (Fcj.g mk0 n a0_0 a0_1 a0_2 a0_3 a0_4 a0_5 a0_6 a0_7 a0_8 a0_9 a0_10 a0_11 a0_12 a0_13 a0_14 a0_15 a0_16 a1).map h := by
  unfold Fcj.g
  exact (ite_map (ite_map (ite_map rfl rfl) rfl) rfl)
theorem Fcj.run (n : Nat) (a0_0 : LI) (a0_1 : LI) (a0_2 : Bool) (a0_3 : LI) (a0_4 : LI) (a0_5 : LI) (a0_6 : Int) (a0_7 : Int) (a0_8 : Int) (a0_9 : LI) (a0_10 : LI) (a0_11 : Bool) (a0_12 : LI) (a0_13 : Int) (a0_14 : Int) (a0_15 : LI) (a0_16 : LI) (a1 : Int) : runF (Fcj.C n) (Fcj.A n) n Tryd.f58 [(.agg [(.ints .u8 20 a0_0), (.ints .u64 4 a0_1), (.bool a0_2), (.ints .u8 20 a0_3), (.rints .u8 a0_4), (.rints .u8 a0_5), (.int .u64 a0_6), (.int .u64 a0_7), (.int .u64 a0_8), (.ints .u64 4 a0_9), (.ints .u64 4 a0_10), (.bool a0_11), (.ints .u8 20 a0_12), (.int .u64 a0_13), (.int .u64 a0_14), (.rints .u8 a0_15), (.rints .u8 a0_16)]), (.int .i64 a1)] [] (fun v o => some (v, o)) = Fcj.g (fun a0 => (((.bool a0), []) : AV × Blks)) n a0_0 a0_1 a0_2 a0_3 a0_4 a0_5 a0_6 a0_7 a0_8 a0_9 a0_10 a0_11 a0_12 a0_13 a0_14 a0_15 a0_16 a1 := by kernel_rfl
theorem Fcj.call (hmix : Tryd.prog.follows .mixedOrders = true) (n : Nat) (t : (LI × (LI × (Bool × (LI × (LI × (LI × (Int × (Int × (Int × (LI × (LI × (Bool × (LI × (Int × (Int × (LI × (LI × Int)))))))))))))))))) (u) (h : Fcj.m n t = some u) : FnC Tryd.prog abiG 58 (Fcj.shape t).1 (Fcj.shape t).2 (Fcj.res u).1 (Fcj.res u).2 :=
  fnC1 (C := Fcj.C n) (A := Fcj.A n) (fn := Tryd.f58) rfl .nil hmix Tryd.func58 (by kernel_rfl) (lp := []) (by kernel_rfl) .nil
  (nj rfl) (by decide) rfl rfl (by show 2 ≤ Tryd.f58.ntmps; decide) (Fcj.run n t.1 t.2.1 t.2.2.1 t.2.2.2.1 t.2.2.2.2.1 t.2.2.2.2.2.1 t.2.2.2.2.2.2.1 t.2.2.2.2.2.2.2.1 t.2.2.2.2.2.2.2.2.1 t.2.2.2.2.2.2.2.2.2.1 t.2.2.2.2.2.2.2.2.2.2.1 t.2.2.2.2.2.2.2.2.2.2.2.1 t.2.2.2.2.2.2.2.2.2.2.2.2.1 t.2.2.2.2.2.2.2.2.2.2.2.2.2.1 t.2.2.2.2.2.2.2.2.2.2.2.2.2.2.1 t.2.2.2.2.2.2.2.2.2.2.2.2.2.2.2.1 t.2.2.2.2.2.2.2.2.2.2.2.2.2.2.2.2.1 t.2.2.2.2.2.2.2.2.2.2.2.2.2.2.2.2.2) (Fcj.gmap Fcj.res (fun a0 => a0) n t.1 t.2.1 t.2.2.1 t.2.2.2.1 t.2.2.2.2.1 t.2.2.2.2.2.1 t.2.2.2.2.2.2.1 t.2.2.2.2.2.2.2.1 t.2.2.2.2.2.2.2.2.1 t.2.2.2.2.2.2.2.2.2.1 t.2.2.2.2.2.2.2.2.2.2.1 t.2.2.2.2.2.2.2.2.2.2.2.1 t.2.2.2.2.2.2.2.2.2.2.2.2.1 t.2.2.2.2.2.2.2.2.2.2.2.2.2.1 t.2.2.2.2.2.2.2.2.2.2.2.2.2.2.1 t.2.2.2.2.2.2.2.2.2.2.2.2.2.2.2.1 t.2.2.2.2.2.2.2.2.2.2.2.2.2.2.2.2.1 t.2.2.2.2.2.2.2.2.2.2.2.2.2.2.2.2.2) h
theorem Fcj.s (hmix : Tryd.prog.follows .mixedOrders = true) (n : Nat) : CalleeS Tryd.prog abiG 58 (Fcj.c n) :=
  .mk1 (res := Fcj.res) (shape := Fcj.shape) (fun R u K => rfl) (fun _ _ _ h => by unfold Fcj.pat at h; split at h <;> cases h; rfl) (fun t u h => Fcj.call hmix n t u h) Tryd.func58 (by decide) (by kernel_rfl)
end
section
theorem Fci.gmap {α β : Type} (h : β → α) (mk0 : Bool → β) (n : Nat) (a0_0 : LI) (a0_1 : LI) (a0_2 : Bool) (a0_3 : LI) (a0_4 : LI) (a0_5 : LI) (a0_6 : Int) (a0_7 : Int) (a0_8 : Int) (a0_9 : LI) (a0_10 : LI) (a0_11 : Bool) (a0_12 : LI) (a0_13 : Int) (a0_14 : Int) (a0_15 : LI) (a0_16 : LI) : Fci.g (fun a0 => (h (mk0 a0))) n a0_0 a0_1 a0_2 a0_3 a0_4 a0_5 a0_6 a0_7 a0_8 a0_9 a0_10 a0_11 a0_12 a0_13 a0_14 a0_15 a0_16 = (Fci.g mk0 n a0_0 a0_1 a0_2 a0_3 a0_4 a0_5 a0_6 a0_7 a0_8 a0_9 a0_10 a0_11 a0_12 a0_13 a0_14 a0_15 a0_16).map h := by
  unfold Fci.g
  exact (bindO_map fun r2 => (ite_map (bindO_map fun r6 => rfl) rfl))
theorem Fci.run (n : Nat) (a0_0 : LI) (a0_1 : LI) (a0_2 : Bool) (a0_3 : LI) (a0_4 : LI) (a0_5 : LI) (a0_6 : Int) (a0_7 : Int) (a0_8 : Int) (a0_9 : LI) (a0_10 : LI) (a0_11 : Bool) (a0_12 : LI) (a0_13 : Int) (a0_14 : Int) (a0_15 : LI) (a0_16 : LI) : runF (Fci.C n) (Fci.A n) n Tryd.f29 [(.agg [(.ints .u8 20 a0_0), (.ints .u64 4 a0_1), (.bool a0_2), (.ints .u8 20 a0_3), (.rints .u8 a0_4), (.rints .u8 a0_5), (.int .u64 a0_6), (.int .u64 a0_7), (.int .u64 a0_8), (.ints .u64 4 a0_9), (.ints .u64 4 a0_10), (.bool a0_11), (.ints .u8 20 a0_12), (.int .u64 a0_13), (.int .u64 a0_14), (.rints .u8 a0_15), (.rints .u8 a0_16)])] [] (fun v o => some (v, o)) = Fci.g (fun a0 => (((.bool a0), []) : AV × Blks)) n a0_0 a0_1 a0_2 a0_3 a0_4 a0_5 a0_6 a0_7 a0_8 a0_9 a0_10 a0_11 a0_12 a0_13 a0_14 a0_15 a0_16 := by kernel_rfl
theorem Fci.call (hmix : Tryd.prog.follows .mixedOrders = true) (n : Nat) (t : (LI × (LI × (Bool × (LI × (LI × (LI × (Int × (Int × (Int × (LI × (LI × (Bool × (LI × (Int × (Int × (LI × LI))))))))))))))))) (u) (h : Fci.m n t = some u) : FnC Tryd.prog abiG 29 (Fci.shape t).1 (Fci.shape t).2 (Fci.res u).1 (Fci.res u).2 :=
  fnC1 (C := Fci.C n) (A := Fci.A n) (fn := Tryd.f29) rfl (.cons (Fcj.s hmix n) (.cons (Fbc.s hmix n) .nil)) hmix Tryd.func29 (by kernel_rfl) (lp := []) (by kernel_rfl) .nil
  (nj rfl) (by decide) rfl rfl (by show 1 ≤ Tryd.f29.ntmps; decide) (Fci.run n t.1 t.2.1 t.2.2.1 t.2.2.2.1 t.2.2.2.2.1 t.2.2.2.2.2.1 t.2.2.2.2.2.2.1 t.2.2.2.2.2.2.2.1 t.2.2.2.2.2.2.2.2.1 t.2.2.2.2.2.2.2.2.2.1 t.2.2.2.2.2.2.2.2.2.2.1 t.2.2.2.2.2.2.2.2.2.2.2.1 t.2.2.2.2.2.2.2.2.2.2.2.2.1 t.2.2.2.2.2.2.2.2.2.2.2.2.2.1 t.2.2.2.2.2.2.2.2.2.2.2.2.2.2.1 t.2.2.2.2.2.2.2.2.2.2.2.2.2.2.2.1 t.2.2.2.2.2.2.2.2.2.2.2.2.2.2.2.2) (Fci.gmap Fci.res (fun a0 => a0) n t.1 t.2.1 t.2.2.1 t.2.2.2.1 t.2.2.2.2.1 t.2.2.2.2.2.1 t.2.2.2.2.2.2.1 t.2.2.2.2.2.2.2.1 t.2.2.2.2.2.2.2.2.1 t.2.2.2.2.2.2.2.2.2.1 t.2.2.2.2.2.2.2.2.2.2.1 t.2.2.2.2.2.2.2.2.2.2.2.1 t.2.2.2.2.2.2.2.2.2.2.2.2.1 t.2.2.2.2.2.2.2.2.2.2.2.2.2.1 t.2.2.2.2.2.2.2.2.2.2.2.2.2.2.1 t.2.2.2.2.2.2.2.2.2.2.2.2.2.2.2.1 t.2.2.2.2.2.2.2.2.2.2.2.2.2.2.2.2) h
theorem Fci.s (hmix : Tryd.prog.follows .mixedOrders = true) (n : Nat) : CalleeS Tryd.prog abiG 29 (Fci.c n) :=
  .mk1 (res := Fci.res) (shape := Fci.shape) (fun R u K => rfl) (fun _ _ _ h => by unfold Fci.pat at h; split at h <;> cases h; rfl) (fun t u h => Fci.call hmix n t u h) Tryd.func29 (by decide) (by kernel_rfl)
end
section
noncomputable section
noncomputable def Fv.C (n : Nat) : Ctx := ⟨Tryd.prog, abiG, lookC [(63, Faz.c n)], fun _ => false⟩
noncomputable def Fv.A (n : Nat) : Ann := ⟨Tryd.f24.ntmps, 0, noNL, [], [none], fun k => match k with
 | _ => none, noNL, lookJ []⟩
def Fv.g {α : Type} (mk0 : Bool → Int → Int → α) (n : Nat) (a0 : LI) : Option α :=
 bindO (Faz.m n a0) fun r2 =>
  some (mk0 (!(r2 == ([0, 0, 0, 0, 0, 0, 0, 0, 0, 0, 0, 0, 0, 0, 0, 0, 0, 0, 0, 0] : List Int))) (ibits BinOp.and .u64 (ishr .u64 (List.getD a0 3 0) 16) 281474976710655) (ibits BinOp.or .u64 (ishr .u64 (List.getD a0 2 0) 32) (ishl .u64 (ibits BinOp.and .u64 (List.getD a0 3 0) 65535) 32)))
def Fv.m (n : Nat) (t : LI) : Option (Bool × (Int × Int)) := Fv.g (fun a0 a1 a2 => (a0, a1, a2)) n t
def Fv.pat : List AV → Blks → Option LI
 | [(.ints .u64 4 a0)], [] => some a0
 | _, _ => none
def Fv.shape (t : LI) : List AV × Blks := ([(.ints .u64 4 t)], [])
def Fv.res : (Bool × (Int × Int)) → AV × Blks
 | u => ((.agg [(.bool u.1), (.int .u64 u.2.1), (.int .u64 u.2.2)]), [])
def Fv.resK {R : Type} (u : (Bool × (Int × Int))) (K : AV → Blks → Option R) : Option R := K (Fv.res u).1 (Fv.res u).2
def Fv.c (n : Nat) : Abs.Callee := .mk' [] [none] Fv.pat (Fv.m n) Fv.resK
end
end
section
noncomputable section
noncomputable def Fw.C (n : Nat) : Ctx := ⟨Tryd.prog, abiG, lookC [(22, Fs.c n), (69, Faw.c n), (56, Fae.c n), (38, Fz.c n), (20, Fag.c n), (99, Fa.c n)], fun _ => false⟩
noncomputable def Fw.A (n : Nat) : Ann := ⟨Tryd.f66.ntmps, 0, noNL, [], [(some (.ints .u8))], fun k => match k with
 | _ => none, noNL, lookJ []⟩
def Fw.g {α : Type} (mk0 : LI → α) (n : Nat) (a0 : ByteArray) (a1_0 : LI) (a1_1 : LI) (a1_2 : Bool) (a1_3 : LI) (a1_4 : LI) (a1_5 : LI) (a1_6 : Int) (a1_7 : Int) (a1_8 : Int) (a1_9 : LI) (a1_10 : LI) (a1_11 : Bool) (a1_12 : LI) (a1_13 : Int) (a1_14 : Int) (a1_15 : LI) (a1_16 : LI) (a2 : LI) (a3 : LI) : Option α :=
 if ((ByteArray.size a0) + 83) ≤ 1152921504606846976 then
  bindO (Fs.m n (a0 ++ (b8 [40, 40, 97, 100, 100, 114, 101, 115, 115, 44, 117, 105, 110, 116, 50, 53, 54, 44, 98, 121, 116, 101, 115, 44, 98, 121, 116, 101, 115, 44, 98, 121, 116, 101, 115, 51, 50, 44, 117, 105, 110, 116, 50, 53, 54, 44, 98, 121, 116, 101, 115, 51, 50, 44, 98, 121, 116, 101, 115, 44, 98, 121, 116, 101, 115, 41, 44, 98, 121, 116, 101, 115, 51, 50, 44, 117, 105, 110, 116, 50, 53, 54, 41]))) fun r4 =>
   bindO (Faw.m n 96) fun r6 =>
    bindO (Fae.m n r6) fun r8 =>
     bindO (Fae.m n a2) fun r10 =>
      bindO (Fae.m n a3) fun r12 =>
       bindO (Fz.m n (a1_0, a1_1, a1_2, a1_3, a1_4, a1_5, a1_6, a1_7, a1_8, a1_9, a1_10, a1_11, a1_12, a1_13, a1_14, a1_15, a1_16)) fun r14 =>
        bindO (Fag.m n r14) fun r16 =>
         bindO (Fa.m n [(AV.rints .u8 r4), (AV.rints .u8 r8), (AV.rints .u8 r10), (AV.rints .u8 r12), (AV.rints .u8 r16)]) fun r18 =>
          some (mk0 r18)
 else
  none
def Fw.m (n : Nat) (t : (ByteArray × (LI × (LI × (Bool × (LI × (LI × (LI × (Int × (Int × (Int × (LI × (LI × (Bool × (LI × (Int × (Int × (LI × (LI × (LI × LI)))))))))))))))))))) : Option LI := Fw.g (fun a0 => a0) n t.1 t.2.1 t.2.2.1 t.2.2.2.1 t.2.2.2.2.1 t.2.2.2.2.2.1 t.2.2.2.2.2.2.1 t.2.2.2.2.2.2.2.1 t.2.2.2.2.2.2.2.2.1 t.2.2.2.2.2.2.2.2.2.1 t.2.2.2.2.2.2.2.2.2.2.1 t.2.2.2.2.2.2.2.2.2.2.2.1 t.2.2.2.2.2.2.2.2.2.2.2.2.1 t.2.2.2.2.2.2.2.2.2.2.2.2.2.1 t.2.2.2.2.2.2.2.2.2.2.2.2.2.2.1 t.2.2.2.2.2.2.2.2.2.2.2.2.2.2.2.1 t.2.2.2.2.2.2.2.2.2.2.2.2.2.2.2.2.1 t.2.2.2.2.2.2.2.2.2.2.2.2.2.2.2.2.2.1 t.2.2.2.2.2.2.2.2.2.2.2.2.2.2.2.2.2.2.1 t.2.2.2.2.2.2.2.2.2.2.2.2.2.2.2.2.2.2.2
def Fw.pat : List AV → Blks → Option (ByteArray × (LI × (LI × (Bool × (LI × (LI × (LI × (Int × (Int × (Int × (LI × (LI × (Bool × (LI × (Int × (Int × (LI × (LI × (LI × LI)))))))))))))))))))
 | [(.str a0), (.agg [(.ints .u8 20 a1_0), (.ints .u64 4 a1_1), (.bool a1_2), (.ints .u8 20 a1_3), (.rints .u8 a1_4), (.rints .u8 a1_5), (.int .u64 a1_6), (.int .u64 a1_7), (.int .u64 a1_8), (.ints .u64 4 a1_9), (.ints .u64 4 a1_10), (.bool a1_11), (.ints .u8 20 a1_12), (.int .u64 a1_13), (.int .u64 a1_14), (.rints .u8 a1_15), (.rints .u8 a1_16)]), (.ints .u64 4 a2), (.ints .u64 4 a3)], [] => some (a0, a1_0, a1_1, a1_2, a1_3, a1_4, a1_5, a1_6, a1_7, a1_8, a1_9, a1_10, a1_11, a1_12, a1_13, a1_14, a1_15, a1_16, a2, a3)
 | _, _ => none
def Fw.shape (t : (ByteArray × (LI × (LI × (Bool × (LI × (LI × (LI × (Int × (Int × (Int × (LI × (LI × (Bool × (LI × (Int × (Int × (LI × (LI × (LI × LI)))))))))))))))))))) : List AV × Blks := ([(.str t.1), (.agg [(.ints .u8 20 t.2.1), (.ints .u64 4 t.2.2.1), (.bool t.2.2.2.1), (.ints .u8 20 t.2.2.2.2.1), (.rints .u8 t.2.2.2.2.2.1), (.rints .u8 t.2.2.2.2.2.2.1), (.int .u64 t.2.2.2.2.2.2.2.1), (.int .u64 t.2.2.2.2.2.2.2.2.1), (.int .u64 t.2.2.2.2.2.2.2.2.2.1), (.ints .u64 4 t.2.2.2.2.2.2.2.2.2.2.1), (.ints .u64 4 t.2.2.2.2.2.2.2.2.2.2.2.1), (.bool t.2.2.2.2.2.2.2.2.2.2.2.2.1), (.ints .u8 20 t.2.2.2.2.2.2.2.2.2.2.2.2.2.1), (.int .u64 t.2.2.2.2.2.2.2.2.2.2.2.2.2.2.1), (.int .u64 t.2.2.2.2.2.2.2.2.2.2.2.2.2.2.2.1), (.rints .u8 t.2.2.2.2.2.2.2.2.2.2.2.2.2.2.2.2.1), (.rints .u8 t.2.2.2.2.2.2.2.2.2.2.2.2.2.2.2.2.2.1)]), (.ints .u64 4 t.2.2.2.2.2.2.2.2.2.2.2.2.2.2.2.2.2.2.1), (.ints .u64 4 t.2.2.2.2.2.2.2.2.2.2.2.2.2.2.2.2.2.2.2)], [])
def Fw.res : LI → AV × Blks
 | u => ((.own 0 1), [(some (.ints .u8 u))])
def Fw.resK {R : Type} (u : LI) (K : AV → Blks → Option R) : Option R := K (Fw.res u).1 (Fw.res u).2
def Fw.c (n : Nat) : Abs.Callee := .mk' [] [none, (some (.agg [none, none, none, none, (some (.ints .u8)), (some (.ints .u8)), none, none, none, none, none, none, none, none, none, (some (.ints .u8)), (some (.ints .u8))])), none, none] Fw.pat (Fw.m n) Fw.resK
end
end
section
noncomputable section
noncomputable def Fj.C (n : Nat) : Ctx := ⟨Tryd.prog, abiG, lookC [(66, Fw.c n)], fun _ => false⟩
noncomputable def Fj.A (n : Nat) : Ann := ⟨Tryd.f30.ntmps, 0, noNL, [], [(some (.ints .u8))], fun k => match k with
 | _ => none, noNL, lookJ []⟩
def Fj.g {α : Type} (mk0 : LI → α) (n : Nat) (a0_0 : LI) (a0_1 : LI) (a0_2 : Bool) (a0_3 : LI) (a0_4 : LI) (a0_5 : LI) (a0_6 : Int) (a0_7 : Int) (a0_8 : Int) (a0_9 : LI) (a0_10 : LI) (a0_11 : Bool) (a0_12 : LI) (a0_13 : Int) (a0_14 : Int) (a0_15 : LI) (a0_16 : LI) (a1 : LI) (a2 : LI) : Option α :=
 bindO (Fw.m n ((b8 [118, 97, 108, 105, 100, 97, 116, 101, 85, 115, 101, 114, 79, 112]), a0_0, a0_1, a0_2, a0_3, a0_4, a0_5, a0_6, a0_7, a0_8, a0_9, a0_10, a0_11, a0_12, a0_13, a0_14, a0_15, a0_16, a1, a2)) fun r2 =>
  some (mk0 r2)
def Fj.m (n : Nat) (t : (LI × (LI × (Bool × (LI × (LI × (LI × (Int × (Int × (Int × (LI × (LI × (Bool × (LI × (Int × (Int × (LI × (LI × (LI × LI))))))))))))))))))) : Option LI := Fj.g (fun a0 => a0) n t.1 t.2.1 t.2.2.1 t.2.2.2.1 t.2.2.2.2.1 t.2.2.2.2.2.1 t.2.2.2.2.2.2.1 t.2.2.2.2.2.2.2.1 t.2.2.2.2.2.2.2.2.1 t.2.2.2.2.2.2.2.2.2.1 t.2.2.2.2.2.2.2.2.2.2.1 t.2.2.2.2.2.2.2.2.2.2.2.1 t.2.2.2.2.2.2.2.2.2.2.2.2.1 t.2.2.2.2.2.2.2.2.2.2.2.2.2.1 t.2.2.2.2.2.2.2.2.2.2.2.2.2.2.1 t.2.2.2.2.2.2.2.2.2.2.2.2.2.2.2.1 t.2.2.2.2.2.2.2.2.2.2.2.2.2.2.2.2.1 t.2.2.2.2.2.2.2.2.2.2.2.2.2.2.2.2.2.1 t.2.2.2.2.2.2.2.2.2.2.2.2.2.2.2.2.2.2
def Fj.pat : List AV → Blks → Option (LI × (LI × (Bool × (LI × (LI × (LI × (Int × (Int × (Int × (LI × (LI × (Bool × (LI × (Int × (Int × (LI × (LI × (LI × LI))))))))))))))))))
 | [(.agg [(.ints .u8 20 a0_0), (.ints .u64 4 a0_1), (.bool a0_2), (.ints .u8 20 a0_3), (.rints .u8 a0_4), (.rints .u8 a0_5), (.int .u64 a0_6), (.int .u64 a0_7), (.int .u64 a0_8), (.ints .u64 4 a0_9), (.ints .u64 4 a0_10), (.bool a0_11), (.ints .u8 20 a0_12), (.int .u64 a0_13), (.int .u64 a0_14), (.rints .u8 a0_15), (.rints .u8 a0_16)]), (.ints .u64 4 a1), (.ints .u64 4 a2)], [] => some (a0_0, a0_1, a0_2, a0_3, a0_4, a0_5, a0_6, a0_7, a0_8, a0_9, a0_10, a0_11, a0_12, a0_13, a0_14, a0_15, a0_16, a1, a2)
 | _, _ => none
def Fj.shape (t : (LI × (LI × (Bool × (LI × (LI × (LI × (Int × (Int × (Int × (LI × (LI × (Bool × (LI × (Int × (Int × (LI × (LI × (LI × LI))))))))))))))))))) : List AV × Blks := ([(.agg [(.ints .u8 20 t.1), (.ints .u64 4 t.2.1), (.bool t.2.2.1), (.ints .u8 20 t.2.2.2.1), (.rints .u8 t.2.2.2.2.1), (.rints .u8 t.2.2.2.2.2.1), (.int .u64 t.2.2.2.2.2.2.1), (.int .u64 t.2.2.2.2.2.2.2.1), (.int .u64 t.2.2.2.2.2.2.2.2.1), (.ints .u64 4 t.2.2.2.2.2.2.2.2.2.1), (.ints .u64 4 t.2.2.2.2.2.2.2.2.2.2.1), (.bool t.2.2.2.2.2.2.2.2.2.2.2.1), (.ints .u8 20 t.2.2.2.2.2.2.2.2.2.2.2.2.1), (.int .u64 t.2.2.2.2.2.2.2.2.2.2.2.2.2.1), (.int .u64 t.2.2.2.2.2.2.2.2.2.2.2.2.2.2.1), (.rints .u8 t.2.2.2.2.2.2.2.2.2.2.2.2.2.2.2.1), (.rints .u8 t.2.2.2.2.2.2.2.2.2.2.2.2.2.2.2.2.1)]), (.ints .u64 4 t.2.2.2.2.2.2.2.2.2.2.2.2.2.2.2.2.2.1), (.ints .u64 4 t.2.2.2.2.2.2.2.2.2.2.2.2.2.2.2.2.2.2)], [])
def Fj.res : LI → AV × Blks
 | u => ((.own 0 1), [(some (.ints .u8 u))])
def Fj.resK {R : Type} (u : LI) (K : AV → Blks → Option R) : Option R := K (Fj.res u).1 (Fj.res u).2
def Fj.c (n : Nat) : Abs.Callee := .mk' [] [(some (.agg [none, none, none, none, (some (.ints .u8)), (some (.ints .u8)), none, none, none, none, none, none, none, none, none, (some (.ints .u8)), (some (.ints .u8))])), none, none] Fj.pat (Fj.m n) Fj.resK
end
end
section
noncomputable section
noncomputable def Far.C (n : Nat) : Ctx := ⟨Tryd.prog, abiG, lookC [], fun _ => false⟩
noncomputable def Far.A (n : Nat) : Ann := ⟨Tryd.f27.ntmps, 0, noNL, [], [none], fun k => match k with
 | _ => none, noNL, lookJ []⟩
def Far.g {α : Type} (mk0 : Bool → α) (n : Nat) (a0_0 : Bool) (a0_1 : Int) (a0_2 : Int) (a1 : Int) : Option α :=
 if (!a0_0) = true then
  if (decide (a1 ≥ a0_1)) = true then
   if (a0_2 == 0) = true then
    some (mk0 true)
   else
    some (mk0 (decide (a1 ≤ a0_2)))
  else
   some (mk0 false)
 else
  some (mk0 false)
def Far.m (n : Nat) (t : (Bool × (Int × (Int × Int)))) : Option Bool := Far.g (fun a0 => a0) n t.1 t.2.1 t.2.2.1 t.2.2.2
def Far.pat : List AV → Blks → Option (Bool × (Int × (Int × Int)))
 | [(.agg [(.bool a0_0), (.int .u64 a0_1), (.int .u64 a0_2)]), (.int .u64 a1)], [] => some (a0_0, a0_1, a0_2, a1)
 | _, _ => none
def Far.shape (t : (Bool × (Int × (Int × Int)))) : List AV × Blks := ([(.agg [(.bool t.1), (.int .u64 t.2.1), (.int .u64 t.2.2.1)]), (.int .u64 t.2.2.2)], [])
def Far.res : Bool → AV × Blks
 | u => ((.bool u), [])
def Far.resK {R : Type} (u : Bool) (K : AV → Blks → Option R) : Option R := K (Far.res u).1 (Far.res u).2
def Far.c (n : Nat) : Abs.Callee := .mk' [] [none, none] Far.pat (Far.m n) Far.resK
end
end
section
noncomputable section
noncomputable def Fas.C (n : Nat) : Ctx := ⟨Tryd.prog, abiG, lookC [], fun _ => false⟩
noncomputable def Fas.A (n : Nat) : Ann := ⟨Tryd.f43.ntmps, 0, noNL, [], [none], fun k => match k with
 | _ => none, noNL, lookJ []⟩
def Fas.g {α : Type} (mk0 : Int → α) (n : Nat) (a0_0 : LI) (a0_1 : LI) (a0_2 : Bool) (a0_3 : LI) (a0_4 : LI) (a0_5 : LI) (a0_6 : Int) (a0_7 : Int) (a0_8 : Int) (a0_9 : LI) (a0_10 : LI) (a0_11 : Bool) (a0_12 : LI) (a0_13 : Int) (a0_14 : Int) (a0_15 : LI) (a0_16 : LI) : Option α :=
 some (mk0 (IntKind.wrap .u64 ((IntKind.wrap .u64 ((IntKind.wrap .u64 ((IntKind.wrap .u64 (a0_6 + a0_7)) + a0_8)) + a0_13)) + a0_14)))
def Fas.m (n : Nat) (t : (LI × (LI × (Bool × (LI × (LI × (LI × (Int × (Int × (Int × (LI × (LI × (Bool × (LI × (Int × (Int × (LI × LI))))))))))))))))) : Option Int := Fas.g (fun a0 => a0) n t.1 t.2.1 t.2.2.1 t.2.2.2.1 t.2.2.2.2.1 t.2.2.2.2.2.1 t.2.2.2.2.2.2.1 t.2.2.2.2.2.2.2.1 t.2.2.2.2.2.2.2.2.1 t.2.2.2.2.2.2.2.2.2.1 t.2.2.2.2.2.2.2.2.2.2.1 t.2.2.2.2.2.2.2.2.2.2.2.1 t.2.2.2.2.2.2.2.2.2.2.2.2.1 t.2.2.2.2.2.2.2.2.2.2.2.2.2.1 t.2.2.2.2.2.2.2.2.2.2.2.2.2.2.1 t.2.2.2.2.2.2.2.2.2.2.2.2.2.2.2.1 t.2.2.2.2.2.2.2.2.2.2.2.2.2.2.2.2
def Fas.pat : List AV → Blks → Option (LI × (LI × (Bool × (LI × (LI × (LI × (Int × (Int × (Int × (LI × (LI × (Bool × (LI × (Int × (Int × (LI × LI))))))))))))))))
 | [(.agg [(.ints .u8 20 a0_0), (.ints .u64 4 a0_1), (.bool a0_2), (.ints .u8 20 a0_3), (.rints .u8 a0_4), (.rints .u8 a0_5), (.int .u64 a0_6), (.int .u64 a0_7), (.int .u64 a0_8), (.ints .u64 4 a0_9), (.ints .u64 4 a0_10), (.bool a0_11), (.ints .u8 20 a0_12), (.int .u64 a0_13), (.int .u64 a0_14), (.rints .u8 a0_15), (.rints .u8 a0_16)])], [] => some (a0_0, a0_1, a0_2, a0_3, a0_4, a0_5, a0_6, a0_7, a0_8, a0_9, a0_10, a0_11, a0_12, a0_13, a0_14, a0_15, a0_16)
 | _, _ => none
def Fas.shape (t : (LI × (LI × (Bool × (LI × (LI × (LI × (Int × (Int × (Int × (LI × (LI × (Bool × (LI × (Int × (Int × (LI × LI))))))))))))))))) : List AV × Blks := ([(.agg [(.ints .u8 20 t.1), (.ints .u64 4 t.2.1), (.bool t.2.2.1), (.ints .u8 20 t.2.2.2.1), (.rints .u8 t.2.2.2.2.1), (.rints .u8 t.2.2.2.2.2.1), (.int .u64 t.2.2.2.2.2.2.1), (.int .u64 t.2.2.2.2.2.2.2.1), (.int .u64 t.2.2.2.2.2.2.2.2.1), (.ints .u64 4 t.2.2.2.2.2.2.2.2.2.1), (.ints .u64 4 t.2.2.2.2.2.2.2.2.2.2.1), (.bool t.2.2.2.2.2.2.2.2.2.2.2.1), (.ints .u8 20 t.2.2.2.2.2.2.2.2.2.2.2.2.1), (.int .u64 t.2.2.2.2.2.2.2.2.2.2.2.2.2.1), (.int .u64 t.2.2.2.2.2.2.2.2.2.2.2.2.2.2.1), (.rints .u8 t.2.2.2.2.2.2.2.2.2.2.2.2.2.2.2.1), (.rints .u8 t.2.2.2.2.2.2.2.2.2.2.2.2.2.2.2.2)])], [])
def Fas.res : Int → AV × Blks
 | u => ((.int .u64 u), [])
def Fas.resK {R : Type} (u : Int) (K : AV → Blks → Option R) : Option R := K (Fas.res u).1 (Fas.res u).2
def Fas.c (n : Nat) : Abs.Callee := .mk' [] [(some (.agg [none, none, none, none, (some (.ints .u8)), (some (.ints .u8)), none, none, none, none, none, none, none, none, none, (some (.ints .u8)), (some (.ints .u8))]))] Fas.pat (Fas.m n) Fas.resK
end
end
section
noncomputable section
noncomputable def Fk.C (n : Nat) : Ctx := ⟨Tryd.prog, abiG, lookC [(43, Fas.c n), (69, Faw.c n), (84, Fbl.c n)], fun _ => false⟩
noncomputable def Fk.A (n : Nat) : Ann := ⟨Tryd.f45.ntmps, 0, noNL, [], [none], fun k => match k with
 | _ => none, noNL, lookJ []⟩
def Fk.g {α : Type} (mk0 : LI → α) (n : Nat) (a0_0 : LI) (a0_1 : LI) (a0_2 : Bool) (a0_3 : LI) (a0_4 : LI) (a0_5 : LI) (a0_6 : Int) (a0_7 : Int) (a0_8 : Int) (a0_9 : LI) (a0_10 : LI) (a0_11 : Bool) (a0_12 : LI) (a0_13 : Int) (a0_14 : Int) (a0_15 : LI) (a0_16 : LI) : Option α :=
 bindO (Fas.m n (a0_0, a0_1, a0_2, a0_3, a0_4, a0_5, a0_6, a0_7, a0_8, a0_9, a0_10, a0_11, a0_12, a0_13, a0_14, a0_15, a0_16)) fun r2 =>
  bindO (Faw.m n r2) fun r4 =>
   bindO (Fbl.m n (r4, a0_9)) fun r6 =>
    some (mk0 r6.1)
def Fk.m (n : Nat) (t : (LI × (LI × (Bool × (LI × (LI × (LI × (Int × (Int × (Int × (LI × (LI × (Bool × (LI × (Int × (Int × (LI × LI))))))))))))))))) : Option LI := Fk.g (fun a0 => a0) n t.1 t.2.1 t.2.2.1 t.2.2.2.1 t.2.2.2.2.1 t.2.2.2.2.2.1 t.2.2.2.2.2.2.1 t.2.2.2.2.2.2.2.1 t.2.2.2.2.2.2.2.2.1 t.2.2.2.2.2.2.2.2.2.1 t.2.2.2.2.2.2.2.2.2.2.1 t.2.2.2.2.2.2.2.2.2.2.2.1 t.2.2.2.2.2.2.2.2.2.2.2.2.1 t.2.2.2.2.2.2.2.2.2.2.2.2.2.1 t.2.2.2.2.2.2.2.2.2.2.2.2.2.2.1 t.2.2.2.2.2.2.2.2.2.2.2.2.2.2.2.1 t.2.2.2.2.2.2.2.2.2.2.2.2.2.2.2.2
def Fk.pat : List AV → Blks → Option (LI × (LI × (Bool × (LI × (LI × (LI × (Int × (Int × (Int × (LI × (LI × (Bool × (LI × (Int × (Int × (LI × LI))))))))))))))))
 | [(.agg [(.ints .u8 20 a0_0), (.ints .u64 4 a0_1), (.bool a0_2), (.ints .u8 20 a0_3), (.rints .u8 a0_4), (.rints .u8 a0_5), (.int .u64 a0_6), (.int .u64 a0_7), (.int .u64 a0_8), (.ints .u64 4 a0_9), (.ints .u64 4 a0_10), (.bool a0_11), (.ints .u8 20 a0_12), (.int .u64 a0_13), (.int .u64 a0_14), (.rints .u8 a0_15), (.rints .u8 a0_16)])], [] => some (a0_0, a0_1, a0_2, a0_3, a0_4, a0_5, a0_6, a0_7, a0_8, a0_9, a0_10, a0_11, a0_12, a0_13, a0_14, a0_15, a0_16)
 | _, _ => none
def Fk.shape (t : (LI × (LI × (Bool × (LI × (LI × (LI × (Int × (Int × (Int × (LI × (LI × (Bool × (LI × (Int × (Int × (LI × LI))))))))))))))))) : List AV × Blks := ([(.agg [(.ints .u8 20 t.1), (.ints .u64 4 t.2.1), (.bool t.2.2.1), (.ints .u8 20 t.2.2.2.1), (.rints .u8 t.2.2.2.2.1), (.rints .u8 t.2.2.2.2.2.1), (.int .u64 t.2.2.2.2.2.2.1), (.int .u64 t.2.2.2.2.2.2.2.1), (.int .u64 t.2.2.2.2.2.2.2.2.1), (.ints .u64 4 t.2.2.2.2.2.2.2.2.2.1), (.ints .u64 4 t.2.2.2.2.2.2.2.2.2.2.1), (.bool t.2.2.2.2.2.2.2.2.2.2.2.1), (.ints .u8 20 t.2.2.2.2.2.2.2.2.2.2.2.2.1), (.int .u64 t.2.2.2.2.2.2.2.2.2.2.2.2.2.1), (.int .u64 t.2.2.2.2.2.2.2.2.2.2.2.2.2.2.1), (.rints .u8 t.2.2.2.2.2.2.2.2.2.2.2.2.2.2.2.1), (.rints .u8 t.2.2.2.2.2.2.2.2.2.2.2.2.2.2.2.2)])], [])
def Fk.res : LI → AV × Blks
 | u => ((.ints .u64 4 u), [])
def Fk.resK {R : Type} (u : LI) (K : AV → Blks → Option R) : Option R := K (Fk.res u).1 (Fk.res u).2
def Fk.c (n : Nat) : Abs.Callee := .mk' [] [(some (.agg [none, none, none, none, (some (.ints .u8)), (some (.ints .u8)), none, none, none, none, none, none, none, none, none, (some (.ints .u8)), (some (.ints .u8))]))] Fk.pat (Fk.m n) Fk.resK
end
end
section
noncomputable section
noncomputable def Fbd.C (n : Nat) : Ctx := ⟨Tryd.prog, abiG, lookC [(24, Fv.c n), (30, Fj.c n), (27, Far.c n), (45, Fk.c n)], fun _ => false⟩
noncomputable def Fbd.A (n : Nat) : Ann := ⟨Tryd.f25.ntmps, 0, noNL, [], [none], fun k => match k with
 | _ => none, noNL, lookJ []⟩
def Fbd.g {α : Type} (mk0 : Bool → α) (n : Nat)  : Option α :=
 bindO (Fv.m n [0, 0, 429496729600, 0]) fun r2 =>
  bindO (Fj.m n (([0, 0, 0, 0, 0, 0, 0, 0, 0, 0, 0, 0, 0, 0, 0, 0, 0, 0, 0, 0] : List Int), [0, 0, 0, 0], false, ([0, 0, 0, 0, 0, 0, 0, 0, 0, 0, 0, 0, 0, 0, 0, 0, 0, 0, 0, 0] : List Int), [], [], 1, 2, 3, [10, 0, 0, 0], [0, 0, 0, 0], false, ([0, 0, 0, 0, 0, 0, 0, 0, 0, 0, 0, 0, 0, 0, 0, 0, 0, 0, 0, 0] : List Int), 0, 0, [], [], [0, 0, 0, 0], [0, 0, 0, 0])) fun r4 =>
   bindO (Fv.m n [1, 0, 0, 0]) fun r6 =>
    if r6.1 = true then
     if (r2.2.2 == 100) = true then
      bindO (Far.m n (r2.1, r2.2.1, r2.2.2, 100)) fun r12 =>
       if r12 = true then
        bindO (Far.m n (r2.1, r2.2.1, r2.2.2, 101)) fun r16 =>
         if (!r16) = true then
          bindO (Fk.m n (([0, 0, 0, 0, 0, 0, 0, 0, 0, 0, 0, 0, 0, 0, 0, 0, 0, 0, 0, 0] : List Int), [0, 0, 0, 0], false, ([0, 0, 0, 0, 0, 0, 0, 0, 0, 0, 0, 0, 0, 0, 0, 0, 0, 0, 0, 0] : List Int), [], [], 1, 2, 3, [10, 0, 0, 0], [0, 0, 0, 0], false, ([0, 0, 0, 0, 0, 0, 0, 0, 0, 0, 0, 0, 0, 0, 0, 0, 0, 0, 0, 0] : List Int), 0, 0, [], [])) fun r20 =>
           if (r20 == [60, 0, 0, 0]) = true then
            if (decide ((((List.length r4) : Nat) : Int) > 4)) = true then
             if 4 ≤ (((List.length r4) : Nat) : Int) then
              some (mk0 ((ByteArray.toList (Go.Abs.strOf (List.take (Go.Abs.span (List.length r4) 0 (Option.some 4)) (List.drop 0 r4)))) == [(Subtype.val (Subtype.mk (ByteArray.get! (b8 [25, 130, 47, 124]) 0) (And.left (Iff.mp (List.forall_mem_cons) (And.right (Iff.mp (List.forall_mem_cons) (And.right (Iff.mp (List.forall_mem_cons) (And.right (Iff.mp (List.forall_mem_cons) (List.attach._proof_1 [(ByteArray.get! (b8 [25, 130, 47, 124]) 3), (ByteArray.get! (b8 [25, 130, 47, 124]) 2), (ByteArray.get! (b8 [25, 130, 47, 124]) 1), (ByteArray.get! (b8 [25, 130, 47, 124]) 0)]))))))))))), (Subtype.val (Subtype.mk (ByteArray.get! (b8 [25, 130, 47, 124]) 1) (And.left (Iff.mp (List.forall_mem_cons) (And.right (Iff.mp (List.forall_mem_cons) (And.right (Iff.mp (List.forall_mem_cons) (List.attach._proof_1 [(ByteArray.get! (b8 [25, 130, 47, 124]) 3), (ByteArray.get! (b8 [25, 130, 47, 124]) 2), (ByteArray.get! (b8 [25, 130, 47, 124]) 1), (ByteArray.get! (b8 [25, 130, 47, 124]) 0)]))))))))), (Subtype.val (Subtype.mk (ByteArray.get! (b8 [25, 130, 47, 124]) 2) (And.left (Iff.mp (List.forall_mem_cons) (And.right (Iff.mp (List.forall_mem_cons) (List.attach._proof_1 [(ByteArray.get! (b8 [25, 130, 47, 124]) 3), (ByteArray.get! (b8 [25, 130, 47, 124]) 2), (ByteArray.get! (b8 [25, 130, 47, 124]) 1), (ByteArray.get! (b8 [25, 130, 47, 124]) 0)]))))))), (Subtype.val (Subtype.mk (ByteArray.get! (b8 [25, 130, 47, 124]) 3) (And.left (Iff.mp (List.forall_mem_cons) (List.attach._proof_1 [(ByteArray.get! (b8 [25, 130, 47, 124]) 3), (ByteArray.get! (b8 [25, 130, 47, 124]) 2), (ByteArray.get! (b8 [25, 130, 47, 124]) 1), (ByteArray.get! (b8 [25, 130, 47, 124]) 0)])))))]))
             else
              none
            else
             some (mk0 false)
           else
            some (mk0 false)
         else
          some (mk0 false)
       else
        some (mk0 false)
     else
      some (mk0 false)
    else
     some (mk0 false)
def Fbd.m (n : Nat) (t : Unit) : Option Bool := Fbd.g (fun a0 => a0) n 
def Fbd.pat : List AV → Blks → Option Unit
 | [], [] => some ()
 | _, _ => none
def Fbd.shape (t : Unit) : List AV × Blks := ([], [])
def Fbd.res : Bool → AV × Blks
 | u => ((.bool u), [])
def Fbd.resK {R : Type} (u : Bool) (K : AV → Blks → Option R) : Option R := K (Fbd.res u).1 (Fbd.res u).2
def Fbd.c (n : Nat) : Abs.Callee := .mk' [] [] Fbd.pat (Fbd.m n) Fbd.resK
end
end
section
theorem Fv.gmap {α β : Type} (h : β → α) (mk0 : Bool → Int → Int → β) (n : Nat) (a0 : LI) : Fv.g (fun a0 a1 a2 => (h (mk0 a0 a1 a2))) n a0 = (Fv.g mk0 n a0).map h := by
  unfold Fv.g
  exact (bindO_map fun r2 => rfl)
theorem Fv.run (n : Nat) (a0 : LI) : runF (Fv.C n) (Fv.A n) n Tryd.f24 [(.ints .u64 4 a0)] [] (fun v o => some (v, o)) = Fv.g (fun a0 a1 a2 => (((.agg [(.bool a0), (.int .u64 a1), (.int .u64 a2)]), []) : AV × Blks)) n a0 := by kernel_rfl
theorem Fv.call (hmix : Tryd.prog.follows .mixedOrders = true) (n : Nat) (t : LI) (u) (h : Fv.m n t = some u) : FnC Tryd.prog abiG 24 (Fv.shape t).1 (Fv.shape t).2 (Fv.res u).1 (Fv.res u).2 :=
  fnC1 (C := Fv.C n) (A := Fv.A n) (fn := Tryd.f24) rfl (.cons (Faz.s hmix n) .nil) hmix Tryd.func24 (by kernel_rfl) (lp := []) (by kernel_rfl) .nil
  (nj rfl) (by decide) rfl rfl (by show 1 ≤ Tryd.f24.ntmps; decide) (Fv.run n t) (Fv.gmap Fv.res (fun a0 a1 a2 => (a0, a1, a2)) n t) h
theorem Fv.s (hmix : Tryd.prog.follows .mixedOrders = true) (n : Nat) : CalleeS Tryd.prog abiG 24 (Fv.c n) :=
  .mk1 (res := Fv.res) (shape := Fv.shape) (fun R u K => rfl) (fun _ _ _ h => by unfold Fv.pat at h; split at h <;> cases h; rfl) (fun t u h => Fv.call hmix n t u h) Tryd.func24 (by decide) (by kernel_rfl)
end
section
theorem Fw.gmap {α β : Type} (h : β → α) (mk0 : LI → β) (n : Nat) (a0 : ByteArray) (a1_0 : LI) (a1_1 : LI) (a1_2 : Bool) (a1_3 : LI) (a1_4 : LI) (a1_5 : LI) (a1_6 : Int) (a1_7 : Int) (a1_8 : Int) (a1_9 : LI) (a1_10 : LI) (a1_11 : Bool) (a1_12 : LI) (a1_13 : Int) (a1_14 : Int) (a1_15 : LI) (a1_16 : LI) (a2 : LI) (a3 : LI) : Fw.g (fun a0 => (h (mk0 a0))) n a0 a1_0 a1_1 a1_2 a1_3 a1_4 a1_5 a1_6 a1_7 a1_8 a1_9 a1_10 a1_11 a1_12 a1_13 a1_14 a1_15 a1_16 a2 a3 = (Fw.g mk0 n a0 a1_0 a1_1 a1_2 a1_3 a1_4 a1_5 a1_6 a1_7 a1_8 a1_9 a1_10 a1_11 a1_12 a1_13 a1_14 a1_15 a1_16 a2 a3).map h := by
  unfold Fw.g
  exact (ite_map (bindO_map fun r4 => (bindO_map fun r6 => (bindO_map fun r8 => (bindO_map fun r10 => (bindO_map fun r12 => (bindO_map fun r14 => (bindO_map fun r16 => (bindO_map fun r18 => rfl)))))))) rfl)
theorem Fw.run (n : Nat) (a0 : ByteArray) (a1_0 : LI) (a1_1 : LI) (a1_2 : Bool) (a1_3 : LI) (a1_4 : LI) (a1_5 : LI) (a1_6 : Int) (a1_7 : Int) (a1_8 : Int) (a1_9 : LI) (a1_10 : LI) (a1_11 : Bool) (a1_12 : LI) (a1_13 : Int) (a1_14 : Int) (a1_15 : LI) (a1_16 : LI) (a2 : LI) (a3 : LI) : runF (Fw.C n) (Fw.A n) n Tryd.f66 [(.str a0), (.agg [(.ints .u8 20 a1_0), (.ints .u64 4 a1_1), (.bool a1_2), (.ints .u8 20 a1_3), (.rints .u8 a1_4), (.rints .u8 a1_5), (.int .u64 a1_6), (.int .u64 a1_7), (.int .u64 a1_8), (.ints .u64 4 a1_9), (.ints .u64 4 a1_10), (.bool a1_11), (.ints .u8 20 a1_12), (.int .u64 a1_13), (.int .u64 a1_14), (.rints .u8 a1_15), (.rints .u8 a1_16)]), (.ints .u64 4 a2), (.ints .u64 4 a3)] [] (fun v o => some (v, o)) = Fw.g (fun a0 => (((.own 0 1), [(some (.ints .u8 a0))]) : AV × Blks)) n a0 a1_0 a1_1 a1_2 a1_3 a1_4 a1_5 a1_6 a1_7 a1_8 a1_9 a1_10 a1_11 a1_12 a1_13 a1_14 a1_15 a1_16 a2 a3 := by kernel_rfl
theorem Fw.call (hmix : Tryd.prog.follows .mixedOrders = true) (n : Nat) (t : (ByteArray × (LI × (LI × (Bool × (LI × (LI × (LI × (Int × (Int × (Int × (LI × (LI × (Bool × (LI × (Int × (Int × (LI × (LI × (LI × LI)))))))))))))))))))) (u) (h : Fw.m n t = some u) : FnC Tryd.prog abiG 66 (Fw.shape t).1 (Fw.shape t).2 (Fw.res u).1 (Fw.res u).2 :=
  fnC1 (C := Fw.C n) (A := Fw.A n) (fn := Tryd.f66) rfl (.cons (Fs.s hmix n) (.cons (Faw.s hmix n) (.cons (Fae.s hmix n) (.cons (Fz.s hmix n) (.cons (Fag.s hmix n) (.cons (Fa.s hmix n) .nil)))))) hmix Tryd.func66 (by kernel_rfl) (lp := []) (by kernel_rfl) .nil
  (nj rfl) (by decide) rfl rfl (by show 4 ≤ Tryd.f66.ntmps; decide) (Fw.run n t.1 t.2.1 t.2.2.1 t.2.2.2.1 t.2.2.2.2.1 t.2.2.2.2.2.1 t.2.2.2.2.2.2.1 t.2.2.2.2.2.2.2.1 t.2.2.2.2.2.2.2.2.1 t.2.2.2.2.2.2.2.2.2.1 t.2.2.2.2.2.2.2.2.2.2.1 t.2.2.2.2.2.2.2.2.2.2.2.1 t.2.2.2.2.2.2.2.2.2.2.2.2.1 t.2.2.2.2.2.2.2.2.2.2.2.2.2.1 t.2.2.2.2.2.2.2.2.2.2.2.2.2.2.1 t.2.2.2.2.2.2.2.2.2.2.2.2.2.2.2.1 t.2.2.2.2.2.2.2.2.2.2.2.2.2.2.2.2.1 t.2.2.2.2.2.2.2.2.2.2.2.2.2.2.2.2.2.1 t.2.2.2.2.2.2.2.2.2.2.2.2.2.2.2.2.2.2.1 t.2.2.2.2.2.2.2.2.2.2.2.2.2.2.2.2.2.2.2) (Fw.gmap Fw.res (fun a0 => a0) n t.1 t.2.1 t.2.2.1 t.2.2.2.1 t.2.2.2.2.1 t.2.2.2.2.2.1 t.2.2.2.2.2.2.1 t.2.2.2.2.2.2.2.1 t.2.2.2.2.2.2.2.2.1 t.2.2.2.2.2.2.2.2.2.1 t.2.2.2.2.2.2.2.2.2.2.1 t.2.2.2.2.2.2.2.2.2.2.2.1 t.2.2.2.2.2.2.2.2.2.2.2.2.1 t.2.2.2.2.2.2.2.2.2.2.2.2.2.1 t.2.2.2.2.2.2.2.2.2.2.2.2.2.2.1 t.2.2.2.2.2.2.2.2.2.2.2.2.2.2.2.1 t.2.2.2.2.2.2.2.2.2.2.2.2.2.2.2.2.1 t.2.2.2.2.2.2.2.2.2.2.2.2.2.2.2.2.2.1 t.2.2.2.2.2.2.2.2.2.2.2.2.2.2.2.2.2.2.1 t.2.2.2.2.2.2.2.2.2.2.2.2.2.2.2.2.2.2.2) h
theorem Fw.s (hmix : Tryd.prog.follows .mixedOrders = true) (n : Nat) : CalleeS Tryd.prog abiG 66 (Fw.c n) :=
  .mk1 (res := Fw.res) (shape := Fw.shape) (fun R u K => rfl) (fun _ _ _ h => by unfold Fw.pat at h; split at h <;> cases h; rfl) (fun t u h => Fw.call hmix n t u h) Tryd.func66 (by decide) (by kernel_rfl)
end
section
theorem Fj.gmap {α β : Type} (h : β → α) (mk0 : LI → β) (n : Nat) (a0_0 : LI) (a0_1 : LI) (a0_2 : Bool) (a0_3 : LI) (a0_4 : LI) (a0_5 : LI) (a0_6 : Int) (a0_7 : Int) (a0_8 : Int) (a0_9 : LI) (a0_10 : LI) (a0_11 : Bool) (a0_12 : LI) (a0_13 : Int) (a0_14 : Int) (a0_15 : LI) (a0_16 : LI) (a1 : LI) (a2 : LI) : Fj.g (fun a0 => (h (mk0 a0))) n a0_0 a0_1 a0_2 a0_3 a0_4 a0_5 a0_6 a0_7 a0_8 a0_9 a0_10 a0_11 a0_12 a0_13 a0_14 a0_15 a0_16 a1 a2 = (Fj.g mk0 n a0_0 a0_1 a0_2 a0_3 a0_4 a0_5 a0_6 a0_7 a0_8 a0_9 a0_10 a0_11 a0_12 a0_13 a0_14 a0_15 a0_16 a1 a2).map h := by
  unfold Fj.g
  exact (bindO_map fun r2 => rfl)
theorem Fj.run (n : Nat) (a0_0 : LI) (a0_1 : LI) (a0_2 : Bool) (a0_3 : LI) (a0_4 : LI) (a0_5 : LI) (a0_6 : Int) (a0_7 : Int) (a0_8 : Int) (a0_9 : LI) (a0_10 : LI) (a0_11 : Bool) (a0_12 : LI) (a0_13 : Int) (a0_14 : Int) (a0_15 : LI) (a0_16 : LI) (a1 : LI) (a2 : LI) : runF (Fj.C n) (Fj.A n) n Tryd.f30 [(.agg [(.ints .u8 20 a0_0), (.ints .u64 4 a0_1), (.bool a0_2), (.ints .u8 20 a0_3), (.rints .u8 a0_4), (.rints .u8 a0_5), (.int .u64 a0_6), (.int .u64 a0_7), (.int .u64 a0_8), (.ints .u64 4 a0_9), (.ints .u64 4 a0_10), (.bool a0_11), (.ints .u8 20 a0_12), (.int .u64 a0_13), (.int .u64 a0_14), (.rints .u8 a0_15), (.rints .u8 a0_16)]), (.ints .u64 4 a1), (.ints .u64 4 a2)] [] (fun v o => some (v, o)) = Fj.g (fun a0 => (((.own 0 1), [(some (.ints .u8 a0))]) : AV × Blks)) n a0_0 a0_1 a0_2 a0_3 a0_4 a0_5 a0_6 a0_7 a0_8 a0_9 a0_10 a0_11 a0_12 a0_13 a0_14 a0_15 a0_16 a1 a2 := by kernel_rfl
theorem Fj.call (hmix : Tryd.prog.follows .mixedOrders = true) (n : Nat) (t : (LI × (LI × (Bool × (LI × (LI × (LI × (Int × (Int × (Int × (LI × (LI × (Bool × (LI × (Int × (Int × (LI × (LI × (LI × LI))))))))))))))))))) (u) (h : Fj.m n t = some u) : FnC Tryd.prog abiG 30 (Fj.shape t).1 (Fj.shape t).2 (Fj.res u).1 (Fj.res u).2 :=
  fnC1 (C := Fj.C n) (A := Fj.A n) (fn := Tryd.f30) rfl (.cons (Fw.s hmix n) .nil) hmix Tryd.func30 (by kernel_rfl) (lp := []) (by kernel_rfl) .nil
  (nj rfl) (by decide) rfl rfl (by show 3 ≤ Tryd.f30.ntmps; decide) (Fj.run n t.1 t.2.1 t.2.2.1 t.2.2.2.1 t.2.2.2.2.1 t.2.2.2.2.2.1 t.2.2.2.2.2.2.1 t.2.2.2.2.2.2.2.1 t.2.2.2.2.2.2.2.2.1 t.2.2.2.2.2.2.2.2.2.1 t.2.2.2.2.2.2.2.2.2.2.1 t.2.2.2.2.2.2.2.2.2.2.2.1 t.2.2.2.2.2.2.2.2.2.2.2.2.1 t.2.2.2.2.2.2.2.2.2.2.2.2.2.1 t.2.2.2.2.2.2.2.2.2.2.2.2.2.2.1 t.2.2.2.2.2.2.2.2.2.2.2.2.2.2.2.1 t.2.2.2.2.2.2.2.2.2.2.2.2.2.2.2.2.1 t.2.2.2.2.2.2.2.2.2.2.2.2.2.2.2.2.2.1 t.2.2.2.2.2.2.2.2.2.2.2.2.2.2.2.2.2.2) (Fj.gmap Fj.res (fun a0 => a0) n t.1 t.2.1 t.2.2.1 t.2.2.2.1 t.2.2.2.2.1 t.2.2.2.2.2.1 t.2.2.2.2.2.2.1 t.2.2.2.2.2.2.2.1 t.2.2.2.2.2.2.2.2.1 t.2.2.2.2.2.2.2.2.2.1 t.2.2.2.2.2.2.2.2.2.2.1 t.2.2.2.2.2.2.2.2.2.2.2.1 t.2.2.2.2.2.2.2.2.2.2.2.2.1 t.2.2.2.2.2.2.2.2.2.2.2.2.2.1 t.2.2.2.2.2.2.2.2.2.2.2.2.2.2.1 t.2.2.2.2.2.2.2.2.2.2.2.2.2.2.2.1 t.2.2.2.2.2.2.2.2.2.2.2.2.2.2.2.2.1 t.2.2.2.2.2.2.2.2.2.2.2.2.2.2.2.2.2.1 t.2.2.2.2.2.2.2.2.2.2.2.2.2.2.2.2.2.2) h
theorem Fj.s (hmix : Tryd.prog.follows .mixedOrders = true) (n : Nat) : CalleeS Tryd.prog abiG 30 (Fj.c n) :=
  .mk1 (res := Fj.res) (shape := Fj.shape) (fun R u K => rfl) (fun _ _ _ h => by unfold Fj.pat at h; split at h <;> cases h; rfl) (fun t u h => Fj.call hmix n t u h) Tryd.func30 (by decide) (by kernel_rfl)
end
section
theorem Far.gmap {α β : Type} (h : β → α) (mk0 : Bool → β) (n : Nat) (a0_0 : Bool) (a0_1 : Int) (a0_2 : Int) (a1 : Int) : Far.g (fun a0 => (h (mk0 a0))) n a0_0 a0_1 a0_2 a1 = (Far.g mk0 n a0_0 a0_1 a0_2 a1).map h := by
  unfold Far.g
  exact (ite_map (ite_map (ite_map rfl rfl) rfl) rfl)
theorem Far.run (n : Nat) (a0_0 : Bool) (a0_1 : Int) (a0_2 : Int) (a1 : Int) : runF (Far.C n) (Far.A n) n Tryd.f27 [(.agg [(.bool a0_0), (.int .u64 a0_1), (.int .u64 a0_2)]), (.int .u64 a1)] [] (fun v o => some (v, o)) = Far.g (fun a0 => (((.bool a0), []) : AV × Blks)) n a0_0 a0_1 a0_2 a1 := by kernel_rfl
theorem Far.call (hmix : Tryd.prog.follows .mixedOrders = true) (n : Nat) (t : (Bool × (Int × (Int × Int)))) (u) (h : Far.m n t = some u) : FnC Tryd.prog abiG 27 (Far.shape t).1 (Far.shape t).2 (Far.res u).1 (Far.res u).2 :=
  fnC1 (C := Far.C n) (A := Far.A n) (fn := Tryd.f27) rfl .nil hmix Tryd.func27 (by kernel_rfl) (lp := []) (by kernel_rfl) .nil
  (nj rfl) (by decide) rfl rfl (by show 2 ≤ Tryd.f27.ntmps; decide) (Far.run n t.1 t.2.1 t.2.2.1 t.2.2.2) (Far.gmap Far.res (fun a0 => a0) n t.1 t.2.1 t.2.2.1 t.2.2.2) h
theorem Far.s (hmix : Tryd.prog.follows .mixedOrders = true) (n : Nat) : CalleeS Tryd.prog abiG 27 (Far.c n) :=
  .mk1 (res := Far.res) (shape := Far.shape) (fun R u K => rfl) (fun _ _ _ h => by unfold Far.pat at h; split at h <;> cases h; rfl) (fun t u h => Far.call hmix n t u h) Tryd.func27 (by decide) (by kernel_rfl)
end
section
theorem Fas.gmap {α β : Type} (h : β → α) (mk0 : Int → β) (n : Nat) (a0_0 : LI) (a0_1 : LI) (a0_2 : Bool) (a0_3 : LI) (a0_4 : LI) (a0_5 : LI) (a0_6 : Int) (a0_7 : Int) (a0_8 : Int) (a0_9 : LI) (a0_10 : LI) (a0_11 : Bool) (a0_12 : LI) (a0_13 : Int) (a0_14 : Int) (a0_15 : LI) (a0_16 : LI) : Fas.g (fun a0 => (h (mk0 a0))) n a0_0 a0_1 a0_2 a0_3 a0_4 a0_5 a0_6 a0_7 a0_8 a0_9 a0_10 a0_11 a0_12 a0_13 a0_14 a0_15 a0_16 = (Fas.g mk0 n a0_0 a0_1 a0_2 a0_3 a0_4 a0_5 a0_6 a0_7 a0_8 a0_9 a0_10 a0_11 a0_12 a0_13 a0_14 a0_15 a0_16).map h := by
  unfold Fas.g
  exact rfl
theorem Fas.run (n : Nat) (a0_0 : LI) (a0_1 : LI) (a0_2 : Bool) (a0_3 : LI) (a0_4 : LI) (a0_5 : LI) (a0_6 : Int) (a0_7 : Int) (a0_8 : Int) (a0_9 : LI) (a0_10 : LI) (a0_11 : Bool) (a0_12 : LI) (a0_13 : Int) (a0_14 : Int) (a0_15 : LI) (a0_16 : LI) : runF (Fas.C n) (Fas.A n) n Tryd.f43 [(.agg [(.ints .u8 20 a0_0), (.ints .u64 4 a0_1), (.bool a0_2), (.ints .u8 20 a0_3), (.rints .u8 a0_4), (.rints .u8 a0_5), (.int .u64 a0_6), (.int .u64 a0_7), (.int .u64 a0_8), (.ints .u64 4 a0_9), (.ints .u64 4 a0_10), (.bool a0_11), (.ints .u8 20 a0_12), (.int .u64 a0_13), (.int .u64 a0_14), (.rints .u8 a0_15), (.rints .u8 a0_16)])] [] (fun v o => some (v, o)) = Fas.g (fun a0 => (((.int .u64 a0), []) : AV × Blks)) n a0_0 a0_1 a0_2 a0_3 a0_4 a0_5 a0_6 a0_7 a0_8 a0_9 a0_10 a0_11 a0_12 a0_13 a0_14 a0_15 a0_16 := by kernel_rfl
theorem Fas.call (hmix : Tryd.prog.follows .mixedOrders = true) (n : Nat) (t : (LI × (LI × (Bool × (LI × (LI × (LI × (Int × (Int × (Int × (LI × (LI × (Bool × (LI × (Int × (Int × (LI × LI))))))))))))))))) (u) (h : Fas.m n t = some u) : FnC Tryd.prog abiG 43 (Fas.shape t).1 (Fas.shape t).2 (Fas.res u).1 (Fas.res u).2 :=
  fnC1 (C := Fas.C n) (A := Fas.A n) (fn := Tryd.f43) rfl .nil hmix Tryd.func43 (by kernel_rfl) (lp := []) (by kernel_rfl) .nil
  (nj rfl) (by decide) rfl rfl (by show 1 ≤ Tryd.f43.ntmps; decide) (Fas.run n t.1 t.2.1 t.2.2.1 t.2.2.2.1 t.2.2.2.2.1 t.2.2.2.2.2.1 t.2.2.2.2.2.2.1 t.2.2.2.2.2.2.2.1 t.2.2.2.2.2.2.2.2.1 t.2.2.2.2.2.2.2.2.2.1 t.2.2.2.2.2.2.2.2.2.2.1 t.2.2.2.2.2.2.2.2.2.2.2.1 t.2.2.2.2.2.2.2.2.2.2.2.2.1 t.2.2.2.2.2.2.2.2.2.2.2.2.2.1 t.2.2.2.2.2.2.2.2.2.2.2.2.2.2.1 t.2.2.2.2.2.2.2.2.2.2.2.2.2.2.2.1 t.2.2.2.2.2.2.2.2.2.2.2.2.2.2.2.2) (Fas.gmap Fas.res (fun a0 => a0) n t.1 t.2.1 t.2.2.1 t.2.2.2.1 t.2.2.2.2.1 t.2.2.2.2.2.1 t.2.2.2.2.2.2.1 t.2.2.2.2.2.2.2.1 t.2.2.2.2.2.2.2.2.1 t.2.2.2.2.2.2.2.2.2.1 t.2.2.2.2.2.2.2.2.2.2.1 t.2.2.2.2.2.2.2.2.2.2.2.1 t.2.2.2.2.2.2.2.2.2.2.2.2.1 t.2.2.2.2.2.2.2.2.2.2.2.2.2.1 t.2.2.2.2.2.2.2.2.2.2.2.2.2.2.1 t.2.2.2.2.2.2.2.2.2.2.2.2.2.2.2.1 t.2.2.2.2.2.2.2.2.2.2.2.2.2.2.2.2) h
theorem Fas.s (hmix : Tryd.prog.follows .mixedOrders = true) (n : Nat) : CalleeS Tryd.prog abiG 43 (Fas.c n) :=
  .mk1 (res := Fas.res) (shape := Fas.shape) (fun R u K => rfl) (fun _ _ _ h => by unfold Fas.pat at h; split at h <;> cases h; rfl) (fun t u h => Fas.call hmix n t u h) Tryd.func43 (by decide) (by kernel_rfl)
end
section
theorem Fk.gmap {α β : Type} (h : β → α) (mk0 : LI → β) (n : Nat) (a0_0 : LI) (a0_1 : LI) (a0_2 : Bool) (a0_3 : LI) (a0_4 : LI) (a0_5 : LI) (a0_6 : Int) (a0_7 : Int) (a0_8 : Int) (a0_9 : LI) (a0_10 : LI) (a0_11 : Bool) (a0_12 : LI) (a0_13 : Int) (a0_14 : Int) (a0_15 : LI) (a0_16 : LI) : Fk.g (fun a0 => (h (mk0 a0))) n a0_0 a0_1 a0_2 a0_3 a0_4 a0_5 a0_6 a0_7 a0_8 a0_9 a0_10 a0_11 a0_12 a0_13 a0_14 a0_15 a0_16 = (Fk.g mk0 n a0_0 a0_1 a0_2 a0_3 a0_4 a0_5 a0_6 a0_7 a0_8 a0_9 a0_10 a0_11 a0_12 a0_13 a0_14 a0_15 a0_16).map h := by
  unfold Fk.g
  exact (bindO_map fun r2 => (bindO_map fun r4 => (bindO_map fun r6 => rfl)))
theorem Fk.run (n : Nat) (a0_0 : LI) (a0_1 : LI) (a0_2 : Bool) (a0_3 : LI) (a0_4 : LI) (a0_5 : LI) (a0_6 : Int) (a0_7 : Int) (a0_8 : Int) (a0_9 : LI) (a0_10 : LI) (a0_11 : Bool) (a0_12 : LI) (a0_13 : Int) (a0_14 : Int) (a0_15 : LI) (a0_16 : LI) : runF (Fk.C n) (Fk.A n) n Tryd.f45 [(.agg [(.ints .u8 20 a0_0), (.ints .u64 4 a0_1), (.bool a0_2), (.ints .u8 20 a0_3), (.rints .u8 a0_4), (.rints .u8 a0_5), (.int .u64 a0_6), (.int .u64 a0_7), (.int .u64 a0_8), (.ints .u64 4 a0_9), (.ints .u64 4 a0_10), (.bool a0_11), (.ints .u8 20 a0_12), (.int .u64 a0_13), (.int .u64 a0_14), (.rints .u8 a0_15), (.rints .u8 a0_16)])] [] (fun v o => some (v, o)) = Fk.g (fun a0 => (((.ints .u64 4 a0), []) : AV × Blks)) n a0_0 a0_1 a0_2 a0_3 a0_4 a0_5 a0_6 a0_7 a0_8 a0_9 a0_10 a0_11 a0_12 a0_13 a0_14 a0_15 a0_16 := by kernel_rfl
theorem Fk.call (hmix : Tryd.prog.follows .mixedOrders = true) (n : Nat) (t : (LI × (LI × (Bool × (LI × (LI × (LI × (Int × (Int × (Int × (LI × (LI × (Bool × (LI × (Int × (Int × (LI × LI))))))))))))))))) (u) (h : Fk.m n t = some u) : FnC Tryd.prog abiG 45 (Fk.shape t).1 (Fk.shape t).2 (Fk.res u).1 (Fk.res u).2 :=
  fnC1 (C := Fk.C n) (A := Fk.A n) (fn := Tryd.f45) rfl (.cons (Fas.s hmix n) (.cons (Faw.s hmix n) (.cons (Fbl.s hmix n) .nil))) hmix Tryd.func45 (by kernel_rfl) (lp := []) (by kernel_rfl) .nil
  (nj rfl) (by decide) rfl rfl (by show 1 ≤ Tryd.f45.ntmps; decide) (Fk.run n t.1 t.2.1 t.2.2.1 t.2.2.2.1 t.2.2.2.2.1 t.2.2.2.2.2.1 t.2.2.2.2.2.2.1 t.2.2.2.2.2.2.2.1 t.2.2.2.2.2.2.2.2.1 t.2.2.2.2.2.2.2.2.2.1 t.2.2.2.2.2.2.2.2.2.2.1 t.2.2.2.2.2.2.2.2.2.2.2.1 t.2.2.2.2.2.2.2.2.2.2.2.2.1 t.2.2.2.2.2.2.2.2.2.2.2.2.2.1 t.2.2.2.2.2.2.2.2.2.2.2.2.2.2.1 t.2.2.2.2.2.2.2.2.2.2.2.2.2.2.2.1 t.2.2.2.2.2.2.2.2.2.2.2.2.2.2.2.2) (Fk.gmap Fk.res (fun a0 => a0) n t.1 t.2.1 t.2.2.1 t.2.2.2.1 t.2.2.2.2.1 t.2.2.2.2.2.1 t.2.2.2.2.2.2.1 t.2.2.2.2.2.2.2.1 t.2.2.2.2.2.2.2.2.1 t.2.2.2.2.2.2.2.2.2.1 t.2.2.2.2.2.2.2.2.2.2.1 t.2.2.2.2.2.2.2.2.2.2.2.1 t.2.2.2.2.2.2.2.2.2.2.2.2.1 t.2.2.2.2.2.2.2.2.2.2.2.2.2.1 t.2.2.2.2.2.2.2.2.2.2.2.2.2.2.1 t.2.2.2.2.2.2.2.2.2.2.2.2.2.2.2.1 t.2.2.2.2.2.2.2.2.2.2.2.2.2.2.2.2) h
theorem Fk.s (hmix : Tryd.prog.follows .mixedOrders = true) (n : Nat) : CalleeS Tryd.prog abiG 45 (Fk.c n) :=
  .mk1 (res := Fk.res) (shape := Fk.shape) (fun R u K => rfl) (fun _ _ _ h => by unfold Fk.pat at h; split at h <;> cases h; rfl) (fun t u h => Fk.call hmix n t u h) Tryd.func45 (by decide) (by kernel_rfl)
end
section
theorem Fbd.gmap {α β : Type} (h : β → α) (mk0 : Bool → β) (n : Nat)  : Fbd.g (fun a0 => (h (mk0 a0))) n  = (Fbd.g mk0 n ).map h := by
  unfold Fbd.g
  exact (bindO_map fun r2 => (bindO_map fun r4 => (bindO_map fun r6 => (ite_map (ite_map (bindO_map fun r12 => (ite_map (bindO_map fun r16 => (ite_map (bindO_map fun r20 => (ite_map (ite_map (ite_map rfl rfl) rfl) rfl)) rfl)) rfl)) rfl) rfl))))
theorem Fbd.run (n : Nat)  : runF (Fbd.C n) (Fbd.A n) n Tryd.f25 [] [] (fun v o => some (v, o)) = Fbd.g (fun a0 => (((.bool a0), []) : AV × Blks)) n  := by kernel_rfl
theorem Fbd.call (hmix : Tryd.prog.follows .mixedOrders = true) (n : Nat) (t : Unit) (u) (h : Fbd.m n t = some u) : FnC Tryd.prog abiG 25 (Fbd.shape t).1 (Fbd.shape t).2 (Fbd.res u).1 (Fbd.res u).2 :=
  fnC1 (C := Fbd.C n) (A := Fbd.A n) (fn := Tryd.f25) rfl (.cons (Fv.s hmix n) (.cons (Fj.s hmix n) (.cons (Far.s hmix n) (.cons (Fk.s hmix n) .nil)))) hmix Tryd.func25 (by kernel_rfl) (lp := []) (by kernel_rfl) .nil
  (nj rfl) (by decide) rfl rfl (by show 0 ≤ Tryd.f25.ntmps; decide) (Fbd.run n ) (Fbd.gmap Fbd.res (fun a0 => a0) n ) h
theorem Fbd.s (hmix : Tryd.prog.follows .mixedOrders = true) (n : Nat) : CalleeS Tryd.prog abiG 25 (Fbd.c n) :=
  .mk1 (res := Fbd.res) (shape := Fbd.shape) (fun R u K => rfl) (fun _ _ _ h => by unfold Fbd.pat at h; split at h <;> cases h; rfl) (fun t u h => Fbd.call hmix n t u h) Tryd.func25 (by decide) (by kernel_rfl)
end
section
noncomputable section
noncomputable def Fi.C (n : Nat) : Ctx := ⟨Tryd.prog, abiG, lookC [(29, Fci.c n), (25, Fbd.c n), (42, Fap.c n), (40, Fac.c n), (38, Fz.c n), (37, Fn.c n)], fun _ => false⟩
noncomputable def Fi.A (n : Nat) : Ann := ⟨Tryd.f7.ntmps, 0, noNL, [], [none], fun k => match k with
 | _ => none, noNL, lookJ []⟩
def Fi.g {α : Type} (mk0 : Bool → α) (n : Nat) (a0_0 : LI) (a0_1 : LI) (a0_2 : Bool) (a0_3 : LI) (a0_4 : LI) (a0_5 : LI) (a0_6 : Int) (a0_7 : Int) (a0_8 : Int) (a0_9 : LI) (a0_10 : LI) (a0_11 : Bool) (a0_12 : LI) (a0_13 : Int) (a0_14 : Int) (a0_15 : LI) (a0_16 : LI) (a1_0 : LI) (a1_1 : LI) (a1_2 : Bool) (a1_3 : LI) (a1_4 : LI) (a1_5 : LI) (a1_6 : Int) (a1_7 : Int) (a1_8 : Int) (a1_9 : LI) (a1_10 : LI) (a1_11 : Bool) (a1_12 : LI) (a1_13 : Int) (a1_14 : Int) (a1_15 : LI) (a1_16 : LI) (a2 : LI) : Option α :=
 bindO (Fci.m n (a0_0, a0_1, a0_2, a0_3, a0_4, a0_5, a0_6, a0_7, a0_8, a0_9, a0_10, a0_11, a0_12, a0_13, a0_14, a0_15, a0_16)) fun r2 =>
  bindO (Fci.m n (a1_0, a1_1, a1_2, a1_3, a1_4, a1_5, a1_6, a1_7, a1_8, a1_9, a1_10, a1_11, a1_12, a1_13, a1_14, a1_15, a1_16)) fun r4 =>
   if (!r2) = true then
    bindO (Fbd.m n Unit.unit) fun r8 =>
     some (mk0 r8)
   else
    if (!r4) = true then
     bindO (Fbd.m n Unit.unit) fun r10 =>
      some (mk0 r10)
    else
     bindO (Fbd.m n Unit.unit) fun r10 =>
      if (!r10) = true then
       bindO (Fbd.m n Unit.unit) fun r14 =>
        some (mk0 r14)
      else
       bindO (Fap.m n (a0_0, a0_1, a0_2, a0_3, a0_4, a0_5, a0_6, a0_7, a0_8, a0_9, a0_10, a0_11, a0_12, a0_13, a0_14, a0_15, a1_16, a1_0, a1_1, a1_2, a1_3, a1_4, a1_5, a1_6, a1_7, a1_8, a1_9, a1_10, a1_11, a1_12, a1_13, a1_14, a1_15, a1_16)) fun r14 =>
        bindO (Fac.m n (a0_0, a0_1, a0_2, a0_3, a0_4, a0_5, a0_6, a0_7, a0_8, a0_9, a0_10, a0_11, a0_12, a0_13, a0_14, a0_15, a0_16, a2)) fun r16 =>
         bindO (Fz.m n (a0_0, a0_1, a0_2, a0_3, a0_4, a0_5, a0_6, a0_7, a0_8, a0_9, a0_10, a0_11, a0_12, a0_13, a0_14, a0_15, a0_16)) fun r18 =>
          bindO (Fz.m n (a0_0, a0_1, a0_2, a0_3, a0_4, a0_5, a0_6, a0_7, a0_8, a0_9, a0_10, a0_11, a0_12, a0_13, a0_14, a0_15, a1_16)) fun r20 =>
           bindO (Fac.m n (a0_0, a0_1, a0_2, a0_3, a0_4, a0_5, a0_6, a0_7, a0_8, a0_9, a0_10, a0_11, a0_12, a0_13, a0_14, a0_15, a1_16, a2)) fun r22 =>
            if (r22 == r16) = true then
             if 8 ≤ (((List.length r18) : Nat) : Int) then
              if 8 ≤ (((List.length r20) : Nat) : Int) then
               bindO (Fn.m n ((Go.Abs.cut r18 0 (Option.some 8)), (Go.Abs.cut r20 0 (Option.some 8)))) fun r30 =>
                if r30 = true then
                 if (!r14) = true then
                  some (mk0 true)
                 else
                  bindO (Fac.m n (a1_0, a1_1, a1_2, a1_3, a1_4, a1_5, a1_6, a1_7, a1_8, a1_9, a1_10, a1_11, a1_12, a1_13, a1_14, a1_15, a1_16, a2)) fun r36 =>
                   some (mk0 (r36 == r16))
                else
                 some (mk0 false)
              else
               none
             else
              none
            else
             some (mk0 false)
def Fi.m (n : Nat) (t : (LI × (LI × (Bool × (LI × (LI × (LI × (Int × (Int × (Int × (LI × (LI × (Bool × (LI × (Int × (Int × (LI × (LI × (LI × (LI × (Bool × (LI × (LI × (LI × (Int × (Int × (Int × (LI × (LI × (Bool × (LI × (Int × (Int × (LI × (LI × LI))))))))))))))))))))))))))))))))))) : Option Bool := Fi.g (fun a0 => a0) n t.1 t.2.1 t.2.2.1 t.2.2.2.1 t.2.2.2.2.1 t.2.2.2.2.2.1 t.2.2.2.2.2.2.1 t.2.2.2.2.2.2.2.1 t.2.2.2.2.2.2.2.2.1 t.2.2.2.2.2.2.2.2.2.1 t.2.2.2.2.2.2.2.2.2.2.1 t.2.2.2.2.2.2.2.2.2.2.2.1 t.2.2.2.2.2.2.2.2.2.2.2.2.1 t.2.2.2.2.2.2.2.2.2.2.2.2.2.1 t.2.2.2.2.2.2.2.2.2.2.2.2.2.2.1 t.2.2.2.2.2.2.2.2.2.2.2.2.2.2.2.1 t.2.2.2.2.2.2.2.2.2.2.2.2.2.2.2.2.1 t.2.2.2.2.2.2.2.2.2.2.2.2.2.2.2.2.2.1 t.2.2.2.2.2.2.2.2.2.2.2.2.2.2.2.2.2.2.1 t.2.2.2.2.2.2.2.2.2.2.2.2.2.2.2.2.2.2.2.1 t.2.2.2.2.2.2.2.2.2.2.2.2.2.2.2.2.2.2.2.2.1 t.2.2.2.2.2.2.2.2.2.2.2.2.2.2.2.2.2.2.2.2.2.1 t.2.2.2.2.2.2.2.2.2.2.2.2.2.2.2.2.2.2.2.2.2.2.1 t.2.2.2.2.2.2.2.2.2.2.2.2.2.2.2.2.2.2.2.2.2.2.2.1 t.2.2.2.2.2.2.2.2.2.2.2.2.2.2.2.2.2.2.2.2.2.2.2.2.1 t.2.2.2.2.2.2.2.2.2.2.2.2.2.2.2.2.2.2.2.2.2.2.2.2.2.1 t.2.2.2.2.2.2.2.2.2.2.2.2.2.2.2.2.2.2.2.2.2.2.2.2.2.2.1 t.2.2.2.2.2.2.2.2.2.2.2.2.2.2.2.2.2.2.2.2.2.2.2.2.2.2.2.1 t.2.2.2.2.2.2.2.2.2.2.2.2.2.2.2.2.2.2.2.2.2.2.2.2.2.2.2.2.1 t.2.2.2.2.2.2.2.2.2.2.2.2.2.2.2.2.2.2.2.2.2.2.2.2.2.2.2.2.2.1 t.2.2.2.2.2.2.2.2.2.2.2.2.2.2.2.2.2.2.2.2.2.2.2.2.2.2.2.2.2.2.1 t.2.2.2.2.2.2.2.2.2.2.2.2.2.2.2.2.2.2.2.2.2.2.2.2.2.2.2.2.2.2.2.1 t.2.2.2.2.2.2.2.2.2.2.2.2.2.2.2.2.2.2.2.2.2.2.2.2.2.2.2.2.2.2.2.2.1 t.2.2.2.2.2.2.2.2.2.2.2.2.2.2.2.2.2.2.2.2.2.2.2.2.2.2.2.2.2.2.2.2.2.1 t.2.2.2.2.2.2.2.2.2.2.2.2.2.2.2.2.2.2.2.2.2.2.2.2.2.2.2.2.2.2.2.2.2.2
def Fi.shape (t : (LI × (LI × (Bool × (LI × (LI × (LI × (Int × (Int × (Int × (LI × (LI × (Bool × (LI × (Int × (Int × (LI × (LI × (LI × (LI × (Bool × (LI × (LI × (LI × (Int × (Int × (Int × (LI × (LI × (Bool × (LI × (Int × (Int × (LI × (LI × LI))))))))))))))))))))))))))))))))))) : List AV × Blks := ([(.agg [(.ints .u8 20 t.1), (.ints .u64 4 t.2.1), (.bool t.2.2.1), (.ints .u8 20 t.2.2.2.1), (.rints .u8 t.2.2.2.2.1), (.rints .u8 t.2.2.2.2.2.1), (.int .u64 t.2.2.2.2.2.2.1), (.int .u64 t.2.2.2.2.2.2.2.1), (.int .u64 t.2.2.2.2.2.2.2.2.1), (.ints .u64 4 t.2.2.2.2.2.2.2.2.2.1), (.ints .u64 4 t.2.2.2.2.2.2.2.2.2.2.1), (.bool t.2.2.2.2.2.2.2.2.2.2.2.1), (.ints .u8 20 t.2.2.2.2.2.2.2.2.2.2.2.2.1), (.int .u64 t.2.2.2.2.2.2.2.2.2.2.2.2.2.1), (.int .u64 t.2.2.2.2.2.2.2.2.2.2.2.2.2.2.1), (.rints .u8 t.2.2.2.2.2.2.2.2.2.2.2.2.2.2.2.1), (.rints .u8 t.2.2.2.2.2.2.2.2.2.2.2.2.2.2.2.2.1)]), (.agg [(.ints .u8 20 t.2.2.2.2.2.2.2.2.2.2.2.2.2.2.2.2.2.1), (.ints .u64 4 t.2.2.2.2.2.2.2.2.2.2.2.2.2.2.2.2.2.2.1), (.bool t.2.2.2.2.2.2.2.2.2.2.2.2.2.2.2.2.2.2.2.1), (.ints .u8 20 t.2.2.2.2.2.2.2.2.2.2.2.2.2.2.2.2.2.2.2.2.1), (.rints .u8 t.2.2.2.2.2.2.2.2.2.2.2.2.2.2.2.2.2.2.2.2.2.1), (.rints .u8 t.2.2.2.2.2.2.2.2.2.2.2.2.2.2.2.2.2.2.2.2.2.2.1), (.int .u64 t.2.2.2.2.2.2.2.2.2.2.2.2.2.2.2.2.2.2.2.2.2.2.2.1), (.int .u64 t.2.2.2.2.2.2.2.2.2.2.2.2.2.2.2.2.2.2.2.2.2.2.2.2.1), (.int .u64 t.2.2.2.2.2.2.2.2.2.2.2.2.2.2.2.2.2.2.2.2.2.2.2.2.2.1), (.ints .u64 4 t.2.2.2.2.2.2.2.2.2.2.2.2.2.2.2.2.2.2.2.2.2.2.2.2.2.2.1), (.ints .u64 4 t.2.2.2.2.2.2.2.2.2.2.2.2.2.2.2.2.2.2.2.2.2.2.2.2.2.2.2.1), (.bool t.2.2.2.2.2.2.2.2.2.2.2.2.2.2.2.2.2.2.2.2.2.2.2.2.2.2.2.2.1), (.ints .u8 20 t.2.2.2.2.2.2.2.2.2.2.2.2.2.2.2.2.2.2.2.2.2.2.2.2.2.2.2.2.2.1), (.int .u64 t.2.2.2.2.2.2.2.2.2.2.2.2.2.2.2.2.2.2.2.2.2.2.2.2.2.2.2.2.2.2.1), (.int .u64 t.2.2.2.2.2.2.2.2.2.2.2.2.2.2.2.2.2.2.2.2.2.2.2.2.2.2.2.2.2.2.2.1), (.rints .u8 t.2.2.2.2.2.2.2.2.2.2.2.2.2.2.2.2.2.2.2.2.2.2.2.2.2.2.2.2.2.2.2.2.1), (.rints .u8 t.2.2.2.2.2.2.2.2.2.2.2.2.2.2.2.2.2.2.2.2.2.2.2.2.2.2.2.2.2.2.2.2.2.1)]), (.ints .u64 4 t.2.2.2.2.2.2.2.2.2.2.2.2.2.2.2.2.2.2.2.2.2.2.2.2.2.2.2.2.2.2.2.2.2.2)], [])
def Fi.res : Bool → AV × Blks
 | u => ((.bool u), [])
end
end
section
theorem Fi.gmap {α β : Type} (h : β → α) (mk0 : Bool → β) (n : Nat) (a0_0 : LI) (a0_1 : LI) (a0_2 : Bool) (a0_3 : LI) (a0_4 : LI) (a0_5 : LI) (a0_6 : Int) (a0_7 : Int) (a0_8 : Int) (a0_9 : LI) (a0_10 : LI) (a0_11 : Bool) (a0_12 : LI) (a0_13 : Int) (a0_14 : Int) (a0_15 : LI) (a0_16 : LI) (a1_0 : LI) (a1_1 : LI) (a1_2 : Bool) (a1_3 : LI) (a1_4 : LI) (a1_5 : LI) (a1_6 : Int) (a1_7 : Int) (a1_8 : Int) (a1_9 : LI) (a1_10 : LI) (a1_11 : Bool) (a1_12 : LI) (a1_13 : Int) (a1_14 : Int) (a1_15 : LI) (a1_16 : LI) (a2 : LI) : Fi.g (fun a0 => (h (mk0 a0))) n a0_0 a0_1 a0_2 a0_3 a0_4 a0_5 a0_6 a0_7 a0_8 a0_9 a0_10 a0_11 a0_12 a0_13 a0_14 a0_15 a0_16 a1_0 a1_1 a1_2 a1_3 a1_4 a1_5 a1_6 a1_7 a1_8 a1_9 a1_10 a1_11 a1_12 a1_13 a1_14 a1_15 a1_16 a2 = (Fi.g mk0 n a0_0 a0_1 a0_2 a0_3 a0_4 a0_5 a0_6 a0_7 a0_8 a0_9 a0_10 a0_11 a0_12 a0_13 a0_14 a0_15 a0_16 a1_0 a1_1 a1_2 a1_3 a1_4 a1_5 a1_6 a1_7 a1_8 a1_9 a1_10 a1_11 a1_12 a1_13 a1_14 a1_15 a1_16 a2).map h := by
  unfold Fi.g
  exact (bindO_map fun r2 => (bindO_map fun r4 => (ite_map (bindO_map fun r8 => rfl) (ite_map (bindO_map fun r10 => rfl) (bindO_map fun r10 => (ite_map (bindO_map fun r14 => rfl) (bindO_map fun r14 => (bindO_map fun r16 => (bindO_map fun r18 => (bindO_map fun r20 => (bindO_map fun r22 => (ite_map (ite_map (ite_map (bindO_map fun r30 => (ite_map (ite_map rfl (bindO_map fun r36 => rfl)) rfl)) rfl) rfl) rfl))))))))))))
theorem Fi.run (n : Nat) (a0_0 : LI) (a0_1 : LI) (a0_2 : Bool) (a0_3 : LI) (a0_4 : LI) (a0_5 : LI) (a0_6 : Int) (a0_7 : Int) (a0_8 : Int) (a0_9 : LI) (a0_10 : LI) (a0_11 : Bool) (a0_12 : LI) (a0_13 : Int) (a0_14 : Int) (a0_15 : LI) (a0_16 : LI) (a1_0 : LI) (a1_1 : LI) (a1_2 : Bool) (a1_3 : LI) (a1_4 : LI) (a1_5 : LI) (a1_6 : Int) (a1_7 : Int) (a1_8 : Int) (a1_9 : LI) (a1_10 : LI) (a1_11 : Bool) (a1_12 : LI) (a1_13 : Int) (a1_14 : Int) (a1_15 : LI) (a1_16 : LI) (a2 : LI) : runF (Fi.C n) (Fi.A n) n Tryd.f7 [(.agg [(.ints .u8 20 a0_0), (.ints .u64 4 a0_1), (.bool a0_2), (.ints .u8 20 a0_3), (.rints .u8 a0_4), (.rints .u8 a0_5), (.int .u64 a0_6), (.int .u64 a0_7), (.int .u64 a0_8), (.ints .u64 4 a0_9), (.ints .u64 4 a0_10), (.bool a0_11), (.ints .u8 20 a0_12), (.int .u64 a0_13), (.int .u64 a0_14), (.rints .u8 a0_15), (.rints .u8 a0_16)]), (.agg [(.ints .u8 20 a1_0), (.ints .u64 4 a1_1), (.bool a1_2), (.ints .u8 20 a1_3), (.rints .u8 a1_4), (.rints .u8 a1_5), (.int .u64 a1_6), (.int .u64 a1_7), (.int .u64 a1_8), (.ints .u64 4 a1_9), (.ints .u64 4 a1_10), (.bool a1_11), (.ints .u8 20 a1_12), (.int .u64 a1_13), (.int .u64 a1_14), (.rints .u8 a1_15), (.rints .u8 a1_16)]), (.ints .u64 4 a2)] [] (fun v o => some (v, o)) = Fi.g (fun a0 => (((.bool a0), []) : AV × Blks)) n a0_0 a0_1 a0_2 a0_3 a0_4 a0_5 a0_6 a0_7 a0_8 a0_9 a0_10 a0_11 a0_12 a0_13 a0_14 a0_15 a0_16 a1_0 a1_1 a1_2 a1_3 a1_4 a1_5 a1_6 a1_7 a1_8 a1_9 a1_10 a1_11 a1_12 a1_13 a1_14 a1_15 a1_16 a2 := by kernel_rfl
theorem Fi.call (hmix : Tryd.prog.follows .mixedOrders = true) (n : Nat) (t : (LI × (LI × (Bool × (LI × (LI × (LI × (Int × (Int × (Int × (LI × (LI × (Bool × (LI × (Int × (Int × (LI × (LI × (LI × (LI × (Bool × (LI × (LI × (LI × (Int × (Int × (Int × (LI × (LI × (Bool × (LI × (Int × (Int × (LI × (LI × LI))))))))))))))))))))))))))))))))))) (u) (h : Fi.m n t = some u) : FnC Tryd.prog abiG 7 (Fi.shape t).1 (Fi.shape t).2 (Fi.res u).1 (Fi.res u).2 :=
  fnC1 (C := Fi.C n) (A := Fi.A n) (fn := Tryd.f7) rfl (.cons (Fci.s hmix n) (.cons (Fbd.s hmix n) (.cons (Fap.s hmix n) (.cons (Fac.s hmix n) (.cons (Fz.s hmix n) (.cons (Fn.s hmix n) .nil)))))) hmix Tryd.func7 (by kernel_rfl) (lp := []) (by kernel_rfl) .nil
  (nj rfl) (by decide) rfl rfl (by show 3 ≤ Tryd.f7.ntmps; decide) (Fi.run n t.1 t.2.1 t.2.2.1 t.2.2.2.1 t.2.2.2.2.1 t.2.2.2.2.2.1 t.2.2.2.2.2.2.1 t.2.2.2.2.2.2.2.1 t.2.2.2.2.2.2.2.2.1 t.2.2.2.2.2.2.2.2.2.1 t.2.2.2.2.2.2.2.2.2.2.1 t.2.2.2.2.2.2.2.2.2.2.2.1 t.2.2.2.2.2.2.2.2.2.2.2.2.1 t.2.2.2.2.2.2.2.2.2.2.2.2.2.1 t.2.2.2.2.2.2.2.2.2.2.2.2.2.2.1 t.2.2.2.2.2.2.2.2.2.2.2.2.2.2.2.1 t.2.2.2.2.2.2.2.2.2.2.2.2.2.2.2.2.1 t.2.2.2.2.2.2.2.2.2.2.2.2.2.2.2.2.2.1 t.2.2.2.2.2.2.2.2.2.2.2.2.2.2.2.2.2.2.1 t.2.2.2.2.2.2.2.2.2.2.2.2.2.2.2.2.2.2.2.1 t.2.2.2.2.2.2.2.2.2.2.2.2.2.2.2.2.2.2.2.2.1 t.2.2.2.2.2.2.2.2.2.2.2.2.2.2.2.2.2.2.2.2.2.1 t.2.2.2.2.2.2.2.2.2.2.2.2.2.2.2.2.2.2.2.2.2.2.1 t.2.2.2.2.2.2.2.2.2.2.2.2.2.2.2.2.2.2.2.2.2.2.2.1 t.2.2.2.2.2.2.2.2.2.2.2.2.2.2.2.2.2.2.2.2.2.2.2.2.1 t.2.2.2.2.2.2.2.2.2.2.2.2.2.2.2.2.2.2.2.2.2.2.2.2.2.1 t.2.2.2.2.2.2.2.2.2.2.2.2.2.2.2.2.2.2.2.2.2.2.2.2.2.2.1 t.2.2.2.2.2.2.2.2.2.2.2.2.2.2.2.2.2.2.2.2.2.2.2.2.2.2.2.1 t.2.2.2.2.2.2.2.2.2.2.2.2.2.2.2.2.2.2.2.2.2.2.2.2.2.2.2.2.1 t.2.2.2.2.2.2.2.2.2.2.2.2.2.2.2.2.2.2.2.2.2.2.2.2.2.2.2.2.2.1 t.2.2.2.2.2.2.2.2.2.2.2.2.2.2.2.2.2.2.2.2.2.2.2.2.2.2.2.2.2.2.1 t.2.2.2.2.2.2.2.2.2.2.2.2.2.2.2.2.2.2.2.2.2.2.2.2.2.2.2.2.2.2.2.1 t.2.2.2.2.2.2.2.2.2.2.2.2.2.2.2.2.2.2.2.2.2.2.2.2.2.2.2.2.2.2.2.2.1 t.2.2.2.2.2.2.2.2.2.2.2.2.2.2.2.2.2.2.2.2.2.2.2.2.2.2.2.2.2.2.2.2.2.1 t.2.2.2.2.2.2.2.2.2.2.2.2.2.2.2.2.2.2.2.2.2.2.2.2.2.2.2.2.2.2.2.2.2.2) (Fi.gmap Fi.res (fun a0 => a0) n t.1 t.2.1 t.2.2.1 t.2.2.2.1 t.2.2.2.2.1 t.2.2.2.2.2.1 t.2.2.2.2.2.2.1 t.2.2.2.2.2.2.2.1 t.2.2.2.2.2.2.2.2.1 t.2.2.2.2.2.2.2.2.2.1 t.2.2.2.2.2.2.2.2.2.2.1 t.2.2.2.2.2.2.2.2.2.2.2.1 t.2.2.2.2.2.2.2.2.2.2.2.2.1 t.2.2.2.2.2.2.2.2.2.2.2.2.2.1 t.2.2.2.2.2.2.2.2.2.2.2.2.2.2.1 t.2.2.2.2.2.2.2.2.2.2.2.2.2.2.2.1 t.2.2.2.2.2.2.2.2.2.2.2.2.2.2.2.2.1 t.2.2.2.2.2.2.2.2.2.2.2.2.2.2.2.2.2.1 t.2.2.2.2.2.2.2.2.2.2.2.2.2.2.2.2.2.2.1 t.2.2.2.2.2.2.2.2.2.2.2.2.2.2.2.2.2.2.2.1 t.2.2.2.2.2.2.2.2.2.2.2.2.2.2.2.2.2.2.2.2.1 t.2.2.2.2.2.2.2.2.2.2.2.2.2.2.2.2.2.2.2.2.2.1 t.2.2.2.2.2.2.2.2.2.2.2.2.2.2.2.2.2.2.2.2.2.2.1 t.2.2.2.2.2.2.2.2.2.2.2.2.2.2.2.2.2.2.2.2.2.2.2.1 t.2.2.2.2.2.2.2.2.2.2.2.2.2.2.2.2.2.2.2.2.2.2.2.2.1 t.2.2.2.2.2.2.2.2.2.2.2.2.2.2.2.2.2.2.2.2.2.2.2.2.2.1 t.2.2.2.2.2.2.2.2.2.2.2.2.2.2.2.2.2.2.2.2.2.2.2.2.2.2.1 t.2.2.2.2.2.2.2.2.2.2.2.2.2.2.2.2.2.2.2.2.2.2.2.2.2.2.2.1 t.2.2.2.2.2.2.2.2.2.2.2.2.2.2.2.2.2.2.2.2.2.2.2.2.2.2.2.2.1 t.2.2.2.2.2.2.2.2.2.2.2.2.2.2.2.2.2.2.2.2.2.2.2.2.2.2.2.2.2.1 t.2.2.2.2.2.2.2.2.2.2.2.2.2.2.2.2.2.2.2.2.2.2.2.2.2.2.2.2.2.2.1 t.2.2.2.2.2.2.2.2.2.2.2.2.2.2.2.2.2.2.2.2.2.2.2.2.2.2.2.2.2.2.2.1 t.2.2.2.2.2.2.2.2.2.2.2.2.2.2.2.2.2.2.2.2.2.2.2.2.2.2.2.2.2.2.2.2.1 t.2.2.2.2.2.2.2.2.2.2.2.2.2.2.2.2.2.2.2.2.2.2.2.2.2.2.2.2.2.2.2.2.2.1 t.2.2.2.2.2.2.2.2.2.2.2.2.2.2.2.2.2.2.2.2.2.2.2.2.2.2.2.2.2.2.2.2.2.2) h
end
