/- What the program's functions compute, as plain functions, each with its proof: the function does just that. Condition: the plain function has an answer. -/
import Derived.Test.YtehhocoldpdijaaDoorAbsH6
import Derived.Test.YtehhocoldpdijaaDoorProg
import Derived.Test.YtehhocoldpdijaaDoorFnAbiSelectors1
import Derived.WalkKit
import Derived.LaidEql
import Derived.Stop.Asserts
import Derived.RowKitTokens
set_option linter.unusedVariables false
set_option linter.unusedSimpArgs false
set_option maxRecDepth 100000
open Go Go.Abs Go.Proofs
section
noncomputable section
noncomputable def Fu.C (n : Nat) : Ctx := ⟨Tryd.prog, abiG, lookC [(89, Fak.c n), (90, Fr.c n), (91, Far.c n)], fun _ => false⟩
def Fu.live : NL := fun k => match k with
 | 5 => ([21, 20, 19, 1, 6], [4, 5, 6])
 | _ => ([], [])
def Fu.l5_0.r {α : Type} (mk0 : Int → LA → LI → LA → LA → α) (mk1 : LA → LI → LA → α) (n : Nat) (rc : Int → Int → Nat → Nat → LA → LI → LA → Option α)  (x0 : Int) (x1 : Int) (x2 : Nat) (x3 : Nat) (x4 : LA) (x5 : LI) (x6 : LA) : Option α :=
  if (decide (x0 < x1)) = true then
   if 0 ≤ x0 then
    if x0 < (((List.length x4) : Nat) : Int) then
     bindO (tkBool (List.getD x4 (Int.toNat x0) AV.any)) fun r10 =>
      if (!r10) = true then
       if 0 ≤ (IntKind.wrap .i64 (32 * (IntKind.wrap .i64 (x0 + 1)))) then
        if (IntKind.wrap .i64 (32 * (IntKind.wrap .i64 (x0 + 1)))) ≤ ((x3 : Nat) : Int) then
         if 0 ≤ (IntKind.wrap .i64 (32 * x0)) then
          if (IntKind.wrap .i64 (32 * x0)) ≤ (IntKind.wrap .i64 (32 * (IntKind.wrap .i64 (x0 + 1)))) then
           bindO (Fak.m n (List.take (Go.Abs.span x3 (Int.toNat (IntKind.wrap .i64 (32 * x0))) (Option.some (Int.toNat (IntKind.wrap .i64 (32 * (IntKind.wrap .i64 (x0 + 1))))))) (List.drop (x2 + (Int.toNat (IntKind.wrap .i64 (32 * x0)))) x5))) fun r22 =>
            if ((((List.length x6) + 1) * 64) ≤ 70368744177664 ∧ ((List.length x6) + 1) ≤ 9223372036854775807) then
             rc (IntKind.wrap .i64 (x0 + 1)) x1 x2 x3 x4 x5 (x6 ++ [(AV.agg [(AV.bool r10), (AV.ints .u64 4 r22), AV.snil])])
            else
             none
          else
           none
         else
          none
        else
         none
       else
        none
      else
       bindO (Fr.m n ((List.take x3 (List.drop x2 x5)), x0)) fun r14 => match r14 with
        | (.inl r14) =>
         bindO (errors_As1.m n (r14.1, 0)) fun r18 =>
          some (mk0 50 x4 x5 [] x6)
        | (.inr r14) =>
         bindO (errors_As0.m n 0) fun r18 =>
          if ((((List.length x6) + 1) * 64) ≤ 70368744177664 ∧ ((List.length x6) + 1) ≤ 9223372036854775807) then
           rc (IntKind.wrap .i64 (x0 + 1)) x1 x2 x3 x4 x5 (x6 ++ [(AV.agg [(AV.bool r10), (AV.ints .u64 4 [0, 0, 0, 0]), (AV.rints .u8 r14)])])
          else
           none
    else
     none
   else
    none
  else
   some (mk1 x4 x5 x6)
def Fu.l5_0.g {α : Type} (mk0 : Int → LA → LI → LA → LA → α) (mk1 : LA → LI → LA → α) (n : Nat) : Nat → Int → Int → Nat → Nat → LA → LI → LA → Option α
 | 0, _, _, _, _, _, _, _ => none
 | m + 1, x0, x1, x2, x3, x4, x5, x6 => Fu.l5_0.r mk0 mk1 n (fun y0 y1 y2 y3 y4 y5 y6 => Fu.l5_0.g mk0 mk1 n m y0 y1 y2 y3 y4 y5 y6)  x0 x1 x2 x3 x4 x5 x6
def Fu.l5_0.m (n m : Nat) (t : (Int × (Int × (Nat × (Nat × (LA × (LI × LA))))))) : Option ((Int × (LA × (LI × (LA × LA)))) ⊕ (LA × (LI × LA))) := Fu.l5_0.g (fun a0 a1 a2 a3 a4 => (.inl (a0, a1, a2, a3, a4))) (fun a0 a1 a2 => (.inr (a0, a1, a2))) n m t.1 t.2.1 t.2.2.1 t.2.2.2.1 t.2.2.2.2.1 t.2.2.2.2.2.1 t.2.2.2.2.2.2
def Fu.l5_0.pat : St → Option (Int × (Int × (Nat × (Nat × (LA × (LI × LA))))))
 | (St.mk [(.int .i64 x0), (.int .i64 x1), (.own 0 1), (.slice 1 [] x2 x3 1), (.own 2 6)] [(some (.objs 4 1 x4)), (some (.ints .u8 x5)), (some (.objs 69 6 x6))]) => some (x0, x1, x2, x3, x4, x5, x6)
 | _ => none
def Fu.l5_0.shape (t : (Int × (Int × (Nat × (Nat × (LA × (LI × LA))))))) : St := (St.mk [(.int .i64 t.1), (.int .i64 t.2.1), (.own 0 1), (.slice 1 [] t.2.2.1 t.2.2.2.1 1), (.own 2 6)] [(some (.objs 4 1 t.2.2.2.2.1)), (some (.ints .u8 t.2.2.2.2.2.1)), (some (.objs 69 6 t.2.2.2.2.2.2))])
def Fu.l5_0.res : ((Int × (LA × (LI × (LA × LA)))) ⊕ (LA × (LI × LA))) → Ex × St
 | (.inl u) => (.ret, (St.mk [(.own 2 6), (.int .u16 u.1), (.own 3 6)] [(some (.objs 4 1 u.2.1)), (some (.ints .u8 u.2.2.1)), (some (.objs 69 6 u.2.2.2.1)), (some (.objs 69 6 u.2.2.2.2))]))
 | (.inr u) => ((.exit 0), (St.mk [.any, .any, (.own 2 6)] [(some (.objs 4 1 u.1)), (some (.ints .u8 u.2.1)), (some (.objs 69 6 u.2.2))]))
def Fu.l5_0.resK {R : Type} (u : ((Int × (LA × (LI × (LA × LA)))) ⊕ (LA × (LI × LA)))) (K : Ex → St → Option R) : Option R := match u with
 | (.inl u) => (fun p : Ex × St => K p.1 p.2) (.ret, (St.mk [(.own 2 6), (.int .u16 u.1), (.own 3 6)] [(some (.objs 4 1 u.2.1)), (some (.ints .u8 u.2.2.1)), (some (.objs 69 6 u.2.2.2.1)), (some (.objs 69 6 u.2.2.2.2))]))
 | (.inr u) => (fun p : Ex × St => K p.1 p.2) ((.exit 0), (St.mk [.any, .any, (.own 2 6)] [(some (.objs 4 1 u.1)), (some (.ints .u8 u.2.1)), (some (.objs 69 6 u.2.2))]))
noncomputable def Fu.A (n : Nat) : Ann := ⟨Tryd.f53.ntmps, 2, Fu.live, [(1, (.ints .u8)), (19, (.objs 4 1)), (4, (.objs 69 6)), (6, (.objs 69 6))], [(some (.objs 69 6)), none], fun k => match k with
 | 5 => some (.mk' Fu.l5_0.pat (Fu.l5_0.m n n) Fu.l5_0.resK)
 | _ => none, noNL, lookJ []⟩
noncomputable def Fu.b0 : Code := (loopsIn (Tryd.f53.body.getD .skip)).getD 0 .skip
def Fu.g {α : Type} (mk0 : Int → LA → LI → LA → α) (n : Nat) (s : Nat) (m : Nat) (k : LA) (l : LI) : Option α :=
 if (decide ((IntKind.wrap .i64 (Int.tdiv ((m : Nat) : Int) 32)) < (((List.length k) : Nat) : Int))) = true then
  some (mk0 50 k l [])
 else
  bindO (Fu.l5_0.m n n (0, (((List.length k) : Nat) : Int), s, m, k, l, [])) fun r4 => match r4 with
   | (.inl r4) =>
    some (mk0 r4.1 r4.2.1 r4.2.2.1 r4.2.2.2.1)
   | (.inr r4) =>
    some (mk0 0 r4.1 r4.2.1 r4.2.2)
def Fu.m (n : Nat) (t : (Nat × (Nat × (LA × LI)))) : Option (Int × (LA × (LI × LA))) := Fu.g (fun a0 a1 a2 a3 => (a0, a1, a2, a3)) n t.1 t.2.1 t.2.2.1 t.2.2.2
def Fu.pat : List AV → Blks → Option (Nat × (Nat × (LA × LI)))
 | [(.own 0 1), (.slice 1 [] s m 1)], [(some (.objs 4 1 k)), (some (.ints .u8 l))] => some (s, m, k, l)
 | _, _ => none
def Fu.shape (t : (Nat × (Nat × (LA × LI)))) : List AV × Blks := ([(.own 0 1), (.slice 1 [] t.1 t.2.1 1)], [(some (.objs 4 1 t.2.2.1)), (some (.ints .u8 t.2.2.2))])
def Fu.res : (Int × (LA × (LI × LA))) → AV × Blks
 | u => ((.tup [(.own 2 6), (.int .u16 u.1)]), [(some (.objs 4 1 u.2.1)), (some (.ints .u8 u.2.2.1)), (some (.objs 69 6 u.2.2.2))])
def Fu.resK {R : Type} (u : (Int × (LA × (LI × LA)))) (K : AV → Blks → Option R) : Option R := K (Fu.res u).1 (Fu.res u).2
def Fu.c (n : Nat) : Abs.Callee := .mk' [true, true] [(some (.objs 4 1)), (some (.ints .u8))] Fu.pat (Fu.m n) Fu.resK
end
end
section
noncomputable section
noncomputable def Fv.C (n : Nat) : Ctx := ⟨Tryd.prog, abiG, lookC [(89, Fak.c n), (90, Fr.c n), (91, Far.c n)], fun _ => false⟩
def Fv.live : NL := fun k => match k with
 | 5 => ([21, 20, 19, 1, 6], [4, 5, 6])
 | _ => ([], [])
def Fv.l5_0.r {α : Type} (mk0 : Int → LA → LA → α) (mk1 : LA → α) (n : Nat) (rc : Int → Int → LA → LI → LA → Option α)  (x0 : Int) (x1 : Int) (x2 : LA) (x3 : LI) (x4 : LA) : Option α :=
  if (decide (x0 < x1)) = true then
   if 0 ≤ x0 then
    if x0 < (((List.length x2) : Nat) : Int) then
     bindO (tkBool (List.getD x2 (Int.toNat x0) AV.any)) fun r10 =>
      if (!r10) = true then
       if 0 ≤ (IntKind.wrap .i64 (32 * (IntKind.wrap .i64 (x0 + 1)))) then
        if (IntKind.wrap .i64 (32 * (IntKind.wrap .i64 (x0 + 1)))) ≤ (((List.length x3) : Nat) : Int) then
         if 0 ≤ (IntKind.wrap .i64 (32 * x0)) then
          if (IntKind.wrap .i64 (32 * x0)) ≤ (IntKind.wrap .i64 (32 * (IntKind.wrap .i64 (x0 + 1)))) then
           bindO (Fak.m n (Go.Abs.cut x3 (Int.toNat (IntKind.wrap .i64 (32 * x0))) (Option.some (Int.toNat (IntKind.wrap .i64 (32 * (IntKind.wrap .i64 (x0 + 1)))))))) fun r22 =>
            if ((((List.length x4) + 1) * 64) ≤ 70368744177664 ∧ ((List.length x4) + 1) ≤ 9223372036854775807) then
             rc (IntKind.wrap .i64 (x0 + 1)) x1 x2 x3 (x4 ++ [(AV.agg [(AV.bool r10), (AV.ints .u64 4 r22), AV.snil])])
            else
             none
          else
           none
         else
          none
        else
         none
       else
        none
      else
       bindO (Fr.m n (x3, x0)) fun r14 => match r14 with
        | (.inl r14) =>
         bindO (errors_As1.m n (r14.1, 0)) fun r18 =>
          some (mk0 50 [] x4)
        | (.inr r14) =>
         bindO (errors_As0.m n 0) fun r18 =>
          if ((((List.length x4) + 1) * 64) ≤ 70368744177664 ∧ ((List.length x4) + 1) ≤ 9223372036854775807) then
           rc (IntKind.wrap .i64 (x0 + 1)) x1 x2 x3 (x4 ++ [(AV.agg [(AV.bool r10), (AV.ints .u64 4 [0, 0, 0, 0]), (AV.rints .u8 r14)])])
          else
           none
    else
     none
   else
    none
  else
   some (mk1 x4)
def Fv.l5_0.g {α : Type} (mk0 : Int → LA → LA → α) (mk1 : LA → α) (n : Nat) : Nat → Int → Int → LA → LI → LA → Option α
 | 0, _, _, _, _, _ => none
 | m + 1, x0, x1, x2, x3, x4 => Fv.l5_0.r mk0 mk1 n (fun y0 y1 y2 y3 y4 => Fv.l5_0.g mk0 mk1 n m y0 y1 y2 y3 y4)  x0 x1 x2 x3 x4
def Fv.l5_0.m (n m : Nat) (t : (Int × (Int × (LA × (LI × LA))))) : Option ((Int × (LA × LA)) ⊕ LA) := Fv.l5_0.g (fun a0 a1 a2 => (.inl (a0, a1, a2))) (fun a0 => (.inr a0)) n m t.1 t.2.1 t.2.2.1 t.2.2.2.1 t.2.2.2.2
def Fv.l5_0.pat : St → Option (Int × (Int × (LA × (LI × LA))))
 | (St.mk [(.int .i64 x0), (.int .i64 x1), (.robjs 4 1 x2), (.rints .u8 x3), (.own 0 6)] [(some (.objs 69 6 x4))]) => some (x0, x1, x2, x3, x4)
 | _ => none
def Fv.l5_0.shape (t : (Int × (Int × (LA × (LI × LA))))) : St := (St.mk [(.int .i64 t.1), (.int .i64 t.2.1), (.robjs 4 1 t.2.2.1), (.rints .u8 t.2.2.2.1), (.own 0 6)] [(some (.objs 69 6 t.2.2.2.2))])
def Fv.l5_0.res : ((Int × (LA × LA)) ⊕ LA) → Ex × St
 | (.inl u) => (.ret, (St.mk [(.own 0 6), (.int .u16 u.1), (.own 1 6)] [(some (.objs 69 6 u.2.1)), (some (.objs 69 6 u.2.2))]))
 | (.inr u) => ((.exit 0), (St.mk [.any, .any, (.own 0 6)] [(some (.objs 69 6 u))]))
def Fv.l5_0.resK {R : Type} (u : ((Int × (LA × LA)) ⊕ LA)) (K : Ex → St → Option R) : Option R := match u with
 | (.inl u) => (fun p : Ex × St => K p.1 p.2) (.ret, (St.mk [(.own 0 6), (.int .u16 u.1), (.own 1 6)] [(some (.objs 69 6 u.2.1)), (some (.objs 69 6 u.2.2))]))
 | (.inr u) => (fun p : Ex × St => K p.1 p.2) ((.exit 0), (St.mk [.any, .any, (.own 0 6)] [(some (.objs 69 6 u))]))
noncomputable def Fv.A (n : Nat) : Ann := ⟨Tryd.f53.ntmps, 0, Fv.live, [(1, (.ints .u8)), (19, (.objs 4 1)), (4, (.objs 69 6)), (6, (.objs 69 6))], [(some (.objs 69 6)), none], fun k => match k with
 | 5 => some (.mk' Fv.l5_0.pat (Fv.l5_0.m n n) Fv.l5_0.resK)
 | _ => none, noNL, lookJ []⟩
noncomputable def Fv.b0 : Code := (loopsIn (Tryd.f53.body.getD .skip)).getD 0 .skip
def Fv.g {α : Type} (mk0 : Int → LA → α) (n : Nat) (a0 : LA) (a1 : LI) : Option α :=
 if (decide ((IntKind.wrap .i64 (Int.tdiv (((List.length a1) : Nat) : Int) 32)) < (((List.length a0) : Nat) : Int))) = true then
  some (mk0 50 [])
 else
  bindO (Fv.l5_0.m n n (0, (((List.length a0) : Nat) : Int), a0, a1, [])) fun r4 => match r4 with
   | (.inl r4) =>
    some (mk0 r4.1 r4.2.1)
   | (.inr r4) =>
    some (mk0 0 r4)
def Fv.m (n : Nat) (t : (LA × LI)) : Option (Int × LA) := Fv.g (fun a0 a1 => (a0, a1)) n t.1 t.2
def Fv.pat : List AV → Blks → Option (LA × LI)
 | [(.robjs 4 1 a0), (.rints .u8 a1)], [] => some (a0, a1)
 | _, _ => none
def Fv.shape (t : (LA × LI)) : List AV × Blks := ([(.robjs 4 1 t.1), (.rints .u8 t.2)], [])
def Fv.res : (Int × LA) → AV × Blks
 | u => ((.tup [(.own 0 6), (.int .u16 u.1)]), [(some (.objs 69 6 u.2))])
def Fv.resK {R : Type} (u : (Int × LA)) (K : AV → Blks → Option R) : Option R := K (Fv.res u).1 (Fv.res u).2
def Fv.c (n : Nat) : Abs.Callee := .mk' [true, true] [(some (.objs 4 1)), (some (.ints .u8))] Fv.pat (Fv.m n) Fv.resK
end
end
section
noncomputable section
def abi_Decode.c (n : Nat) : Abs.Callee := .pick (fun args => match args with | [.robjs _ _ _, .own _ _] => true | _ => false) (Fs.c n) (.pick (fun args => match args with | [.own _ _, .own _ _] => true | _ => false) (Ft.c n) (.pick (fun args => match args with | [.own _ _, .slice _ _ _ _ _] => true | _ => false) (Fu.c n) (Fv.c n)))
end
end
section
namespace Go.Proofs
open Go Go.RowKit Go.Extern.Stop Go.Stop Go.Extern
theorem Tryd.valueOf106 (t : Addr) (w : World) : (ReflectliteValue.unpack (.iface 106 (.pointer (some t)))).run Tryd.prog w
    = .ok (.agg #[.pointer (some ⟨5, 106, none⟩), .pointer (some ⟨w.heap.size, 0, none⟩), .int .u64 150]) (w.alloc (.cells #[.pointer (some t)] 106)) := by kernel_rfl
theorem Tryd.asT106 (a : Addr) (w : World) : (ReflectliteValue.methodAny (ReflectliteValue.valueError "reflectlite.Value.Type" 0) (fun t _ _ _ => ReflectliteType.toType t) #[.agg #[.pointer (some ⟨5, 106, none⟩), .pointer (some a), .int .u64 150]]).run Tryd.prog w
    = .ok (.iface 148 (.agg #[.pointer (some ⟨5, 106, none⟩)])) w := by kernel_rfl
theorem Tryd.methodKind (h : Value) (w : World) : (Go.method 299 148 (.agg #[h]) "Kind").run Tryd.prog w = .ok (145, h) w := by kernel_rfl
theorem Tryd.kind106 (w : World) : ((ReflectliteType.abiMethod fun t => (fun a : Nat => Value.int IntKind.u8 (a : Int)) <$> Rtype.kind t) #[.pointer (some ⟨5, 106, none⟩)]).run Tryd.prog w = .ok (.int .u8 22) w := by kernel_rfl
theorem Tryd.kind104 (w : World) : ((ReflectliteType.abiMethod fun t => (fun a : Nat => Value.int IntKind.u8 (a : Int)) <$> Rtype.kind t) #[.pointer (some ⟨5, 104, none⟩)]).run Tryd.prog w = .ok (.int .u8 25) w := by kernel_rfl
theorem rlm (z : Sem Value) (f : TypeId → Addr → Nat → Nat → Sem Value) (v : Value) :
    ReflectliteValue.method z f #[v] = (do match ← ReflectliteValue.parts v with | none => z | some (t, a, fl) => f t a fl (fl % 32)) := rfl
theorem Tryd.parts106 (a : Addr) (w : World) : (ReflectliteValue.parts (.agg #[.pointer (some ⟨5, 106, none⟩), .pointer (some a), .int .u64 150])).run Tryd.prog w = .ok (some (106, a, 150)) w := by kernel_rfl
theorem Tryd.isNil106 (a p : Addr) (W : World) (ha : W.cell? a = some (.pointer (some p))) :
    (ReflectliteValue.method (ReflectliteValue.valueError "reflectlite.Value.IsNil" 0) ReflectliteValue.isNil #[.agg #[.pointer (some ⟨5, 106, none⟩), .pointer (some a), .int .u64 150]]).run Tryd.prog W = .ok (.bool false) W := by
  rw [rlm]
  simp only [Sem.run_bind, Tryd.parts106, Result.andThen]
  simp [ReflectliteValue.isNil, loadVar, isAgg, underlying, Tryd.underlying106, ha, Result.andThen]
theorem Tryd.methodElem (h : Value) (w : World) : (Go.method 299 148 (.agg #[h]) "Elem").run Tryd.prog w = .ok (158, .agg #[h]) w := by kernel_rfl
theorem Tryd.methodImplements (h : Value) (w : World) : (Go.method 299 148 (.agg #[h]) "Implements").run Tryd.prog w = .ok (159, .agg #[h]) w := by kernel_rfl
theorem Tryd.methodAssignableTo (h : Value) (w : World) : (Go.method 299 148 (.agg #[h]) "AssignableTo").run Tryd.prog w = .ok (156, .agg #[h]) w := by kernel_rfl
theorem Tryd.elem106 (w : World) : (ReflectliteType.method ReflectliteType.elem #[.agg #[.pointer (some ⟨5, 106, none⟩)]]).run Tryd.prog w = .ok (.iface 148 (.agg #[.pointer (some ⟨5, 104, none⟩)])) w := by kernel_rfl
theorem Tryd.implements104 (w : World) : (ReflectliteType.relation "Implements" ReflectliteType.implements_ #[.agg #[.pointer (some ⟨5, 104, none⟩)], .iface 148 (.agg #[.pointer (some ⟨5, 100, none⟩)])]).run Tryd.prog w = .ok (.bool true) w := by kernel_rfl
theorem Tryd.typeOf104 (v : Value) (w : World) : (ReflectliteType.typeOf #[.iface 104 v]).run Tryd.prog w = .ok (.iface 148 (.agg #[.pointer (some ⟨5, 104, none⟩)])) w := by kernel_rfl
theorem Tryd.assignable104 (w : World) : (ReflectliteType.relation "AssignableTo" ReflectliteType.assignableTo #[.agg #[.pointer (some ⟨5, 104, none⟩)], .iface 148 (.agg #[.pointer (some ⟨5, 104, none⟩)])]).run Tryd.prog w = .ok (.bool true) w := by kernel_rfl
theorem Tryd.valueOf104 (c0 c1 : Value) (w : World) : (ReflectliteValue.unpack (.iface 104 (.agg #[c0, c1]))).run Tryd.prog w
    = .ok (.agg #[.pointer (some ⟨5, 104, none⟩), .pointer (some ⟨w.heap.size, 0, none⟩), .int .u64 153]) (w.alloc (.cells #[c0, c1] 104)) := by kernel_rfl
theorem Tryd.elemOf106 (w : World) : (Rtype.elem? 106).run Tryd.prog w = .ok (some 104) w := by kernel_rfl
theorem Tryd.mk104 (p : Addr) (w : World) : (ReflectliteValue.mk 104 p ReflectliteValue.flagAddr).run Tryd.prog w = .ok (.agg #[.pointer (some ⟨5, 104, none⟩), .pointer (some p), .int .u64 409]) w := by kernel_rfl
theorem Tryd.elemV106 (a p : Addr) (W : World) (ha : W.cell? a = some (.pointer (some p))) :
    (ReflectliteValue.method (ReflectliteValue.valueError "reflectlite.Value.Elem" 0) ReflectliteValue.elem #[.agg #[.pointer (some ⟨5, 106, none⟩), .pointer (some a), .int .u64 150]]).run Tryd.prog W
      = .ok (.agg #[.pointer (some ⟨5, 104, none⟩), .pointer (some p), .int .u64 409]) W := by
  rw [rlm]
  simp only [Sem.run_bind, Tryd.parts106, Result.andThen]
  simp [ReflectliteValue.elem, loadVar, isAgg, underlying, Tryd.underlying106, ha, Result.andThen, Tryd.elemOf106, Tryd.mk104]
theorem rls (v x : Value) : ReflectliteValue.set #[v, x] = (do
    let (some (dst, a, fl), some (src, b, _)) := (← ReflectliteValue.parts v, ← ReflectliteValue.parts x)
      | unsupported (.noEntry "extern/(internal/reflectlite.Value).Set.zeroValue")
    if fl / ReflectliteValue.flagAddr % 2 == 0 then unsupported (.noEntry "extern/(internal/reflectlite.Value).Set.unaddressable")
    let val ← loadVar src b
    if ← Rtype.directlyAssignable dst src then storeVar dst a val
    else if ← Rtype.implements dst src then
      if (← Rtype.kind src) == 20 then
        match val with
        | .nilIface => unsupported (.noEntry "extern/reflectlite: a nil value of one interface type handed on as a value of another")
        | _ => storeVar dst a val
      else storeVar dst a (.iface src val)
    else panicString ("reflectlite.Set: value of type " ++ (← Rtype.spelt src) ++ " is not assignable to type " ++ (← Rtype.spelt dst))
    pure (.tuple #[])) := rfl
theorem Tryd.parts104a (a : Addr) (w : World) : (ReflectliteValue.parts (.agg #[.pointer (some ⟨5, 104, none⟩), .pointer (some a), .int .u64 409])).run Tryd.prog w = .ok (some (104, a, 409)) w := by kernel_rfl
theorem Tryd.parts104 (a : Addr) (w : World) : (ReflectliteValue.parts (.agg #[.pointer (some ⟨5, 104, none⟩), .pointer (some a), .int .u64 153])).run Tryd.prog w = .ok (some (104, a, 153)) w := by kernel_rfl
theorem Tryd.direct104 (w : World) : (Rtype.directlyAssignable 104 104).run Tryd.prog w = .ok true w := by kernel_rfl
theorem Tryd.size104 (w : World) : (sizeOf 104).run Tryd.prog w = .ok 2 w := by kernel_rfl
theorem Tryd.set104 (tb to bb bo : Nat) (c0 c1 o0 o1 : Value) (h0 : c0.oneCell' = true) (h1 : c1.oneCell' = true) (W : World) (hb0 : W.cell? ⟨bb, bo, none⟩ = some c0) (hb1 : W.cell? ⟨bb, bo + 1, none⟩ = some c1)
    (ht0 : W.cell? ⟨tb, to, none⟩ = some o0) (ht1 : W.cell? ⟨tb, to + 1, none⟩ = some o1) (hf0 : W.frozen? ⟨tb, to, none⟩ = false) (hf1 : W.frozen? ⟨tb, to + 1, none⟩ = false) :
    (ReflectliteValue.set #[.agg #[.pointer (some ⟨5, 104, none⟩), .pointer (some ⟨tb, to, none⟩), .int .u64 409], .agg #[.pointer (some ⟨5, 104, none⟩), .pointer (some ⟨bb, bo, none⟩), .int .u64 153]]).run Tryd.prog W
      = .ok (.tuple #[]) (W.setCells tb to [c0, c1]) := by
  rw [rls]
  simp only [Sem.run_bind, Tryd.parts104a, Tryd.parts104, Result.andThen]
  have hl : (loadCells ⟨bb, bo, none⟩ 2).run Tryd.prog W = .ok #[c0, c1] W := Go.Abs.run_loadCells_of W bb bo 2 [c0, c1] rfl (fun j v hv => by
    match j with
    | 0 => simp at hv; subst hv; exact hb0
    | 1 => simp at hv; subst hv; exact hb1
    | j + 2 => simp at hv)
  have hlv : (loadVar 104 ⟨bb, bo, none⟩).run Tryd.prog W = .ok (.agg #[c0, c1]) W := by
    simp [loadVar, isAgg, underlying, Tryd.underlying104, hl, Result.andThen]
  have hs2 : (storeCells ⟨tb, to, none⟩ [c0, c1]).run Tryd.prog W = .ok () (W.setCells tb to [c0, c1]) := by
    have := run_storeCells_cells (P := Tryd.prog) tb to [c0, c1] 0 W (fun j hj => by
      match j with
      | 0 => simp [ht0]
      | 1 => simp [ht1]
      | j + 2 => simp at hj; omega) (fun j hj => by
      match j with
      | 0 => exact hf0
      | 1 => exact hf1
      | j + 2 => simp at hj; omega) (fun v hv => by simp at hv; rcases hv with rfl | rfl <;> assumption)
    simpa using this
  have hsv : (storeVar 104 ⟨tb, to, none⟩ (.agg #[c0, c1])).run Tryd.prog W = .ok () (W.setCells tb to [c0, c1]) := by
    unfold storeVar
    simp [Tryd.size104, Value.cells, Result.andThen, hs2]
  simp [ReflectliteValue.flagAddr, hlv, hsv, Tryd.direct104, Result.andThen]
end Go.Proofs
end
section
namespace Go.Proofs
open Go Go.RowKit Go.Extern.Stop Go.Stop Go.Extern
theorem as_nil (t : Value) (w : World) :
    Calls Tryd.prog 91 #[.nilIface, t] w fun e w' => e = .returned (.bool false) ∧ w' = w := by
  go_enter Tryd.func91, Tryd.ntmps91
  go_wp2
  go_ret
  exact ⟨rfl, rfl⟩
set_option maxHeartbeats 4000000 in
theorem as_hit (tb to : Nat) (c0 c1 o0 o1 : Value) (w : World) (h0 : c0.oneCell' = true) (h1 : c1.oneCell' = true)
    (hg : w.cell? ⟨0, 0, none⟩ = some (.iface 148 (.agg #[.pointer (some ⟨5, 100, none⟩)])))
    (ht0 : w.cell? ⟨tb, to, none⟩ = some o0) (ht1 : w.cell? ⟨tb, to + 1, none⟩ = some o1) (hf0 : w.frozen? ⟨tb, to, none⟩ = false) (hf1 : w.frozen? ⟨tb, to + 1, none⟩ = false) :
    Calls Tryd.prog 91 #[.iface 104 (.agg #[c0, c1]), .iface 106 (.pointer (some ⟨tb, to, none⟩))] w fun ev w' => ev = .returned (.bool true) ∧ w' = ((((w.alloc (.cells #[.pointer (some ⟨tb, to, none⟩)] 106)).alloc (.cells #[.pointer (some ⟨5, 106, none⟩), .pointer (some ⟨w.heap.size, 0, none⟩), .int .u64 150] 130)).alloc (.cells #[.pointer (some ⟨5, 106, none⟩), .pointer (some ⟨w.heap.size, 0, none⟩), .int .u64 150] 130)).alloc (.cells #[c0, c1] 104)).setCells tb to [c0, c1] := by
  have h6 := @run_callFunc_extern Tryd.prog 107 _ (fun args => ReflectliteValue.unpack (args.getD 0 (.tuple #[]))) Tryd.func107 (by kernel_rfl) (by kernel_rfl) (by kernel_rfl) (by kernel_rfl)
  have h7 := @run_callFunc_extern Tryd.prog 108 _ (ReflectliteValue.methodAny (ReflectliteValue.valueError "reflectlite.Value.Type" 0) (fun t _ _ _ => ReflectliteType.toType t)) Tryd.func108 (by kernel_rfl) (by kernel_rfl) (by kernel_rfl) (by kernel_rfl)
  have h8 := @run_callFunc_extern Tryd.prog 109 _ (ReflectliteValue.method (ReflectliteValue.valueError "reflectlite.Value.IsNil" 0) ReflectliteValue.isNil) Tryd.func109 (by kernel_rfl) (by kernel_rfl) (by kernel_rfl) (by kernel_rfl)
  have h27 := @run_callFunc_extern Tryd.prog 145 _ (ReflectliteType.abiMethod fun t => do pure (.int .u8 (← Rtype.kind t))) Tryd.func145 (by kernel_rfl) (by kernel_rfl) (by kernel_rfl) (by kernel_rfl)
  have h37 := @run_callFunc_extern Tryd.prog 158 _ (ReflectliteType.method ReflectliteType.elem) Tryd.func158 (by kernel_rfl) (by kernel_rfl) (by kernel_rfl) (by kernel_rfl)
  have h38 := @run_callFunc_extern Tryd.prog 159 _ (ReflectliteType.relation "Implements" ReflectliteType.implements_) Tryd.func159 (by kernel_rfl) (by kernel_rfl) (by kernel_rfl) (by kernel_rfl)
  have h10 := @run_callFunc_extern Tryd.prog 121 _ ReflectliteType.typeOf Tryd.func121 (by kernel_rfl) (by kernel_rfl) (by kernel_rfl) (by kernel_rfl)
  have h35 := @run_callFunc_extern Tryd.prog 156 _ (ReflectliteType.relation "AssignableTo" ReflectliteType.assignableTo) Tryd.func156 (by kernel_rfl) (by kernel_rfl) (by kernel_rfl) (by kernel_rfl)
  have h11 := @run_callFunc_extern Tryd.prog 122 _ (ReflectliteValue.method (ReflectliteValue.valueError "reflectlite.Value.Elem" 0) ReflectliteValue.elem) Tryd.func122 (by kernel_rfl) (by kernel_rfl) (by kernel_rfl) (by kernel_rfl)
  have h12 := @run_callFunc_extern Tryd.prog 123 _ ReflectliteValue.set Tryd.func123 (by kernel_rfl) (by kernel_rfl) (by kernel_rfl) (by kernel_rfl)
  have tO := Tryd.typeOf104
  have mA := Tryd.methodAssignableTo
  have a25 := Tryd.assignable104
  have v25 := Tryd.valueOf104
  have f6 := Tryd.valueOf106
  have f7 := Tryd.asT106
  have mK := Tryd.methodKind
  have mE := Tryd.methodElem
  have mI := Tryd.methodImplements
  have k27 := Tryd.kind106
  have k25 := Tryd.kind104
  have e27 := Tryd.elem106
  have i25 := Tryd.implements104
  have n8 := Tryd.isNil106 ⟨w.heap.size, 0, none⟩ ⟨tb, to, none⟩ ((w.alloc (.cells #[.pointer (some ⟨tb, to, none⟩)] 106)).alloc (.cells #[.pointer (some ⟨5, 106, none⟩), .pointer (some ⟨w.heap.size, 0, none⟩), .int .u64 150] 130)) (by simp)
  have hlt : 0 < w.heap.size := by
    rcases Nat.eq_zero_or_pos w.heap.size with h0 | h
    · simp [World.cell?, h0] at hg
    · exact h
  have hg2 : ((w.alloc (.cells #[.pointer (some ⟨tb, to, none⟩)] 106)).alloc (.cells #[.pointer (some ⟨5, 106, none⟩), .pointer (some ⟨w.heap.size, 0, none⟩), .int .u64 150] 130)).cell? ⟨0, 0, none⟩ = some (.iface 148 (.agg #[.pointer (some ⟨5, 100, none⟩)])) := by
    rw [World.cell?_alloc_lt _ _ ⟨0, 0, none⟩ (by simp), World.cell?_alloc_lt _ _ ⟨0, 0, none⟩ hlt]; exact hg
  have htl : tb < w.heap.size := by
    rcases Nat.lt_or_ge tb w.heap.size with h | h
    · exact h
    · simp [World.cell?, Array.getElem?_eq_none h] at ht0
  have el := Tryd.elemV106 ⟨w.heap.size, 0, none⟩ ⟨tb, to, none⟩ (((w.alloc (.cells #[.pointer (some ⟨tb, to, none⟩)] 106)).alloc (.cells #[.pointer (some ⟨5, 106, none⟩), .pointer (some ⟨w.heap.size, 0, none⟩), .int .u64 150] 130)).alloc (.cells #[.pointer (some ⟨5, 106, none⟩), .pointer (some ⟨w.heap.size, 0, none⟩), .int .u64 150] 130)) (by rw [World.cell?_alloc_lt _ _ ⟨w.heap.size, 0, none⟩ (by simp; omega)]; simp)
  have st := Tryd.set104 tb to (w.heap.size + 1 + 1 + 1) 0 c0 c1 o0 o1 h0 h1 ((((w.alloc (.cells #[.pointer (some ⟨tb, to, none⟩)] 106)).alloc (.cells #[.pointer (some ⟨5, 106, none⟩), .pointer (some ⟨w.heap.size, 0, none⟩), .int .u64 150] 130)).alloc (.cells #[.pointer (some ⟨5, 106, none⟩), .pointer (some ⟨w.heap.size, 0, none⟩), .int .u64 150] 130)).alloc (.cells #[c0, c1] 104))
    (by rw [World.cell?_alloc_at _ _ _ _ (by simp)]; rfl)
    (by rw [World.cell?_alloc_at _ _ _ _ (by simp)]; rfl)
    (by rw [World.cell?_alloc_lt _ _ ⟨tb, to, none⟩ (by simp; omega), World.cell?_alloc_lt _ _ ⟨tb, to, none⟩ (by simp; omega), World.cell?_alloc_lt _ _ ⟨tb, to, none⟩ (by simp; omega), World.cell?_alloc_lt _ _ ⟨tb, to, none⟩ htl]; exact ht0)
    (by rw [World.cell?_alloc_lt _ _ ⟨tb, to + 1, none⟩ (by simp; omega), World.cell?_alloc_lt _ _ ⟨tb, to + 1, none⟩ (by simp; omega), World.cell?_alloc_lt _ _ ⟨tb, to + 1, none⟩ (by simp; omega), World.cell?_alloc_lt _ _ ⟨tb, to + 1, none⟩ htl]; exact ht1)
    (by rw [World.frozen?_alloc_old _ _ ⟨tb, to, none⟩ (by simp; omega), World.frozen?_alloc_old _ _ ⟨tb, to, none⟩ (by simp; omega), World.frozen?_alloc_old _ _ ⟨tb, to, none⟩ (by simp; omega), World.frozen?_alloc_old _ _ ⟨tb, to, none⟩ (Nat.ne_of_lt htl)]; exact hf0)
    (by rw [World.frozen?_alloc_old _ _ ⟨tb, to + 1, none⟩ (by simp; omega), World.frozen?_alloc_old _ _ ⟨tb, to + 1, none⟩ (by simp; omega), World.frozen?_alloc_old _ _ ⟨tb, to + 1, none⟩ (by simp; omega), World.frozen?_alloc_old _ _ ⟨tb, to + 1, none⟩ (Nat.ne_of_lt htl)]; exact hf1)
  go_enter Tryd.func91, Tryd.ntmps91
  go_wp2
  refine wp_loop_rounds 1 ?_
  rw [rounds_succ]
  go_wp2
  go_ret
  exact ⟨rfl, rfl⟩
end Go.Proofs
end
section
namespace Go.Abs
open Go Go.Proofs Go.RowKit
theorem glob_cell {G : Nat → AV} {E : Env} (g : Glob G E) (k : Nat) (x : AV) (h : G k = x) (hx : x ≠ .any) : VR E false (.rptr x) (.pointer (some ⟨k, 0, none⟩)) := by
  have := g k
  rw [h] at this
  split at this
  · exact absurd rfl hx
  · exact this
theorem asNil_ok (a : Int) : FnOK Tryd.prog abiG 91 [.nili, .iface 106 (.ptr 0 [])] [some (.var (.agg [.int .i64 a, .nili]))] (.bool false) [some (.var (.agg [.int .i64 a, .nili]))] := by
  intro E vs hbl m g ha
  obtain ⟨v, w, rfl, hv, hw⟩ := args2 ha
  cases hv
  refine .inl ⟨Tryd.f91, Tryd.func91, by decide, by kernel_rfl, (as_nil w E.w).mono ?_⟩
  rintro e W' ⟨rfl, rfl⟩
  exact ⟨_, rfl, E, rfl, hbl, Go.refl m, .bool _ _⟩
theorem asHit_ok (i a : Int) : FnOK Tryd.prog abiG 91 [.iface 104 (.agg [.int .i64 i, .iface 166 .any]), .iface 106 (.ptr 0 [])] [some (.var (.agg [.int .i64 a, .nili]))] (.bool true) [some (.var (.agg [.int .i64 i, .iface 166 .any]))] := by
  intro E vs hbl m g ha
  obtain ⟨v, w, rfl, hv, hw⟩ := args2 ha
  have hb : bget E.bl 0 = some (.var (.agg [.int .i64 a, .nili])) := by rw [hbl]; rfl
  have k := m.ok 0 _ hb
  obtain ⟨x, hx⟩ : ∃ x, v = .iface 104 (.agg #[.int .i64 i, .iface 166 x]) := by
    cases hv with
    | iface _ _ _ v h =>
      cases h with
      | agg _ _ cs hf hs h =>
        have hs2 : cs.size = 2 := by rw [hs]; rfl
        have a0 := h 0 (.int .i64 i) cs[0] rfl (Array.getElem?_eq_getElem (by omega))
        have a1 := h 1 (.iface 166 .any) cs[1] rfl (Array.getElem?_eq_getElem (by omega))
        generalize e0 : cs[0] = c0 at a0
        generalize e1 : cs[1] = c1 at a1
        cases a0
        cases a1 with
        | iface _ _ _ y _ =>
          refine ⟨y, ?_⟩
          congr 2
          apply Array.ext
          · exact hs2
          · intro j hj hj2
            simp at hj2
            match j with
            | 0 => exact e0
            | 1 => exact e1
            | j + 2 => omega
  subst hx
  obtain ⟨ad, rfl⟩ : ∃ ad, w = .iface 106 (.pointer (some ad)) := by
    cases hw with
    | iface _ _ _ v h =>
      cases h with
      | ptr => exact ⟨_, rfl⟩
  have hp : ad = ⟨(E.loc 0).1, (E.loc 0).2.1, none⟩ := by
    cases hw with
    | iface _ _ _ v h =>
      cases h with
      | ptr _ _ _ _ h =>
        obtain ⟨h1, q, h2, h3, h4⟩ := h _ hb
        cases h2
        cases ad
        simp_all
  subst hp
  have hg : E.w.cell? ⟨0, 0, none⟩ = some (.iface 148 (.agg #[.pointer (some ⟨5, 100, none⟩)])) := by
    have := glob_cell g 0 _ rfl (by intro h; cases h)
    cases this with
    | rptr _ _ _ hf hs vv h hv =>
      have h1 := h 0 _ rfl
      have h2 := hv 0 _ rfl
      generalize vv 0 = y at h1 h2
      cases h2
      exact h1.2
  obtain ⟨o0, p0, -⟩ := k.cells 0 (.int .i64 a) rfl
  obtain ⟨o1, p1, -⟩ := k.cells 1 .nili rfl
  have hlen := k.len
  have r0 := (k.room 0 (by simp [flatB, flat, flats] at hlen; omega)).2
  have r1 := (k.room 1 (by simp [flatB, flat, flats] at hlen; omega)).2
  have hhit := as_hit (E.loc 0).1 (E.loc 0).2.1 (.int .i64 i) (.iface 166 x) o0 o1 E.w rfl rfl hg p0 p1 r0 r1
  refine .inl ⟨Tryd.f91, Tryd.func91, by decide, by kernel_rfl, hhit.mono ?_⟩
  rintro e W' ⟨rfl, hW⟩
  generalize hW1 : (((E.w.alloc (.cells #[.pointer (some ⟨(E.loc 0).1, (E.loc 0).2.1, none⟩)] 106)).alloc (.cells #[.pointer (some ⟨5, 106, none⟩), .pointer (some ⟨E.w.heap.size, 0, none⟩), .int .u64 150] 130)).alloc (.cells #[.pointer (some ⟨5, 106, none⟩), .pointer (some ⟨E.w.heap.size, 0, none⟩), .int .u64 150] 130)).alloc (.cells #[.int .i64 i, .iface 166 x] 104) = W1 at hW
  have hB : Below E.w.heap.size E.w W1 := by
    rw [← hW1]
    exact ((((Below.refl _ _).alloc (Nat.le_refl _) _).alloc (by simp) _).alloc (by simp; omega) _).alloc (by simp; omega) _
  have g1 := Go.below m hB
  have g2 := Go.put g1.mem 0 0 [.int .i64 i, .iface 166 x] (.var (.agg [.int .i64 a, .nili])) (.var (.agg [.int .i64 i, .iface 166 .any])) hb
    (by simp [flatB, flat, flats] at hlen; simpa using hlen)
    (.agg _ (by
      intro y hy
      simp at hy
      rcases hy with rfl | rfl
      · exact .leaf _ ⟨by simp, by simp⟩
      · exact .leaf _ ⟨by simp, by simp⟩)) (by simpa [flatB, flat, flats] using hlen)
    (fun j y hy _ _ => by
      match j with
      | 0 => cases hy; exact ⟨_, rfl, .int _ _ _⟩
      | 1 => cases hy; exact ⟨_, rfl, .iface _ _ _ _ (.any _ _)⟩
      | j + 2 => simp [flatB, flat, flats] at hy)
    (fun j y hy h => by
      have : j < 2 := by
        have := (List.getElem?_eq_some_iff.1 hy).1
        simpa [flatB, flat, flats] using this
      simp at h
      omega)
    (fun p q hq => by
      unfold offB at hq ⊢
      match p with
      | [] => exact hq
      | [0] => exact hq
      | [1] => exact hq
      | (j + 2) :: p => simp [offPath] at hq
      | 0 :: _ :: _ => simp [offPath] at hq
      | 1 :: _ :: _ => simp [offPath] at hq)
    (fun p r hr => by
      unfold rowB at hr
      match p with
      | [] => simp [getPath] at hr
      | [0] => simp [getPath] at hr
      | [1] => simp [getPath] at hr
      | (j + 2) :: p => simp [getPath] at hr
      | 0 :: _ :: _ => simp [getPath] at hr
      | 1 :: _ :: _ => simp [getPath] at hr)
  refine ⟨_, rfl, _, ?_, ?_, g1.trans g2, .bool _ _⟩
  · rw [hW]; rfl
  · show E.bl.set 0 _ = _
    rw [hbl]
    rfl
end Go.Abs
end
section
theorem errors_As0.s (hmix : Tryd.prog.follows .mixedOrders = true) (n : Nat) : CalleeS Tryd.prog abiG 91 (errors_As0.c n) :=
  CalleeS.of (res := errors_As0.res) (shape := errors_As0.shape) (fun R u K => rfl) (fun args lent t h => by
    unfold errors_As0.pat at h
    split at h
    · cases h; rfl
    · cases h) fun t u h => by cases h; exact asNil_ok t
theorem errors_As1.s (hmix : Tryd.prog.follows .mixedOrders = true) (n : Nat) : CalleeS Tryd.prog abiG 91 (errors_As1.c n) :=
  CalleeS.of (res := errors_As1.res) (shape := errors_As1.shape) (fun R u K => rfl) (fun args lent t h => by
    unfold errors_As1.pat at h
    split at h
    · cases h; rfl
    · cases h) fun t u h => by cases h; exact asHit_ok t.1 t.2
theorem Far.s (hmix : Tryd.prog.follows .mixedOrders = true) (n : Nat) : CalleeS Tryd.prog abiG 91 (Far.c n) := .pick (errors_As0.s hmix n) (errors_As1.s hmix n)
end
section
noncomputable abbrev Fs.R0 (n : Nat) := roundOf (Fs.C n) (Fs.A n) n Fs.b0
theorem Fs.l5_0.rmap {α β : Type} (h : β → α) (mk0 : Int → LI → LA → LA → β) (mk1 : LI → LA → β) (n : Nat) (f : Int → Int → LA → LI → LA → Option β)  (x0 : Int) (x1 : Int) (x2 : LA) (x3 : LI) (x4 : LA) : Fs.l5_0.r (fun a0 a1 a2 a3 => (h (mk0 a0 a1 a2 a3))) (fun a0 a1 => (h (mk1 a0 a1))) n (fun y0 y1 y2 y3 y4 => (f y0 y1 y2 y3 y4).map h) x0 x1 x2 x3 x4 = (Fs.l5_0.r mk0 mk1 n f x0 x1 x2 x3 x4).map h := by
  unfold Fs.l5_0.r
  exact (ite_map (ite_map (ite_map (bindO_map fun r10 => (ite_map (ite_map (ite_map (ite_map (ite_map (bindO_map fun r22 => (ite_map rfl rfl)) rfl) rfl) rfl) rfl) (bindO_map fun r14 => match r14 with | (.inl r14) => (bindO_map fun r18 => rfl) | (.inr r14) => (bindO_map fun r18 => (ite_map rfl rfl))))) rfl) rfl) rfl)
theorem Fs.l5_0.gmap {α β : Type} (h : β → α) (mk0 : Int → LI → LA → LA → β) (mk1 : LI → LA → β) (n : Nat) : ∀ (m : Nat) (x0 : Int) (x1 : Int) (x2 : LA) (x3 : LI) (x4 : LA), Fs.l5_0.g (fun a0 a1 a2 a3 => (h (mk0 a0 a1 a2 a3))) (fun a0 a1 => (h (mk1 a0 a1))) n m x0 x1 x2 x3 x4 = (Fs.l5_0.g mk0 mk1 n m x0 x1 x2 x3 x4).map h
  | 0, _, _, _, _, _ => rfl
  | m + 1, x0, x1, x2, x3, x4 => by
    unfold Fs.l5_0.g
    rw [← Fs.l5_0.rmap]
    congr
    · funext y0 y1 y2 y3 y4; exact Fs.l5_0.gmap h mk0 mk1 n m y0 y1 y2 y3 y4
theorem Fs.l5_0.pat_shape : ∀ st t, Fs.l5_0.pat st = some t → st = Fs.l5_0.shape t := fun _ _ h => by unfold Fs.l5_0.pat at h; split at h <;> cases h; rfl
def Fs.l5_0.k0 : Int → LI → LA → LA → Ex × St := (fun a0 a1 a2 a3 => ((.ret, (St.mk [(.own 1 6), (.int .u16 a0), (.own 2 6)] [(some (.ints .u8 a1)), (some (.objs 69 6 a2)), (some (.objs 69 6 a3))])) : Ex × St))
def Fs.l5_0.k1 : LI → LA → Ex × St := (fun a0 a1 => (((.exit 0), (St.mk [.any, .any, (.own 1 6)] [(some (.ints .u8 a0)), (some (.objs 69 6 a1))])) : Ex × St))
theorem Fs.l5_0.round (n : Nat) (rc : St → Option (Ex × St)) (x0 : Int) (x1 : Int) (x2 : LA) (x3 : LI) (x4 : LA) : Fs.R0 n rc ((St.mk [(.int .i64 x0), (.int .i64 x1), (.robjs 4 1 x2), (.own 0 1), (.own 1 6)] [(some (.ints .u8 x3)), (some (.objs 69 6 x4))])) = Fs.l5_0.r Fs.l5_0.k0 Fs.l5_0.k1 n (fun y0 y1 y2 y3 y4 => rc ((St.mk [(.int .i64 y0), (.int .i64 y1), (.robjs 4 1 y2), (.own 0 1), (.own 1 6)] [(some (.ints .u8 y3)), (some (.objs 69 6 y4))]))) x0 x1 x2 x3 x4 := by kernel_rfl
theorem Fs.l5_0.loop' (n : Nat) : ∀ (m : Nat) (t : (Int × (Int × (LA × (LI × LA))))), loopOf (Fs.R0 n) m (Fs.l5_0.shape t) = Fs.l5_0.g Fs.l5_0.k0 Fs.l5_0.k1 n m t.1 t.2.1 t.2.2.1 t.2.2.2.1 t.2.2.2.2 :=
  loop_of_round (shape := Fs.l5_0.shape) (body := Fs.R0 n) (g := fun m t => Fs.l5_0.g Fs.l5_0.k0 Fs.l5_0.k1 n m t.1 t.2.1 t.2.2.1 t.2.2.2.1 t.2.2.2.2) (fun t => rfl)
    fun m t ih => (Fs.l5_0.round n (loopOf (Fs.R0 n) m) t.1 t.2.1 t.2.2.1 t.2.2.2.1 t.2.2.2.2).trans (congrFun (congrFun (congrFun (congrFun (congrFun (congrArg (Fs.l5_0.r Fs.l5_0.k0 Fs.l5_0.k1 n) (funext fun y0 => funext fun y1 => funext fun y2 => funext fun y3 => funext fun y4 => ih (y0, y1, y2, y3, y4))) t.1) t.2.1) t.2.2.1) t.2.2.2.1) t.2.2.2.2)
theorem Fs.l5_0.loop (n m : Nat) (t : (Int × (Int × (LA × (LI × LA))))) : loopOf (Fs.R0 n) m (Fs.l5_0.shape t) = (Fs.l5_0.m n m t).map Fs.l5_0.res :=
  (Fs.l5_0.loop' n m t).trans (Fs.l5_0.gmap Fs.l5_0.res (fun a0 a1 a2 a3 => (.inl (a0, a1, a2, a3))) (fun a0 a1 => (.inr (a0, a1))) n m t.1 t.2.1 t.2.2.1 t.2.2.2.1 t.2.2.2.2)
theorem Fs.gmap {α β : Type} (h : β → α) (mk0 : Int → LI → LA → β) (n : Nat) (k : LA) (l : LI) : Fs.g (fun a0 a1 a2 => (h (mk0 a0 a1 a2))) n k l = (Fs.g mk0 n k l).map h := by
  unfold Fs.g
  exact (ite_map rfl (bindO_map fun r4 => match r4 with | (.inl r4) => rfl | (.inr r4) => rfl))
theorem Fs.run (n : Nat) (k : LA) (l : LI) : runF (Fs.C n) (Fs.A n) n Tryd.f53 [(.robjs 4 1 k), (.own 0 1)] [(some (.ints .u8 l))] (fun v o => some (v, o)) = Fs.g (fun a0 a1 a2 => (((.tup [(.own 1 6), (.int .u16 a0)]), [(some (.ints .u8 a1)), (some (.objs 69 6 a2))]) : AV × Blks)) n k l := by kernel_rfl
theorem Fs.call (hmix : Tryd.prog.follows .mixedOrders = true) (n : Nat) (t : (LA × LI)) (u) (h : Fs.m n t = some u) : FnC Tryd.prog abiG 53 (Fs.shape t).1 (Fs.shape t).2 (Fs.res u).1 (Fs.res u).2 :=
  fnC1 (C := Fs.C n) (A := Fs.A n) (fn := Tryd.f53) rfl (.cons (Fak.s hmix n) (.cons (Fr.s hmix n) (.cons (Far.s hmix n) .nil))) hmix Tryd.func53 (by kernel_rfl) (lp := [Fs.b0]) (by kernel_rfl) (.cons (show (Fs.A n).loop (key Fs.b0) = some (.mk' Fs.l5_0.pat (Fs.l5_0.m n n) Fs.l5_0.resK) by kernel_rfl) (LoopS.of (res := Fs.l5_0.res) (fun R u K => by rcases u with u | u <;> rfl) Fs.l5_0.pat_shape fun t => Fs.l5_0.loop n n t)
  .nil)
  (nj rfl) (by decide) rfl rfl (by show 2 ≤ Tryd.f53.ntmps; decide) (Fs.run n t.1 t.2) (Fs.gmap Fs.res (fun a0 a1 a2 => (a0, a1, a2)) n t.1 t.2) h
theorem Fs.s (hmix : Tryd.prog.follows .mixedOrders = true) (n : Nat) : CalleeS Tryd.prog abiG 53 (Fs.c n) :=
  .mk1 (res := Fs.res) (shape := Fs.shape) (fun R u K => rfl) (fun _ _ _ h => by unfold Fs.pat at h; split at h <;> cases h; rfl) (fun t u h => Fs.call hmix n t u h) Tryd.func53 (by decide) (by kernel_rfl)
end
section
noncomputable abbrev Ft.R0 (n : Nat) := roundOf (Ft.C n) (Ft.A n) n Ft.b0
theorem Ft.l5_0.rmap {α β : Type} (h : β → α) (mk0 : Int → LA → LI → LA → LA → β) (mk1 : LA → LI → LA → β) (n : Nat) (f : Int → Int → LA → LI → LA → Option β)  (x0 : Int) (x1 : Int) (x2 : LA) (x3 : LI) (x4 : LA) : Ft.l5_0.r (fun a0 a1 a2 a3 a4 => (h (mk0 a0 a1 a2 a3 a4))) (fun a0 a1 a2 => (h (mk1 a0 a1 a2))) n (fun y0 y1 y2 y3 y4 => (f y0 y1 y2 y3 y4).map h) x0 x1 x2 x3 x4 = (Ft.l5_0.r mk0 mk1 n f x0 x1 x2 x3 x4).map h := by
  unfold Ft.l5_0.r
  exact (ite_map (ite_map (ite_map (bindO_map fun r10 => (ite_map (ite_map (ite_map (ite_map (ite_map (bindO_map fun r22 => (ite_map rfl rfl)) rfl) rfl) rfl) rfl) (bindO_map fun r14 => match r14 with | (.inl r14) => (bindO_map fun r18 => rfl) | (.inr r14) => (bindO_map fun r18 => (ite_map rfl rfl))))) rfl) rfl) rfl)
theorem Ft.l5_0.gmap {α β : Type} (h : β → α) (mk0 : Int → LA → LI → LA → LA → β) (mk1 : LA → LI → LA → β) (n : Nat) : ∀ (m : Nat) (x0 : Int) (x1 : Int) (x2 : LA) (x3 : LI) (x4 : LA), Ft.l5_0.g (fun a0 a1 a2 a3 a4 => (h (mk0 a0 a1 a2 a3 a4))) (fun a0 a1 a2 => (h (mk1 a0 a1 a2))) n m x0 x1 x2 x3 x4 = (Ft.l5_0.g mk0 mk1 n m x0 x1 x2 x3 x4).map h
  | 0, _, _, _, _, _ => rfl
  | m + 1, x0, x1, x2, x3, x4 => by
    unfold Ft.l5_0.g
    rw [← Ft.l5_0.rmap]
    congr
    · funext y0 y1 y2 y3 y4; exact Ft.l5_0.gmap h mk0 mk1 n m y0 y1 y2 y3 y4
theorem Ft.l5_0.pat_shape : ∀ st t, Ft.l5_0.pat st = some t → st = Ft.l5_0.shape t := fun _ _ h => by unfold Ft.l5_0.pat at h; split at h <;> cases h; rfl
def Ft.l5_0.k0 : Int → LA → LI → LA → LA → Ex × St := (fun a0 a1 a2 a3 a4 => ((.ret, (St.mk [(.own 2 6), (.int .u16 a0), (.own 3 6)] [(some (.objs 4 1 a1)), (some (.ints .u8 a2)), (some (.objs 69 6 a3)), (some (.objs 69 6 a4))])) : Ex × St))
def Ft.l5_0.k1 : LA → LI → LA → Ex × St := (fun a0 a1 a2 => (((.exit 0), (St.mk [.any, .any, (.own 2 6)] [(some (.objs 4 1 a0)), (some (.ints .u8 a1)), (some (.objs 69 6 a2))])) : Ex × St))
theorem Ft.l5_0.round (n : Nat) (rc : St → Option (Ex × St)) (x0 : Int) (x1 : Int) (x2 : LA) (x3 : LI) (x4 : LA) : Ft.R0 n rc ((St.mk [(.int .i64 x0), (.int .i64 x1), (.own 0 1), (.own 1 1), (.own 2 6)] [(some (.objs 4 1 x2)), (some (.ints .u8 x3)), (some (.objs 69 6 x4))])) = Ft.l5_0.r Ft.l5_0.k0 Ft.l5_0.k1 n (fun y0 y1 y2 y3 y4 => rc ((St.mk [(.int .i64 y0), (.int .i64 y1), (.own 0 1), (.own 1 1), (.own 2 6)] [(some (.objs 4 1 y2)), (some (.ints .u8 y3)), (some (.objs 69 6 y4))]))) x0 x1 x2 x3 x4 := by kernel_rfl
theorem Ft.l5_0.loop' (n : Nat) : ∀ (m : Nat) (t : (Int × (Int × (LA × (LI × LA))))), loopOf (Ft.R0 n) m (Ft.l5_0.shape t) = Ft.l5_0.g Ft.l5_0.k0 Ft.l5_0.k1 n m t.1 t.2.1 t.2.2.1 t.2.2.2.1 t.2.2.2.2 :=
  loop_of_round (shape := Ft.l5_0.shape) (body := Ft.R0 n) (g := fun m t => Ft.l5_0.g Ft.l5_0.k0 Ft.l5_0.k1 n m t.1 t.2.1 t.2.2.1 t.2.2.2.1 t.2.2.2.2) (fun t => rfl)
    fun m t ih => (Ft.l5_0.round n (loopOf (Ft.R0 n) m) t.1 t.2.1 t.2.2.1 t.2.2.2.1 t.2.2.2.2).trans (congrFun (congrFun (congrFun (congrFun (congrFun (congrArg (Ft.l5_0.r Ft.l5_0.k0 Ft.l5_0.k1 n) (funext fun y0 => funext fun y1 => funext fun y2 => funext fun y3 => funext fun y4 => ih (y0, y1, y2, y3, y4))) t.1) t.2.1) t.2.2.1) t.2.2.2.1) t.2.2.2.2)
theorem Ft.l5_0.loop (n m : Nat) (t : (Int × (Int × (LA × (LI × LA))))) : loopOf (Ft.R0 n) m (Ft.l5_0.shape t) = (Ft.l5_0.m n m t).map Ft.l5_0.res :=
  (Ft.l5_0.loop' n m t).trans (Ft.l5_0.gmap Ft.l5_0.res (fun a0 a1 a2 a3 a4 => (.inl (a0, a1, a2, a3, a4))) (fun a0 a1 a2 => (.inr (a0, a1, a2))) n m t.1 t.2.1 t.2.2.1 t.2.2.2.1 t.2.2.2.2)
theorem Ft.gmap {α β : Type} (h : β → α) (mk0 : Int → LA → LI → LA → β) (n : Nat) (k : LA) (l : LI) : Ft.g (fun a0 a1 a2 a3 => (h (mk0 a0 a1 a2 a3))) n k l = (Ft.g mk0 n k l).map h := by
  unfold Ft.g
  exact (ite_map rfl (bindO_map fun r4 => match r4 with | (.inl r4) => rfl | (.inr r4) => rfl))
theorem Ft.run (n : Nat) (k : LA) (l : LI) : runF (Ft.C n) (Ft.A n) n Tryd.f53 [(.own 0 1), (.own 1 1)] [(some (.objs 4 1 k)), (some (.ints .u8 l))] (fun v o => some (v, o)) = Ft.g (fun a0 a1 a2 a3 => (((.tup [(.own 2 6), (.int .u16 a0)]), [(some (.objs 4 1 a1)), (some (.ints .u8 a2)), (some (.objs 69 6 a3))]) : AV × Blks)) n k l := by kernel_rfl
theorem Ft.call (hmix : Tryd.prog.follows .mixedOrders = true) (n : Nat) (t : (LA × LI)) (u) (h : Ft.m n t = some u) : FnC Tryd.prog abiG 53 (Ft.shape t).1 (Ft.shape t).2 (Ft.res u).1 (Ft.res u).2 :=
  fnC1 (C := Ft.C n) (A := Ft.A n) (fn := Tryd.f53) rfl (.cons (Fak.s hmix n) (.cons (Fr.s hmix n) (.cons (Far.s hmix n) .nil))) hmix Tryd.func53 (by kernel_rfl) (lp := [Ft.b0]) (by kernel_rfl) (.cons (show (Ft.A n).loop (key Ft.b0) = some (.mk' Ft.l5_0.pat (Ft.l5_0.m n n) Ft.l5_0.resK) by kernel_rfl) (LoopS.of (res := Ft.l5_0.res) (fun R u K => by rcases u with u | u <;> rfl) Ft.l5_0.pat_shape fun t => Ft.l5_0.loop n n t)
  .nil)
  (nj rfl) (by decide) rfl rfl (by show 2 ≤ Tryd.f53.ntmps; decide) (Ft.run n t.1 t.2) (Ft.gmap Ft.res (fun a0 a1 a2 a3 => (a0, a1, a2, a3)) n t.1 t.2) h
theorem Ft.s (hmix : Tryd.prog.follows .mixedOrders = true) (n : Nat) : CalleeS Tryd.prog abiG 53 (Ft.c n) :=
  .mk1 (res := Ft.res) (shape := Ft.shape) (fun R u K => rfl) (fun _ _ _ h => by unfold Ft.pat at h; split at h <;> cases h; rfl) (fun t u h => Ft.call hmix n t u h) Tryd.func53 (by decide) (by kernel_rfl)
end
section
noncomputable abbrev Fu.R0 (n : Nat) := roundOf (Fu.C n) (Fu.A n) n Fu.b0
theorem Fu.l5_0.rmap {α β : Type} (h : β → α) (mk0 : Int → LA → LI → LA → LA → β) (mk1 : LA → LI → LA → β) (n : Nat) (f : Int → Int → Nat → Nat → LA → LI → LA → Option β)  (x0 : Int) (x1 : Int) (x2 : Nat) (x3 : Nat) (x4 : LA) (x5 : LI) (x6 : LA) : Fu.l5_0.r (fun a0 a1 a2 a3 a4 => (h (mk0 a0 a1 a2 a3 a4))) (fun a0 a1 a2 => (h (mk1 a0 a1 a2))) n (fun y0 y1 y2 y3 y4 y5 y6 => (f y0 y1 y2 y3 y4 y5 y6).map h) x0 x1 x2 x3 x4 x5 x6 = (Fu.l5_0.r mk0 mk1 n f x0 x1 x2 x3 x4 x5 x6).map h := by
  unfold Fu.l5_0.r
  exact (ite_map (ite_map (ite_map (bindO_map fun r10 => (ite_map (ite_map (ite_map (ite_map (ite_map (bindO_map fun r22 => (ite_map rfl rfl)) rfl) rfl) rfl) rfl) (bindO_map fun r14 => match r14 with | (.inl r14) => (bindO_map fun r18 => rfl) | (.inr r14) => (bindO_map fun r18 => (ite_map rfl rfl))))) rfl) rfl) rfl)
theorem Fu.l5_0.gmap {α β : Type} (h : β → α) (mk0 : Int → LA → LI → LA → LA → β) (mk1 : LA → LI → LA → β) (n : Nat) : ∀ (m : Nat) (x0 : Int) (x1 : Int) (x2 : Nat) (x3 : Nat) (x4 : LA) (x5 : LI) (x6 : LA), Fu.l5_0.g (fun a0 a1 a2 a3 a4 => (h (mk0 a0 a1 a2 a3 a4))) (fun a0 a1 a2 => (h (mk1 a0 a1 a2))) n m x0 x1 x2 x3 x4 x5 x6 = (Fu.l5_0.g mk0 mk1 n m x0 x1 x2 x3 x4 x5 x6).map h
  | 0, _, _, _, _, _, _, _ => rfl
  | m + 1, x0, x1, x2, x3, x4, x5, x6 => by
    unfold Fu.l5_0.g
    rw [← Fu.l5_0.rmap]
    congr
    · funext y0 y1 y2 y3 y4 y5 y6; exact Fu.l5_0.gmap h mk0 mk1 n m y0 y1 y2 y3 y4 y5 y6
theorem Fu.l5_0.pat_shape : ∀ st t, Fu.l5_0.pat st = some t → st = Fu.l5_0.shape t := fun _ _ h => by unfold Fu.l5_0.pat at h; split at h <;> cases h; rfl
def Fu.l5_0.k0 : Int → LA → LI → LA → LA → Ex × St := (fun a0 a1 a2 a3 a4 => ((.ret, (St.mk [(.own 2 6), (.int .u16 a0), (.own 3 6)] [(some (.objs 4 1 a1)), (some (.ints .u8 a2)), (some (.objs 69 6 a3)), (some (.objs 69 6 a4))])) : Ex × St))
def Fu.l5_0.k1 : LA → LI → LA → Ex × St := (fun a0 a1 a2 => (((.exit 0), (St.mk [.any, .any, (.own 2 6)] [(some (.objs 4 1 a0)), (some (.ints .u8 a1)), (some (.objs 69 6 a2))])) : Ex × St))
theorem Fu.l5_0.round (n : Nat) (rc : St → Option (Ex × St)) (x0 : Int) (x1 : Int) (x2 : Nat) (x3 : Nat) (x4 : LA) (x5 : LI) (x6 : LA) : Fu.R0 n rc ((St.mk [(.int .i64 x0), (.int .i64 x1), (.own 0 1), (.slice 1 [] x2 x3 1), (.own 2 6)] [(some (.objs 4 1 x4)), (some (.ints .u8 x5)), (some (.objs 69 6 x6))])) = Fu.l5_0.r Fu.l5_0.k0 Fu.l5_0.k1 n (fun y0 y1 y2 y3 y4 y5 y6 => rc ((St.mk [(.int .i64 y0), (.int .i64 y1), (.own 0 1), (.slice 1 [] y2 y3 1), (.own 2 6)] [(some (.objs 4 1 y4)), (some (.ints .u8 y5)), (some (.objs 69 6 y6))]))) x0 x1 x2 x3 x4 x5 x6 := by kernel_rfl
theorem Fu.l5_0.loop' (n : Nat) : ∀ (m : Nat) (t : (Int × (Int × (Nat × (Nat × (LA × (LI × LA))))))), loopOf (Fu.R0 n) m (Fu.l5_0.shape t) = Fu.l5_0.g Fu.l5_0.k0 Fu.l5_0.k1 n m t.1 t.2.1 t.2.2.1 t.2.2.2.1 t.2.2.2.2.1 t.2.2.2.2.2.1 t.2.2.2.2.2.2 :=
  loop_of_round (shape := Fu.l5_0.shape) (body := Fu.R0 n) (g := fun m t => Fu.l5_0.g Fu.l5_0.k0 Fu.l5_0.k1 n m t.1 t.2.1 t.2.2.1 t.2.2.2.1 t.2.2.2.2.1 t.2.2.2.2.2.1 t.2.2.2.2.2.2) (fun t => rfl)
    fun m t ih => (Fu.l5_0.round n (loopOf (Fu.R0 n) m) t.1 t.2.1 t.2.2.1 t.2.2.2.1 t.2.2.2.2.1 t.2.2.2.2.2.1 t.2.2.2.2.2.2).trans (congrFun (congrFun (congrFun (congrFun (congrFun (congrFun (congrFun (congrArg (Fu.l5_0.r Fu.l5_0.k0 Fu.l5_0.k1 n) (funext fun y0 => funext fun y1 => funext fun y2 => funext fun y3 => funext fun y4 => funext fun y5 => funext fun y6 => ih (y0, y1, y2, y3, y4, y5, y6))) t.1) t.2.1) t.2.2.1) t.2.2.2.1) t.2.2.2.2.1) t.2.2.2.2.2.1) t.2.2.2.2.2.2)
theorem Fu.l5_0.loop (n m : Nat) (t : (Int × (Int × (Nat × (Nat × (LA × (LI × LA))))))) : loopOf (Fu.R0 n) m (Fu.l5_0.shape t) = (Fu.l5_0.m n m t).map Fu.l5_0.res :=
  (Fu.l5_0.loop' n m t).trans (Fu.l5_0.gmap Fu.l5_0.res (fun a0 a1 a2 a3 a4 => (.inl (a0, a1, a2, a3, a4))) (fun a0 a1 a2 => (.inr (a0, a1, a2))) n m t.1 t.2.1 t.2.2.1 t.2.2.2.1 t.2.2.2.2.1 t.2.2.2.2.2.1 t.2.2.2.2.2.2)
theorem Fu.gmap {α β : Type} (h : β → α) (mk0 : Int → LA → LI → LA → β) (n : Nat) (s : Nat) (m : Nat) (k : LA) (l : LI) : Fu.g (fun a0 a1 a2 a3 => (h (mk0 a0 a1 a2 a3))) n s m k l = (Fu.g mk0 n s m k l).map h := by
  unfold Fu.g
  exact (ite_map rfl (bindO_map fun r4 => match r4 with | (.inl r4) => rfl | (.inr r4) => rfl))
theorem Fu.run (n : Nat) (s : Nat) (m : Nat) (k : LA) (l : LI) : runF (Fu.C n) (Fu.A n) n Tryd.f53 [(.own 0 1), (.slice 1 [] s m 1)] [(some (.objs 4 1 k)), (some (.ints .u8 l))] (fun v o => some (v, o)) = Fu.g (fun a0 a1 a2 a3 => (((.tup [(.own 2 6), (.int .u16 a0)]), [(some (.objs 4 1 a1)), (some (.ints .u8 a2)), (some (.objs 69 6 a3))]) : AV × Blks)) n s m k l := by kernel_rfl
theorem Fu.call (hmix : Tryd.prog.follows .mixedOrders = true) (n : Nat) (t : (Nat × (Nat × (LA × LI)))) (u) (h : Fu.m n t = some u) : FnC Tryd.prog abiG 53 (Fu.shape t).1 (Fu.shape t).2 (Fu.res u).1 (Fu.res u).2 :=
  fnC1 (C := Fu.C n) (A := Fu.A n) (fn := Tryd.f53) rfl (.cons (Fak.s hmix n) (.cons (Fr.s hmix n) (.cons (Far.s hmix n) .nil))) hmix Tryd.func53 (by kernel_rfl) (lp := [Fu.b0]) (by kernel_rfl) (.cons (show (Fu.A n).loop (key Fu.b0) = some (.mk' Fu.l5_0.pat (Fu.l5_0.m n n) Fu.l5_0.resK) by kernel_rfl) (LoopS.of (res := Fu.l5_0.res) (fun R u K => by rcases u with u | u <;> rfl) Fu.l5_0.pat_shape fun t => Fu.l5_0.loop n n t)
  .nil)
  (nj rfl) (by decide) rfl rfl (by show 2 ≤ Tryd.f53.ntmps; decide) (Fu.run n t.1 t.2.1 t.2.2.1 t.2.2.2) (Fu.gmap Fu.res (fun a0 a1 a2 a3 => (a0, a1, a2, a3)) n t.1 t.2.1 t.2.2.1 t.2.2.2) h
theorem Fu.s (hmix : Tryd.prog.follows .mixedOrders = true) (n : Nat) : CalleeS Tryd.prog abiG 53 (Fu.c n) :=
  .mk1 (res := Fu.res) (shape := Fu.shape) (fun R u K => rfl) (fun _ _ _ h => by unfold Fu.pat at h; split at h <;> cases h; rfl) (fun t u h => Fu.call hmix n t u h) Tryd.func53 (by decide) (by kernel_rfl)
end
section
noncomputable abbrev Fv.R0 (n : Nat) := roundOf (Fv.C n) (Fv.A n) n Fv.b0
theorem Fv.l5_0.rmap {α β : Type} (h : β → α) (mk0 : Int → LA → LA → β) (mk1 : LA → β) (n : Nat) (f : Int → Int → LA → LI → LA → Option β)  (x0 : Int) (x1 : Int) (x2 : LA) (x3 : LI) (x4 : LA) : Fv.l5_0.r (fun a0 a1 a2 => (h (mk0 a0 a1 a2))) (fun a0 => (h (mk1 a0))) n (fun y0 y1 y2 y3 y4 => (f y0 y1 y2 y3 y4).map h) x0 x1 x2 x3 x4 = (Fv.l5_0.r mk0 mk1 n f x0 x1 x2 x3 x4).map h := by
  unfold Fv.l5_0.r
  exact (ite_map (ite_map (ite_map (bindO_map fun r10 => (ite_map (ite_map (ite_map (ite_map (ite_map (bindO_map fun r22 => (ite_map rfl rfl)) rfl) rfl) rfl) rfl) (bindO_map fun r14 => match r14 with | (.inl r14) => (bindO_map fun r18 => rfl) | (.inr r14) => (bindO_map fun r18 => (ite_map rfl rfl))))) rfl) rfl) rfl)
theorem Fv.l5_0.gmap {α β : Type} (h : β → α) (mk0 : Int → LA → LA → β) (mk1 : LA → β) (n : Nat) : ∀ (m : Nat) (x0 : Int) (x1 : Int) (x2 : LA) (x3 : LI) (x4 : LA), Fv.l5_0.g (fun a0 a1 a2 => (h (mk0 a0 a1 a2))) (fun a0 => (h (mk1 a0))) n m x0 x1 x2 x3 x4 = (Fv.l5_0.g mk0 mk1 n m x0 x1 x2 x3 x4).map h
  | 0, _, _, _, _, _ => rfl
  | m + 1, x0, x1, x2, x3, x4 => by
    unfold Fv.l5_0.g
    rw [← Fv.l5_0.rmap]
    congr
    · funext y0 y1 y2 y3 y4; exact Fv.l5_0.gmap h mk0 mk1 n m y0 y1 y2 y3 y4
theorem Fv.l5_0.pat_shape : ∀ st t, Fv.l5_0.pat st = some t → st = Fv.l5_0.shape t := fun _ _ h => by unfold Fv.l5_0.pat at h; split at h <;> cases h; rfl
def Fv.l5_0.k0 : Int → LA → LA → Ex × St := (fun a0 a1 a2 => ((.ret, (St.mk [(.own 0 6), (.int .u16 a0), (.own 1 6)] [(some (.objs 69 6 a1)), (some (.objs 69 6 a2))])) : Ex × St))
def Fv.l5_0.k1 : LA → Ex × St := (fun a0 => (((.exit 0), (St.mk [.any, .any, (.own 0 6)] [(some (.objs 69 6 a0))])) : Ex × St))
theorem Fv.l5_0.round (n : Nat) (rc : St → Option (Ex × St)) (x0 : Int) (x1 : Int) (x2 : LA) (x3 : LI) (x4 : LA) : Fv.R0 n rc ((St.mk [(.int .i64 x0), (.int .i64 x1), (.robjs 4 1 x2), (.rints .u8 x3), (.own 0 6)] [(some (.objs 69 6 x4))])) = Fv.l5_0.r Fv.l5_0.k0 Fv.l5_0.k1 n (fun y0 y1 y2 y3 y4 => rc ((St.mk [(.int .i64 y0), (.int .i64 y1), (.robjs 4 1 y2), (.rints .u8 y3), (.own 0 6)] [(some (.objs 69 6 y4))]))) x0 x1 x2 x3 x4 := by kernel_rfl
theorem Fv.l5_0.loop' (n : Nat) : ∀ (m : Nat) (t : (Int × (Int × (LA × (LI × LA))))), loopOf (Fv.R0 n) m (Fv.l5_0.shape t) = Fv.l5_0.g Fv.l5_0.k0 Fv.l5_0.k1 n m t.1 t.2.1 t.2.2.1 t.2.2.2.1 t.2.2.2.2 :=
  loop_of_round (shape := Fv.l5_0.shape) (body := Fv.R0 n) (g := fun m t => Fv.l5_0.g Fv.l5_0.k0 Fv.l5_0.k1 n m t.1 t.2.1 t.2.2.1 t.2.2.2.1 t.2.2.2.2) (fun t => rfl)
    fun m t ih => (Fv.l5_0.round n (loopOf (Fv.R0 n) m) t.1 t.2.1 t.2.2.1 t.2.2.2.1 t.2.2.2.2).trans (congrFun (congrFun (congrFun (congrFun (congrFun (congrArg (Fv.l5_0.r Fv.l5_0.k0 Fv.l5_0.k1 n) (funext fun y0 => funext fun y1 => funext fun y2 => funext fun y3 => funext fun y4 => ih (y0, y1, y2, y3, y4))) t.1) t.2.1) t.2.2.1) t.2.2.2.1) t.2.2.2.2)
theorem Fv.l5_0.loop (n m : Nat) (t : (Int × (Int × (LA × (LI × LA))))) : loopOf (Fv.R0 n) m (Fv.l5_0.shape t) = (Fv.l5_0.m n m t).map Fv.l5_0.res :=
  (Fv.l5_0.loop' n m t).trans (Fv.l5_0.gmap Fv.l5_0.res (fun a0 a1 a2 => (.inl (a0, a1, a2))) (fun a0 => (.inr a0)) n m t.1 t.2.1 t.2.2.1 t.2.2.2.1 t.2.2.2.2)
theorem Fv.gmap {α β : Type} (h : β → α) (mk0 : Int → LA → β) (n : Nat) (a0 : LA) (a1 : LI) : Fv.g (fun a0 a1 => (h (mk0 a0 a1))) n a0 a1 = (Fv.g mk0 n a0 a1).map h := by
  unfold Fv.g
  exact (ite_map rfl (bindO_map fun r4 => match r4 with | (.inl r4) => rfl | (.inr r4) => rfl))
theorem Fv.run (n : Nat) (a0 : LA) (a1 : LI) : runF (Fv.C n) (Fv.A n) n Tryd.f53 [(.robjs 4 1 a0), (.rints .u8 a1)] [] (fun v o => some (v, o)) = Fv.g (fun a0 a1 => (((.tup [(.own 0 6), (.int .u16 a0)]), [(some (.objs 69 6 a1))]) : AV × Blks)) n a0 a1 := by kernel_rfl
theorem Fv.call (hmix : Tryd.prog.follows .mixedOrders = true) (n : Nat) (t : (LA × LI)) (u) (h : Fv.m n t = some u) : FnC Tryd.prog abiG 53 (Fv.shape t).1 (Fv.shape t).2 (Fv.res u).1 (Fv.res u).2 :=
  fnC1 (C := Fv.C n) (A := Fv.A n) (fn := Tryd.f53) rfl (.cons (Fak.s hmix n) (.cons (Fr.s hmix n) (.cons (Far.s hmix n) .nil))) hmix Tryd.func53 (by kernel_rfl) (lp := [Fv.b0]) (by kernel_rfl) (.cons (show (Fv.A n).loop (key Fv.b0) = some (.mk' Fv.l5_0.pat (Fv.l5_0.m n n) Fv.l5_0.resK) by kernel_rfl) (LoopS.of (res := Fv.l5_0.res) (fun R u K => by rcases u with u | u <;> rfl) Fv.l5_0.pat_shape fun t => Fv.l5_0.loop n n t)
  .nil)
  (nj rfl) (by decide) rfl rfl (by show 2 ≤ Tryd.f53.ntmps; decide) (Fv.run n t.1 t.2) (Fv.gmap Fv.res (fun a0 a1 => (a0, a1)) n t.1 t.2) h
theorem Fv.s (hmix : Tryd.prog.follows .mixedOrders = true) (n : Nat) : CalleeS Tryd.prog abiG 53 (Fv.c n) :=
  .mk1 (res := Fv.res) (shape := Fv.shape) (fun R u K => rfl) (fun _ _ _ h => by unfold Fv.pat at h; split at h <;> cases h; rfl) (fun t u h => Fv.call hmix n t u h) Tryd.func53 (by decide) (by kernel_rfl)
end
section
theorem abi_Decode.s (hmix : Tryd.prog.follows .mixedOrders = true) (n : Nat) : CalleeS Tryd.prog abiG 53 (abi_Decode.c n) := .pick (Fs.s hmix n) (.pick (Ft.s hmix n) (.pick (Fu.s hmix n) (Fv.s hmix n)))
end
section
noncomputable section
def Fai.l5_0.r {α : Type} (mk0 : Int → LA → LA → α) (mk1 : LA → α) (n : Nat) (rc : Int → LA → LI → LA → Option α)  (x0 : Int) (x1 : LA) (x2 : LI) (x3 : LA) : Option α :=
  if (decide (x0 < (((List.length x1) : Nat) : Int))) = true then
   if 0 ≤ x0 then
    if x0 < (((List.length x1) : Nat) : Int) then
     bindO (tkBool (List.getD x1 (Int.toNat x0) AV.any)) fun r10 =>
      if (!r10) = true then
       if 0 ≤ (IntKind.wrap .i64 ((IntKind.wrap .i64 (32 * x0)) + 32)) then
        if (IntKind.wrap .i64 ((IntKind.wrap .i64 (32 * x0)) + 32)) ≤ (((List.length x2) : Nat) : Int) then
         if 0 ≤ (IntKind.wrap .i64 (32 * x0)) then
          if (IntKind.wrap .i64 (32 * x0)) ≤ (IntKind.wrap .i64 ((IntKind.wrap .i64 (32 * x0)) + 32)) then
           bindO (Fau.m n (Go.Abs.cut x2 (Int.toNat (IntKind.wrap .i64 (32 * x0))) (Option.some (Int.toNat (IntKind.wrap .i64 ((IntKind.wrap .i64 (32 * x0)) + 32)))))) fun r22 =>
            if ((((List.length x3) + 1) * 64) ≤ 70368744177664 ∧ ((List.length x3) + 1) ≤ 9223372036854775807) then
             rc (IntKind.wrap .i64 (x0 + 1)) x1 x2 (x3 ++ [(AV.agg [(AV.bool false), (AV.ints .u64 4 r22), AV.snil])])
            else
             none
          else
           none
         else
          none
        else
         none
       else
        none
      else
       bindO (Fah.m n (x2, (IntKind.wrap .i64 (32 * x0)))) fun r14 =>
        if (!r14.2) = true then
         some (mk0 50 [] x3)
        else
         bindO (Fah.m n (x2, r14.1)) fun r18 =>
          if (!r18.2) = true then
           some (mk0 50 [] x3)
          else
           if (decide (r18.1 > (IntKind.wrap .i64 ((IntKind.wrap .i64 ((((List.length x2) : Nat) : Int) - 32)) - r14.1)))) = true then
            some (mk0 50 [] x3)
           else
            if 0 ≤ (IntKind.wrap .i64 ((IntKind.wrap .i64 (r14.1 + 32)) + r18.1)) then
             if (IntKind.wrap .i64 ((IntKind.wrap .i64 (r14.1 + 32)) + r18.1)) ≤ (((List.length x2) : Nat) : Int) then
              if 0 ≤ (IntKind.wrap .i64 (r14.1 + 32)) then
               if (IntKind.wrap .i64 (r14.1 + 32)) ≤ (IntKind.wrap .i64 ((IntKind.wrap .i64 (r14.1 + 32)) + r18.1)) then
                if (((List.length (Go.Abs.cut x2 (Int.toNat (IntKind.wrap .i64 (r14.1 + 32))) (Option.some (Int.toNat (IntKind.wrap .i64 ((IntKind.wrap .i64 (r14.1 + 32)) + r18.1)))))) * 1) ≤ 70368744177664 ∧ (List.length (Go.Abs.cut x2 (Int.toNat (IntKind.wrap .i64 (r14.1 + 32))) (Option.some (Int.toNat (IntKind.wrap .i64 ((IntKind.wrap .i64 (r14.1 + 32)) + r18.1)))))) ≤ 9223372036854775807) then
                 if ((((List.length x3) + 1) * 64) ≤ 70368744177664 ∧ ((List.length x3) + 1) ≤ 9223372036854775807) then
                  rc (IntKind.wrap .i64 (x0 + 1)) x1 x2 (x3 ++ [(AV.agg [(AV.bool true), (AV.ints .u64 4 [0, 0, 0, 0]), (AV.rints .u8 (Go.Abs.cut x2 (Int.toNat (IntKind.wrap .i64 (r14.1 + 32))) (Option.some (Int.toNat (IntKind.wrap .i64 ((IntKind.wrap .i64 (r14.1 + 32)) + r18.1))))))])])
                 else
                  none
                else
                 none
               else
                none
              else
               none
             else
              none
            else
             none
    else
     none
   else
    none
  else
   some (mk1 x3)
def Fai.l5_0.g {α : Type} (mk0 : Int → LA → LA → α) (mk1 : LA → α) (n : Nat) : Nat → Int → LA → LI → LA → Option α
 | 0, _, _, _, _ => none
 | m + 1, x0, x1, x2, x3 => Fai.l5_0.r mk0 mk1 n (fun y0 y1 y2 y3 => Fai.l5_0.g mk0 mk1 n m y0 y1 y2 y3)  x0 x1 x2 x3
def Fai.l5_0.m (n m : Nat) (t : (Int × (LA × (LI × LA)))) : Option ((Int × (LA × LA)) ⊕ LA) := Fai.l5_0.g (fun a0 a1 a2 => (.inl (a0, a1, a2))) (fun a0 => (.inr a0)) n m t.1 t.2.1 t.2.2.1 t.2.2.2
def Fai.g {α : Type} (mk0 : Int → LA → α) (n : Nat) (a0 : LA) (a1 : LI) : Option α :=
 if (decide ((IntKind.wrap .i64 (Int.tdiv (((List.length a1) : Nat) : Int) 32)) < (((List.length a0) : Nat) : Int))) = true then
  some (mk0 50 [])
 else
  bindO (Fai.l5_0.m n n (0, a0, a1, [])) fun r4 => match r4 with
   | (.inl r4) =>
    some (mk0 r4.1 r4.2.1)
   | (.inr r4) =>
    some (mk0 0 r4)
def Fai.m (n : Nat) (t : (LA × LI)) : Option (Int × LA) := Fai.g (fun a0 a1 => (a0, a1)) n t.1 t.2
end
end
section
noncomputable section
def Fl.l4_0.r {α : Type} (mk0 : Bool → α) (mk1 : α) (n : Nat) (rc : Int → LA → LA → Option α)  (x0 : Int) (x1 : LA) (x2 : LA) : Option α :=
  if (decide (x0 < (((List.length x1) : Nat) : Int))) = true then
   if 0 ≤ x0 then
    if x0 < (((List.length x1) : Nat) : Int) then
     bindO (tkAgg 3 (List.getD x1 (Int.toNat x0) AV.any)) fun r10 =>
      bindO (tkBool (List.getD r10 0 AV.any)) fun r12 =>
       bindO (tkInts .u64 4 (List.getD r10 1 AV.any)) fun r14 =>
        bindO (tkRints .u8 (List.getD r10 2 AV.any)) fun r16 =>
         if 0 ≤ x0 then
          if x0 < (((List.length x2) : Nat) : Int) then
           bindO (tkAgg 3 (List.getD x2 (Int.toNat x0) AV.any)) fun r22 =>
            bindO (tkBool (List.getD r22 0 AV.any)) fun r24 =>
             bindO (tkInts .u64 4 (List.getD r22 1 AV.any)) fun r26 =>
              bindO (tkRints .u8 (List.getD r22 2 AV.any)) fun r28 =>
               if (!(r12 == r24)) = true then
                some (mk0 false)
               else
                if 0 ≤ x0 then
                 if x0 < (((List.length x1) : Nat) : Int) then
                  bindO (tkAgg 3 (List.getD x1 (Int.toNat x0) AV.any)) fun r36 =>
                   bindO (tkBool (List.getD r36 0 AV.any)) fun r38 =>
                    bindO (tkInts .u64 4 (List.getD r36 1 AV.any)) fun r40 =>
                     bindO (tkRints .u8 (List.getD r36 2 AV.any)) fun r42 =>
                      if 0 ≤ x0 then
                       if x0 < (((List.length x2) : Nat) : Int) then
                        bindO (tkAgg 3 (List.getD x2 (Int.toNat x0) AV.any)) fun r48 =>
                         bindO (tkBool (List.getD r48 0 AV.any)) fun r50 =>
                          bindO (tkInts .u64 4 (List.getD r48 1 AV.any)) fun r52 =>
                           bindO (tkRints .u8 (List.getD r48 2 AV.any)) fun r54 =>
                            if (!(r40 == r52)) = true then
                             some (mk0 false)
                            else
                             if 0 ≤ x0 then
                              if x0 < (((List.length x1) : Nat) : Int) then
                               bindO (tkAgg 3 (List.getD x1 (Int.toNat x0) AV.any)) fun r62 =>
                                bindO (tkBool (List.getD r62 0 AV.any)) fun r64 =>
                                 bindO (tkInts .u64 4 (List.getD r62 1 AV.any)) fun r66 =>
                                  bindO (tkRints .u8 (List.getD r62 2 AV.any)) fun r68 =>
                                   if 0 ≤ x0 then
                                    if x0 < (((List.length x2) : Nat) : Int) then
                                     bindO (tkAgg 3 (List.getD x2 (Int.toNat x0) AV.any)) fun r74 =>
                                      bindO (tkBool (List.getD r74 0 AV.any)) fun r76 =>
                                       bindO (tkInts .u64 4 (List.getD r74 1 AV.any)) fun r78 =>
                                        bindO (tkRints .u8 (List.getD r74 2 AV.any)) fun r80 =>
                                         bindO (Fk.m n (r68, r80)) fun r82 =>
                                          if (!r82) = true then
                                           some (mk0 false)
                                          else
                                           rc (IntKind.wrap .i64 (x0 + 1)) x1 x2
                                    else
                                     none
                                   else
                                    none
                              else
                               none
                             else
                              none
                       else
                        none
                      else
                       none
                 else
                  none
                else
                 none
          else
           none
         else
          none
    else
     none
   else
    none
  else
   some (mk1)
def Fl.l4_0.g {α : Type} (mk0 : Bool → α) (mk1 : α) (n : Nat) : Nat → Int → LA → LA → Option α
 | 0, _, _, _ => none
 | m + 1, x0, x1, x2 => Fl.l4_0.r mk0 mk1 n (fun y0 y1 y2 => Fl.l4_0.g mk0 mk1 n m y0 y1 y2)  x0 x1 x2
def Fl.l4_0.m (n m : Nat) (t : (Int × (LA × LA))) : Option (Bool ⊕ Unit) := Fl.l4_0.g (fun a0 => (.inl a0)) (.inr ()) n m t.1 t.2.1 t.2.2
def Fl.g {α : Type} (mk0 : Bool → α) (n : Nat) (a0 : LA) (a1 : LA) : Option α :=
 if ((((List.length a0) : Nat) : Int) != (((List.length a1) : Nat) : Int)) = true then
  some (mk0 false)
 else
  bindO (Fl.l4_0.m n n (0, a0, a1)) fun r4 => match r4 with
   | (.inl r4) =>
    some (mk0 r4)
   | (.inr r4) =>
    some (mk0 true)
def Fl.m (n : Nat) (t : (LA × LA)) : Option Bool := Fl.g (fun a0 => a0) n t.1 t.2
end
end
section
noncomputable section
def Fm.g {α : Type} (mk0 : LI → α) (n : Nat) (a0 : LI) : Option α :=
 if (((List.length a0) * 1) ≤ 70368744177664 ∧ (List.length a0) ≤ 9223372036854775807) then
  some (mk0 a0)
 else
  none
def Fm.m (n : Nat) (t : LI) : Option LI := Fm.g (fun a0 => a0) n t
end
end
section
noncomputable section
noncomputable def Fp.C (n : Nat) : Ctx := ⟨Tryd.prog, abiG, lookC [(57, Fw.c n), (56, Fx.c n)], fun _ => false⟩
noncomputable def Fp.A (n : Nat) : Ann := ⟨Tryd.f22.ntmps, 0, noNL, [], [(some (.ints .u8))], fun k => match k with
 | _ => none, noNL, lookJ []⟩
def Fp.g {α : Type} (mk0 : LI → α) (n : Nat) (a0 : ByteArray) : Option α :=
 bindO (Fw.m n (Go.Abs.bytesOf a0)) fun r2 =>
  bindO (Fx.m n r2) fun r4 =>
   if 4 ≤ (((List.length r4) : Nat) : Int) then
    some (mk0 (Go.Abs.partL r4 0 (Go.Abs.span (List.length r4) 0 (Option.some 4))))
   else
    none
def Fp.m (n : Nat) (t : ByteArray) : Option LI := Fp.g (fun a0 => a0) n t
def Fp.pat : List AV → Blks → Option ByteArray
 | [(.str a0)], [] => some a0
 | _, _ => none
def Fp.shape (t : ByteArray) : List AV × Blks := ([(.str t)], [])
def Fp.res : LI → AV × Blks
 | u => ((.own 0 1), [(some (.ints .u8 u))])
def Fp.resK {R : Type} (u : LI) (K : AV → Blks → Option R) : Option R := K (Fp.res u).1 (Fp.res u).2
def Fp.c (n : Nat) : Abs.Callee := .mk' [] [none] Fp.pat (Fp.m n) Fp.resK
end
end
section
theorem Fp.gmap {α β : Type} (h : β → α) (mk0 : LI → β) (n : Nat) (a0 : ByteArray) : Fp.g (fun a0 => (h (mk0 a0))) n a0 = (Fp.g mk0 n a0).map h := by
  unfold Fp.g
  exact (bindO_map fun r2 => (bindO_map fun r4 => (ite_map rfl rfl)))
theorem Fp.run (n : Nat) (a0 : ByteArray) : runF (Fp.C n) (Fp.A n) n Tryd.f22 [(.str a0)] [] (fun v o => some (v, o)) = Fp.g (fun a0 => (((.own 0 1), [(some (.ints .u8 a0))]) : AV × Blks)) n a0 := by kernel_rfl
theorem Fp.call (hmix : Tryd.prog.follows .mixedOrders = true) (n : Nat) (t : ByteArray) (u) (h : Fp.m n t = some u) : FnC Tryd.prog abiG 22 (Fp.shape t).1 (Fp.shape t).2 (Fp.res u).1 (Fp.res u).2 :=
  fnC1 (C := Fp.C n) (A := Fp.A n) (fn := Tryd.f22) rfl (.cons (Fw.s hmix n) (.cons (Fx.s hmix n) .nil)) hmix Tryd.func22 (by kernel_rfl) (lp := []) (by kernel_rfl) .nil
  (nj rfl) (by decide) rfl rfl (by show 1 ≤ Tryd.f22.ntmps; decide) (Fp.run n t) (Fp.gmap Fp.res (fun a0 => a0) n t) h
theorem Fp.s (hmix : Tryd.prog.follows .mixedOrders = true) (n : Nat) : CalleeS Tryd.prog abiG 22 (Fp.c n) :=
  .mk1 (res := Fp.res) (shape := Fp.shape) (fun R u K => rfl) (fun _ _ _ h => by unfold Fp.pat at h; split at h <;> cases h; rfl) (fun t u h => Fp.call hmix n t u h) Tryd.func22 (by decide) (by kernel_rfl)
end
section
noncomputable section
def Fq.g {α : Type} (mk0 : LI → α) (n : Nat) (a0 : ByteArray) : Option α :=
 bindO (Fbi.m n (Go.Abs.bytesOf a0)) fun r2 =>
  bindO (Fal.m n r2) fun r4 =>
   if 4 ≤ (((List.length r4) : Nat) : Int) then
    some (mk0 (Go.Abs.partL r4 0 (Go.Abs.span (List.length r4) 0 (Option.some 4))))
   else
    none
def Fq.m (n : Nat) (t : ByteArray) : Option LI := Fq.g (fun a0 => a0) n t
end
end
section
noncomputable section
noncomputable def Fas.C (n : Nat) : Ctx := ⟨Tryd.prog, abiG, lookC [(20, Fz.c n), (22, Fp.c n)], fun _ => false⟩
noncomputable def Fas.A (n : Nat) : Ann := ⟨Tryd.f18.ntmps, 0, noNL, [], [none], fun k => match k with
 | _ => none, noNL, lookJ []⟩
def Fas.g {α : Type} (mk0 : Bool → α) (n : Nat)  : Option α :=
 bindO (Fz.m n [(AV.agg [(AV.bool false), (AV.ints .u64 4 [1, 0, 0, 0]), AV.snil]), (AV.agg [(AV.bool true), (AV.ints .u64 4 [0, 0, 0, 0]), (AV.rints .u8 [171])])]) fun r2 =>
  bindO (Fp.m n (b8 [98, 97, 108, 97, 110, 99, 101, 79, 102, 40, 97, 100, 100, 114, 101, 115, 115, 41])) fun r4 =>
   if ((((List.length r2) : Nat) : Int) == 128) = true then
    if 31 < (((List.length r2) : Nat) : Int) then
     if ((List.getD r2 31 0) == 1) = true then
      if 63 < (((List.length r2) : Nat) : Int) then
       if ((List.getD r2 63 0) == 64) = true then
        if 95 < (((List.length r2) : Nat) : Int) then
         if ((List.getD r2 95 0) == 1) = true then
          if 96 < (((List.length r2) : Nat) : Int) then
           if ((List.getD r2 96 0) == 171) = true then
            some (mk0 ((ByteArray.toList (Go.Abs.strOf r4)) == [(Subtype.val (Subtype.mk (ByteArray.get! (b8 [112, 160, 130, 49]) 0) (And.left (Iff.mp (List.forall_mem_cons) (And.right (Iff.mp (List.forall_mem_cons) (And.right (Iff.mp (List.forall_mem_cons) (And.right (Iff.mp (List.forall_mem_cons) (List.attach._proof_1 [(ByteArray.get! (b8 [112, 160, 130, 49]) 3), (ByteArray.get! (b8 [112, 160, 130, 49]) 2), (ByteArray.get! (b8 [112, 160, 130, 49]) 1), (ByteArray.get! (b8 [112, 160, 130, 49]) 0)]))))))))))), (Subtype.val (Subtype.mk (ByteArray.get! (b8 [112, 160, 130, 49]) 1) (And.left (Iff.mp (List.forall_mem_cons) (And.right (Iff.mp (List.forall_mem_cons) (And.right (Iff.mp (List.forall_mem_cons) (List.attach._proof_1 [(ByteArray.get! (b8 [112, 160, 130, 49]) 3), (ByteArray.get! (b8 [112, 160, 130, 49]) 2), (ByteArray.get! (b8 [112, 160, 130, 49]) 1), (ByteArray.get! (b8 [112, 160, 130, 49]) 0)]))))))))), (Subtype.val (Subtype.mk (ByteArray.get! (b8 [112, 160, 130, 49]) 2) (And.left (Iff.mp (List.forall_mem_cons) (And.right (Iff.mp (List.forall_mem_cons) (List.attach._proof_1 [(ByteArray.get! (b8 [112, 160, 130, 49]) 3), (ByteArray.get! (b8 [112, 160, 130, 49]) 2), (ByteArray.get! (b8 [112, 160, 130, 49]) 1), (ByteArray.get! (b8 [112, 160, 130, 49]) 0)]))))))), (Subtype.val (Subtype.mk (ByteArray.get! (b8 [112, 160, 130, 49]) 3) (And.left (Iff.mp (List.forall_mem_cons) (List.attach._proof_1 [(ByteArray.get! (b8 [112, 160, 130, 49]) 3), (ByteArray.get! (b8 [112, 160, 130, 49]) 2), (ByteArray.get! (b8 [112, 160, 130, 49]) 1), (ByteArray.get! (b8 [112, 160, 130, 49]) 0)])))))]))
           else
            some (mk0 false)
          else
           none
         else
          some (mk0 false)
        else
         none
       else
        some (mk0 false)
      else
       none
     else
      some (mk0 false)
    else
     none
   else
    some (mk0 false)
def Fas.m (n : Nat) (t : Unit) : Option Bool := Fas.g (fun a0 => a0) n 
def Fas.pat : List AV → Blks → Option Unit
 | [], [] => some ()
 | _, _ => none
def Fas.shape (t : Unit) : List AV × Blks := ([], [])
def Fas.res : Bool → AV × Blks
 | u => ((.bool u), [])
def Fas.resK {R : Type} (u : Bool) (K : AV → Blks → Option R) : Option R := K (Fas.res u).1 (Fas.res u).2
def Fas.c (n : Nat) : Abs.Callee := .mk' [] [] Fas.pat (Fas.m n) Fas.resK
end
end
section
noncomputable section
def Fi.g {α : Type} (mk0 : Bool → α) (n : Nat) (a0 : LA) (a1 : ByteArray) : Option α :=
 bindO (Faw.m n a0) fun r2 =>
  if r2 = true then
   some (mk0 true)
  else
   if (decide ((((ByteArray.size a1) : Nat) : Int) > 2000)) = true then
    some (mk0 true)
   else
    bindO (Fas.m n Unit.unit) fun r8 =>
     if r8 = true then
      bindO (Fz.m n a0) fun r12 =>
       bindO (Faa.m n a0) fun r14 =>
        bindO (Fk.m n (r12, r14)) fun r16 =>
         if r16 = true then
          bindO (Fp.m n a1) fun r20 =>
           bindO (Fq.m n a1) fun r22 =>
            bindO (Fk.m n (r20, r22)) fun r24 =>
             some (mk0 r24)
         else
          some (mk0 false)
     else
      some (mk0 false)
def Fi.m (n : Nat) (t : (LA × ByteArray)) : Option Bool := Fi.g (fun a0 => a0) n t.1 t.2
end
end
section
theorem Fas.gmap {α β : Type} (h : β → α) (mk0 : Bool → β) (n : Nat)  : Fas.g (fun a0 => (h (mk0 a0))) n  = (Fas.g mk0 n ).map h := by
  unfold Fas.g
  exact (bindO_map fun r2 => (bindO_map fun r4 => (ite_map (ite_map (ite_map (ite_map (ite_map (ite_map (ite_map (ite_map (ite_map rfl rfl) rfl) rfl) rfl) rfl) rfl) rfl) rfl) rfl)))
theorem Fas.run (n : Nat)  : runF (Fas.C n) (Fas.A n) n Tryd.f18 [] [] (fun v o => some (v, o)) = Fas.g (fun a0 => (((.bool a0), []) : AV × Blks)) n  := by kernel_rfl
theorem Fas.call (hmix : Tryd.prog.follows .mixedOrders = true) (n : Nat) (t : Unit) (u) (h : Fas.m n t = some u) : FnC Tryd.prog abiG 18 (Fas.shape t).1 (Fas.shape t).2 (Fas.res u).1 (Fas.res u).2 :=
  fnC1 (C := Fas.C n) (A := Fas.A n) (fn := Tryd.f18) rfl (.cons (Fz.s hmix n) (.cons (Fp.s hmix n) .nil)) hmix Tryd.func18 (by kernel_rfl) (lp := []) (by kernel_rfl) .nil
  (nj rfl) (by decide) rfl rfl (by show 0 ≤ Tryd.f18.ntmps; decide) (Fas.run n ) (Fas.gmap Fas.res (fun a0 => a0) n ) h
theorem Fas.s (hmix : Tryd.prog.follows .mixedOrders = true) (n : Nat) : CalleeS Tryd.prog abiG 18 (Fas.c n) :=
  .mk1 (res := Fas.res) (shape := Fas.shape) (fun R u K => rfl) (fun _ _ _ h => by unfold Fas.pat at h; split at h <;> cases h; rfl) (fun t u h => Fas.call hmix n t u h) Tryd.func18 (by decide) (by kernel_rfl)
end
section
noncomputable section
def Fj.g {α : Type} (mk0 : Bool → α) (n : Nat) (a0 : LA) (a1 : LI) : Option α :=
 if (decide ((((List.length a1) : Nat) : Int) > 2000)) = true then
  some (mk0 true)
 else
  if (decide ((((List.length a0) : Nat) : Int) > 100)) = true then
   some (mk0 true)
  else
   bindO (Fm.m n a1) fun r6 =>
    bindO (Fs.m n (a0, r6)) fun r8 =>
     bindO (Fai.m n (a0, a1)) fun r10 =>
      bindO (Fas.m n Unit.unit) fun r12 =>
       if r12 = true then
        if ((IntKind.wrap .i64 r8.1) == r10.1) = true then
         bindO (Fl.m n (r8.2.2, r10.2)) fun r18 =>
          if r18 = true then
           bindO (Fk.m n (r8.2.1, a1)) fun r22 =>
            some (mk0 r22)
          else
           some (mk0 false)
        else
         some (mk0 false)
       else
        some (mk0 false)
def Fj.m (n : Nat) (t : (LA × LI)) : Option Bool := Fj.g (fun a0 => a0) n t.1 t.2
end
end
section
noncomputable section
noncomputable def Fh.C (n : Nat) : Ctx := ⟨Tryd.prog, abiG, lookC [(17, Faw.c n), (18, Fas.c n), (22, Fp.c n), (57, Fw.c n), (56, Fx.c n), (19, Fk.c n), (20, Fz.c n), (53, abi_Decode.c n)], fun _ => false⟩
def Fh.live : NL := fun k => match k with
 | 8 => ([7, 1, 6, 5], [5, 1, 6])
 | _ => ([], [])
def Fh.l8_0.r {α : Type} (mk0 : LA → LI → LA → α) (n : Nat) (rc : Int → LA → LA → LI → Option α)  (x0 : Int) (x1 : LA) (x2 : LA) (x3 : LI) : Option α :=
  if (decide (x0 < (((List.length x1) : Nat) : Int))) = true then
   if 0 ≤ x0 then
    if x0 < (((List.length x1) : Nat) : Int) then
     bindO (tkAgg 3 (List.getD x1 (Int.toNat x0) AV.any)) fun r10 =>
      bindO (tkBool (List.getD r10 0 AV.any)) fun r12 =>
       bindO (tkInts .u64 4 (List.getD r10 1 AV.any)) fun r14 =>
        bindO (tkRints .u8 (List.getD r10 2 AV.any)) fun r16 =>
         if ((((List.length x2) + 1) * 1) ≤ 70368744177664 ∧ ((List.length x2) + 1) ≤ 9223372036854775807) then
          rc (IntKind.wrap .i64 (x0 + 1)) x1 (x2 ++ [(AV.bool r12)]) x3
         else
          none
    else
     none
   else
    none
  else
   some (mk0 x1 x3 x2)
def Fh.l8_0.g {α : Type} (mk0 : LA → LI → LA → α) (n : Nat) : Nat → Int → LA → LA → LI → Option α
 | 0, _, _, _, _ => none
 | m + 1, x0, x1, x2, x3 => Fh.l8_0.r mk0 n (fun y0 y1 y2 y3 => Fh.l8_0.g mk0 n m y0 y1 y2 y3)  x0 x1 x2 x3
def Fh.l8_0.m (n m : Nat) (t : (Int × (LA × (LA × LI)))) : Option (LA × (LI × LA)) := Fh.l8_0.g (fun a0 a1 a2 => (a0, a1, a2)) n m t.1 t.2.1 t.2.2.1 t.2.2.2
def Fh.l8_0.pat : St → Option (Int × (LA × (LA × LI)))
 | (St.mk [(.int .i64 x0), (.robjs 69 6 x1), (.own 0 1), (.own 1 1)] [(some (.objs 4 1 x2)), (some (.ints .u8 x3))]) => some (x0, x1, x2, x3)
 | _ => none
def Fh.l8_0.shape (t : (Int × (LA × (LA × LI)))) : St := (St.mk [(.int .i64 t.1), (.robjs 69 6 t.2.1), (.own 0 1), (.own 1 1)] [(some (.objs 4 1 t.2.2.1)), (some (.ints .u8 t.2.2.2))])
def Fh.l8_0.res : (LA × (LI × LA)) → Ex × St
 | u => ((.exit 0), (St.mk [(.own 0 1), (.robjs 69 6 u.1), (.own 1 1)] [(some (.ints .u8 u.2.1)), (some (.objs 4 1 u.2.2))]))
def Fh.l8_0.resK {R : Type} (u : (LA × (LI × LA))) (K : Ex → St → Option R) : Option R := K (Fh.l8_0.res u).1 (Fh.l8_0.res u).2
noncomputable def Fh.A (n : Nat) : Ann := ⟨Tryd.f14.ntmps, 0, Fh.live, [(1, (.objs 69 6)), (5, (.ints .u8)), (6, (.objs 4 1))], [none], fun k => match k with
 | 8 => some (.mk' Fh.l8_0.pat (Fh.l8_0.m n n) Fh.l8_0.resK)
 | _ => none, noNL, lookJ []⟩
noncomputable def Fh.b0 : Code := (loopsIn (Tryd.f14.body.getD .skip)).getD 0 .skip
def Fh.g {α : Type} (mk0 : Bool → α) (n : Nat) (a0 : ByteArray) (a1 : LA) : Option α :=
 if (decide ((((ByteArray.size a0) : Nat) : Int) > 2000)) = true then
  bindO (Fas.m n Unit.unit) fun r4 =>
   some (mk0 r4)
 else
  bindO (Faw.m n a1) fun r4 =>
   if r4 = true then
    bindO (Fas.m n Unit.unit) fun r8 =>
     some (mk0 r8)
   else
    bindO (Fas.m n Unit.unit) fun r8 =>
     if (!r8) = true then
      bindO (Fas.m n Unit.unit) fun r12 =>
       some (mk0 r12)
     else
      bindO (Fp.m n a0) fun r12 =>
       if ((((List.length r12) : Nat) : Int) != 4) = true then
        some (mk0 false)
       else
        bindO (Fw.m n (Go.Abs.bytesOf a0)) fun r16 =>
         bindO (Fx.m n r16) fun r18 =>
          if 4 ≤ (((List.length r18) : Nat) : Int) then
           bindO (Fk.m n (r12, (List.take (Go.Abs.span (List.length r18) 0 (Option.some 4)) (List.drop 0 r18)))) fun r22 =>
            if (!r22) = true then
             some (mk0 false)
            else
             bindO (Fh.l8_0.m n n (0, a1, [], r12)) fun r26 =>
              if (((List.length r26.2.1) * 1) ≤ 70368744177664 ∧ (List.length r26.2.1) ≤ 9223372036854775807) then
               bindO (Fz.m n r26.1) fun r30 =>
                if ((((List.length r26.2.1) + (List.length r30)) * 1) ≤ 70368744177664 ∧ ((List.length r26.2.1) + (List.length r30)) ≤ 9223372036854775807) then
                 if 4 ≤ (((List.length (r26.2.1 ++ r30)) : Nat) : Int) then
                  bindO (Fu.m n (4, (Go.Abs.span (List.length (r26.2.1 ++ r30)) 4 (Option.none)), r26.2.2, (r26.2.1 ++ r30))) fun r36 =>
                   if (r36.1 == 0) = true then
                    some (mk0 ((((List.length r36.2.2.2) : Nat) : Int) == (((List.length r26.1) : Nat) : Int)))
                   else
                    some (mk0 false)
                 else
                  none
                else
                 none
              else
               none
          else
           none
def Fh.m (n : Nat) (t : (ByteArray × LA)) : Option Bool := Fh.g (fun a0 => a0) n t.1 t.2
def Fh.shape (t : (ByteArray × LA)) : List AV × Blks := ([(.str t.1), (.robjs 69 6 t.2)], [])
def Fh.res : Bool → AV × Blks
 | u => ((.bool u), [])
end
end
section
noncomputable abbrev Fh.R0 (n : Nat) := roundOf (Fh.C n) (Fh.A n) n Fh.b0
theorem Fh.l8_0.rmap {α β : Type} (h : β → α) (mk0 : LA → LI → LA → β) (n : Nat) (f : Int → LA → LA → LI → Option β)  (x0 : Int) (x1 : LA) (x2 : LA) (x3 : LI) : Fh.l8_0.r (fun a0 a1 a2 => (h (mk0 a0 a1 a2))) n (fun y0 y1 y2 y3 => (f y0 y1 y2 y3).map h) x0 x1 x2 x3 = (Fh.l8_0.r mk0 n f x0 x1 x2 x3).map h := by
  unfold Fh.l8_0.r
  exact (ite_map (ite_map (ite_map (bindO_map fun r10 => (bindO_map fun r12 => (bindO_map fun r14 => (bindO_map fun r16 => (ite_map rfl rfl))))) rfl) rfl) rfl)
theorem Fh.l8_0.gmap {α β : Type} (h : β → α) (mk0 : LA → LI → LA → β) (n : Nat) : ∀ (m : Nat) (x0 : Int) (x1 : LA) (x2 : LA) (x3 : LI), Fh.l8_0.g (fun a0 a1 a2 => (h (mk0 a0 a1 a2))) n m x0 x1 x2 x3 = (Fh.l8_0.g mk0 n m x0 x1 x2 x3).map h
  | 0, _, _, _, _ => rfl
  | m + 1, x0, x1, x2, x3 => by
    unfold Fh.l8_0.g
    rw [← Fh.l8_0.rmap]
    congr
    · funext y0 y1 y2 y3; exact Fh.l8_0.gmap h mk0 n m y0 y1 y2 y3
theorem Fh.l8_0.pat_shape : ∀ st t, Fh.l8_0.pat st = some t → st = Fh.l8_0.shape t := fun _ _ h => by unfold Fh.l8_0.pat at h; split at h <;> cases h; rfl
def Fh.l8_0.k0 : LA → LI → LA → Ex × St := (fun a0 a1 a2 => (((.exit 0), (St.mk [(.own 0 1), (.robjs 69 6 a0), (.own 1 1)] [(some (.ints .u8 a1)), (some (.objs 4 1 a2))])) : Ex × St))
theorem Fh.l8_0.round (n : Nat) (rc : St → Option (Ex × St)) (x0 : Int) (x1 : LA) (x2 : LA) (x3 : LI) : Fh.R0 n rc ((St.mk [(.int .i64 x0), (.robjs 69 6 x1), (.own 0 1), (.own 1 1)] [(some (.objs 4 1 x2)), (some (.ints .u8 x3))])) = Fh.l8_0.r Fh.l8_0.k0 n (fun y0 y1 y2 y3 => rc ((St.mk [(.int .i64 y0), (.robjs 69 6 y1), (.own 0 1), (.own 1 1)] [(some (.objs 4 1 y2)), (some (.ints .u8 y3))]))) x0 x1 x2 x3 := by kernel_rfl
theorem Fh.l8_0.loop' (n : Nat) : ∀ (m : Nat) (t : (Int × (LA × (LA × LI)))), loopOf (Fh.R0 n) m (Fh.l8_0.shape t) = Fh.l8_0.g Fh.l8_0.k0 n m t.1 t.2.1 t.2.2.1 t.2.2.2 :=
  loop_of_round (shape := Fh.l8_0.shape) (body := Fh.R0 n) (g := fun m t => Fh.l8_0.g Fh.l8_0.k0 n m t.1 t.2.1 t.2.2.1 t.2.2.2) (fun t => rfl)
    fun m t ih => (Fh.l8_0.round n (loopOf (Fh.R0 n) m) t.1 t.2.1 t.2.2.1 t.2.2.2).trans (congrFun (congrFun (congrFun (congrFun (congrArg (Fh.l8_0.r Fh.l8_0.k0 n) (funext fun y0 => funext fun y1 => funext fun y2 => funext fun y3 => ih (y0, y1, y2, y3))) t.1) t.2.1) t.2.2.1) t.2.2.2)
theorem Fh.l8_0.loop (n m : Nat) (t : (Int × (LA × (LA × LI)))) : loopOf (Fh.R0 n) m (Fh.l8_0.shape t) = (Fh.l8_0.m n m t).map Fh.l8_0.res :=
  (Fh.l8_0.loop' n m t).trans (Fh.l8_0.gmap Fh.l8_0.res (fun a0 a1 a2 => (a0, a1, a2)) n m t.1 t.2.1 t.2.2.1 t.2.2.2)
theorem Fh.gmap {α β : Type} (h : β → α) (mk0 : Bool → β) (n : Nat) (a0 : ByteArray) (a1 : LA) : Fh.g (fun a0 => (h (mk0 a0))) n a0 a1 = (Fh.g mk0 n a0 a1).map h := by
  unfold Fh.g
  exact (ite_map (bindO_map fun r4 => rfl) (bindO_map fun r4 => (ite_map (bindO_map fun r8 => rfl) (bindO_map fun r8 => (ite_map (bindO_map fun r12 => rfl) (bindO_map fun r12 => (ite_map rfl (bindO_map fun r16 => (bindO_map fun r18 => (ite_map (bindO_map fun r22 => (ite_map rfl (bindO_map fun r26 => (ite_map (bindO_map fun r30 => (ite_map (ite_map (bindO_map fun r36 => (ite_map rfl rfl)) rfl) rfl)) rfl)))) rfl))))))))))
theorem Fh.run (n : Nat) (a0 : ByteArray) (a1 : LA) : runF (Fh.C n) (Fh.A n) n Tryd.f14 [(.str a0), (.robjs 69 6 a1)] [] (fun v o => some (v, o)) = Fh.g (fun a0 => (((.bool a0), []) : AV × Blks)) n a0 a1 := by kernel_rfl
theorem Fh.call (hmix : Tryd.prog.follows .mixedOrders = true) (n : Nat) (t : (ByteArray × LA)) (u) (h : Fh.m n t = some u) : FnC Tryd.prog abiG 14 (Fh.shape t).1 (Fh.shape t).2 (Fh.res u).1 (Fh.res u).2 :=
  fnC1 (C := Fh.C n) (A := Fh.A n) (fn := Tryd.f14) rfl (.cons (Faw.s hmix n) (.cons (Fas.s hmix n) (.cons (Fp.s hmix n) (.cons (Fw.s hmix n) (.cons (Fx.s hmix n) (.cons (Fk.s hmix n) (.cons (Fz.s hmix n) (.cons (abi_Decode.s hmix n) .nil)))))))) hmix Tryd.func14 (by kernel_rfl) (lp := [Fh.b0]) (by kernel_rfl) (.cons (show (Fh.A n).loop (key Fh.b0) = some (.mk' Fh.l8_0.pat (Fh.l8_0.m n n) Fh.l8_0.resK) by kernel_rfl) (LoopS.of (res := Fh.l8_0.res) (fun R u K => rfl) Fh.l8_0.pat_shape fun t => Fh.l8_0.loop n n t)
  .nil)
  (nj rfl) (by decide) rfl rfl (by show 2 ≤ Tryd.f14.ntmps; decide) (Fh.run n t.1 t.2) (Fh.gmap Fh.res (fun a0 => a0) n t.1 t.2) h
end
