/- What the program's functions compute, as plain functions, each with its proof: the function does just that. Condition: the plain function has an answer. -/
import Derived.Test.YtkknbhapkdgcjaaDoorAbsO1
import Derived.Test.YtkknbhapkdgcjaaDoorAbsO8
import Derived.Test.YtkknbhapkdgcjaaDoorProg
set_option linter.unusedVariables false
set_option linter.unusedSimpArgs false
set_option maxRecDepth 100000
open Go Go.Abs Go.Proofs
section
namespace Go.Abs
open Go
def kecKeys : List Int := [1, 32898, 9223372036854808714, 9223372039002292224, 32907, 2147483649, 9223372039002292353, 9223372036854808585, 138, 136, 2147516425, 2147483658, 2147516555, 9223372036854775947, 9223372036854808713, 9223372036854808579, 9223372036854808578, 9223372036854775936, 32778, 9223372039002259466, 9223372039002292353, 9223372036854808704, 2147483649, 9223372039002292232]
def kecTo : List Int := [10, 7, 11, 17, 18, 3, 5, 16, 8, 21, 24, 4, 15, 23, 19, 13, 12, 2, 20, 14, 22, 9, 6, 1]
def kecTurns : List Int := [1, 3, 6, 10, 15, 21, 28, 36, 45, 55, 2, 14, 27, 41, 56, 8, 25, 43, 62, 18, 39, 61, 20, 44]
def kecG : Nat → AV := fun g => match g with
  | 0 => .ints .u64 24 kecKeys
  | 1 => .ints .i64 24 kecTo
  | 2 => .ints .i64 24 kecTurns
  | _ => .any
end Go.Abs
end
section
noncomputable section
noncomputable def Fao.C (n : Nat) : Ctx := ⟨Tryd.prog, kecG, lookC [], fun _ => false⟩
def Fao.live : NL := fun k => match k with
 | 3 => ([6, 3, 1], [3])
 | _ => ([], [])
def Fao.l3_0.r {α : Type} (mk0 : LI → α) (n : Nat) (rc : Int → LI → LI → Option α)  (x0 : Int) (x1 : LI) (x2 : LI) : Option α :=
  if (decide (x0 < 32)) = true then
   if 0 ≤ (IntKind.wrap .i64 (Int.tdiv x0 8)) then
    if (IntKind.wrap .i64 (Int.tdiv x0 8)) < 4 then
     if 0 ≤ (IntKind.wrap .i64 ((Int.tmod x0 8) * 8)) then
      if 0 ≤ (IntKind.wrap .i64 (31 - x0)) then
       if (IntKind.wrap .i64 (31 - x0)) < (((List.length x1) : Nat) : Int) then
        rc (IntKind.wrap .i64 (x0 + 1)) (List.set x1 (Int.toNat (IntKind.wrap .i64 (31 - x0))) (IntKind.wrap .u8 (ishr .u64 (List.getD x2 (Int.toNat (IntKind.wrap .i64 (Int.tdiv x0 8))) 0) (IntKind.wrap .i64 ((Int.tmod x0 8) * 8))))) x2
       else
        none
      else
       none
     else
      none
    else
     none
   else
    none
  else
   some (mk0 x1)
def Fao.l3_0.g {α : Type} (mk0 : LI → α) (n : Nat) : Nat → Int → LI → LI → Option α
 | 0, _, _, _ => none
 | m + 1, x0, x1, x2 => Fao.l3_0.r mk0 n (fun y0 y1 y2 => Fao.l3_0.g mk0 n m y0 y1 y2)  x0 x1 x2
def Fao.l3_0.m (n m : Nat) (t : (Int × (LI × LI))) : Option LI := Fao.l3_0.g (fun a0 => a0) n m t.1 t.2.1 t.2.2
def Fao.l3_0.pat : St → Option (Int × (LI × LI))
 | (St.mk [(.int .i64 x0), (.own 0 1), (.ptr 1 [])] [(some (.ints .u8 x1)), (some (.var (.ints .u64 4 x2)))]) => some (x0, x1, x2)
 | _ => none
def Fao.l3_0.shape (t : (Int × (LI × LI))) : St := (St.mk [(.int .i64 t.1), (.own 0 1), (.ptr 1 [])] [(some (.ints .u8 t.2.1)), (some (.var (.ints .u64 4 t.2.2)))])
def Fao.l3_0.res : LI → Ex × St
 | u => ((.exit 0), (St.mk [(.own 0 1)] [(some (.ints .u8 u))]))
def Fao.l3_0.resK {R : Type} (u : LI) (K : Ex → St → Option R) : Option R := K (Fao.l3_0.res u).1 (Fao.l3_0.res u).2
noncomputable def Fao.A (n : Nat) : Ann := ⟨Tryd.f73.ntmps, 0, Fao.live, [(3, (.ints .u8))], [(some (.ints .u8))], fun k => match k with
 | 3 => some (.mk' Fao.l3_0.pat (Fao.l3_0.m n n) Fao.l3_0.resK)
 | _ => none, noNL, lookJ []⟩
noncomputable def Fao.b0 : Code := (loopsIn (Tryd.f73.body.getD .skip)).getD 0 .skip
def Fao.g {α : Type} (mk0 : LI → α) (n : Nat) (a0 : LI) : Option α :=
 bindO (Fao.l3_0.m n n (0, ([0, 0, 0, 0, 0, 0, 0, 0, 0, 0, 0, 0, 0, 0, 0, 0, 0, 0, 0, 0, 0, 0, 0, 0, 0, 0, 0, 0, 0, 0, 0, 0] : List Int), a0)) fun r2 =>
  some (mk0 r2)
def Fao.m (n : Nat) (t : LI) : Option LI := Fao.g (fun a0 => a0) n t
def Fao.pat : List AV → Blks → Option LI
 | [(.ints .u64 4 a0)], [] => some a0
 | _, _ => none
def Fao.shape (t : LI) : List AV × Blks := ([(.ints .u64 4 t)], [])
def Fao.res : LI → AV × Blks
 | u => ((.own 0 1), [(some (.ints .u8 u))])
def Fao.resK {R : Type} (u : LI) (K : AV → Blks → Option R) : Option R := K (Fao.res u).1 (Fao.res u).2
def Fao.c (n : Nat) : Abs.Callee := .mk' [] [none] Fao.pat (Fao.m n) Fao.resK
end
end
section
noncomputable section
noncomputable def Fat.C (n : Nat) : Ctx := ⟨Tryd.prog, kecG, lookC [(73, Fao.c n)], fun _ => false⟩
noncomputable def Fat.A (n : Nat) : Ann := ⟨Tryd.f71.ntmps, 0, noNL, [], [none], fun k => match k with
 | _ => none, noNL, lookJ []⟩
def Fat.g {α : Type} (mk0 : LI → α) (n : Nat) (a0 : LI) : Option α :=
 bindO (Fao.m n a0) fun r2 =>
  if 12 ≤ (((List.length r2) : Nat) : Int) then
   if 20 ≤ (Go.Abs.span (List.length r2) 12 (Option.none)) then
    some (mk0 (List.take 20 (List.drop 12 r2)))
   else
    none
  else
   none
def Fat.m (n : Nat) (t : LI) : Option LI := Fat.g (fun a0 => a0) n t
def Fat.pat : List AV → Blks → Option LI
 | [(.ints .u64 4 a0)], [] => some a0
 | _, _ => none
def Fat.shape (t : LI) : List AV × Blks := ([(.ints .u64 4 t)], [])
def Fat.res : LI → AV × Blks
 | u => ((.ints .u8 20 u), [])
def Fat.resK {R : Type} (u : LI) (K : AV → Blks → Option R) : Option R := K (Fat.res u).1 (Fat.res u).2
def Fat.c (n : Nat) : Abs.Callee := .mk' [] [none] Fat.pat (Fat.m n) Fat.resK
end
end
section
noncomputable section
noncomputable def Fau.C (n : Nat) : Ctx := ⟨Tryd.prog, kecG, lookC [], fun _ => false⟩
def Fau.live : NL := fun k => match k with
 | 4 => ([13, 12, 3, 0, 2], [3, 2])
 | _ => ([], [])
def Fau.l4_0.r {α : Type} (mk0 : LI → LI → α) (n : Nat) (rc : Int → Int → LI → LI → LI → Option α)  (x0 : Int) (x1 : Int) (x2 : LI) (x3 : LI) (x4 : LI) : Option α :=
  if (decide (x0 < x1)) = true then
   if 0 ≤ (IntKind.wrap .i64 (Int.tdiv x0 8)) then
    if (IntKind.wrap .i64 (Int.tdiv x0 8)) < 4 then
     if 0 ≤ (IntKind.wrap .i64 ((IntKind.wrap .i64 ((((List.length x2) : Nat) : Int) - 1)) - x0)) then
      if (IntKind.wrap .i64 ((IntKind.wrap .i64 ((((List.length x2) : Nat) : Int) - 1)) - x0)) < (((List.length x2) : Nat) : Int) then
       if 0 ≤ (IntKind.wrap .i64 ((Int.tmod x0 8) * 8)) then
        if 0 ≤ (IntKind.wrap .i64 (Int.tdiv x0 8)) then
         if (IntKind.wrap .i64 (Int.tdiv x0 8)) < 4 then
          rc (IntKind.wrap .i64 (x0 + 1)) x1 x2 (List.set x3 (Int.toNat (IntKind.wrap .i64 (Int.tdiv x0 8))) (ibits BinOp.or .u64 (List.getD x3 (Int.toNat (IntKind.wrap .i64 (Int.tdiv x0 8))) 0) (ishl .u64 (IntKind.wrap .u64 (List.getD x2 (Int.toNat (IntKind.wrap .i64 ((IntKind.wrap .i64 ((((List.length x2) : Nat) : Int) - 1)) - x0))) 0)) (IntKind.wrap .i64 ((Int.tmod x0 8) * 8))))) x4
         else
          none
        else
         none
       else
        none
      else
       none
     else
      none
    else
     none
   else
    none
  else
   some (mk0 x3 x4)
def Fau.l4_0.g {α : Type} (mk0 : LI → LI → α) (n : Nat) : Nat → Int → Int → LI → LI → LI → Option α
 | 0, _, _, _, _, _ => none
 | m + 1, x0, x1, x2, x3, x4 => Fau.l4_0.r mk0 n (fun y0 y1 y2 y3 y4 => Fau.l4_0.g mk0 n m y0 y1 y2 y3 y4)  x0 x1 x2 x3 x4
def Fau.l4_0.m (n m : Nat) (t : (Int × (Int × (LI × (LI × LI))))) : Option (LI × LI) := Fau.l4_0.g (fun a0 a1 => (a0, a1)) n m t.1 t.2.1 t.2.2.1 t.2.2.2.1 t.w
def Fau.l4_0.pat : St → Option (Int × (Int × (LI × (LI × LI))))
 | (St.mk [(.int .i64 x0), (.int .i64 x1), (.ptr 0 []), (.rints .u8 x2), (.ptr 1 [])] [(some (.var (.ints .u64 4 x3))), (some (.var (.ints .u64 4 x4)))]) => some (x0, x1, x2, x3, x4)
 | _ => none
def Fau.l4_0.shape (t : (Int × (Int × (LI × (LI × LI))))) : St := (St.mk [(.int .i64 t.1), (.int .i64 t.2.1), (.ptr 0 []), (.rints .u8 t.2.2.1), (.ptr 1 [])] [(some (.var (.ints .u64 4 t.2.2.2.1))), (some (.var (.ints .u64 4 t.w)))])
def Fau.l4_0.res : (LI × LI) → Ex × St
 | u => ((.exit 0), (St.mk [(.ptr 0 []), (.ptr 1 [])] [(some (.var (.ints .u64 4 u.1))), (some (.var (.ints .u64 4 u.2)))]))
def Fau.l4_0.resK {R : Type} (u : (LI × LI)) (K : Ex → St → Option R) : Option R := K (Fau.l4_0.res u).1 (Fau.l4_0.res u).2
noncomputable def Fau.A (n : Nat) : Ann := ⟨Tryd.f72.ntmps, 0, Fau.live, [(0, (.ints .u8))], [none], fun k => match k with
 | 4 => some (.mk' Fau.l4_0.pat (Fau.l4_0.m n n) Fau.l4_0.resK)
 | _ => none, noNL, lookJ []⟩
noncomputable def Fau.b0 : Code := (loopsIn (Tryd.f72.body.getD .skip)).getD 0 .skip
def Fau.g {α : Type} (mk0 : LI → α) (n : Nat) (a0 : LI) : Option α :=
 if 0 ≤ (if 0 > (IntKind.wrap .i64 ((((List.length a0) : Nat) : Int) - 32)) then 0 else (IntKind.wrap .i64 ((((List.length a0) : Nat) : Int) - 32))) then
  if (if 0 > (IntKind.wrap .i64 ((((List.length a0) : Nat) : Int) - 32)) then 0 else (IntKind.wrap .i64 ((((List.length a0) : Nat) : Int) - 32))) ≤ (((List.length a0) : Nat) : Int) then
   bindO (Fau.l4_0.m n n (0, (((List.length (Go.Abs.cut a0 (Int.toNat (if 0 > (IntKind.wrap .i64 ((((List.length a0) : Nat) : Int) - 32)) then 0 else (IntKind.wrap .i64 ((((List.length a0) : Nat) : Int) - 32)))) (Option.none))) : Nat) : Int), (Go.Abs.cut a0 (Int.toNat (if 0 > (IntKind.wrap .i64 ((((List.length a0) : Nat) : Int) - 32)) then 0 else (IntKind.wrap .i64 ((((List.length a0) : Nat) : Int) - 32)))) (Option.none)), [0, 0, 0, 0], [0, 0, 0, 0])) fun r6 =>
    some (mk0 r6.1)
  else
   none
 else
  none
def Fau.m (n : Nat) (t : LI) : Option LI := Fau.g (fun a0 => a0) n t
def Fau.pat : List AV → Blks → Option LI
 | [(.rints .u8 a0)], [] => some a0
 | _, _ => none
def Fau.shape (t : LI) : List AV × Blks := ([(.rints .u8 t)], [])
def Fau.res : LI → AV × Blks
 | u => ((.ints .u64 4 u), [])
def Fau.resK {R : Type} (u : LI) (K : AV → Blks → Option R) : Option R := K (Fau.res u).1 (Fau.res u).2
def Fau.c (n : Nat) : Abs.Callee := .mk' [] [(some (.ints .u8))] Fau.pat (Fau.m n) Fau.resK
end
end
section
noncomputable section
noncomputable def Fav.C (n : Nat) : Ctx := ⟨Tryd.prog, kecG, lookC [(72, Fau.c n)], fun _ => false⟩
noncomputable def Fav.A (n : Nat) : Ann := ⟨Tryd.f57.ntmps, 0, noNL, [], [none], fun k => match k with
 | _ => none, noNL, lookJ []⟩
def Fav.g {α : Type} (mk0 : LI → α) (n : Nat) (a0 : LI) : Option α :=
 bindO (Fau.m n (List.take 20 (List.drop 0 a0))) fun r2 =>
  some (mk0 r2)
def Fav.m (n : Nat) (t : LI) : Option LI := Fav.g (fun a0 => a0) n t
def Fav.pat : List AV → Blks → Option LI
 | [(.ints .u8 20 a0)], [] => some a0
 | _, _ => none
def Fav.shape (t : LI) : List AV × Blks := ([(.ints .u8 20 t)], [])
def Fav.res : LI → AV × Blks
 | u => ((.ints .u64 4 u), [])
def Fav.resK {R : Type} (u : LI) (K : AV → Blks → Option R) : Option R := K (Fav.res u).1 (Fav.res u).2
def Fav.c (n : Nat) : Abs.Callee := .mk' [] [none] Fav.pat (Fav.m n) Fav.resK
end
end
section
noncomputable section
noncomputable def Fap.C (n : Nat) : Ctx := ⟨Tryd.prog, kecG, lookC [], fun _ => false⟩
noncomputable def Fap.A (n : Nat) : Ann := ⟨Tryd.f56.ntmps, 0, noNL, [], [none, none], fun k => match k with
 | _ => none, noNL, lookJ []⟩
def Fap.g {α : Type} (mk0 : Int → Bool → α) (n : Nat) (a0 : LI) : Option α :=
 if ((ibits BinOp.or .u64 (ibits BinOp.or .u64 (List.getD a0 1 0) (List.getD a0 2 0)) (List.getD a0 3 0)) != 0) = true then
  some (mk0 0 false)
 else
  some (mk0 (List.getD a0 0 0) true)
def Fap.m (n : Nat) (t : LI) : Option (Int × Bool) := Fap.g (fun a0 a1 => (a0, a1)) n t
def Fap.pat : List AV → Blks → Option LI
 | [(.ints .u64 4 a0)], [] => some a0
 | _, _ => none
def Fap.shape (t : LI) : List AV × Blks := ([(.ints .u64 4 t)], [])
def Fap.res : (Int × Bool) → AV × Blks
 | u => ((.tup [(.int .u64 u.1), (.bool u.2)]), [])
def Fap.resK {R : Type} (u : (Int × Bool)) (K : AV → Blks → Option R) : Option R := K (Fap.res u).1 (Fap.res u).2
def Fap.c (n : Nat) : Abs.Callee := .mk' [] [none] Fap.pat (Fap.m n) Fap.resK
end
end
section
noncomputable section
def Faq.m (n : Nat) (t : (Int × (Int × Int))) : Option (Int × Int) := xSub64 t
def Faq.pat : List AV → Blks → Option (Int × (Int × Int))
 | [(.int .u64 a0), (.int .u64 a1), (.int .u64 a2)], [] => some (a0, a1, a2)
 | _, _ => none
def Faq.shape (t : (Int × (Int × Int))) : List AV × Blks := ([(.int .u64 t.1), (.int .u64 t.2.1), (.int .u64 t.2.2)], [])
def Faq.res : (Int × Int) → AV × Blks
 | u => ((.tup [(.int .u64 u.1), (.int .u64 u.2)]), [])
def Faq.resK {R : Type} (u : (Int × Int)) (K : AV → Blks → Option R) : Option R := K (Faq.res u).1 (Faq.res u).2
def Faq.c (n : Nat) : Abs.Callee := .mk' [] [none, none, none] Faq.pat (Faq.m n) Faq.resK
end
end
section
noncomputable section
noncomputable def Fba.C (n : Nat) : Ctx := ⟨Tryd.prog, kecG, lookC [(66, Faq.c n)], fun _ => false⟩
def Fba.live : NL := fun k => match k with
 | 4 => ([9, 2, 3, 7, 6, 4], [6, 7, 4])
 | _ => ([], [])
def Fba.l4_0.r {α : Type} (mk0 : Int → LI → LI → α) (n : Nat) (rc : Int → Int → LI → LI → LI → LI → Option α)  (x0 : Int) (x1 : Int) (x2 : LI) (x3 : LI) (x4 : LI) (x5 : LI) : Option α :=
  if (decide (x0 < 4)) = true then
   if 0 ≤ x0 then
    if x0 < 4 then
     if 0 ≤ x0 then
      if x0 < 4 then
       bindO (Faq.m n ((List.getD x2 (Int.toNat x0) 0), (List.getD x3 (Int.toNat x0) 0), x1)) fun r14 =>
        if 0 ≤ x0 then
         if x0 < 4 then
          rc (IntKind.wrap .i64 (x0 + 1)) r14.2 x2 x3 (List.set x4 (Int.toNat x0) r14.1) x5
         else
          none
        else
         none
      else
       none
     else
      none
    else
     none
   else
    none
  else
   some (mk0 x1 x4 x5)
def Fba.l4_0.g {α : Type} (mk0 : Int → LI → LI → α) (n : Nat) : Nat → Int → Int → LI → LI → LI → LI → Option α
 | 0, _, _, _, _, _, _ => none
 | m + 1, x0, x1, x2, x3, x4, x5 => Fba.l4_0.r mk0 n (fun y0 y1 y2 y3 y4 y5 => Fba.l4_0.g mk0 n m y0 y1 y2 y3 y4 y5)  x0 x1 x2 x3 x4 x5
def Fba.l4_0.m (n m : Nat) (t : (Int × (Int × (LI × (LI × (LI × LI)))))) : Option (Int × (LI × LI)) := Fba.l4_0.g (fun a0 a1 a2 => (a0, a1, a2)) n m t.1 t.2.1 t.2.2.1 t.2.2.2.1 t.w.1 t.w.2
def Fba.l4_0.pat : St → Option (Int × (Int × (LI × (LI × (LI × LI)))))
 | (St.mk [(.int .i64 x0), (.ptr 0 []), (.ptr 1 []), (.int .u64 x1), (.ptr 2 []), (.ptr 3 [])] [(some (.var (.ints .u64 4 x2))), (some (.var (.ints .u64 4 x3))), (some (.var (.ints .u64 4 x4))), (some (.var (.ints .u64 4 x5)))]) => some (x0, x1, x2, x3, x4, x5)
 | _ => none
def Fba.l4_0.shape (t : (Int × (Int × (LI × (LI × (LI × LI)))))) : St := (St.mk [(.int .i64 t.1), (.ptr 0 []), (.ptr 1 []), (.int .u64 t.2.1), (.ptr 2 []), (.ptr 3 [])] [(some (.var (.ints .u64 4 t.2.2.1))), (some (.var (.ints .u64 4 t.2.2.2.1))), (some (.var (.ints .u64 4 t.w.1))), (some (.var (.ints .u64 4 t.w.2)))])
def Fba.l4_0.res : (Int × (LI × LI)) → Ex × St
 | u => ((.exit 0), (St.mk [(.ptr 0 []), (.int .u64 u.1), (.ptr 1 [])] [(some (.var (.ints .u64 4 u.2.1))), (some (.var (.ints .u64 4 u.2.2)))]))
def Fba.l4_0.resK {R : Type} (u : (Int × (LI × LI))) (K : Ex → St → Option R) : Option R := K (Fba.l4_0.res u).1 (Fba.l4_0.res u).2
noncomputable def Fba.A (n : Nat) : Ann := ⟨Tryd.f46.ntmps, 0, Fba.live, [], [none, none], fun k => match k with
 | 4 => some (.mk' Fba.l4_0.pat (Fba.l4_0.m n n) Fba.l4_0.resK)
 | _ => none, noNL, lookJ []⟩
noncomputable def Fba.b0 : Code := (loopsIn (Tryd.f46.body.getD .skip)).getD 0 .skip
def Fba.g {α : Type} (mk0 : LI → Bool → α) (n : Nat) (a0 : LI) (a1 : LI) : Option α :=
 bindO (Fba.l4_0.m n n (0, 0, a0, a1, [0, 0, 0, 0], [0, 0, 0, 0])) fun r2 =>
  some (mk0 r2.2.1 (r2.1 != 0))
def Fba.m (n : Nat) (t : (LI × LI)) : Option (LI × Bool) := Fba.g (fun a0 a1 => (a0, a1)) n t.1 t.2
def Fba.pat : List AV → Blks → Option (LI × LI)
 | [(.ints .u64 4 a0), (.ints .u64 4 a1)], [] => some (a0, a1)
 | _, _ => none
def Fba.shape (t : (LI × LI)) : List AV × Blks := ([(.ints .u64 4 t.1), (.ints .u64 4 t.2)], [])
def Fba.res : (LI × Bool) → AV × Blks
 | u => ((.tup [(.ints .u64 4 u.1), (.bool u.2)]), [])
def Fba.resK {R : Type} (u : (LI × Bool)) (K : AV → Blks → Option R) : Option R := K (Fba.res u).1 (Fba.res u).2
def Fba.c (n : Nat) : Abs.Callee := .mk' [] [none, none] Fba.pat (Fba.m n) Fba.resK
end
end
section
noncomputable section
noncomputable def Faj.C (n : Nat) : Ctx := ⟨Tryd.prog, kecG, lookC [], fun _ => false⟩
noncomputable def Faj.A (n : Nat) : Ann := ⟨Tryd.f62.ntmps, 0, noNL, [], [none], fun k => match k with
 | _ => none, noNL, lookJ []⟩
def Faj.g {α : Type} (mk0 : Bool → α) (n : Nat) (a0 : LI) (a1 : LI) : Option α :=
 some (mk0 ((ByteArray.toList (Go.Abs.strOf a0)) == (ByteArray.toList (Go.Abs.strOf a1))))
def Faj.m (n : Nat) (t : (LI × LI)) : Option Bool := Faj.g (fun a0 => a0) n t.1 t.2
def Faj.pat : List AV → Blks → Option (LI × LI)
 | [(.rints .u8 a0), (.rints .u8 a1)], [] => some (a0, a1)
 | _, _ => none
def Faj.shape (t : (LI × LI)) : List AV × Blks := ([(.rints .u8 t.1), (.rints .u8 t.2)], [])
def Faj.res : Bool → AV × Blks
 | u => ((.bool u), [])
def Faj.resK {R : Type} (u : Bool) (K : AV → Blks → Option R) : Option R := K (Faj.res u).1 (Faj.res u).2
def Faj.c (n : Nat) : Abs.Callee := .mk' [] [(some (.ints .u8)), (some (.ints .u8))] Faj.pat (Faj.m n) Faj.resK
end
end
section
noncomputable section
noncomputable def Fad.C (n : Nat) : Ctx := ⟨Tryd.prog, kecG, lookC [(62, Faj.c n)], fun _ => false⟩
noncomputable def Fad.A (n : Nat) : Ann := ⟨Tryd.f77.ntmps, 0, noNL, [], [none], fun k => match k with
 | _ => none, noNL, lookJ []⟩
def Fad.g {α : Type} (mk0 : Bool → α) (n : Nat) (a0 : LI) (a1 : LI) : Option α :=
 if (decide ((((List.length a0) : Nat) : Int) ≥ (((List.length a1) : Nat) : Int))) = true then
  if (((List.length a1) : Nat) : Int) ≤ (((List.length a0) : Nat) : Int) then
   bindO (Faj.m n ((Go.Abs.cut a0 0 (Option.some (Int.toNat (((List.length a1) : Nat) : Int)))), a1)) fun r6 =>
    some (mk0 r6)
  else
   none
 else
  some (mk0 false)
def Fad.m (n : Nat) (t : (LI × LI)) : Option Bool := Fad.g (fun a0 => a0) n t.1 t.2
def Fad.pat : List AV → Blks → Option (LI × LI)
 | [(.rints .u8 a0), (.rints .u8 a1)], [] => some (a0, a1)
 | _, _ => none
def Fad.shape (t : (LI × LI)) : List AV × Blks := ([(.rints .u8 t.1), (.rints .u8 t.2)], [])
def Fad.res : Bool → AV × Blks
 | u => ((.bool u), [])
def Fad.resK {R : Type} (u : Bool) (K : AV → Blks → Option R) : Option R := K (Fad.res u).1 (Fad.res u).2
def Fad.c (n : Nat) : Abs.Callee := .mk' [] [(some (.ints .u8)), (some (.ints .u8))] Fad.pat (Fad.m n) Fad.resK
end
end
section
noncomputable section
noncomputable def Fq.C (n : Nat) : Ctx := ⟨Tryd.prog, kecG, lookC [], fun _ => false⟩
noncomputable def Fq.A (n : Nat) : Ann := ⟨Tryd.f94.ntmps, 0, noNL, [], [none], fun k => match k with
 | _ => none, noNL, lookJ []⟩
def Fq.g {α : Type} (mk0 : Int → α) (n : Nat) (a0 : Int) (a1 : Int) : Option α :=
 if 0 ≤ (IntKind.wrap .u64 (64 - (ibits BinOp.and .u64 (IntKind.wrap .u64 a1) 63))) then
  some (mk0 (ibits BinOp.or .u64 (ishl .u64 a0 (ibits BinOp.and .u64 (IntKind.wrap .u64 a1) 63)) (ishr .u64 a0 (IntKind.wrap .u64 (64 - (ibits BinOp.and .u64 (IntKind.wrap .u64 a1) 63))))))
 else
  none
def Fq.m (n : Nat) (t : (Int × Int)) : Option Int := Fq.g (fun a0 => a0) n t.1 t.2
def Fq.pat : List AV → Blks → Option (Int × Int)
 | [(.int .u64 a0), (.int .i64 a1)], [] => some (a0, a1)
 | _, _ => none
def Fq.shape (t : (Int × Int)) : List AV × Blks := ([(.int .u64 t.1), (.int .i64 t.2)], [])
def Fq.res : Int → AV × Blks
 | u => ((.int .u64 u), [])
def Fq.resK {R : Type} (u : Int) (K : AV → Blks → Option R) : Option R := K (Fq.res u).1 (Fq.res u).2
def Fq.c (n : Nat) : Abs.Callee := .mk' [] [none, none] Fq.pat (Fq.m n) Fq.resK
end
end
section
noncomputable section
noncomputable def Fh.C (n : Nat) : Ctx := ⟨Tryd.prog, kecG, lookC [(94, Fq.c n)], fun _ => false⟩
def Fh.live : NL := fun k => match k with
 | 2 => ([7, 6, 2, 0], [0, 2])
 | 7 => ([21, 0, 2], [])
 | _ => ([], [])
def Fh.l2_0.r {α : Type} (mk0 : LI → LI → α) (n : Nat) (rc : Int → LI → LI → Option α)  (x0 : Int) (x1 : LI) (x2 : LI) : Option α :=
  if (decide (x0 < 25)) = true then
   if 0 ≤ x0 then
    if x0 < 25 then
     if 0 ≤ (Int.tmod x0 5) then
      if (Int.tmod x0 5) < 5 then
       if 0 ≤ (Int.tmod x0 5) then
        if (Int.tmod x0 5) < 5 then
         rc (IntKind.wrap .i64 (x0 + 1)) x1 (List.set x2 (Int.toNat (Int.tmod x0 5)) (ibits BinOp.xor .u64 (List.getD x2 (Int.toNat (Int.tmod x0 5)) 0) (List.getD x1 (Int.toNat x0) 0)))
        else
         none
       else
        none
      else
       none
     else
      none
    else
     none
   else
    none
  else
   some (mk0 x1 x2)
def Fh.l2_0.g {α : Type} (mk0 : LI → LI → α) (n : Nat) : Nat → Int → LI → LI → Option α
 | 0, _, _, _ => none
 | m + 1, x0, x1, x2 => Fh.l2_0.r mk0 n (fun y0 y1 y2 => Fh.l2_0.g mk0 n m y0 y1 y2)  x0 x1 x2
def Fh.l2_0.m (n m : Nat) (t : (Int × (LI × LI))) : Option (LI × LI) := Fh.l2_0.g (fun a0 a1 => (a0, a1)) n m t.1 t.2.1 t.2.2
def Fh.l2_0.pat : St → Option (Int × (LI × LI))
 | (St.mk [(.int .i64 x0), (.ptr 0 []), (.ptr 1 []), (.ptr 0 [])] [(some (.var (.ints .u64 25 x1))), (some (.var (.ints .u64 5 x2)))]) => some (x0, x1, x2)
 | _ => none
def Fh.l2_0.shape (t : (Int × (LI × LI))) : St := (St.mk [(.int .i64 t.1), (.ptr 0 []), (.ptr 1 []), (.ptr 0 [])] [(some (.var (.ints .u64 25 t.2.1))), (some (.var (.ints .u64 5 t.2.2)))])
def Fh.l2_0.res : (LI × LI) → Ex × St
 | u => ((.exit 0), (St.mk [(.ptr 0 []), (.ptr 1 [])] [(some (.var (.ints .u64 25 u.1))), (some (.var (.ints .u64 5 u.2)))]))
def Fh.l2_0.resK {R : Type} (u : (LI × LI)) (K : Ex → St → Option R) : Option R := K (Fh.l2_0.res u).1 (Fh.l2_0.res u).2
def Fh.l7_0.r {α : Type} (mk0 : LI → α) (n : Nat) (rc : Int → LI → LI → Option α)  (x0 : Int) (x1 : LI) (x2 : LI) : Option α :=
  if (decide (x0 < 25)) = true then
   if 0 ≤ x0 then
    if x0 < 25 then
     if 0 ≤ (Int.tmod (IntKind.wrap .i64 (x0 + 4)) 5) then
      if (Int.tmod (IntKind.wrap .i64 (x0 + 4)) 5) < 5 then
       if 0 ≤ (Int.tmod (IntKind.wrap .i64 (x0 + 1)) 5) then
        if (Int.tmod (IntKind.wrap .i64 (x0 + 1)) 5) < 5 then
         bindO (Fq.m n ((List.getD x2 (Int.toNat (Int.tmod (IntKind.wrap .i64 (x0 + 1)) 5)) 0), 1)) fun r18 =>
          if 0 ≤ x0 then
           if x0 < 25 then
            rc (IntKind.wrap .i64 (x0 + 1)) (List.set x1 (Int.toNat x0) (ibits BinOp.xor .u64 (List.getD x1 (Int.toNat x0) 0) (ibits BinOp.xor .u64 (List.getD x2 (Int.toNat (Int.tmod (IntKind.wrap .i64 (x0 + 4)) 5)) 0) r18))) x2
           else
            none
          else
           none
        else
         none
       else
        none
      else
       none
     else
      none
    else
     none
   else
    none
  else
   some (mk0 x1)
def Fh.l7_0.g {α : Type} (mk0 : LI → α) (n : Nat) : Nat → Int → LI → LI → Option α
 | 0, _, _, _ => none
 | m + 1, x0, x1, x2 => Fh.l7_0.r mk0 n (fun y0 y1 y2 => Fh.l7_0.g mk0 n m y0 y1 y2)  x0 x1 x2
def Fh.l7_0.m (n m : Nat) (t : (Int × (LI × LI))) : Option LI := Fh.l7_0.g (fun a0 => a0) n m t.1 t.2.1 t.2.2
def Fh.l7_0.pat : St → Option (Int × (LI × LI))
 | (St.mk [(.int .i64 x0), (.ptr 0 []), (.ptr 1 [])] [(some (.var (.ints .u64 25 x1))), (some (.var (.ints .u64 5 x2)))]) => some (x0, x1, x2)
 | _ => none
def Fh.l7_0.shape (t : (Int × (LI × LI))) : St := (St.mk [(.int .i64 t.1), (.ptr 0 []), (.ptr 1 [])] [(some (.var (.ints .u64 25 t.2.1))), (some (.var (.ints .u64 5 t.2.2)))])
def Fh.l7_0.res : LI → Ex × St
 | u => ((.exit 2), (St.mk [] [(some (.var (.ints .u64 25 u)))]))
def Fh.l7_0.resK {R : Type} (u : LI) (K : Ex → St → Option R) : Option R := K (Fh.l7_0.res u).1 (Fh.l7_0.res u).2
noncomputable def Fh.A (n : Nat) : Ann := ⟨Tryd.f91.ntmps, 1, Fh.live, [], [], fun k => match k with
 | 2 => some (.mk' Fh.l2_0.pat (Fh.l2_0.m n n) Fh.l2_0.resK)
 | 7 => some (.mk' Fh.l7_0.pat (Fh.l7_0.m n n) Fh.l7_0.resK)
 | _ => none, noNL, lookJ []⟩
noncomputable def Fh.b0 : Code := (loopsIn (Tryd.f91.body.getD .skip)).getD 0 .skip
noncomputable def Fh.b1 : Code := (loopsIn (Tryd.f91.body.getD .skip)).getD 1 .skip
def Fh.g {α : Type} (mk0 : LI → α) (n : Nat) (s : LI) : Option α :=
 bindO (Fh.l2_0.m n n (0, s, [0, 0, 0, 0, 0])) fun r2 =>
  bindO (Fh.l7_0.m n n (0, r2.1, r2.2)) fun r4 =>
   some (mk0 r4)
def Fh.m (n : Nat) (t : LI) : Option LI := Fh.g (fun a0 => a0) n t
def Fh.pat : List AV → Blks → Option LI
 | [(.ptr 0 [])], [(some (.var (.ints .u64 25 s)))] => some s
 | _, _ => none
def Fh.shape (t : LI) : List AV × Blks := ([(.ptr 0 [])], [(some (.var (.ints .u64 25 t)))])
def Fh.res : LI → AV × Blks
 | u => ((.tup []), [(some (.var (.ints .u64 25 u)))])
def Fh.resK {R : Type} (u : LI) (K : AV → Blks → Option R) : Option R := K (Fh.res u).1 (Fh.res u).2
def Fh.c (n : Nat) : Abs.Callee := .mk' [true] [none] Fh.pat (Fh.m n) Fh.resK
end
end
section
noncomputable section
noncomputable def Fr.C (n : Nat) : Ctx := ⟨Tryd.prog, kecG, lookC [(94, Fq.c n)], fun _ => false⟩
def Fr.live : NL := fun k => match k with
 | 2 => ([9, 0, 2], [])
 | _ => ([], [])
def Fr.l2_0.r {α : Type} (mk0 : LI → α) (n : Nat) (rc : Int → Int → LI → Option α)  (x0 : Int) (x1 : Int) (x2 : LI) : Option α :=
  if (decide (x0 < 24)) = true then
   if 0 ≤ x0 then
    if x0 < 24 then
     if 0 ≤ (List.getD ([10, 7, 11, 17, 18, 3, 5, 16, 8, 21, 24, 4, 15, 23, 19, 13, 12, 2, 20, 14, 22, 9, 6, 1] : List Int) (Int.toNat x0) 0) then
      if (List.getD ([10, 7, 11, 17, 18, 3, 5, 16, 8, 21, 24, 4, 15, 23, 19, 13, 12, 2, 20, 14, 22, 9, 6, 1] : List Int) (Int.toNat x0) 0) < 25 then
       if 0 ≤ x0 then
        if x0 < 24 then
         if 0 ≤ x0 then
          if x0 < 24 then
           bindO (Fq.m n (x1, (List.getD ([1, 3, 6, 10, 15, 21, 28, 36, 45, 55, 2, 14, 27, 41, 56, 8, 25, 43, 62, 18, 39, 61, 20, 44] : List Int) (Int.toNat x0) 0))) fun r22 =>
            if 0 ≤ (List.getD ([10, 7, 11, 17, 18, 3, 5, 16, 8, 21, 24, 4, 15, 23, 19, 13, 12, 2, 20, 14, 22, 9, 6, 1] : List Int) (Int.toNat x0) 0) then
             if (List.getD ([10, 7, 11, 17, 18, 3, 5, 16, 8, 21, 24, 4, 15, 23, 19, 13, 12, 2, 20, 14, 22, 9, 6, 1] : List Int) (Int.toNat x0) 0) < 25 then
              rc (IntKind.wrap .i64 (x0 + 1)) (List.getD x2 (Int.toNat (List.getD ([10, 7, 11, 17, 18, 3, 5, 16, 8, 21, 24, 4, 15, 23, 19, 13, 12, 2, 20, 14, 22, 9, 6, 1] : List Int) (Int.toNat x0) 0)) 0) (List.set x2 (Int.toNat (List.getD ([10, 7, 11, 17, 18, 3, 5, 16, 8, 21, 24, 4, 15, 23, 19, 13, 12, 2, 20, 14, 22, 9, 6, 1] : List Int) (Int.toNat x0) 0)) r22)
             else
              none
            else
             none
          else
           none
         else
          none
        else
         none
       else
        none
      else
       none
     else
      none
    else
     none
   else
    none
  else
   some (mk0 x2)
def Fr.l2_0.g {α : Type} (mk0 : LI → α) (n : Nat) : Nat → Int → Int → LI → Option α
 | 0, _, _, _ => none
 | m + 1, x0, x1, x2 => Fr.l2_0.r mk0 n (fun y0 y1 y2 => Fr.l2_0.g mk0 n m y0 y1 y2)  x0 x1 x2
def Fr.l2_0.m (n m : Nat) (t : (Int × (Int × LI))) : Option LI := Fr.l2_0.g (fun a0 => a0) n m t.1 t.2.1 t.2.2
def Fr.l2_0.pat : St → Option (Int × (Int × LI))
 | (St.mk [(.int .i64 x0), (.ptr 0 []), (.int .u64 x1)] [(some (.var (.ints .u64 25 x2)))]) => some (x0, x1, x2)
 | _ => none
def Fr.l2_0.shape (t : (Int × (Int × LI))) : St := (St.mk [(.int .i64 t.1), (.ptr 0 []), (.int .u64 t.2.1)] [(some (.var (.ints .u64 25 t.2.2)))])
def Fr.l2_0.res : LI → Ex × St
 | u => ((.exit 0), (St.mk [] [(some (.var (.ints .u64 25 u)))]))
def Fr.l2_0.resK {R : Type} (u : LI) (K : Ex → St → Option R) : Option R := K (Fr.l2_0.res u).1 (Fr.l2_0.res u).2
noncomputable def Fr.A (n : Nat) : Ann := ⟨Tryd.f92.ntmps, 1, Fr.live, [], [], fun k => match k with
 | 2 => some (.mk' Fr.l2_0.pat (Fr.l2_0.m n n) Fr.l2_0.resK)
 | _ => none, noNL, lookJ []⟩
noncomputable def Fr.b0 : Code := (loopsIn (Tryd.f92.body.getD .skip)).getD 0 .skip
def Fr.g {α : Type} (mk0 : LI → α) (n : Nat) (s : LI) : Option α :=
 bindO (Fr.l2_0.m n n (0, (List.getD s 1 0), s)) fun r2 =>
  some (mk0 r2)
def Fr.m (n : Nat) (t : LI) : Option LI := Fr.g (fun a0 => a0) n t
def Fr.pat : List AV → Blks → Option LI
 | [(.ptr 0 [])], [(some (.var (.ints .u64 25 s)))] => some s
 | _, _ => none
def Fr.shape (t : LI) : List AV × Blks := ([(.ptr 0 [])], [(some (.var (.ints .u64 25 t)))])
def Fr.res : LI → AV × Blks
 | u => ((.tup []), [(some (.var (.ints .u64 25 u)))])
def Fr.resK {R : Type} (u : LI) (K : AV → Blks → Option R) : Option R := K (Fr.res u).1 (Fr.res u).2
def Fr.c (n : Nat) : Abs.Callee := .mk' [true] [none] Fr.pat (Fr.m n) Fr.resK
end
end
section
noncomputable section
noncomputable def Fz.C (n : Nat) : Ctx := ⟨Tryd.prog, kecG, lookC [], fun _ => false⟩
def Fz.live : NL := fun k => match k with
 | 1 => ([2, 0], [])
 | 5 => ([17, 0, 2, 3], [2, 0])
 | _ => ([], [])
def Fz.l5_0.r {α : Type} (mk0 : Int → LI → α) (n : Nat) (rc : Int → Int → LI → LI → Option α)  (x0 : Int) (x1 : Int) (x2 : LI) (x3 : LI) : Option α :=
  if (decide (x0 < 5)) = true then
   if 0 ≤ x0 then
    if x0 < 5 then
     if 0 ≤ (Int.tmod (IntKind.wrap .i64 (x0 + 1)) 5) then
      if (Int.tmod (IntKind.wrap .i64 (x0 + 1)) 5) < 5 then
       if 0 ≤ (Int.tmod (IntKind.wrap .i64 (x0 + 2)) 5) then
        if (Int.tmod (IntKind.wrap .i64 (x0 + 2)) 5) < 5 then
         if 0 ≤ (IntKind.wrap .i64 (x1 + x0)) then
          if (IntKind.wrap .i64 (x1 + x0)) < 25 then
           rc (IntKind.wrap .i64 (x0 + 1)) x1 (List.set x2 (Int.toNat (IntKind.wrap .i64 (x1 + x0))) (ibits BinOp.xor .u64 (List.getD x3 (Int.toNat x0) 0) (ibits BinOp.and .u64 (ibits BinOp.xor .u64 (if false = true then (-1) else 18446744073709551615) (List.getD x3 (Int.toNat (Int.tmod (IntKind.wrap .i64 (x0 + 1)) 5)) 0)) (List.getD x3 (Int.toNat (Int.tmod (IntKind.wrap .i64 (x0 + 2)) 5)) 0)))) x3
          else
           none
         else
          none
        else
         none
       else
        none
      else
       none
     else
      none
    else
     none
   else
    none
  else
   some (mk0 x1 x2)
def Fz.l5_0.g {α : Type} (mk0 : Int → LI → α) (n : Nat) : Nat → Int → Int → LI → LI → Option α
 | 0, _, _, _, _ => none
 | m + 1, x0, x1, x2, x3 => Fz.l5_0.r mk0 n (fun y0 y1 y2 y3 => Fz.l5_0.g mk0 n m y0 y1 y2 y3)  x0 x1 x2 x3
def Fz.l5_0.m (n m : Nat) (t : (Int × (Int × (LI × LI)))) : Option (Int × LI) := Fz.l5_0.g (fun a0 a1 => (a0, a1)) n m t.1 t.2.1 t.2.2.1 t.2.2.2
def Fz.l5_0.pat : St → Option (Int × (Int × (LI × LI)))
 | (St.mk [(.int .i64 x0), (.ptr 0 []), (.int .i64 x1), (.ptr 1 [])] [(some (.var (.ints .u64 25 x2))), (some (.var (.ints .u64 5 x3)))]) => some (x0, x1, x2, x3)
 | _ => none
def Fz.l5_0.shape (t : (Int × (Int × (LI × LI)))) : St := (St.mk [(.int .i64 t.1), (.ptr 0 []), (.int .i64 t.2.1), (.ptr 1 [])] [(some (.var (.ints .u64 25 t.2.2.1))), (some (.var (.ints .u64 5 t.2.2.2)))])
def Fz.l5_0.res : (Int × LI) → Ex × St
 | u => ((.exit 2), (St.mk [(.int .i64 u.1), (.ptr 0 [])] [(some (.var (.ints .u64 25 u.2)))]))
def Fz.l5_0.resK {R : Type} (u : (Int × LI)) (K : Ex → St → Option R) : Option R := K (Fz.l5_0.res u).1 (Fz.l5_0.res u).2
def Fz.l1_0.r {α : Type} (mk0 : LI → α) (n : Nat) (rc : Int → LI → Option α)  (x0 : Int) (x1 : LI) : Option α :=
  if (decide (x0 < 25)) = true then
   if 0 ≤ (IntKind.wrap .i64 (x0 + 5)) then
    if (IntKind.wrap .i64 (x0 + 5)) ≤ 25 then
     if 0 ≤ x0 then
      if x0 ≤ (IntKind.wrap .i64 (x0 + 5)) then
       if 5 ≤ (Go.Abs.span 25 (Int.toNat x0) (Option.some (Int.toNat (IntKind.wrap .i64 (x0 + 5))))) then
        bindO (Fz.l5_0.m n n (0, x0, x1, (List.take 5 (List.drop (Int.toNat x0) x1)))) fun r16 =>
         rc (IntKind.wrap .i64 (r16.1 + 5)) r16.2
       else
        none
      else
       none
     else
      none
    else
     none
   else
    none
  else
   some (mk0 x1)
def Fz.l1_0.g {α : Type} (mk0 : LI → α) (n : Nat) : Nat → Int → LI → Option α
 | 0, _, _ => none
 | m + 1, x0, x1 => Fz.l1_0.r mk0 n (fun y0 y1 => Fz.l1_0.g mk0 n m y0 y1)  x0 x1
def Fz.l1_0.m (n m : Nat) (t : (Int × LI)) : Option LI := Fz.l1_0.g (fun a0 => a0) n m t.1 t.2
def Fz.l1_0.pat : St → Option (Int × LI)
 | (St.mk [(.int .i64 x0), (.ptr 0 [])] [(some (.var (.ints .u64 25 x1)))]) => some (x0, x1)
 | _ => none
def Fz.l1_0.shape (t : (Int × LI)) : St := (St.mk [(.int .i64 t.1), (.ptr 0 [])] [(some (.var (.ints .u64 25 t.2)))])
def Fz.l1_0.res : LI → Ex × St
 | u => ((.exit 0), (St.mk [] [(some (.var (.ints .u64 25 u)))]))
def Fz.l1_0.resK {R : Type} (u : LI) (K : Ex → St → Option R) : Option R := K (Fz.l1_0.res u).1 (Fz.l1_0.res u).2
noncomputable def Fz.A (n : Nat) : Ann := ⟨Tryd.f93.ntmps, 1, Fz.live, [], [], fun k => match k with
 | 5 => some (.mk' Fz.l5_0.pat (Fz.l5_0.m n n) Fz.l5_0.resK)
 | 1 => some (.mk' Fz.l1_0.pat (Fz.l1_0.m n n) Fz.l1_0.resK)
 | _ => none, noNL, lookJ []⟩
noncomputable def Fz.b0 : Code := (loopsIn (Tryd.f93.body.getD .skip)).getD 0 .skip
noncomputable def Fz.b1 : Code := (loopsIn (Tryd.f93.body.getD .skip)).getD 1 .skip
def Fz.g {α : Type} (mk0 : LI → α) (n : Nat) (s : LI) : Option α :=
 bindO (Fz.l1_0.m n n (0, s)) fun r2 =>
  some (mk0 r2)
def Fz.m (n : Nat) (t : LI) : Option LI := Fz.g (fun a0 => a0) n t
def Fz.pat : List AV → Blks → Option LI
 | [(.ptr 0 [])], [(some (.var (.ints .u64 25 s)))] => some s
 | _, _ => none
def Fz.shape (t : LI) : List AV × Blks := ([(.ptr 0 [])], [(some (.var (.ints .u64 25 t)))])
def Fz.res : LI → AV × Blks
 | u => ((.tup []), [(some (.var (.ints .u64 25 u)))])
def Fz.resK {R : Type} (u : LI) (K : AV → Blks → Option R) : Option R := K (Fz.res u).1 (Fz.res u).2
def Fz.c (n : Nat) : Abs.Callee := .mk' [true] [none] Fz.pat (Fz.m n) Fz.resK
end
end
section
noncomputable section
noncomputable def Faa.C (n : Nat) : Ctx := ⟨Tryd.prog, kecG, lookC [(91, Fh.c n), (92, Fr.c n), (93, Fz.c n)], fun _ => false⟩
def Faa.live : NL := fun k => match k with
 | 1 => ([3, 0], [])
 | _ => ([], [])
def Faa.l1_0.r {α : Type} (mk0 : LI → α) (n : Nat) (rc : Int → LI → Option α)  (x0 : Int) (x1 : LI) : Option α :=
  if (decide (x0 < 24)) = true then
   bindO (Fh.m n x1) fun r6 =>
    bindO (Fr.m n r6) fun r8 =>
     bindO (Fz.m n r8) fun r10 =>
      if 0 ≤ x0 then
       if x0 < 24 then
        rc (IntKind.wrap .i64 (x0 + 1)) (List.set r10 0 (ibits BinOp.xor .u64 (List.getD r10 0 0) (List.getD ([1, 32898, 9223372036854808714, 9223372039002292224, 32907, 2147483649, 9223372039002292353, 9223372036854808585, 138, 136, 2147516425, 2147483658, 2147516555, 9223372036854775947, 9223372036854808713, 9223372036854808579, 9223372036854808578, 9223372036854775936, 32778, 9223372039002259466, 9223372039002292353, 9223372036854808704, 2147483649, 9223372039002292232] : List Int) (Int.toNat x0) 0)))
       else
        none
      else
       none
  else
   some (mk0 x1)
def Faa.l1_0.g {α : Type} (mk0 : LI → α) (n : Nat) : Nat → Int → LI → Option α
 | 0, _, _ => none
 | m + 1, x0, x1 => Faa.l1_0.r mk0 n (fun y0 y1 => Faa.l1_0.g mk0 n m y0 y1)  x0 x1
def Faa.l1_0.m (n m : Nat) (t : (Int × LI)) : Option LI := Faa.l1_0.g (fun a0 => a0) n m t.1 t.2
def Faa.l1_0.pat : St → Option (Int × LI)
 | (St.mk [(.int .i64 x0), (.ptr 0 [])] [(some (.var (.ints .u64 25 x1)))]) => some (x0, x1)
 | _ => none
def Faa.l1_0.shape (t : (Int × LI)) : St := (St.mk [(.int .i64 t.1), (.ptr 0 [])] [(some (.var (.ints .u64 25 t.2)))])
def Faa.l1_0.res : LI → Ex × St
 | u => ((.exit 0), (St.mk [] [(some (.var (.ints .u64 25 u)))]))
def Faa.l1_0.resK {R : Type} (u : LI) (K : Ex → St → Option R) : Option R := K (Faa.l1_0.res u).1 (Faa.l1_0.res u).2
noncomputable def Faa.A (n : Nat) : Ann := ⟨Tryd.f87.ntmps, 1, Faa.live, [], [], fun k => match k with
 | 1 => some (.mk' Faa.l1_0.pat (Faa.l1_0.m n n) Faa.l1_0.resK)
 | _ => none, noNL, lookJ []⟩
noncomputable def Faa.b0 : Code := (loopsIn (Tryd.f87.body.getD .skip)).getD 0 .skip
def Faa.g {α : Type} (mk0 : LI → α) (n : Nat) (s : LI) : Option α :=
 bindO (Faa.l1_0.m n n (0, s)) fun r2 =>
  some (mk0 r2)
def Faa.m (n : Nat) (t : LI) : Option LI := Faa.g (fun a0 => a0) n t
def Faa.pat : List AV → Blks → Option LI
 | [(.ptr 0 [])], [(some (.var (.ints .u64 25 s)))] => some s
 | _, _ => none
def Faa.shape (t : LI) : List AV × Blks := ([(.ptr 0 [])], [(some (.var (.ints .u64 25 t)))])
def Faa.res : LI → AV × Blks
 | u => ((.tup []), [(some (.var (.ints .u64 25 u)))])
def Faa.resK {R : Type} (u : LI) (K : AV → Blks → Option R) : Option R := K (Faa.res u).1 (Faa.res u).2
def Faa.c (n : Nat) : Abs.Callee := .mk' [true] [none] Faa.pat (Faa.m n) Faa.resK
end
end
section
noncomputable section
noncomputable def Fs.C (n : Nat) : Ctx := ⟨Tryd.prog, kecG, lookC [(87, Faa.c n)], fun _ => false⟩
def Fs.live : NL := fun k => match k with
 | 1 => ([8, 7, 6, 0], [0])
 | _ => ([], [])
def Fs.l1_0.r {α : Type} (mk0 : LI → α) (n : Nat) (rc : Int → Int → LI → LI → Option α)  (x0 : Int) (x1 : Int) (x2 : LI) (x3 : LI) : Option α :=
  if (decide (x0 < x1)) = true then
   if 0 ≤ x0 then
    if x0 < (((List.length x2) : Nat) : Int) then
     if 0 ≤ (IntKind.wrap .i64 (Int.tdiv x0 8)) then
      if (IntKind.wrap .i64 (Int.tdiv x0 8)) < 25 then
       if 0 ≤ (IntKind.wrap .i64 ((Int.tmod x0 8) * 8)) then
        if 0 ≤ (IntKind.wrap .i64 (Int.tdiv x0 8)) then
         if (IntKind.wrap .i64 (Int.tdiv x0 8)) < 25 then
          rc (IntKind.wrap .i64 (x0 + 1)) x1 x2 (List.set x3 (Int.toNat (IntKind.wrap .i64 (Int.tdiv x0 8))) (ibits BinOp.xor .u64 (List.getD x3 (Int.toNat (IntKind.wrap .i64 (Int.tdiv x0 8))) 0) (ishl .u64 (IntKind.wrap .u64 (List.getD x2 (Int.toNat x0) 0)) (IntKind.wrap .i64 ((Int.tmod x0 8) * 8)))))
         else
          none
        else
         none
       else
        none
      else
       none
     else
      none
    else
     none
   else
    none
  else
   some (mk0 x3)
def Fs.l1_0.g {α : Type} (mk0 : LI → α) (n : Nat) : Nat → Int → Int → LI → LI → Option α
 | 0, _, _, _, _ => none
 | m + 1, x0, x1, x2, x3 => Fs.l1_0.r mk0 n (fun y0 y1 y2 y3 => Fs.l1_0.g mk0 n m y0 y1 y2 y3)  x0 x1 x2 x3
def Fs.l1_0.m (n m : Nat) (t : (Int × (Int × (LI × LI)))) : Option LI := Fs.l1_0.g (fun a0 => a0) n m t.1 t.2.1 t.2.2.1 t.2.2.2
def Fs.l1_0.pat : St → Option (Int × (Int × (LI × LI)))
 | (St.mk [(.int .i64 x0), (.int .i64 x1), (.rints .u8 x2), (.ptr 0 [])] [(some (.var (.ints .u64 25 x3)))]) => some (x0, x1, x2, x3)
 | _ => none
def Fs.l1_0.shape (t : (Int × (Int × (LI × LI)))) : St := (St.mk [(.int .i64 t.1), (.int .i64 t.2.1), (.rints .u8 t.2.2.1), (.ptr 0 [])] [(some (.var (.ints .u64 25 t.2.2.2)))])
def Fs.l1_0.res : LI → Ex × St
 | u => ((.exit 0), (St.mk [(.ptr 0 [])] [(some (.var (.ints .u64 25 u)))]))
def Fs.l1_0.resK {R : Type} (u : LI) (K : Ex → St → Option R) : Option R := K (Fs.l1_0.res u).1 (Fs.l1_0.res u).2
noncomputable def Fs.A (n : Nat) : Ann := ⟨Tryd.f83.ntmps, 1, Fs.live, [(6, (.ints .u8))], [], fun k => match k with
 | 1 => some (.mk' Fs.l1_0.pat (Fs.l1_0.m n n) Fs.l1_0.resK)
 | _ => none, noNL, lookJ []⟩
noncomputable def Fs.b0 : Code := (loopsIn (Tryd.f83.body.getD .skip)).getD 0 .skip
def Fs.g {α : Type} (mk0 : LI → α) (n : Nat) (b : LI) (s : LI) : Option α :=
 bindO (Fs.l1_0.m n n (0, (((List.length b) : Nat) : Int), b, s)) fun r2 =>
  bindO (Faa.m n r2) fun r4 =>
   some (mk0 r4)
def Fs.m (n : Nat) (t : (LI × LI)) : Option LI := Fs.g (fun a0 => a0) n t.1 t.2
def Fs.pat : List AV → Blks → Option (LI × LI)
 | [(.ptr 0 []), (.rints .u8 b)], [(some (.var (.ints .u64 25 s)))] => some (b, s)
 | _, _ => none
def Fs.shape (t : (LI × LI)) : List AV × Blks := ([(.ptr 0 []), (.rints .u8 t.1)], [(some (.var (.ints .u64 25 t.2)))])
def Fs.res : LI → AV × Blks
 | u => ((.tup []), [(some (.var (.ints .u64 25 u)))])
def Fs.resK {R : Type} (u : LI) (K : AV → Blks → Option R) : Option R := K (Fs.res u).1 (Fs.res u).2
def Fs.c (n : Nat) : Abs.Callee := .mk' [true, false] [none, (some (.ints .u8))] Fs.pat (Fs.m n) Fs.resK
end
end
section
noncomputable section
noncomputable def Far.C (n : Nat) : Ctx := ⟨Tryd.prog, kecG, lookC [(83, Fs.c n), (72, Fau.c n)], fun _ => false⟩
def Far.live : NL := fun k => match k with
 | 2 => ([0, 3, 2], [0, 3, 2])
 | 12 => ([30, 3, 5, 2], [5, 2])
 | _ => ([], [])
def Far.l2_0.r {α : Type} (mk0 : LI → LI → LI → α) (n : Nat) (rc : LI → LI → LI → Option α)  (x0 : LI) (x1 : LI) (x2 : LI) : Option α :=
  if (decide ((((List.length x0) : Nat) : Int) ≥ 136)) = true then
   if 136 ≤ (((List.length x0) : Nat) : Int) then
    bindO (Fs.m n ((Go.Abs.cut x0 0 (Option.some 136)), x1)) fun r8 =>
     if 136 ≤ (((List.length x0) : Nat) : Int) then
      rc (Go.Abs.cut x0 136 (Option.none)) r8 x2
     else
      none
   else
    none
  else
   some (mk0 x0 x1 x2)
def Far.l2_0.g {α : Type} (mk0 : LI → LI → LI → α) (n : Nat) : Nat → LI → LI → LI → Option α
 | 0, _, _, _ => none
 | m + 1, x0, x1, x2 => Far.l2_0.r mk0 n (fun y0 y1 y2 => Far.l2_0.g mk0 n m y0 y1 y2)  x0 x1 x2
def Far.l2_0.m (n m : Nat) (t : (LI × (LI × LI))) : Option (LI × (LI × LI)) := Far.l2_0.g (fun a0 a1 a2 => (a0, a1, a2)) n m t.1 t.2.1 t.2.2
def Far.l2_0.pat : St → Option (LI × (LI × LI))
 | (St.mk [(.rints .u8 x0), (.ptr 0 []), (.ptr 1 [])] [(some (.var (.ints .u64 25 x1))), (some (.var (.ints .u64 4 x2)))]) => some (x0, x1, x2)
 | _ => none
def Far.l2_0.shape (t : (LI × (LI × LI))) : St := (St.mk [(.rints .u8 t.1), (.ptr 0 []), (.ptr 1 [])] [(some (.var (.ints .u64 25 t.2.1))), (some (.var (.ints .u64 4 t.2.2)))])
def Far.l2_0.res : (LI × (LI × LI)) → Ex × St
 | u => ((.exit 0), (St.mk [(.rints .u8 u.1), (.ptr 0 []), (.ptr 1 [])] [(some (.var (.ints .u64 25 u.2.1))), (some (.var (.ints .u64 4 u.2.2)))]))
def Far.l2_0.resK {R : Type} (u : (LI × (LI × LI))) (K : Ex → St → Option R) : Option R := K (Far.l2_0.res u).1 (Far.l2_0.res u).2
def Far.l12_0.r {α : Type} (mk0 : LI → LI → α) (n : Nat) (rc : Int → LI → LI → LI → Option α)  (x0 : Int) (x1 : LI) (x2 : LI) (x3 : LI) : Option α :=
  if (decide (x0 < 32)) = true then
   if 0 ≤ (IntKind.wrap .i64 (Int.tdiv x0 8)) then
    if (IntKind.wrap .i64 (Int.tdiv x0 8)) < 25 then
     if 0 ≤ (IntKind.wrap .i64 ((Int.tmod x0 8) * 8)) then
      if 0 ≤ x0 then
       if x0 < 32 then
        rc (IntKind.wrap .i64 (x0 + 1)) x1 (List.set x2 (Int.toNat x0) (IntKind.wrap .u8 (ishr .u64 (List.getD x1 (Int.toNat (IntKind.wrap .i64 (Int.tdiv x0 8))) 0) (IntKind.wrap .i64 ((Int.tmod x0 8) * 8))))) x3
       else
        none
      else
       none
     else
      none
    else
     none
   else
    none
  else
   some (mk0 x2 x3)
def Far.l12_0.g {α : Type} (mk0 : LI → LI → α) (n : Nat) : Nat → Int → LI → LI → LI → Option α
 | 0, _, _, _, _ => none
 | m + 1, x0, x1, x2, x3 => Far.l12_0.r mk0 n (fun y0 y1 y2 y3 => Far.l12_0.g mk0 n m y0 y1 y2 y3)  x0 x1 x2 x3
def Far.l12_0.m (n m : Nat) (t : (Int × (LI × (LI × LI)))) : Option (LI × LI) := Far.l12_0.g (fun a0 a1 => (a0, a1)) n m t.1 t.2.1 t.2.2.1 t.2.2.2
def Far.l12_0.pat : St → Option (Int × (LI × (LI × LI)))
 | (St.mk [(.int .i64 x0), (.ptr 0 []), (.ptr 1 []), (.ptr 2 [])] [(some (.var (.ints .u64 25 x1))), (some (.var (.ints .u8 32 x2))), (some (.var (.ints .u64 4 x3)))]) => some (x0, x1, x2, x3)
 | _ => none
def Far.l12_0.shape (t : (Int × (LI × (LI × LI)))) : St := (St.mk [(.int .i64 t.1), (.ptr 0 []), (.ptr 1 []), (.ptr 2 [])] [(some (.var (.ints .u64 25 t.2.1))), (some (.var (.ints .u8 32 t.2.2.1))), (some (.var (.ints .u64 4 t.2.2.2)))])
def Far.l12_0.res : (LI × LI) → Ex × St
 | u => ((.exit 2), (St.mk [(.ptr 0 []), (.ptr 1 [])] [(some (.var (.ints .u8 32 u.1))), (some (.var (.ints .u64 4 u.2)))]))
def Far.l12_0.resK {R : Type} (u : (LI × LI)) (K : Ex → St → Option R) : Option R := K (Far.l12_0.res u).1 (Far.l12_0.res u).2
noncomputable def Far.A (n : Nat) : Ann := ⟨Tryd.f74.ntmps, 0, Far.live, [(0, (.ints .u8))], [none], fun k => match k with
 | 2 => some (.mk' Far.l2_0.pat (Far.l2_0.m n n) Far.l2_0.resK)
 | 12 => some (.mk' Far.l12_0.pat (Far.l12_0.m n n) Far.l12_0.resK)
 | _ => none, noNL, lookJ []⟩
noncomputable def Far.b0 : Code := (loopsIn (Tryd.f74.body.getD .skip)).getD 0 .skip
noncomputable def Far.b1 : Code := (loopsIn (Tryd.f74.body.getD .skip)).getD 1 .skip
def Far.g {α : Type} (mk0 : LI → α) (n : Nat) (a0 : LI) : Option α :=
 bindO (Far.l2_0.m n n (a0, ([0, 0, 0, 0, 0, 0, 0, 0, 0, 0, 0, 0, 0, 0, 0, 0, 0, 0, 0, 0, 0, 0, 0, 0, 0] : List Int), [0, 0, 0, 0])) fun r2 =>
  if (((List.length r2.1) : Nat) : Int) < 136 then
   if (((List.length r2.1) : Nat) : Int) < 136 then
    bindO (Fs.m n ((List.take 136 (List.drop 0 (List.set (List.set ([] ++ ((List.take 136 r2.1) ++ (List.drop (0 + (Min.min (List.length r2.1) 136)) ([0, 0, 0, 0, 0, 0, 0, 0, 0, 0, 0, 0, 0, 0, 0, 0, 0, 0, 0, 0, 0, 0, 0, 0, 0, 0, 0, 0, 0, 0, 0, 0, 0, 0, 0, 0, 0, 0, 0, 0, 0, 0, 0, 0, 0, 0, 0, 0, 0, 0, 0, 0, 0, 0, 0, 0, 0, 0, 0, 0, 0, 0, 0, 0, 0, 0, 0, 0, 0, 0, 0, 0, 0, 0, 0, 0, 0, 0, 0, 0, 0, 0, 0, 0, 0, 0, 0, 0, 0, 0, 0, 0, 0, 0, 0, 0, 0, 0, 0, 0, 0, 0, 0, 0, 0, 0, 0, 0, 0, 0, 0, 0, 0, 0, 0, 0, 0, 0, 0, 0, 0, 0, 0, 0, 0, 0, 0, 0, 0, 0, 0, 0, 0, 0, 0, 0] : List Int)))) (Int.toNat (((List.length r2.1) : Nat) : Int)) (ibits BinOp.xor .u8 (List.getD ([] ++ ((List.take 136 r2.1) ++ (List.drop (0 + (Min.min (List.length r2.1) 136)) ([0, 0, 0, 0, 0, 0, 0, 0, 0, 0, 0, 0, 0, 0, 0, 0, 0, 0, 0, 0, 0, 0, 0, 0, 0, 0, 0, 0, 0, 0, 0, 0, 0, 0, 0, 0, 0, 0, 0, 0, 0, 0, 0, 0, 0, 0, 0, 0, 0, 0, 0, 0, 0, 0, 0, 0, 0, 0, 0, 0, 0, 0, 0, 0, 0, 0, 0, 0, 0, 0, 0, 0, 0, 0, 0, 0, 0, 0, 0, 0, 0, 0, 0, 0, 0, 0, 0, 0, 0, 0, 0, 0, 0, 0, 0, 0, 0, 0, 0, 0, 0, 0, 0, 0, 0, 0, 0, 0, 0, 0, 0, 0, 0, 0, 0, 0, 0, 0, 0, 0, 0, 0, 0, 0, 0, 0, 0, 0, 0, 0, 0, 0, 0, 0, 0, 0] : List Int)))) (Int.toNat (((List.length r2.1) : Nat) : Int)) 0) 1)) 135 (ibits BinOp.xor .u8 (List.getD (List.set ([] ++ ((List.take 136 r2.1) ++ (List.drop (0 + (Min.min (List.length r2.1) 136)) ([0, 0, 0, 0, 0, 0, 0, 0, 0, 0, 0, 0, 0, 0, 0, 0, 0, 0, 0, 0, 0, 0, 0, 0, 0, 0, 0, 0, 0, 0, 0, 0, 0, 0, 0, 0, 0, 0, 0, 0, 0, 0, 0, 0, 0, 0, 0, 0, 0, 0, 0, 0, 0, 0, 0, 0, 0, 0, 0, 0, 0, 0, 0, 0, 0, 0, 0, 0, 0, 0, 0, 0, 0, 0, 0, 0, 0, 0, 0, 0, 0, 0, 0, 0, 0, 0, 0, 0, 0, 0, 0, 0, 0, 0, 0, 0, 0, 0, 0, 0, 0, 0, 0, 0, 0, 0, 0, 0, 0, 0, 0, 0, 0, 0, 0, 0, 0, 0, 0, 0, 0, 0, 0, 0, 0, 0, 0, 0, 0, 0, 0, 0, 0, 0, 0, 0] : List Int)))) (Int.toNat (((List.length r2.1) : Nat) : Int)) (ibits BinOp.xor .u8 (List.getD ([] ++ ((List.take 136 r2.1) ++ (List.drop (0 + (Min.min (List.length r2.1) 136)) ([0, 0, 0, 0, 0, 0, 0, 0, 0, 0, 0, 0, 0, 0, 0, 0, 0, 0, 0, 0, 0, 0, 0, 0, 0, 0, 0, 0, 0, 0, 0, 0, 0, 0, 0, 0, 0, 0, 0, 0, 0, 0, 0, 0, 0, 0, 0, 0, 0, 0, 0, 0, 0, 0, 0, 0, 0, 0, 0, 0, 0, 0, 0, 0, 0, 0, 0, 0, 0, 0, 0, 0, 0, 0, 0, 0, 0, 0, 0, 0, 0, 0, 0, 0, 0, 0, 0, 0, 0, 0, 0, 0, 0, 0, 0, 0, 0, 0, 0, 0, 0, 0, 0, 0, 0, 0, 0, 0, 0, 0, 0, 0, 0, 0, 0, 0, 0, 0, 0, 0, 0, 0, 0, 0, 0, 0, 0, 0, 0, 0, 0, 0, 0, 0, 0, 0] : List Int)))) (Int.toNat (((List.length r2.1) : Nat) : Int)) 0) 1)) 135 0) 128)))), r2.2.1)) fun r8 =>
     bindO (Far.l12_0.m n n (0, r8, ([0, 0, 0, 0, 0, 0, 0, 0, 0, 0, 0, 0, 0, 0, 0, 0, 0, 0, 0, 0, 0, 0, 0, 0, 0, 0, 0, 0, 0, 0, 0, 0] : List Int), r2.2.2)) fun r10 =>
      bindO (Fau.m n (List.take 32 (List.drop 0 r10.1))) fun r12 =>
       some (mk0 r12)
   else
    none
  else
   none
def Far.m (n : Nat) (t : LI) : Option LI := Far.g (fun a0 => a0) n t
def Far.pat : List AV → Blks → Option LI
 | [(.rints .u8 a0)], [] => some a0
 | _, _ => none
def Far.shape (t : LI) : List AV × Blks := ([(.rints .u8 t)], [])
def Far.res : LI → AV × Blks
 | u => ((.ints .u64 4 u), [])
def Far.resK {R : Type} (u : LI) (K : AV → Blks → Option R) : Option R := K (Far.res u).1 (Far.res u).2
def Far.c (n : Nat) : Abs.Callee := .mk' [] [(some (.ints .u8))] Far.pat (Far.m n) Far.resK
end
end
section
noncomputable section
noncomputable def Fah.C (n : Nat) : Ctx := ⟨Tryd.prog, kecG, lookC [(74, Far.c n), (73, Fao.c n)], fun _ => false⟩
noncomputable def Fah.A (n : Nat) : Ann := ⟨Tryd.f63.ntmps, 0, noNL, [], [(some (.ints .u8))], fun k => match k with
 | _ => none, noNL, lookJ []⟩
def Fah.g {α : Type} (mk0 : LI → α) (n : Nat) (a0 : ByteArray) : Option α :=
 bindO (Far.m n (Go.Abs.bytesOf a0)) fun r2 =>
  bindO (Fao.m n r2) fun r4 =>
   if 4 ≤ (((List.length r4) : Nat) : Int) then
    some (mk0 (Go.Abs.partL r4 0 (Go.Abs.span (List.length r4) 0 (Option.some 4))))
   else
    none
def Fah.m (n : Nat) (t : ByteArray) : Option LI := Fah.g (fun a0 => a0) n t
def Fah.pat : List AV → Blks → Option ByteArray
 | [(.str a0)], [] => some a0
 | _, _ => none
def Fah.shape (t : ByteArray) : List AV × Blks := ([(.str t)], [])
def Fah.res : LI → AV × Blks
 | u => ((.own 0 1), [(some (.ints .u8 u))])
def Fah.resK {R : Type} (u : LI) (K : AV → Blks → Option R) : Option R := K (Fah.res u).1 (Fah.res u).2
def Fah.c (n : Nat) : Abs.Callee := .mk' [] [none] Fah.pat (Fah.m n) Fah.resK
end
end
section
noncomputable section
noncomputable def Fae.C (n : Nat) : Ctx := ⟨Tryd.prog, kecG, lookC [(77, Fad.c n), (46, Fba.c n), (56, Fap.c n)], fun _ => false⟩
noncomputable def Fae.A (n : Nat) : Ann := ⟨Tryd.f76.ntmps, 0, noNL, [], [none], fun k => match k with
 | _ => none, noNL, lookJ []⟩
def Fae.g {α : Type} (mk0 : Bool → α) (n : Nat) (op : Int) (dp : Int) (se : LI) (ar : LI) (va : LI) (da : LI) (fa : Int) (o : LI) (s : LI) : Option α :=
 if (op != 32) = true then
  some (mk0 false)
 else
  if (fa != 0) = true then
   some (mk0 false)
  else
   bindO (Fad.m n (da, o)) fun r6 =>
    if (!r6) = true then
     some (mk0 false)
    else
     bindO (Fba.m n (s, va)) fun r10 =>
      bindO (Fap.m n r10.1) fun r12 =>
       if r12.2 = true then
        some (mk0 (decide (r12.1 ≤ 128)))
       else
        some (mk0 false)
def Fae.m (n : Nat) (t : Ty14) : Option Bool := Fae.g (fun a0 => a0) n t.1 t.2.1 t.2.2.1 t.2.2.2.1 t.w.1 t.w.2.1 t.w.2.2.1 t.w.2.2.2.1 t.x
def Fae.pat : List AV → Blks → Option Ty14
 | [(.agg [(.int .u8 op), (.int .i64 dp), (.ints .u8 20 se), (.ints .u64 4 ar), (.ints .u64 4 va), (.rints .u8 da), (.int .u16 fa)]), (.rptr (.rints .u8 o)), (.rptr (.ints .u64 4 s))], [] => some (op, dp, se, ar, va, da, fa, o, s)
 | _, _ => none
def Fae.shape (t : Ty14) : List AV × Blks := ([(.agg [(.int .u8 t.1), (.int .i64 t.2.1), (.ints .u8 20 t.2.2.1), (.ints .u64 4 t.2.2.2.1), (.ints .u64 4 t.w.1), (.rints .u8 t.w.2.1), (.int .u16 t.w.2.2.1)]), (.rptr (.rints .u8 t.w.2.2.2.1)), (.rptr (.ints .u64 4 t.x))], [])
def Fae.res : Bool → AV × Blks
 | u => ((.bool u), [])
def Fae.resK {R : Type} (u : Bool) (K : AV → Blks → Option R) : Option R := K (Fae.res u).1 (Fae.res u).2
def Fae.c (n : Nat) : Abs.Callee := .mk' [] [(some (.agg [none, none, none, none, none, (some (.ints .u8)), none]))] Fae.pat (Fae.m n) Fae.resK
end
end
section
noncomputable section
noncomputable def Fi.C (n : Nat) : Ctx := ⟨Tryd.prog, kecG, lookC [], fun _ => false⟩
noncomputable def Fi.A (n : Nat) : Ann := ⟨Tryd.f54.ntmps, 0, noNL, [], [none], fun k => match k with
 | _ => none, noNL, lookJ []⟩
def Fi.g {α : Type} (mk0 : Bool → α) (n : Nat) (a0_0 : Int) (a0_1 : Int) (a0_2 : LI) (a0_3 : LI) (a0_4 : LI) (a0_5 : LI) (a0_6 : Int) : Option α :=
 if (a0_0 == 245) = true then
  some (mk0 (a0_6 == 0))
 else
  some (mk0 false)
def Fi.m (n : Nat) (t : Ty16) : Option Bool := Fi.g (fun a0 => a0) n t.1 t.2.1 t.2.2.1 t.2.2.2.1 t.w.1 t.w.2.1 t.w.2.2
def Fi.pat : List AV → Blks → Option Ty16
 | [(.agg [(.int .u8 a0_0), (.int .i64 a0_1), (.ints .u8 20 a0_2), (.ints .u64 4 a0_3), (.ints .u64 4 a0_4), (.rints .u8 a0_5), (.int .u16 a0_6)])], [] => some (a0_0, a0_1, a0_2, a0_3, a0_4, a0_5, a0_6)
 | _, _ => none
def Fi.shape (t : Ty16) : List AV × Blks := ([(.agg [(.int .u8 t.1), (.int .i64 t.2.1), (.ints .u8 20 t.2.2.1), (.ints .u64 4 t.2.2.2.1), (.ints .u64 4 t.w.1), (.rints .u8 t.w.2.1), (.int .u16 t.w.2.2)])], [])
def Fi.res : Bool → AV × Blks
 | u => ((.bool u), [])
def Fi.resK {R : Type} (u : Bool) (K : AV → Blks → Option R) : Option R := K (Fi.res u).1 (Fi.res u).2
def Fi.c (n : Nat) : Abs.Callee := .mk' [] [(some (.agg [none, none, none, none, none, (some (.ints .u8)), none]))] Fi.pat (Fi.m n) Fi.resK
end
end
section
noncomputable section
noncomputable def Fc.C (n : Nat) : Ctx := ⟨Tryd.prog, kecG, lookC [(54, Fi.c n), (76, Fae.c n)], fun _ => false⟩
def Fc.live : NL := fun k => match k with
 | 2 => ([8, 7, 1, 0], [4])
 | _ => ([], [])
def Fc.l2_0.r {α : Type} (mk0 : Int → α) (mk1 : α) (n : Nat) (rc : Int → Int → LA → Option α)  (x0 : Int) (x1 : Int) (x2 : LA) : Option α :=
  if (decide (x0 < x1)) = true then
   if 0 ≤ x0 then
    if x0 < (((List.length x2) : Nat) : Int) then
     bindO (tkAgg 7 (List.getD x2 (Int.toNat x0) AV.any)) fun r10 =>
      bindO (tkInt .u8 (List.getD r10 0 AV.any)) fun r12 =>
       bindO (tkInt .i64 (List.getD r10 1 AV.any)) fun r14 =>
        bindO (tkInts .u8 20 (List.getD r10 2 AV.any)) fun r16 =>
         bindO (tkInts .u64 4 (List.getD r10 3 AV.any)) fun r18 =>
          bindO (tkInts .u64 4 (List.getD r10 4 AV.any)) fun r20 =>
           bindO (tkRints .u8 (List.getD r10 5 AV.any)) fun r22 =>
            bindO (tkInt .u16 (List.getD r10 6 AV.any)) fun r24 =>
             bindO (Fi.m n (r12, r14, r16, r18, r20, r22, r24)) fun r26 =>
              if r26 = true then
               some (mk0 x0)
              else
               rc (IntKind.wrap .i64 (x0 + 1)) x1 x2
    else
     none
   else
    none
  else
   some (mk1)
def Fc.l2_0.g {α : Type} (mk0 : Int → α) (mk1 : α) (n : Nat) : Nat → Int → Int → LA → Option α
 | 0, _, _, _ => none
 | m + 1, x0, x1, x2 => Fc.l2_0.r mk0 mk1 n (fun y0 y1 y2 => Fc.l2_0.g mk0 mk1 n m y0 y1 y2)  x0 x1 x2
def Fc.l2_0.m (n m : Nat) (t : (Int × (Int × LA))) : Option (Int ⊕ Unit) := Fc.l2_0.g (fun a0 => (.inl a0)) (.inr ()) n m t.1 t.2.1 t.2.2
def Fc.l2_0.pat : St → Option (Int × (Int × LA))
 | (St.mk [(.int .i64 x0), (.int .i64 x1), (.fn (.func 54) [] []), (.robjs 47 32 x2)] []) => some (x0, x1, x2)
 | _ => none
def Fc.l2_0.shape (t : (Int × (Int × LA))) : St := (St.mk [(.int .i64 t.1), (.int .i64 t.2.1), (.fn (.func 54) [] []), (.robjs 47 32 t.2.2)] [])
def Fc.l2_0.res : (Int ⊕ Unit) → Ex × St
 | (.inl u) => (.ret, (St.mk [(.int .i64 u)] []))
 | (.inr u) => ((.exit 0), (St.mk [.any] []))
def Fc.l2_0.resK {R : Type} (u : (Int ⊕ Unit)) (K : Ex → St → Option R) : Option R := match u with
 | (.inl u) => (fun p : Ex × St => K p.1 p.2) (.ret, (St.mk [(.int .i64 u)] []))
 | (.inr u) => (fun p : Ex × St => K p.1 p.2) ((.exit 0), (St.mk [.any] []))
noncomputable def Fc.A (n : Nat) : Ann := ⟨Tryd.f53.ntmps, 0, Fc.live, [(0, (.objs 47 32))], [none], fun k => match k with
 | 2 => some (.mk' Fc.l2_0.pat (Fc.l2_0.m n n) Fc.l2_0.resK)
 | _ => none, noNL, lookJ []⟩
noncomputable def Fc.b0 : Code := (loopsIn (Tryd.f53.body.getD .skip)).getD 0 .skip
def Fc.g {α : Type} (mk0 : Int → α) (n : Nat) (l : LA) : Option α :=
 bindO (Fc.l2_0.m n n (0, (((List.length l) : Nat) : Int), l)) fun r2 => match r2 with
  | (.inl r2) =>
   some (mk0 r2)
  | (.inr r2) =>
   some (mk0 (-1))
def Fc.m (n : Nat) (t : LA) : Option Int := Fc.g (fun a0 => a0) n t
def Fc.pat : List AV → Blks → Option LA
 | [(.robjs 47 32 l), (.fn (.func 54) [] [])], [] => some l
 | _, _ => none
def Fc.shape (t : LA) : List AV × Blks := ([(.robjs 47 32 t), (.fn (.func 54) [] [])], [])
def Fc.res : Int → AV × Blks
 | u => ((.int .i64 u), [])
def Fc.resK {R : Type} (u : Int) (K : AV → Blks → Option R) : Option R := K (Fc.res u).1 (Fc.res u).2
def Fc.c (n : Nat) : Abs.Callee := .mk' [] [(some (.objs 47 32)), none] Fc.pat (Fc.m n) Fc.resK
end
end
section
noncomputable section
noncomputable def Fd.C (n : Nat) : Ctx := ⟨Tryd.prog, kecG, lookC [(54, Fi.c n), (76, Fae.c n)], fun _ => false⟩
def Fd.live : NL := fun k => match k with
 | 2 => ([8, 7, 1, 0], [4])
 | _ => ([], [])
def Fd.l2_0.r {α : Type} (mk0 : Int → α) (mk1 : α) (n : Nat) (rc : Int → Int → LI → LI → LA → Option α)  (x0 : Int) (x1 : Int) (x2 : LI) (x3 : LI) (x4 : LA) : Option α :=
  if (decide (x0 < x1)) = true then
   if 0 ≤ x0 then
    if x0 < (((List.length x4) : Nat) : Int) then
     bindO (tkAgg 7 (List.getD x4 (Int.toNat x0) AV.any)) fun r10 =>
      bindO (tkInt .u8 (List.getD r10 0 AV.any)) fun r12 =>
       bindO (tkInt .i64 (List.getD r10 1 AV.any)) fun r14 =>
        bindO (tkInts .u8 20 (List.getD r10 2 AV.any)) fun r16 =>
         bindO (tkInts .u64 4 (List.getD r10 3 AV.any)) fun r18 =>
          bindO (tkInts .u64 4 (List.getD r10 4 AV.any)) fun r20 =>
           bindO (tkRints .u8 (List.getD r10 5 AV.any)) fun r22 =>
            bindO (tkInt .u16 (List.getD r10 6 AV.any)) fun r24 =>
             bindO (Fae.m n (r12, r14, r16, r18, r20, r22, r24, x2, x3)) fun r26 =>
              if r26 = true then
               some (mk0 x0)
              else
               rc (IntKind.wrap .i64 (x0 + 1)) x1 x2 x3 x4
    else
     none
   else
    none
  else
   some (mk1)
def Fd.l2_0.g {α : Type} (mk0 : Int → α) (mk1 : α) (n : Nat) : Nat → Int → Int → LI → LI → LA → Option α
 | 0, _, _, _, _, _ => none
 | m + 1, x0, x1, x2, x3, x4 => Fd.l2_0.r mk0 mk1 n (fun y0 y1 y2 y3 y4 => Fd.l2_0.g mk0 mk1 n m y0 y1 y2 y3 y4)  x0 x1 x2 x3 x4
def Fd.l2_0.m (n m : Nat) (t : (Int × (Int × (LI × (LI × LA))))) : Option (Int ⊕ Unit) := Fd.l2_0.g (fun a0 => (.inl a0)) (.inr ()) n m t.1 t.2.1 t.2.2.1 t.2.2.2.1 t.w
def Fd.l2_0.pat : St → Option (Int × (Int × (LI × (LI × LA))))
 | (St.mk [(.int .i64 x0), (.int .i64 x1), (.fn (.func 76) [] [(.rptr (.rints .u8 x2)), (.rptr (.ints .u64 4 x3))]), (.robjs 47 32 x4)] []) => some (x0, x1, x2, x3, x4)
 | _ => none
def Fd.l2_0.shape (t : (Int × (Int × (LI × (LI × LA))))) : St := (St.mk [(.int .i64 t.1), (.int .i64 t.2.1), (.fn (.func 76) [] [(.rptr (.rints .u8 t.2.2.1)), (.rptr (.ints .u64 4 t.2.2.2.1))]), (.robjs 47 32 t.w)] [])
def Fd.l2_0.res : (Int ⊕ Unit) → Ex × St
 | (.inl u) => (.ret, (St.mk [(.int .i64 u)] []))
 | (.inr u) => ((.exit 0), (St.mk [.any] []))
def Fd.l2_0.resK {R : Type} (u : (Int ⊕ Unit)) (K : Ex → St → Option R) : Option R := match u with
 | (.inl u) => (fun p : Ex × St => K p.1 p.2) (.ret, (St.mk [(.int .i64 u)] []))
 | (.inr u) => (fun p : Ex × St => K p.1 p.2) ((.exit 0), (St.mk [.any] []))
noncomputable def Fd.A (n : Nat) : Ann := ⟨Tryd.f53.ntmps, 0, Fd.live, [(0, (.objs 47 32))], [none], fun k => match k with
 | 2 => some (.mk' Fd.l2_0.pat (Fd.l2_0.m n n) Fd.l2_0.resK)
 | _ => none, noNL, lookJ []⟩
noncomputable def Fd.b0 : Code := (loopsIn (Tryd.f53.body.getD .skip)).getD 0 .skip
def Fd.g {α : Type} (mk0 : Int → α) (n : Nat) (l : LA) (o : LI) (s : LI) : Option α :=
 bindO (Fd.l2_0.m n n (0, (((List.length l) : Nat) : Int), o, s, l)) fun r2 => match r2 with
  | (.inl r2) =>
   some (mk0 r2)
  | (.inr r2) =>
   some (mk0 (-1))
def Fd.m (n : Nat) (t : (LA × (LI × LI))) : Option Int := Fd.g (fun a0 => a0) n t.1 t.2.1 t.2.2
def Fd.pat : List AV → Blks → Option (LA × (LI × LI))
 | [(.robjs 47 32 l), (.fn (.func 76) [] [(.rptr (.rints .u8 o)), (.rptr (.ints .u64 4 s))])], [] => some (l, o, s)
 | _, _ => none
def Fd.shape (t : (LA × (LI × LI))) : List AV × Blks := ([(.robjs 47 32 t.1), (.fn (.func 76) [] [(.rptr (.rints .u8 t.2.1)), (.rptr (.ints .u64 4 t.2.2))])], [])
def Fd.res : Int → AV × Blks
 | u => ((.int .i64 u), [])
def Fd.resK {R : Type} (u : Int) (K : AV → Blks → Option R) : Option R := K (Fd.res u).1 (Fd.res u).2
def Fd.c (n : Nat) : Abs.Callee := .mk' [] [(some (.objs 47 32)), none] Fd.pat (Fd.m n) Fd.resK
end
end
section
noncomputable section
def zslicesIndexFuncquaestorapiEventquaestorapiEvent.c (n : Nat) : Abs.Callee := .pick (fun args => match args with | [_, .fn (.func 54) _ _] => true | _ => false) (Fc.c n) (Fd.c n)
end
end
section
noncomputable section
noncomputable def Fb.C (n : Nat) : Ctx := ⟨Tryd.prog, kecG, lookC [(53, zslicesIndexFuncquaestorapiEventquaestorapiEvent.c n), (76, Fae.c n)], fun _ => false⟩
noncomputable def Fb.A (n : Nat) : Ann := ⟨Tryd.f75.ntmps, 0, noNL, [], [none], fun k => match k with
 | _ => none, noNL, lookJ []⟩
def Fb.g {α : Type} (mk0 : Bool → α) (n : Nat) (l : LA) (o : LI) (s : LI) : Option α :=
 bindO (Fd.m n (l, o, s)) fun r2 =>
  some (mk0 (decide (r2 ≥ 0)))
def Fb.m (n : Nat) (t : (LA × (LI × LI))) : Option Bool := Fb.g (fun a0 => a0) n t.1 t.2.1 t.2.2
def Fb.pat : List AV → Blks → Option (LA × (LI × LI))
 | [(.robjs 47 32 l), (.fn (.func 76) [] [(.rptr (.rints .u8 o)), (.rptr (.ints .u64 4 s))])], [] => some (l, o, s)
 | _, _ => none
def Fb.shape (t : (LA × (LI × LI))) : List AV × Blks := ([(.robjs 47 32 t.1), (.fn (.func 76) [] [(.rptr (.rints .u8 t.2.1)), (.rptr (.ints .u64 4 t.2.2))])], [])
def Fb.res : Bool → AV × Blks
 | u => ((.bool u), [])
def Fb.resK {R : Type} (u : Bool) (K : AV → Blks → Option R) : Option R := K (Fb.res u).1 (Fb.res u).2
def Fb.c (n : Nat) : Abs.Callee := .mk' [] [(some (.objs 47 32)), none] Fb.pat (Fb.m n) Fb.resK
end
end
section
noncomputable section
noncomputable def Faf.C (n : Nat) : Ctx := ⟨Tryd.prog, kecG, lookC [(57, Fav.c n), (73, Fao.c n), (76, Fae.c n), (75, Fb.c n)], fun t => t == 2000073⟩
noncomputable def Faf.A (n : Nat) : Ann := ⟨Tryd.f64.ntmps, 0, noNL, [], [none], fun k => match k with
 | _ => none, noNL, lookJ []⟩
def Faf.g {α : Type} (mk0 : Bool → α) (n : Nat) (a0 : LA) (a1 : LI) (a2 : LI) : Option α :=
 bindO (Fav.m n a1) fun r2 =>
  bindO (Fao.m n r2) fun r4 =>
   bindO (Fav.m n a1) fun r6 =>
    if (a2 == r6) = true then
     some (mk0 true)
    else
     bindO (Fb.m n (a0, r4, a2)) fun r10 =>
      some (mk0 r10)
def Faf.m (n : Nat) (t : (LA × (LI × LI))) : Option Bool := Faf.g (fun a0 => a0) n t.1 t.2.1 t.2.2
def Faf.pat : List AV → Blks → Option (LA × (LI × LI))
 | [(.robjs 47 32 a0), (.ints .u8 20 a1), (.ints .u64 4 a2)], [] => some (a0, a1, a2)
 | _, _ => none
def Faf.shape (t : (LA × (LI × LI))) : List AV × Blks := ([(.robjs 47 32 t.1), (.ints .u8 20 t.2.1), (.ints .u64 4 t.2.2)], [])
def Faf.res : Bool → AV × Blks
 | u => ((.bool u), [])
def Faf.resK {R : Type} (u : Bool) (K : AV → Blks → Option R) : Option R := K (Faf.res u).1 (Faf.res u).2
def Faf.c (n : Nat) : Abs.Callee := .mk' [] [(some (.objs 47 32)), none, none] Faf.pat (Faf.m n) Faf.resK
end
end
section
noncomputable section
noncomputable def Ff.C (n : Nat) : Ctx := ⟨Tryd.prog, kecG, lookC [], fun _ => false⟩
noncomputable def Ff.A (n : Nat) : Ann := ⟨Tryd.f35.ntmps, 2, noNL, [], [(some (.agg []))], fun k => match k with
 | _ => none, noNL, lookJ []⟩
def Ff.g {α : Type} (mk0 : LI → α) (n : Nat) (r : Int) (b : Bool) (l : LI) : Option α :=
 if b = true then
  if ((((List.length l) + 1) * 1) ≤ 70368744177664 ∧ ((List.length l) + 1) ≤ 9223372036854775807) then
   some (mk0 (l ++ [r]))
  else
   none
 else
  some (mk0 l)
def Ff.m (n : Nat) (t : (Int × (Bool × LI))) : Option LI := Ff.g (fun a0 => a0) n t.1 t.2.1 t.2.2
def Ff.pat : List AV → Blks → Option (Int × (Bool × LI))
 | [(.int .u8 r), (.bool b), (.ptr 0 [])], [(some (.var (.own 1 1))), (some (.ints .u8 l))] => some (r, b, l)
 | _, _ => none
def Ff.shape (t : (Int × (Bool × LI))) : List AV × Blks := ([(.int .u8 t.1), (.bool t.2.1), (.ptr 0 [])], [(some (.var (.own 1 1))), (some (.ints .u8 t.2.2))])
def Ff.res : LI → AV × Blks
 | u => ((.tup []), [(some (.var (.own 2 1))), none, (some (.ints .u8 u))])
def Ff.resK {R : Type} (u : LI) (K : AV → Blks → Option R) : Option R := K (Ff.res u).1 (Ff.res u).2
def Ff.c (n : Nat) : Abs.Callee := .mk' [false, false, true] [none, none] Ff.pat (Ff.m n) Ff.resK
end
end
section
noncomputable section
noncomputable def Fj.C (n : Nat) : Ctx := ⟨Tryd.prog, kecG, lookC [], fun _ => false⟩
noncomputable def Fj.A (n : Nat) : Ann := ⟨Tryd.f36.ntmps, 0, noNL, [], [none], fun k => match k with
 | _ => none, noNL, lookJ []⟩
def Fj.g {α : Type} (mk0 : Bool → α) (n : Nat) (a0_0_0 : Int) (a0_0_1 : Int) (a0_0_2 : LI) (a0_0_3 : LI) (a0_0_4 : LI) (a0_0_5 : LI) (a0_0_6 : Int) (a0_1_0_0 : LA) (a0_1_0_1 : LA) (a0_1_0_6 : Int) (a0_1_0_10 : Int) (a0_1_1_0 : LI) (a0_1_1_1 : LI) (a0_1_1_2 : Bool) (a0_1_1_3 : LI) (a0_1_1_4 : LI) (a0_1_1_5 : LI) (a0_1_1_6 : Int) (a0_1_1_7 : Int) (a0_1_1_8 : Int) (a0_1_1_9 : LI) (a0_1_1_10 : LI) (a0_1_1_11 : Bool) (a0_1_1_12 : LI) (a0_1_1_13 : Int) (a0_1_1_14 : Int) (a0_1_1_15 : LI) (a0_1_1_16 : LI) (a0_1_2 : Int) (a0_1_3 : Bool) (a0_1_4 : Bool) (a0_1_5 : LA) (a0_2 : Int) : Option α :=
 if (a0_0_0 == 50) = true then
  some (mk0 true)
 else
  if (a0_0_0 == 58) = true then
   some (mk0 true)
  else
   if (a0_0_0 == 64) = true then
    some (mk0 true)
   else
    if (a0_0_0 == 65) = true then
     some (mk0 true)
    else
     if (a0_0_0 == 66) = true then
      some (mk0 true)
     else
      if (a0_0_0 == 67) = true then
       some (mk0 true)
      else
       if (a0_0_0 == 68) = true then
        some (mk0 true)
       else
        if (a0_0_0 == 69) = true then
         some (mk0 true)
        else
         if (a0_0_0 == 72) = true then
          some (mk0 true)
         else
          if (a0_0_0 == 255) = true then
           some (mk0 true)
          else
           if (a0_0_0 == 49) = true then
            some (mk0 (!a0_1_3))
           else
            if (a0_0_0 == 71) = true then
             some (mk0 (!a0_1_3))
            else
             some (mk0 false)
def Fj.m (n : Nat) (t : Ty4) : Option Bool := Fj.g (fun a0 => a0) n t.1 t.2.1 t.2.2.1 t.2.2.2.1 t.w.1 t.w.2.1 t.w.2.2.1 t.w.2.2.2.1 t.x.1 t.x.2.1 t.x.2.2.1 t.x.2.2.2.1 t.x.w.1 t.x.w.2.1 t.x.w.2.2.1 t.x.w.2.2.2.1 t.y.1 t.y.2.1 t.y.2.2.1 t.y.2.2.2.1 t.y.w.1 t.y.w.2.1 t.y.w.2.2.1 t.y.w.2.2.2.1 t.y.x.1 t.y.x.2.1 t.y.x.2.2.1 t.y.x.2.2.2.1 t.y.x.w.1 t.y.x.w.2.1 t.y.x.w.2.2.1 t.y.x.w.2.2.2.1 t.y.y
def Fj.pat : List AV → Blks → Option Ty4
 | [(.agg [(.agg [(.int .u8 a0_0_0), (.int .i64 a0_0_1), (.ints .u8 20 a0_0_2), (.ints .u64 4 a0_0_3), (.ints .u64 4 a0_0_4), (.rints .u8 a0_0_5), (.int .u16 a0_0_6)]), (.rptr (.agg [(.rptr (.agg [(.rmap a0_1_0_0), (.rmap a0_1_0_1), (.rmap []), (.rmap []), (.rmap []), (.rmap []), (.int .i64 a0_1_0_6), .snil, .snil, .snil, (.int .i64 a0_1_0_10)])), (.agg [(.ints .u8 20 a0_1_1_0), (.ints .u64 4 a0_1_1_1), (.bool a0_1_1_2), (.ints .u8 20 a0_1_1_3), (.rints .u8 a0_1_1_4), (.rints .u8 a0_1_1_5), (.int .u64 a0_1_1_6), (.int .u64 a0_1_1_7), (.int .u64 a0_1_1_8), (.ints .u64 4 a0_1_1_9), (.ints .u64 4 a0_1_1_10), (.bool a0_1_1_11), (.ints .u8 20 a0_1_1_12), (.int .u64 a0_1_1_13), (.int .u64 a0_1_1_14), (.rints .u8 a0_1_1_15), (.rints .u8 a0_1_1_16)]), (.int .u8 a0_1_2), (.bool a0_1_3), (.bool a0_1_4), (.robjs 47 32 a0_1_5)])), (.int .i64 a0_2)])], [] => some (a0_0_0, a0_0_1, a0_0_2, a0_0_3, a0_0_4, a0_0_5, a0_0_6, a0_1_0_0, a0_1_0_1, a0_1_0_6, a0_1_0_10, a0_1_1_0, a0_1_1_1, a0_1_1_2, a0_1_1_3, a0_1_1_4, a0_1_1_5, a0_1_1_6, a0_1_1_7, a0_1_1_8, a0_1_1_9, a0_1_1_10, a0_1_1_11, a0_1_1_12, a0_1_1_13, a0_1_1_14, a0_1_1_15, a0_1_1_16, a0_1_2, a0_1_3, a0_1_4, a0_1_5, a0_2)
 | _, _ => none
def Fj.shape (t : Ty4) : List AV × Blks := ([(.agg [(.agg [(.int .u8 t.1), (.int .i64 t.2.1), (.ints .u8 20 t.2.2.1), (.ints .u64 4 t.2.2.2.1), (.ints .u64 4 t.w.1), (.rints .u8 t.w.2.1), (.int .u16 t.w.2.2.1)]), (.rptr (.agg [(.rptr (.agg [(.rmap t.w.2.2.2.1), (.rmap t.x.1), (.rmap []), (.rmap []), (.rmap []), (.rmap []), (.int .i64 t.x.2.1), .snil, .snil, .snil, (.int .i64 t.x.2.2.1)])), (.agg [(.ints .u8 20 t.x.2.2.2.1), (.ints .u64 4 t.x.w.1), (.bool t.x.w.2.1), (.ints .u8 20 t.x.w.2.2.1), (.rints .u8 t.x.w.2.2.2.1), (.rints .u8 t.y.1), (.int .u64 t.y.2.1), (.int .u64 t.y.2.2.1), (.int .u64 t.y.2.2.2.1), (.ints .u64 4 t.y.w.1), (.ints .u64 4 t.y.w.2.1), (.bool t.y.w.2.2.1), (.ints .u8 20 t.y.w.2.2.2.1), (.int .u64 t.y.x.1), (.int .u64 t.y.x.2.1), (.rints .u8 t.y.x.2.2.1), (.rints .u8 t.y.x.2.2.2.1)]), (.int .u8 t.y.x.w.1), (.bool t.y.x.w.2.1), (.bool t.y.x.w.2.2.1), (.robjs 47 32 t.y.x.w.2.2.2.1)])), (.int .i64 t.y.y)])], [])
def Fj.res : Bool → AV × Blks
 | u => ((.bool u), [])
def Fj.resK {R : Type} (u : Bool) (K : AV → Blks → Option R) : Option R := K (Fj.res u).1 (Fj.res u).2
def Fj.c (n : Nat) : Abs.Callee := .mk' [] [none] Fj.pat (Fj.m n) Fj.resK
end
end
section
noncomputable section
noncomputable def Fk.C (n : Nat) : Ctx := ⟨Tryd.prog, kecG, lookC [], fun _ => false⟩
def Fk.live : NL := fun k => match k with
 | 2 => ([8, 7, 1, 0], [4])
 | _ => ([], [])
def Fk.l2_0.r {α : Type} (mk0 : Int → α) (mk1 : α) (n : Nat) (rc : Int → Int → Int → LI → Option α)  (x0 : Int) (x1 : Int) (x2 : Int) (x3 : LI) : Option α :=
  if (decide (x0 < x1)) = true then
   if 0 ≤ x0 then
    if x0 < (((List.length x3) : Nat) : Int) then
     if (x2 == (List.getD x3 (Int.toNat x0) 0)) = true then
      some (mk0 x0)
     else
      rc (IntKind.wrap .i64 (x0 + 1)) x1 x2 x3
    else
     none
   else
    none
  else
   some (mk1)
def Fk.l2_0.g {α : Type} (mk0 : Int → α) (mk1 : α) (n : Nat) : Nat → Int → Int → Int → LI → Option α
 | 0, _, _, _, _ => none
 | m + 1, x0, x1, x2, x3 => Fk.l2_0.r mk0 mk1 n (fun y0 y1 y2 y3 => Fk.l2_0.g mk0 mk1 n m y0 y1 y2 y3)  x0 x1 x2 x3
def Fk.l2_0.m (n m : Nat) (t : (Int × (Int × (Int × LI)))) : Option (Int ⊕ Unit) := Fk.l2_0.g (fun a0 => (.inl a0)) (.inr ()) n m t.1 t.2.1 t.2.2.1 t.2.2.2
def Fk.l2_0.pat : St → Option (Int × (Int × (Int × LI)))
 | (St.mk [(.int .i64 x0), (.int .i64 x1), (.int .i64 x2), (.rints .i64 x3)] []) => some (x0, x1, x2, x3)
 | _ => none
def Fk.l2_0.shape (t : (Int × (Int × (Int × LI)))) : St := (St.mk [(.int .i64 t.1), (.int .i64 t.2.1), (.int .i64 t.2.2.1), (.rints .i64 t.2.2.2)] [])
def Fk.l2_0.res : (Int ⊕ Unit) → Ex × St
 | (.inl u) => (.ret, (St.mk [(.int .i64 u)] []))
 | (.inr u) => ((.exit 0), (St.mk [.any] []))
def Fk.l2_0.resK {R : Type} (u : (Int ⊕ Unit)) (K : Ex → St → Option R) : Option R := match u with
 | (.inl u) => (fun p : Ex × St => K p.1 p.2) (.ret, (St.mk [(.int .i64 u)] []))
 | (.inr u) => (fun p : Ex × St => K p.1 p.2) ((.exit 0), (St.mk [.any] []))
noncomputable def Fk.A (n : Nat) : Ann := ⟨Tryd.f52.ntmps, 0, Fk.live, [(0, (.ints .i64))], [none], fun k => match k with
 | 2 => some (.mk' Fk.l2_0.pat (Fk.l2_0.m n n) Fk.l2_0.resK)
 | _ => none, noNL, lookJ []⟩
noncomputable def Fk.b0 : Code := (loopsIn (Tryd.f52.body.getD .skip)).getD 0 .skip
def Fk.g {α : Type} (mk0 : Int → α) (n : Nat) (a0 : LI) (a1 : Int) : Option α :=
 bindO (Fk.l2_0.m n n (0, (((List.length a0) : Nat) : Int), a1, a0)) fun r2 => match r2 with
  | (.inl r2) =>
   some (mk0 r2)
  | (.inr r2) =>
   some (mk0 (-1))
def Fk.m (n : Nat) (t : (LI × Int)) : Option Int := Fk.g (fun a0 => a0) n t.1 t.2
def Fk.pat : List AV → Blks → Option (LI × Int)
 | [(.rints .i64 a0), (.int .i64 a1)], [] => some (a0, a1)
 | _, _ => none
def Fk.shape (t : (LI × Int)) : List AV × Blks := ([(.rints .i64 t.1), (.int .i64 t.2)], [])
def Fk.res : Int → AV × Blks
 | u => ((.int .i64 u), [])
def Fk.resK {R : Type} (u : Int) (K : AV → Blks → Option R) : Option R := K (Fk.res u).1 (Fk.res u).2
def Fk.c (n : Nat) : Abs.Callee := .mk' [] [(some (.ints .i64)), none] Fk.pat (Fk.m n) Fk.resK
end
end
section
noncomputable section
noncomputable def Fe.C (n : Nat) : Ctx := ⟨Tryd.prog, kecG, lookC [(52, Fk.c n)], fun _ => false⟩
noncomputable def Fe.A (n : Nat) : Ann := ⟨Tryd.f37.ntmps, 0, noNL, [], [none], fun k => match k with
 | _ => none, noNL, lookJ []⟩
def Fe.g {α : Type} (mk0 : Bool → α) (n : Nat) (a0 : LI) (a1 : Int) : Option α :=
 bindO (Fk.m n (a0, a1)) fun r2 =>
  some (mk0 (decide (r2 ≥ 0)))
def Fe.m (n : Nat) (t : (LI × Int)) : Option Bool := Fe.g (fun a0 => a0) n t.1 t.2
def Fe.pat : List AV → Blks → Option (LI × Int)
 | [(.rints .i64 a0), (.int .i64 a1)], [] => some (a0, a1)
 | _, _ => none
def Fe.shape (t : (LI × Int)) : List AV × Blks := ([(.rints .i64 t.1), (.int .i64 t.2)], [])
def Fe.res : Bool → AV × Blks
 | u => ((.bool u), [])
def Fe.resK {R : Type} (u : Bool) (K : AV → Blks → Option R) : Option R := K (Fe.res u).1 (Fe.res u).2
def Fe.c (n : Nat) : Abs.Callee := .mk' [] [(some (.ints .i64)), none] Fe.pat (Fe.m n) Fe.resK
end
end
section
noncomputable section
noncomputable def Ft.C (n : Nat) : Ctx := ⟨Tryd.prog, kecG, lookC [(71, Fat.c n)], fun _ => false⟩
noncomputable def Ft.A (n : Nat) : Ann := ⟨Tryd.f55.ntmps, 0, noNL, [], [none], fun k => match k with
 | _ => none, noNL, lookJ []⟩
def Ft.g {α : Type} (mk0 : LI → α) (n : Nat) (a0_0_0 : Int) (a0_0_1 : Int) (a0_0_2 : LI) (a0_0_3 : LI) (a0_0_4 : LI) (a0_0_5 : LI) (a0_0_6 : Int) (a0_1_0_0 : LA) (a0_1_0_1 : LA) (a0_1_0_6 : Int) (a0_1_0_10 : Int) (a0_1_1_0 : LI) (a0_1_1_1 : LI) (a0_1_1_2 : Bool) (a0_1_1_3 : LI) (a0_1_1_4 : LI) (a0_1_1_5 : LI) (a0_1_1_6 : Int) (a0_1_1_7 : Int) (a0_1_1_8 : Int) (a0_1_1_9 : LI) (a0_1_1_10 : LI) (a0_1_1_11 : Bool) (a0_1_1_12 : LI) (a0_1_1_13 : Int) (a0_1_1_14 : Int) (a0_1_1_15 : LI) (a0_1_1_16 : LI) (a0_1_2 : Int) (a0_1_3 : Bool) (a0_1_4 : Bool) (a0_1_5 : LA) (a0_2 : Int) : Option α :=
 bindO (Fat.m n a0_0_3) fun r2 =>
  some (mk0 r2)
def Ft.m (n : Nat) (t : Ty4) : Option LI := Ft.g (fun a0 => a0) n t.1 t.2.1 t.2.2.1 t.2.2.2.1 t.w.1 t.w.2.1 t.w.2.2.1 t.w.2.2.2.1 t.x.1 t.x.2.1 t.x.2.2.1 t.x.2.2.2.1 t.x.w.1 t.x.w.2.1 t.x.w.2.2.1 t.x.w.2.2.2.1 t.y.1 t.y.2.1 t.y.2.2.1 t.y.2.2.2.1 t.y.w.1 t.y.w.2.1 t.y.w.2.2.1 t.y.w.2.2.2.1 t.y.x.1 t.y.x.2.1 t.y.x.2.2.1 t.y.x.2.2.2.1 t.y.x.w.1 t.y.x.w.2.1 t.y.x.w.2.2.1 t.y.x.w.2.2.2.1 t.y.y
def Ft.pat : List AV → Blks → Option Ty4
 | [(.agg [(.agg [(.int .u8 a0_0_0), (.int .i64 a0_0_1), (.ints .u8 20 a0_0_2), (.ints .u64 4 a0_0_3), (.ints .u64 4 a0_0_4), (.rints .u8 a0_0_5), (.int .u16 a0_0_6)]), (.rptr (.agg [(.rptr (.agg [(.rmap a0_1_0_0), (.rmap a0_1_0_1), (.rmap []), (.rmap []), (.rmap []), (.rmap []), (.int .i64 a0_1_0_6), .snil, .snil, .snil, (.int .i64 a0_1_0_10)])), (.agg [(.ints .u8 20 a0_1_1_0), (.ints .u64 4 a0_1_1_1), (.bool a0_1_1_2), (.ints .u8 20 a0_1_1_3), (.rints .u8 a0_1_1_4), (.rints .u8 a0_1_1_5), (.int .u64 a0_1_1_6), (.int .u64 a0_1_1_7), (.int .u64 a0_1_1_8), (.ints .u64 4 a0_1_1_9), (.ints .u64 4 a0_1_1_10), (.bool a0_1_1_11), (.ints .u8 20 a0_1_1_12), (.int .u64 a0_1_1_13), (.int .u64 a0_1_1_14), (.rints .u8 a0_1_1_15), (.rints .u8 a0_1_1_16)]), (.int .u8 a0_1_2), (.bool a0_1_3), (.bool a0_1_4), (.robjs 47 32 a0_1_5)])), (.int .i64 a0_2)])], [] => some (a0_0_0, a0_0_1, a0_0_2, a0_0_3, a0_0_4, a0_0_5, a0_0_6, a0_1_0_0, a0_1_0_1, a0_1_0_6, a0_1_0_10, a0_1_1_0, a0_1_1_1, a0_1_1_2, a0_1_1_3, a0_1_1_4, a0_1_1_5, a0_1_1_6, a0_1_1_7, a0_1_1_8, a0_1_1_9, a0_1_1_10, a0_1_1_11, a0_1_1_12, a0_1_1_13, a0_1_1_14, a0_1_1_15, a0_1_1_16, a0_1_2, a0_1_3, a0_1_4, a0_1_5, a0_2)
 | _, _ => none
def Ft.shape (t : Ty4) : List AV × Blks := ([(.agg [(.agg [(.int .u8 t.1), (.int .i64 t.2.1), (.ints .u8 20 t.2.2.1), (.ints .u64 4 t.2.2.2.1), (.ints .u64 4 t.w.1), (.rints .u8 t.w.2.1), (.int .u16 t.w.2.2.1)]), (.rptr (.agg [(.rptr (.agg [(.rmap t.w.2.2.2.1), (.rmap t.x.1), (.rmap []), (.rmap []), (.rmap []), (.rmap []), (.int .i64 t.x.2.1), .snil, .snil, .snil, (.int .i64 t.x.2.2.1)])), (.agg [(.ints .u8 20 t.x.2.2.2.1), (.ints .u64 4 t.x.w.1), (.bool t.x.w.2.1), (.ints .u8 20 t.x.w.2.2.1), (.rints .u8 t.x.w.2.2.2.1), (.rints .u8 t.y.1), (.int .u64 t.y.2.1), (.int .u64 t.y.2.2.1), (.int .u64 t.y.2.2.2.1), (.ints .u64 4 t.y.w.1), (.ints .u64 4 t.y.w.2.1), (.bool t.y.w.2.2.1), (.ints .u8 20 t.y.w.2.2.2.1), (.int .u64 t.y.x.1), (.int .u64 t.y.x.2.1), (.rints .u8 t.y.x.2.2.1), (.rints .u8 t.y.x.2.2.2.1)]), (.int .u8 t.y.x.w.1), (.bool t.y.x.w.2.1), (.bool t.y.x.w.2.2.1), (.robjs 47 32 t.y.x.w.2.2.2.1)])), (.int .i64 t.y.y)])], [])
def Ft.res : LI → AV × Blks
 | u => ((.ints .u8 20 u), [])
def Ft.resK {R : Type} (u : LI) (K : AV → Blks → Option R) : Option R := K (Ft.res u).1 (Ft.res u).2
def Ft.c (n : Nat) : Abs.Callee := .mk' [] [none] Ft.pat (Ft.m n) Ft.resK
end
end
section
noncomputable section
noncomputable def Fu.C (n : Nat) : Ctx := ⟨Tryd.prog, kecG, lookC [(53, zslicesIndexFuncquaestorapiEventquaestorapiEvent.c n), (54, Fi.c n), (55, Ft.c n)], fun _ => false⟩
noncomputable def Fu.A (n : Nat) : Ann := ⟨Tryd.f38.ntmps, 0, noNL, [], [none], fun k => match k with
 | _ => none, noNL, lookJ []⟩
def Fu.g {α : Type} (mk0 : Bool → α) (n : Nat) (a0_0_0 : Int) (a0_0_1 : Int) (a0_0_2 : LI) (a0_0_3 : LI) (a0_0_4 : LI) (a0_0_5 : LI) (a0_0_6 : Int) (a0_1_0_0 : LA) (a0_1_0_1 : LA) (a0_1_0_6 : Int) (a0_1_0_10 : Int) (a0_1_1_0 : LI) (a0_1_1_1 : LI) (a0_1_1_2 : Bool) (a0_1_1_3 : LI) (a0_1_1_4 : LI) (a0_1_1_5 : LI) (a0_1_1_6 : Int) (a0_1_1_7 : Int) (a0_1_1_8 : Int) (a0_1_1_9 : LI) (a0_1_1_10 : LI) (a0_1_1_11 : Bool) (a0_1_1_12 : LI) (a0_1_1_13 : Int) (a0_1_1_14 : Int) (a0_1_1_15 : LI) (a0_1_1_16 : LI) (a0_1_2 : Int) (a0_1_3 : Bool) (a0_1_4 : Bool) (a0_1_5 : LA) (a0_2 : Int) : Option α :=
 if (a0_0_0 != 240) = true then
  if (a0_0_0 != 245) = true then
   some (mk0 false)
  else
   bindO (Fc.m n a0_1_5) fun r6 =>
    if (a0_1_2 != 2) = true then
     some (mk0 true)
    else
     if (a0_2 != r6) = true then
      some (mk0 true)
     else
      bindO (Ft.m n (a0_0_0, a0_0_1, a0_0_2, a0_0_3, a0_0_4, a0_0_5, a0_0_6, a0_1_0_0, a0_1_0_1, a0_1_0_6, a0_1_0_10, a0_1_1_0, a0_1_1_1, a0_1_1_2, a0_1_1_3, a0_1_1_4, a0_1_1_5, a0_1_1_6, a0_1_1_7, a0_1_1_8, a0_1_1_9, a0_1_1_10, a0_1_1_11, a0_1_1_12, a0_1_1_13, a0_1_1_14, a0_1_1_15, a0_1_1_16, a0_1_2, a0_1_3, a0_1_4, a0_1_5, a0_2)) fun r12 =>
       some (mk0 (!(r12 == a0_1_1_0)))
 else
  bindO (Fc.m n a0_1_5) fun r4 =>
   if (a0_1_2 != 2) = true then
    some (mk0 true)
   else
    if (a0_2 != r4) = true then
     some (mk0 true)
    else
     bindO (Ft.m n (a0_0_0, a0_0_1, a0_0_2, a0_0_3, a0_0_4, a0_0_5, a0_0_6, a0_1_0_0, a0_1_0_1, a0_1_0_6, a0_1_0_10, a0_1_1_0, a0_1_1_1, a0_1_1_2, a0_1_1_3, a0_1_1_4, a0_1_1_5, a0_1_1_6, a0_1_1_7, a0_1_1_8, a0_1_1_9, a0_1_1_10, a0_1_1_11, a0_1_1_12, a0_1_1_13, a0_1_1_14, a0_1_1_15, a0_1_1_16, a0_1_2, a0_1_3, a0_1_4, a0_1_5, a0_2)) fun r10 =>
      some (mk0 (!(r10 == a0_1_1_0)))
def Fu.m (n : Nat) (t : Ty4) : Option Bool := Fu.g (fun a0 => a0) n t.1 t.2.1 t.2.2.1 t.2.2.2.1 t.w.1 t.w.2.1 t.w.2.2.1 t.w.2.2.2.1 t.x.1 t.x.2.1 t.x.2.2.1 t.x.2.2.2.1 t.x.w.1 t.x.w.2.1 t.x.w.2.2.1 t.x.w.2.2.2.1 t.y.1 t.y.2.1 t.y.2.2.1 t.y.2.2.2.1 t.y.w.1 t.y.w.2.1 t.y.w.2.2.1 t.y.w.2.2.2.1 t.y.x.1 t.y.x.2.1 t.y.x.2.2.1 t.y.x.2.2.2.1 t.y.x.w.1 t.y.x.w.2.1 t.y.x.w.2.2.1 t.y.x.w.2.2.2.1 t.y.y
def Fu.pat : List AV → Blks → Option Ty4
 | [(.agg [(.agg [(.int .u8 a0_0_0), (.int .i64 a0_0_1), (.ints .u8 20 a0_0_2), (.ints .u64 4 a0_0_3), (.ints .u64 4 a0_0_4), (.rints .u8 a0_0_5), (.int .u16 a0_0_6)]), (.rptr (.agg [(.rptr (.agg [(.rmap a0_1_0_0), (.rmap a0_1_0_1), (.rmap []), (.rmap []), (.rmap []), (.rmap []), (.int .i64 a0_1_0_6), .snil, .snil, .snil, (.int .i64 a0_1_0_10)])), (.agg [(.ints .u8 20 a0_1_1_0), (.ints .u64 4 a0_1_1_1), (.bool a0_1_1_2), (.ints .u8 20 a0_1_1_3), (.rints .u8 a0_1_1_4), (.rints .u8 a0_1_1_5), (.int .u64 a0_1_1_6), (.int .u64 a0_1_1_7), (.int .u64 a0_1_1_8), (.ints .u64 4 a0_1_1_9), (.ints .u64 4 a0_1_1_10), (.bool a0_1_1_11), (.ints .u8 20 a0_1_1_12), (.int .u64 a0_1_1_13), (.int .u64 a0_1_1_14), (.rints .u8 a0_1_1_15), (.rints .u8 a0_1_1_16)]), (.int .u8 a0_1_2), (.bool a0_1_3), (.bool a0_1_4), (.robjs 47 32 a0_1_5)])), (.int .i64 a0_2)])], [] => some (a0_0_0, a0_0_1, a0_0_2, a0_0_3, a0_0_4, a0_0_5, a0_0_6, a0_1_0_0, a0_1_0_1, a0_1_0_6, a0_1_0_10, a0_1_1_0, a0_1_1_1, a0_1_1_2, a0_1_1_3, a0_1_1_4, a0_1_1_5, a0_1_1_6, a0_1_1_7, a0_1_1_8, a0_1_1_9, a0_1_1_10, a0_1_1_11, a0_1_1_12, a0_1_1_13, a0_1_1_14, a0_1_1_15, a0_1_1_16, a0_1_2, a0_1_3, a0_1_4, a0_1_5, a0_2)
 | _, _ => none
def Fu.shape (t : Ty4) : List AV × Blks := ([(.agg [(.agg [(.int .u8 t.1), (.int .i64 t.2.1), (.ints .u8 20 t.2.2.1), (.ints .u64 4 t.2.2.2.1), (.ints .u64 4 t.w.1), (.rints .u8 t.w.2.1), (.int .u16 t.w.2.2.1)]), (.rptr (.agg [(.rptr (.agg [(.rmap t.w.2.2.2.1), (.rmap t.x.1), (.rmap []), (.rmap []), (.rmap []), (.rmap []), (.int .i64 t.x.2.1), .snil, .snil, .snil, (.int .i64 t.x.2.2.1)])), (.agg [(.ints .u8 20 t.x.2.2.2.1), (.ints .u64 4 t.x.w.1), (.bool t.x.w.2.1), (.ints .u8 20 t.x.w.2.2.1), (.rints .u8 t.x.w.2.2.2.1), (.rints .u8 t.y.1), (.int .u64 t.y.2.1), (.int .u64 t.y.2.2.1), (.int .u64 t.y.2.2.2.1), (.ints .u64 4 t.y.w.1), (.ints .u64 4 t.y.w.2.1), (.bool t.y.w.2.2.1), (.ints .u8 20 t.y.w.2.2.2.1), (.int .u64 t.y.x.1), (.int .u64 t.y.x.2.1), (.rints .u8 t.y.x.2.2.1), (.rints .u8 t.y.x.2.2.2.1)]), (.int .u8 t.y.x.w.1), (.bool t.y.x.w.2.1), (.bool t.y.x.w.2.2.1), (.robjs 47 32 t.y.x.w.2.2.2.1)])), (.int .i64 t.y.y)])], [])
def Fu.res : Bool → AV × Blks
 | u => ((.bool u), [])
def Fu.resK {R : Type} (u : Bool) (K : AV → Blks → Option R) : Option R := K (Fu.res u).1 (Fu.res u).2
def Fu.c (n : Nat) : Abs.Callee := .mk' [] [none] Fu.pat (Fu.m n) Fu.resK
end
end
section
noncomputable section
noncomputable def Fv.C (n : Nat) : Ctx := ⟨Tryd.prog, kecG, lookC [], fun _ => false⟩
noncomputable def Fv.A (n : Nat) : Ann := ⟨Tryd.f61.ntmps, 0, noNL, [], [none], fun k => match k with
 | _ => none, noNL, lookJ []⟩
def Fv.g {α : Type} (mk0 : Bool → α) (n : Nat) (a0_0_0 : Int) (a0_0_1 : Int) (a0_0_2 : LI) (a0_0_3 : LI) (a0_0_4 : LI) (a0_0_5 : LI) (a0_0_6 : Int) (a0_1_0_0 : LA) (a0_1_0_1 : LA) (a0_1_0_6 : Int) (a0_1_0_10 : Int) (a0_1_1_0 : LI) (a0_1_1_1 : LI) (a0_1_1_2 : Bool) (a0_1_1_3 : LI) (a0_1_1_4 : LI) (a0_1_1_5 : LI) (a0_1_1_6 : Int) (a0_1_1_7 : Int) (a0_1_1_8 : Int) (a0_1_1_9 : LI) (a0_1_1_10 : LI) (a0_1_1_11 : Bool) (a0_1_1_12 : LI) (a0_1_1_13 : Int) (a0_1_1_14 : Int) (a0_1_1_15 : LI) (a0_1_1_16 : LI) (a0_1_2 : Int) (a0_1_3 : Bool) (a0_1_4 : Bool) (a0_1_5 : LA) (a0_2 : Int) : Option α :=
 if (a0_0_0 == 241) = true then
  some (mk0 true)
 else
  if (a0_0_0 == 242) = true then
   some (mk0 true)
  else
   if (a0_0_0 == 244) = true then
    some (mk0 true)
   else
    if (a0_0_0 == 250) = true then
     some (mk0 true)
    else
     some (mk0 false)
def Fv.m (n : Nat) (t : Ty4) : Option Bool := Fv.g (fun a0 => a0) n t.1 t.2.1 t.2.2.1 t.2.2.2.1 t.w.1 t.w.2.1 t.w.2.2.1 t.w.2.2.2.1 t.x.1 t.x.2.1 t.x.2.2.1 t.x.2.2.2.1 t.x.w.1 t.x.w.2.1 t.x.w.2.2.1 t.x.w.2.2.2.1 t.y.1 t.y.2.1 t.y.2.2.1 t.y.2.2.2.1 t.y.w.1 t.y.w.2.1 t.y.w.2.2.1 t.y.w.2.2.2.1 t.y.x.1 t.y.x.2.1 t.y.x.2.2.1 t.y.x.2.2.2.1 t.y.x.w.1 t.y.x.w.2.1 t.y.x.w.2.2.1 t.y.x.w.2.2.2.1 t.y.y
def Fv.pat : List AV → Blks → Option Ty4
 | [(.agg [(.agg [(.int .u8 a0_0_0), (.int .i64 a0_0_1), (.ints .u8 20 a0_0_2), (.ints .u64 4 a0_0_3), (.ints .u64 4 a0_0_4), (.rints .u8 a0_0_5), (.int .u16 a0_0_6)]), (.rptr (.agg [(.rptr (.agg [(.rmap a0_1_0_0), (.rmap a0_1_0_1), (.rmap []), (.rmap []), (.rmap []), (.rmap []), (.int .i64 a0_1_0_6), .snil, .snil, .snil, (.int .i64 a0_1_0_10)])), (.agg [(.ints .u8 20 a0_1_1_0), (.ints .u64 4 a0_1_1_1), (.bool a0_1_1_2), (.ints .u8 20 a0_1_1_3), (.rints .u8 a0_1_1_4), (.rints .u8 a0_1_1_5), (.int .u64 a0_1_1_6), (.int .u64 a0_1_1_7), (.int .u64 a0_1_1_8), (.ints .u64 4 a0_1_1_9), (.ints .u64 4 a0_1_1_10), (.bool a0_1_1_11), (.ints .u8 20 a0_1_1_12), (.int .u64 a0_1_1_13), (.int .u64 a0_1_1_14), (.rints .u8 a0_1_1_15), (.rints .u8 a0_1_1_16)]), (.int .u8 a0_1_2), (.bool a0_1_3), (.bool a0_1_4), (.robjs 47 32 a0_1_5)])), (.int .i64 a0_2)])], [] => some (a0_0_0, a0_0_1, a0_0_2, a0_0_3, a0_0_4, a0_0_5, a0_0_6, a0_1_0_0, a0_1_0_1, a0_1_0_6, a0_1_0_10, a0_1_1_0, a0_1_1_1, a0_1_1_2, a0_1_1_3, a0_1_1_4, a0_1_1_5, a0_1_1_6, a0_1_1_7, a0_1_1_8, a0_1_1_9, a0_1_1_10, a0_1_1_11, a0_1_1_12, a0_1_1_13, a0_1_1_14, a0_1_1_15, a0_1_1_16, a0_1_2, a0_1_3, a0_1_4, a0_1_5, a0_2)
 | _, _ => none
def Fv.shape (t : Ty4) : List AV × Blks := ([(.agg [(.agg [(.int .u8 t.1), (.int .i64 t.2.1), (.ints .u8 20 t.2.2.1), (.ints .u64 4 t.2.2.2.1), (.ints .u64 4 t.w.1), (.rints .u8 t.w.2.1), (.int .u16 t.w.2.2.1)]), (.rptr (.agg [(.rptr (.agg [(.rmap t.w.2.2.2.1), (.rmap t.x.1), (.rmap []), (.rmap []), (.rmap []), (.rmap []), (.int .i64 t.x.2.1), .snil, .snil, .snil, (.int .i64 t.x.2.2.1)])), (.agg [(.ints .u8 20 t.x.2.2.2.1), (.ints .u64 4 t.x.w.1), (.bool t.x.w.2.1), (.ints .u8 20 t.x.w.2.2.1), (.rints .u8 t.x.w.2.2.2.1), (.rints .u8 t.y.1), (.int .u64 t.y.2.1), (.int .u64 t.y.2.2.1), (.int .u64 t.y.2.2.2.1), (.ints .u64 4 t.y.w.1), (.ints .u64 4 t.y.w.2.1), (.bool t.y.w.2.2.1), (.ints .u8 20 t.y.w.2.2.2.1), (.int .u64 t.y.x.1), (.int .u64 t.y.x.2.1), (.rints .u8 t.y.x.2.2.1), (.rints .u8 t.y.x.2.2.2.1)]), (.int .u8 t.y.x.w.1), (.bool t.y.x.w.2.1), (.bool t.y.x.w.2.2.1), (.robjs 47 32 t.y.x.w.2.2.2.1)])), (.int .i64 t.y.y)])], [])
def Fv.res : Bool → AV × Blks
 | u => ((.bool u), [])
def Fv.resK {R : Type} (u : Bool) (K : AV → Blks → Option R) : Option R := K (Fv.res u).1 (Fv.res u).2
def Fv.c (n : Nat) : Abs.Callee := .mk' [] [none] Fv.pat (Fv.m n) Fv.resK
end
end
section
noncomputable section
noncomputable def Fw.C (n : Nat) : Ctx := ⟨Tryd.prog, kecG, lookC [(61, Fv.c n)], fun _ => false⟩
noncomputable def Fw.A (n : Nat) : Ann := ⟨Tryd.f58.ntmps, 0, noNL, [], [none], fun k => match k with
 | _ => none, noNL, lookJ []⟩
def Fw.g {α : Type} (mk0 : Bool → α) (n : Nat) (a0_0_0 : Int) (a0_0_1 : Int) (a0_0_2 : LI) (a0_0_3 : LI) (a0_0_4 : LI) (a0_0_5 : LI) (a0_0_6 : Int) (a0_1_0_0 : LA) (a0_1_0_1 : LA) (a0_1_0_6 : Int) (a0_1_0_10 : Int) (a0_1_1_0 : LI) (a0_1_1_1 : LI) (a0_1_1_2 : Bool) (a0_1_1_3 : LI) (a0_1_1_4 : LI) (a0_1_1_5 : LI) (a0_1_1_6 : Int) (a0_1_1_7 : Int) (a0_1_1_8 : Int) (a0_1_1_9 : LI) (a0_1_1_10 : LI) (a0_1_1_11 : Bool) (a0_1_1_12 : LI) (a0_1_1_13 : Int) (a0_1_1_14 : Int) (a0_1_1_15 : LI) (a0_1_1_16 : LI) (a0_1_2 : Int) (a0_1_3 : Bool) (a0_1_4 : Bool) (a0_1_5 : LA) (a0_2 : Int) : Option α :=
 if (a0_0_0 == 59) = true then
  some (mk0 true)
 else
  if (a0_0_0 == 60) = true then
   some (mk0 true)
  else
   if (a0_0_0 == 63) = true then
    some (mk0 true)
   else
    bindO (Fv.m n (a0_0_0, a0_0_1, a0_0_2, a0_0_3, a0_0_4, a0_0_5, a0_0_6, a0_1_0_0, a0_1_0_1, a0_1_0_6, a0_1_0_10, a0_1_1_0, a0_1_1_1, a0_1_1_2, a0_1_1_3, a0_1_1_4, a0_1_1_5, a0_1_1_6, a0_1_1_7, a0_1_1_8, a0_1_1_9, a0_1_1_10, a0_1_1_11, a0_1_1_12, a0_1_1_13, a0_1_1_14, a0_1_1_15, a0_1_1_16, a0_1_2, a0_1_3, a0_1_4, a0_1_5, a0_2)) fun r8 =>
     some (mk0 r8)
def Fw.m (n : Nat) (t : Ty4) : Option Bool := Fw.g (fun a0 => a0) n t.1 t.2.1 t.2.2.1 t.2.2.2.1 t.w.1 t.w.2.1 t.w.2.2.1 t.w.2.2.2.1 t.x.1 t.x.2.1 t.x.2.2.1 t.x.2.2.2.1 t.x.w.1 t.x.w.2.1 t.x.w.2.2.1 t.x.w.2.2.2.1 t.y.1 t.y.2.1 t.y.2.2.1 t.y.2.2.2.1 t.y.w.1 t.y.w.2.1 t.y.w.2.2.1 t.y.w.2.2.2.1 t.y.x.1 t.y.x.2.1 t.y.x.2.2.1 t.y.x.2.2.2.1 t.y.x.w.1 t.y.x.w.2.1 t.y.x.w.2.2.1 t.y.x.w.2.2.2.1 t.y.y
def Fw.pat : List AV → Blks → Option Ty4
 | [(.agg [(.agg [(.int .u8 a0_0_0), (.int .i64 a0_0_1), (.ints .u8 20 a0_0_2), (.ints .u64 4 a0_0_3), (.ints .u64 4 a0_0_4), (.rints .u8 a0_0_5), (.int .u16 a0_0_6)]), (.rptr (.agg [(.rptr (.agg [(.rmap a0_1_0_0), (.rmap a0_1_0_1), (.rmap []), (.rmap []), (.rmap []), (.rmap []), (.int .i64 a0_1_0_6), .snil, .snil, .snil, (.int .i64 a0_1_0_10)])), (.agg [(.ints .u8 20 a0_1_1_0), (.ints .u64 4 a0_1_1_1), (.bool a0_1_1_2), (.ints .u8 20 a0_1_1_3), (.rints .u8 a0_1_1_4), (.rints .u8 a0_1_1_5), (.int .u64 a0_1_1_6), (.int .u64 a0_1_1_7), (.int .u64 a0_1_1_8), (.ints .u64 4 a0_1_1_9), (.ints .u64 4 a0_1_1_10), (.bool a0_1_1_11), (.ints .u8 20 a0_1_1_12), (.int .u64 a0_1_1_13), (.int .u64 a0_1_1_14), (.rints .u8 a0_1_1_15), (.rints .u8 a0_1_1_16)]), (.int .u8 a0_1_2), (.bool a0_1_3), (.bool a0_1_4), (.robjs 47 32 a0_1_5)])), (.int .i64 a0_2)])], [] => some (a0_0_0, a0_0_1, a0_0_2, a0_0_3, a0_0_4, a0_0_5, a0_0_6, a0_1_0_0, a0_1_0_1, a0_1_0_6, a0_1_0_10, a0_1_1_0, a0_1_1_1, a0_1_1_2, a0_1_1_3, a0_1_1_4, a0_1_1_5, a0_1_1_6, a0_1_1_7, a0_1_1_8, a0_1_1_9, a0_1_1_10, a0_1_1_11, a0_1_1_12, a0_1_1_13, a0_1_1_14, a0_1_1_15, a0_1_1_16, a0_1_2, a0_1_3, a0_1_4, a0_1_5, a0_2)
 | _, _ => none
def Fw.shape (t : Ty4) : List AV × Blks := ([(.agg [(.agg [(.int .u8 t.1), (.int .i64 t.2.1), (.ints .u8 20 t.2.2.1), (.ints .u64 4 t.2.2.2.1), (.ints .u64 4 t.w.1), (.rints .u8 t.w.2.1), (.int .u16 t.w.2.2.1)]), (.rptr (.agg [(.rptr (.agg [(.rmap t.w.2.2.2.1), (.rmap t.x.1), (.rmap []), (.rmap []), (.rmap []), (.rmap []), (.int .i64 t.x.2.1), .snil, .snil, .snil, (.int .i64 t.x.2.2.1)])), (.agg [(.ints .u8 20 t.x.2.2.2.1), (.ints .u64 4 t.x.w.1), (.bool t.x.w.2.1), (.ints .u8 20 t.x.w.2.2.1), (.rints .u8 t.x.w.2.2.2.1), (.rints .u8 t.y.1), (.int .u64 t.y.2.1), (.int .u64 t.y.2.2.1), (.int .u64 t.y.2.2.2.1), (.ints .u64 4 t.y.w.1), (.ints .u64 4 t.y.w.2.1), (.bool t.y.w.2.2.1), (.ints .u8 20 t.y.w.2.2.2.1), (.int .u64 t.y.x.1), (.int .u64 t.y.x.2.1), (.rints .u8 t.y.x.2.2.1), (.rints .u8 t.y.x.2.2.2.1)]), (.int .u8 t.y.x.w.1), (.bool t.y.x.w.2.1), (.bool t.y.x.w.2.2.1), (.robjs 47 32 t.y.x.w.2.2.2.1)])), (.int .i64 t.y.y)])], [])
def Fw.res : Bool → AV × Blks
 | u => ((.bool u), [])
def Fw.resK {R : Type} (u : Bool) (K : AV → Blks → Option R) : Option R := K (Fw.res u).1 (Fw.res u).2
def Fw.c (n : Nat) : Abs.Callee := .mk' [] [none] Fw.pat (Fw.m n) Fw.resK
end
end
section
noncomputable section
noncomputable def Faw.C (n : Nat) : Ctx := ⟨Tryd.prog, kecG, lookC [], fun _ => false⟩
noncomputable def Faw.A (n : Nat) : Ann := ⟨Tryd.f44.ntmps, 0, noNL, [], [none], fun k => match k with
 | _ => none, noNL, lookJ []⟩
def Faw.g {α : Type} (mk0 : LI → α) (n : Nat)  : Option α :=
 some (mk0 ([0, 0, 0, 0, 113, 114, 125, 226, 46, 94, 157, 139, 175, 14, 218, 198, 243, 125, 160, 50] : List Int))
def Faw.m (n : Nat) (t : Unit) : Option LI := Faw.g (fun a0 => a0) n 
def Faw.pat : List AV → Blks → Option Unit
 | [], [] => some ()
 | _, _ => none
def Faw.shape (t : Unit) : List AV × Blks := ([], [])
def Faw.res : LI → AV × Blks
 | u => ((.ints .u8 20 u), [])
def Faw.resK {R : Type} (u : LI) (K : AV → Blks → Option R) : Option R := K (Faw.res u).1 (Faw.res u).2
def Faw.c (n : Nat) : Abs.Callee := .mk' [] [] Faw.pat (Faw.m n) Faw.resK
end
end
section
noncomputable section
noncomputable def Fl.C (n : Nat) : Ctx := ⟨Tryd.prog, kecG, lookC [(55, Ft.c n), (44, Faw.c n)], fun _ => false⟩
noncomputable def Fl.A (n : Nat) : Ann := ⟨Tryd.f59.ntmps, 0, noNL, [], [none], fun k => match k with
 | _ => none, noNL, lookJ []⟩
def Fl.g {α : Type} (mk0 : Bool → α) (n : Nat) (a0_0_0 : Int) (a0_0_1 : Int) (a0_0_2 : LI) (a0_0_3 : LI) (a0_0_4 : LI) (a0_0_5 : LI) (a0_0_6 : Int) (a0_1_0_0 : LA) (a0_1_0_1 : LA) (a0_1_0_6 : Int) (a0_1_0_10 : Int) (a0_1_1_0 : LI) (a0_1_1_1 : LI) (a0_1_1_2 : Bool) (a0_1_1_3 : LI) (a0_1_1_4 : LI) (a0_1_1_5 : LI) (a0_1_1_6 : Int) (a0_1_1_7 : Int) (a0_1_1_8 : Int) (a0_1_1_9 : LI) (a0_1_1_10 : LI) (a0_1_1_11 : Bool) (a0_1_1_12 : LI) (a0_1_1_13 : Int) (a0_1_1_14 : Int) (a0_1_1_15 : LI) (a0_1_1_16 : LI) (a0_1_2 : Int) (a0_1_3 : Bool) (a0_1_4 : Bool) (a0_1_5 : LA) (a0_2 : Int) : Option α :=
 bindO (Ft.m n (a0_0_0, a0_0_1, a0_0_2, a0_0_3, a0_0_4, a0_0_5, a0_0_6, a0_1_0_0, a0_1_0_1, a0_1_0_6, a0_1_0_10, a0_1_1_0, a0_1_1_1, a0_1_1_2, a0_1_1_3, a0_1_1_4, a0_1_1_5, a0_1_1_6, a0_1_1_7, a0_1_1_8, a0_1_1_9, a0_1_1_10, a0_1_1_11, a0_1_1_12, a0_1_1_13, a0_1_1_14, a0_1_1_15, a0_1_1_16, a0_1_2, a0_1_3, a0_1_4, a0_1_5, a0_2)) fun r2 =>
  bindO (Faw.m n Unit.unit) fun r4 =>
   some (mk0 (r2 == r4))
def Fl.m (n : Nat) (t : Ty4) : Option Bool := Fl.g (fun a0 => a0) n t.1 t.2.1 t.2.2.1 t.2.2.2.1 t.w.1 t.w.2.1 t.w.2.2.1 t.w.2.2.2.1 t.x.1 t.x.2.1 t.x.2.2.1 t.x.2.2.2.1 t.x.w.1 t.x.w.2.1 t.x.w.2.2.1 t.x.w.2.2.2.1 t.y.1 t.y.2.1 t.y.2.2.1 t.y.2.2.2.1 t.y.w.1 t.y.w.2.1 t.y.w.2.2.1 t.y.w.2.2.2.1 t.y.x.1 t.y.x.2.1 t.y.x.2.2.1 t.y.x.2.2.2.1 t.y.x.w.1 t.y.x.w.2.1 t.y.x.w.2.2.1 t.y.x.w.2.2.2.1 t.y.y
def Fl.pat : List AV → Blks → Option Ty4
 | [(.agg [(.agg [(.int .u8 a0_0_0), (.int .i64 a0_0_1), (.ints .u8 20 a0_0_2), (.ints .u64 4 a0_0_3), (.ints .u64 4 a0_0_4), (.rints .u8 a0_0_5), (.int .u16 a0_0_6)]), (.rptr (.agg [(.rptr (.agg [(.rmap a0_1_0_0), (.rmap a0_1_0_1), (.rmap []), (.rmap []), (.rmap []), (.rmap []), (.int .i64 a0_1_0_6), .snil, .snil, .snil, (.int .i64 a0_1_0_10)])), (.agg [(.ints .u8 20 a0_1_1_0), (.ints .u64 4 a0_1_1_1), (.bool a0_1_1_2), (.ints .u8 20 a0_1_1_3), (.rints .u8 a0_1_1_4), (.rints .u8 a0_1_1_5), (.int .u64 a0_1_1_6), (.int .u64 a0_1_1_7), (.int .u64 a0_1_1_8), (.ints .u64 4 a0_1_1_9), (.ints .u64 4 a0_1_1_10), (.bool a0_1_1_11), (.ints .u8 20 a0_1_1_12), (.int .u64 a0_1_1_13), (.int .u64 a0_1_1_14), (.rints .u8 a0_1_1_15), (.rints .u8 a0_1_1_16)]), (.int .u8 a0_1_2), (.bool a0_1_3), (.bool a0_1_4), (.robjs 47 32 a0_1_5)])), (.int .i64 a0_2)])], [] => some (a0_0_0, a0_0_1, a0_0_2, a0_0_3, a0_0_4, a0_0_5, a0_0_6, a0_1_0_0, a0_1_0_1, a0_1_0_6, a0_1_0_10, a0_1_1_0, a0_1_1_1, a0_1_1_2, a0_1_1_3, a0_1_1_4, a0_1_1_5, a0_1_1_6, a0_1_1_7, a0_1_1_8, a0_1_1_9, a0_1_1_10, a0_1_1_11, a0_1_1_12, a0_1_1_13, a0_1_1_14, a0_1_1_15, a0_1_1_16, a0_1_2, a0_1_3, a0_1_4, a0_1_5, a0_2)
 | _, _ => none
def Fl.shape (t : Ty4) : List AV × Blks := ([(.agg [(.agg [(.int .u8 t.1), (.int .i64 t.2.1), (.ints .u8 20 t.2.2.1), (.ints .u64 4 t.2.2.2.1), (.ints .u64 4 t.w.1), (.rints .u8 t.w.2.1), (.int .u16 t.w.2.2.1)]), (.rptr (.agg [(.rptr (.agg [(.rmap t.w.2.2.2.1), (.rmap t.x.1), (.rmap []), (.rmap []), (.rmap []), (.rmap []), (.int .i64 t.x.2.1), .snil, .snil, .snil, (.int .i64 t.x.2.2.1)])), (.agg [(.ints .u8 20 t.x.2.2.2.1), (.ints .u64 4 t.x.w.1), (.bool t.x.w.2.1), (.ints .u8 20 t.x.w.2.2.1), (.rints .u8 t.x.w.2.2.2.1), (.rints .u8 t.y.1), (.int .u64 t.y.2.1), (.int .u64 t.y.2.2.1), (.int .u64 t.y.2.2.2.1), (.ints .u64 4 t.y.w.1), (.ints .u64 4 t.y.w.2.1), (.bool t.y.w.2.2.1), (.ints .u8 20 t.y.w.2.2.2.1), (.int .u64 t.y.x.1), (.int .u64 t.y.x.2.1), (.rints .u8 t.y.x.2.2.1), (.rints .u8 t.y.x.2.2.2.1)]), (.int .u8 t.y.x.w.1), (.bool t.y.x.w.2.1), (.bool t.y.x.w.2.2.1), (.robjs 47 32 t.y.x.w.2.2.2.1)])), (.int .i64 t.y.y)])], [])
def Fl.res : Bool → AV × Blks
 | u => ((.bool u), [])
def Fl.resK {R : Type} (u : Bool) (K : AV → Blks → Option R) : Option R := K (Fl.res u).1 (Fl.res u).2
def Fl.c (n : Nat) : Abs.Callee := .mk' [] [none] Fl.pat (Fl.m n) Fl.resK
end
end
section
noncomputable section
noncomputable def Fab.C (n : Nat) : Ctx := ⟨Tryd.prog, kecG, lookC [], fun _ => false⟩
noncomputable def Fab.A (n : Nat) : Ann := ⟨Tryd.f60.ntmps, 0, noNL, [], [(some (.ints .u8))], fun k => match k with
 | _ => none, noNL, lookJ []⟩
def Fab.g {α : Type} (mk0 : LI → α) (n : Nat) (a0_0 : LA) (a0_1 : LA) (a0_6 : Int) (a0_10 : Int) (a1 : LI) : Option α :=
 bindO (Go.Abs.mgetL (AV.ints .u8 20 a1) (AV.agg [(AV.int .u64 0), (AV.ints .u64 4 [0, 0, 0, 0]), (AV.str ByteArray.empty)]) a0_0) fun r2 =>
  bindO (tkAgg 3 r2.1) fun r4 =>
   bindO (tkInt .u64 (List.getD r4 0 AV.any)) fun r6 =>
    bindO (tkInts .u64 4 (List.getD r4 1 AV.any)) fun r8 =>
     bindO (tkStr (List.getD r4 2 AV.any)) fun r10 =>
      some (mk0 (Go.Abs.bytesOf r10))
def Fab.m (n : Nat) (t : (LA × (LA × (Int × (Int × LI))))) : Option LI := Fab.g (fun a0 => a0) n t.1 t.2.1 t.2.2.1 t.2.2.2.1 t.w
def Fab.pat : List AV → Blks → Option (LA × (LA × (Int × (Int × LI))))
 | [(.rptr (.agg [(.rmap a0_0), (.rmap a0_1), (.rmap []), (.rmap []), (.rmap []), (.rmap []), (.int .i64 a0_6), .snil, .snil, .snil, (.int .i64 a0_10)])), (.ints .u8 20 a1)], [] => some (a0_0, a0_1, a0_6, a0_10, a1)
 | _, _ => none
def Fab.shape (t : (LA × (LA × (Int × (Int × LI))))) : List AV × Blks := ([(.rptr (.agg [(.rmap t.1), (.rmap t.2.1), (.rmap []), (.rmap []), (.rmap []), (.rmap []), (.int .i64 t.2.2.1), .snil, .snil, .snil, (.int .i64 t.2.2.2.1)])), (.ints .u8 20 t.w)], [])
def Fab.res : LI → AV × Blks
 | u => ((.own 0 1), [(some (.ints .u8 u))])
def Fab.resK {R : Type} (u : LI) (K : AV → Blks → Option R) : Option R := K (Fab.res u).1 (Fab.res u).2
def Fab.c (n : Nat) : Abs.Callee := .mk' [] [none, none] Fab.pat (Fab.m n) Fab.resK
end
end
section
noncomputable section
noncomputable def Fx.C (n : Nat) : Ctx := ⟨Tryd.prog, kecG, lookC [(55, Ft.c n), (57, Fav.c n), (56, Fap.c n), (58, Fw.c n), (59, Fl.c n), (60, Fab.c n)], fun _ => false⟩
noncomputable def Fx.A (n : Nat) : Ann := ⟨Tryd.f39.ntmps, 0, noNL, [], [none], fun k => match k with
 | _ => none, noNL, lookJ []⟩
def Fx.g {α : Type} (mk0 : Bool → α) (n : Nat) (a0_0_0 : Int) (a0_0_1 : Int) (a0_0_2 : LI) (a0_0_3 : LI) (a0_0_4 : LI) (a0_0_5 : LI) (a0_0_6 : Int) (a0_1_0_0 : LA) (a0_1_0_1 : LA) (a0_1_0_6 : Int) (a0_1_0_10 : Int) (a0_1_1_0 : LI) (a0_1_1_1 : LI) (a0_1_1_2 : Bool) (a0_1_1_3 : LI) (a0_1_1_4 : LI) (a0_1_1_5 : LI) (a0_1_1_6 : Int) (a0_1_1_7 : Int) (a0_1_1_8 : Int) (a0_1_1_9 : LI) (a0_1_1_10 : LI) (a0_1_1_11 : Bool) (a0_1_1_12 : LI) (a0_1_1_13 : Int) (a0_1_1_14 : Int) (a0_1_1_15 : LI) (a0_1_1_16 : LI) (a0_1_2 : Int) (a0_1_3 : Bool) (a0_1_4 : Bool) (a0_1_5 : LA) (a0_2 : Int) : Option α :=
 bindO (Ft.m n (a0_0_0, a0_0_1, a0_0_2, a0_0_3, a0_0_4, a0_0_5, a0_0_6, a0_1_0_0, a0_1_0_1, a0_1_0_6, a0_1_0_10, a0_1_1_0, a0_1_1_1, a0_1_1_2, a0_1_1_3, a0_1_1_4, a0_1_1_5, a0_1_1_6, a0_1_1_7, a0_1_1_8, a0_1_1_9, a0_1_1_10, a0_1_1_11, a0_1_1_12, a0_1_1_13, a0_1_1_14, a0_1_1_15, a0_1_1_16, a0_1_2, a0_1_3, a0_1_4, a0_1_5, a0_2)) fun r2 =>
  bindO (Fav.m n r2) fun r4 =>
   bindO (Fap.m n r4) fun r6 =>
    bindO (Fw.m n (a0_0_0, a0_0_1, a0_0_2, a0_0_3, a0_0_4, a0_0_5, a0_0_6, a0_1_0_0, a0_1_0_1, a0_1_0_6, a0_1_0_10, a0_1_1_0, a0_1_1_1, a0_1_1_2, a0_1_1_3, a0_1_1_4, a0_1_1_5, a0_1_1_6, a0_1_1_7, a0_1_1_8, a0_1_1_9, a0_1_1_10, a0_1_1_11, a0_1_1_12, a0_1_1_13, a0_1_1_14, a0_1_1_15, a0_1_1_16, a0_1_2, a0_1_3, a0_1_4, a0_1_5, a0_2)) fun r8 =>
     if r8 = true then
      bindO (Fl.m n (a0_0_0, a0_0_1, a0_0_2, a0_0_3, a0_0_4, a0_0_5, a0_0_6, a0_1_0_0, a0_1_0_1, a0_1_0_6, a0_1_0_10, a0_1_1_0, a0_1_1_1, a0_1_1_2, a0_1_1_3, a0_1_1_4, a0_1_1_5, a0_1_1_6, a0_1_1_7, a0_1_1_8, a0_1_1_9, a0_1_1_10, a0_1_1_11, a0_1_1_12, a0_1_1_13, a0_1_1_14, a0_1_1_15, a0_1_1_16, a0_1_2, a0_1_3, a0_1_4, a0_1_5, a0_2)) fun r12 =>
       if (!r12) = true then
        bindO (Ft.m n (a0_0_0, a0_0_1, a0_0_2, a0_0_3, a0_0_4, a0_0_5, a0_0_6, a0_1_0_0, a0_1_0_1, a0_1_0_6, a0_1_0_10, a0_1_1_0, a0_1_1_1, a0_1_1_2, a0_1_1_3, a0_1_1_4, a0_1_1_5, a0_1_1_6, a0_1_1_7, a0_1_1_8, a0_1_1_9, a0_1_1_10, a0_1_1_11, a0_1_1_12, a0_1_1_13, a0_1_1_14, a0_1_1_15, a0_1_1_16, a0_1_2, a0_1_3, a0_1_4, a0_1_5, a0_2)) fun r16 =>
         bindO (Fab.m n (a0_1_0_0, a0_1_0_1, a0_1_0_6, a0_1_0_10, r16)) fun r18 =>
          if ((((List.length r18) : Nat) : Int) == 0) = true then
           if r6.2 = true then
            if (decide (r6.1 ≥ 1)) = true then
             some (mk0 (!(decide (r6.1 ≤ 9))))
            else
             some (mk0 true)
           else
            some (mk0 true)
          else
           some (mk0 false)
       else
        some (mk0 false)
     else
      some (mk0 false)
def Fx.m (n : Nat) (t : Ty4) : Option Bool := Fx.g (fun a0 => a0) n t.1 t.2.1 t.2.2.1 t.2.2.2.1 t.w.1 t.w.2.1 t.w.2.2.1 t.w.2.2.2.1 t.x.1 t.x.2.1 t.x.2.2.1 t.x.2.2.2.1 t.x.w.1 t.x.w.2.1 t.x.w.2.2.1 t.x.w.2.2.2.1 t.y.1 t.y.2.1 t.y.2.2.1 t.y.2.2.2.1 t.y.w.1 t.y.w.2.1 t.y.w.2.2.1 t.y.w.2.2.2.1 t.y.x.1 t.y.x.2.1 t.y.x.2.2.1 t.y.x.2.2.2.1 t.y.x.w.1 t.y.x.w.2.1 t.y.x.w.2.2.1 t.y.x.w.2.2.2.1 t.y.y
def Fx.pat : List AV → Blks → Option Ty4
 | [(.agg [(.agg [(.int .u8 a0_0_0), (.int .i64 a0_0_1), (.ints .u8 20 a0_0_2), (.ints .u64 4 a0_0_3), (.ints .u64 4 a0_0_4), (.rints .u8 a0_0_5), (.int .u16 a0_0_6)]), (.rptr (.agg [(.rptr (.agg [(.rmap a0_1_0_0), (.rmap a0_1_0_1), (.rmap []), (.rmap []), (.rmap []), (.rmap []), (.int .i64 a0_1_0_6), .snil, .snil, .snil, (.int .i64 a0_1_0_10)])), (.agg [(.ints .u8 20 a0_1_1_0), (.ints .u64 4 a0_1_1_1), (.bool a0_1_1_2), (.ints .u8 20 a0_1_1_3), (.rints .u8 a0_1_1_4), (.rints .u8 a0_1_1_5), (.int .u64 a0_1_1_6), (.int .u64 a0_1_1_7), (.int .u64 a0_1_1_8), (.ints .u64 4 a0_1_1_9), (.ints .u64 4 a0_1_1_10), (.bool a0_1_1_11), (.ints .u8 20 a0_1_1_12), (.int .u64 a0_1_1_13), (.int .u64 a0_1_1_14), (.rints .u8 a0_1_1_15), (.rints .u8 a0_1_1_16)]), (.int .u8 a0_1_2), (.bool a0_1_3), (.bool a0_1_4), (.robjs 47 32 a0_1_5)])), (.int .i64 a0_2)])], [] => some (a0_0_0, a0_0_1, a0_0_2, a0_0_3, a0_0_4, a0_0_5, a0_0_6, a0_1_0_0, a0_1_0_1, a0_1_0_6, a0_1_0_10, a0_1_1_0, a0_1_1_1, a0_1_1_2, a0_1_1_3, a0_1_1_4, a0_1_1_5, a0_1_1_6, a0_1_1_7, a0_1_1_8, a0_1_1_9, a0_1_1_10, a0_1_1_11, a0_1_1_12, a0_1_1_13, a0_1_1_14, a0_1_1_15, a0_1_1_16, a0_1_2, a0_1_3, a0_1_4, a0_1_5, a0_2)
 | _, _ => none
def Fx.shape (t : Ty4) : List AV × Blks := ([(.agg [(.agg [(.int .u8 t.1), (.int .i64 t.2.1), (.ints .u8 20 t.2.2.1), (.ints .u64 4 t.2.2.2.1), (.ints .u64 4 t.w.1), (.rints .u8 t.w.2.1), (.int .u16 t.w.2.2.1)]), (.rptr (.agg [(.rptr (.agg [(.rmap t.w.2.2.2.1), (.rmap t.x.1), (.rmap []), (.rmap []), (.rmap []), (.rmap []), (.int .i64 t.x.2.1), .snil, .snil, .snil, (.int .i64 t.x.2.2.1)])), (.agg [(.ints .u8 20 t.x.2.2.2.1), (.ints .u64 4 t.x.w.1), (.bool t.x.w.2.1), (.ints .u8 20 t.x.w.2.2.1), (.rints .u8 t.x.w.2.2.2.1), (.rints .u8 t.y.1), (.int .u64 t.y.2.1), (.int .u64 t.y.2.2.1), (.int .u64 t.y.2.2.2.1), (.ints .u64 4 t.y.w.1), (.ints .u64 4 t.y.w.2.1), (.bool t.y.w.2.2.1), (.ints .u8 20 t.y.w.2.2.2.1), (.int .u64 t.y.x.1), (.int .u64 t.y.x.2.1), (.rints .u8 t.y.x.2.2.1), (.rints .u8 t.y.x.2.2.2.1)]), (.int .u8 t.y.x.w.1), (.bool t.y.x.w.2.1), (.bool t.y.x.w.2.2.1), (.robjs 47 32 t.y.x.w.2.2.2.1)])), (.int .i64 t.y.y)])], [])
def Fx.res : Bool → AV × Blks
 | u => ((.bool u), [])
def Fx.resK {R : Type} (u : Bool) (K : AV → Blks → Option R) : Option R := K (Fx.res u).1 (Fx.res u).2
def Fx.c (n : Nat) : Abs.Callee := .mk' [] [none] Fx.pat (Fx.m n) Fx.resK
end
end
section
noncomputable section
noncomputable def Fac.C (n : Nat) : Ctx := ⟨Tryd.prog, kecG, lookC [(59, Fl.c n)], fun _ => false⟩
noncomputable def Fac.A (n : Nat) : Ann := ⟨Tryd.f40.ntmps, 0, noNL, [], [none], fun k => match k with
 | _ => none, noNL, lookJ []⟩
def Fac.g {α : Type} (mk0 : Bool → α) (n : Nat) (a0_0_0 : Int) (a0_0_1 : Int) (a0_0_2 : LI) (a0_0_3 : LI) (a0_0_4 : LI) (a0_0_5 : LI) (a0_0_6 : Int) (a0_1_0_0 : LA) (a0_1_0_1 : LA) (a0_1_0_6 : Int) (a0_1_0_10 : Int) (a0_1_1_0 : LI) (a0_1_1_1 : LI) (a0_1_1_2 : Bool) (a0_1_1_3 : LI) (a0_1_1_4 : LI) (a0_1_1_5 : LI) (a0_1_1_6 : Int) (a0_1_1_7 : Int) (a0_1_1_8 : Int) (a0_1_1_9 : LI) (a0_1_1_10 : LI) (a0_1_1_11 : Bool) (a0_1_1_12 : LI) (a0_1_1_13 : Int) (a0_1_1_14 : Int) (a0_1_1_15 : LI) (a0_1_1_16 : LI) (a0_1_2 : Int) (a0_1_3 : Bool) (a0_1_4 : Bool) (a0_1_5 : LA) (a0_2 : Int) : Option α :=
 if (a0_0_0 == 241) = true then
  if (!(a0_0_4 == [0, 0, 0, 0])) = true then
   bindO (Fl.m n (a0_0_0, a0_0_1, a0_0_2, a0_0_3, a0_0_4, a0_0_5, a0_0_6, a0_1_0_0, a0_1_0_1, a0_1_0_6, a0_1_0_10, a0_1_1_0, a0_1_1_1, a0_1_1_2, a0_1_1_3, a0_1_1_4, a0_1_1_5, a0_1_1_6, a0_1_1_7, a0_1_1_8, a0_1_1_9, a0_1_1_10, a0_1_1_11, a0_1_1_12, a0_1_1_13, a0_1_1_14, a0_1_1_15, a0_1_1_16, a0_1_2, a0_1_3, a0_1_4, a0_1_5, a0_2)) fun r6 =>
    some (mk0 (!r6))
  else
   some (mk0 false)
 else
  if (a0_0_0 == 242) = true then
   if (!(a0_0_4 == [0, 0, 0, 0])) = true then
    bindO (Fl.m n (a0_0_0, a0_0_1, a0_0_2, a0_0_3, a0_0_4, a0_0_5, a0_0_6, a0_1_0_0, a0_1_0_1, a0_1_0_6, a0_1_0_10, a0_1_1_0, a0_1_1_1, a0_1_1_2, a0_1_1_3, a0_1_1_4, a0_1_1_5, a0_1_1_6, a0_1_1_7, a0_1_1_8, a0_1_1_9, a0_1_1_10, a0_1_1_11, a0_1_1_12, a0_1_1_13, a0_1_1_14, a0_1_1_15, a0_1_1_16, a0_1_2, a0_1_3, a0_1_4, a0_1_5, a0_2)) fun r8 =>
     some (mk0 (!r8))
   else
    some (mk0 false)
  else
   some (mk0 false)
def Fac.m (n : Nat) (t : Ty4) : Option Bool := Fac.g (fun a0 => a0) n t.1 t.2.1 t.2.2.1 t.2.2.2.1 t.w.1 t.w.2.1 t.w.2.2.1 t.w.2.2.2.1 t.x.1 t.x.2.1 t.x.2.2.1 t.x.2.2.2.1 t.x.w.1 t.x.w.2.1 t.x.w.2.2.1 t.x.w.2.2.2.1 t.y.1 t.y.2.1 t.y.2.2.1 t.y.2.2.2.1 t.y.w.1 t.y.w.2.1 t.y.w.2.2.1 t.y.w.2.2.2.1 t.y.x.1 t.y.x.2.1 t.y.x.2.2.1 t.y.x.2.2.2.1 t.y.x.w.1 t.y.x.w.2.1 t.y.x.w.2.2.1 t.y.x.w.2.2.2.1 t.y.y
def Fac.pat : List AV → Blks → Option Ty4
 | [(.agg [(.agg [(.int .u8 a0_0_0), (.int .i64 a0_0_1), (.ints .u8 20 a0_0_2), (.ints .u64 4 a0_0_3), (.ints .u64 4 a0_0_4), (.rints .u8 a0_0_5), (.int .u16 a0_0_6)]), (.rptr (.agg [(.rptr (.agg [(.rmap a0_1_0_0), (.rmap a0_1_0_1), (.rmap []), (.rmap []), (.rmap []), (.rmap []), (.int .i64 a0_1_0_6), .snil, .snil, .snil, (.int .i64 a0_1_0_10)])), (.agg [(.ints .u8 20 a0_1_1_0), (.ints .u64 4 a0_1_1_1), (.bool a0_1_1_2), (.ints .u8 20 a0_1_1_3), (.rints .u8 a0_1_1_4), (.rints .u8 a0_1_1_5), (.int .u64 a0_1_1_6), (.int .u64 a0_1_1_7), (.int .u64 a0_1_1_8), (.ints .u64 4 a0_1_1_9), (.ints .u64 4 a0_1_1_10), (.bool a0_1_1_11), (.ints .u8 20 a0_1_1_12), (.int .u64 a0_1_1_13), (.int .u64 a0_1_1_14), (.rints .u8 a0_1_1_15), (.rints .u8 a0_1_1_16)]), (.int .u8 a0_1_2), (.bool a0_1_3), (.bool a0_1_4), (.robjs 47 32 a0_1_5)])), (.int .i64 a0_2)])], [] => some (a0_0_0, a0_0_1, a0_0_2, a0_0_3, a0_0_4, a0_0_5, a0_0_6, a0_1_0_0, a0_1_0_1, a0_1_0_6, a0_1_0_10, a0_1_1_0, a0_1_1_1, a0_1_1_2, a0_1_1_3, a0_1_1_4, a0_1_1_5, a0_1_1_6, a0_1_1_7, a0_1_1_8, a0_1_1_9, a0_1_1_10, a0_1_1_11, a0_1_1_12, a0_1_1_13, a0_1_1_14, a0_1_1_15, a0_1_1_16, a0_1_2, a0_1_3, a0_1_4, a0_1_5, a0_2)
 | _, _ => none
def Fac.shape (t : Ty4) : List AV × Blks := ([(.agg [(.agg [(.int .u8 t.1), (.int .i64 t.2.1), (.ints .u8 20 t.2.2.1), (.ints .u64 4 t.2.2.2.1), (.ints .u64 4 t.w.1), (.rints .u8 t.w.2.1), (.int .u16 t.w.2.2.1)]), (.rptr (.agg [(.rptr (.agg [(.rmap t.w.2.2.2.1), (.rmap t.x.1), (.rmap []), (.rmap []), (.rmap []), (.rmap []), (.int .i64 t.x.2.1), .snil, .snil, .snil, (.int .i64 t.x.2.2.1)])), (.agg [(.ints .u8 20 t.x.2.2.2.1), (.ints .u64 4 t.x.w.1), (.bool t.x.w.2.1), (.ints .u8 20 t.x.w.2.2.1), (.rints .u8 t.x.w.2.2.2.1), (.rints .u8 t.y.1), (.int .u64 t.y.2.1), (.int .u64 t.y.2.2.1), (.int .u64 t.y.2.2.2.1), (.ints .u64 4 t.y.w.1), (.ints .u64 4 t.y.w.2.1), (.bool t.y.w.2.2.1), (.ints .u8 20 t.y.w.2.2.2.1), (.int .u64 t.y.x.1), (.int .u64 t.y.x.2.1), (.rints .u8 t.y.x.2.2.1), (.rints .u8 t.y.x.2.2.2.1)]), (.int .u8 t.y.x.w.1), (.bool t.y.x.w.2.1), (.bool t.y.x.w.2.2.1), (.robjs 47 32 t.y.x.w.2.2.2.1)])), (.int .i64 t.y.y)])], [])
def Fac.res : Bool → AV × Blks
 | u => ((.bool u), [])
def Fac.resK {R : Type} (u : Bool) (K : AV → Blks → Option R) : Option R := K (Fac.res u).1 (Fac.res u).2
def Fac.c (n : Nat) : Abs.Callee := .mk' [] [none] Fac.pat (Fac.m n) Fac.resK
end
end
section
noncomputable section
noncomputable def Fm.C (n : Nat) : Ctx := ⟨Tryd.prog, kecG, lookC [(61, Fv.c n), (59, Fl.c n), (63, Fah.c n), (62, Faj.c n)], fun _ => false⟩
noncomputable def Fm.A (n : Nat) : Ann := ⟨Tryd.f41.ntmps, 0, noNL, [], [none], fun k => match k with
 | _ => none, noNL, lookJ []⟩
def Fm.g {α : Type} (mk0 : Bool → α) (n : Nat) (a0_0_0 : Int) (a0_0_1 : Int) (a0_0_2 : LI) (a0_0_3 : LI) (a0_0_4 : LI) (a0_0_5 : LI) (a0_0_6 : Int) (a0_1_0_0 : LA) (a0_1_0_1 : LA) (a0_1_0_6 : Int) (a0_1_0_10 : Int) (a0_1_1_0 : LI) (a0_1_1_1 : LI) (a0_1_1_2 : Bool) (a0_1_1_3 : LI) (a0_1_1_4 : LI) (a0_1_1_5 : LI) (a0_1_1_6 : Int) (a0_1_1_7 : Int) (a0_1_1_8 : Int) (a0_1_1_9 : LI) (a0_1_1_10 : LI) (a0_1_1_11 : Bool) (a0_1_1_12 : LI) (a0_1_1_13 : Int) (a0_1_1_14 : Int) (a0_1_1_15 : LI) (a0_1_1_16 : LI) (a0_1_2 : Int) (a0_1_3 : Bool) (a0_1_4 : Bool) (a0_1_5 : LA) (a0_2 : Int) : Option α :=
 bindO (Fv.m n (a0_0_0, a0_0_1, a0_0_2, a0_0_3, a0_0_4, a0_0_5, a0_0_6, a0_1_0_0, a0_1_0_1, a0_1_0_6, a0_1_0_10, a0_1_1_0, a0_1_1_1, a0_1_1_2, a0_1_1_3, a0_1_1_4, a0_1_1_5, a0_1_1_6, a0_1_1_7, a0_1_1_8, a0_1_1_9, a0_1_1_10, a0_1_1_11, a0_1_1_12, a0_1_1_13, a0_1_1_14, a0_1_1_15, a0_1_1_16, a0_1_2, a0_1_3, a0_1_4, a0_1_5, a0_2)) fun r2 =>
  if (!r2) = true then
   some (mk0 false)
  else
   bindO (Fl.m n (a0_0_0, a0_0_1, a0_0_2, a0_0_3, a0_0_4, a0_0_5, a0_0_6, a0_1_0_0, a0_1_0_1, a0_1_0_6, a0_1_0_10, a0_1_1_0, a0_1_1_1, a0_1_1_2, a0_1_1_3, a0_1_1_4, a0_1_1_5, a0_1_1_6, a0_1_1_7, a0_1_1_8, a0_1_1_9, a0_1_1_10, a0_1_1_11, a0_1_1_12, a0_1_1_13, a0_1_1_14, a0_1_1_15, a0_1_1_16, a0_1_2, a0_1_3, a0_1_4, a0_1_5, a0_2)) fun r6 =>
    if (!r6) = true then
     some (mk0 false)
    else
     if ((((List.length a0_0_5) : Nat) : Int) == 0) = true then
      if (a0_0_0 == 242) = true then
       some (mk0 true)
      else
       if (a0_0_0 == 244) = true then
        some (mk0 true)
       else
        some (mk0 false)
     else
      bindO (Fah.m n (b8 [100, 101, 112, 111, 115, 105, 116, 84, 111, 40, 97, 100, 100, 114, 101, 115, 115, 41])) fun r12 =>
       bindO (Faj.m n (a0_0_5, r12)) fun r14 =>
        if (a0_0_0 == 242) = true then
         some (mk0 true)
        else
         if (a0_0_0 == 244) = true then
          some (mk0 true)
         else
          some (mk0 (!r14))
def Fm.m (n : Nat) (t : Ty4) : Option Bool := Fm.g (fun a0 => a0) n t.1 t.2.1 t.2.2.1 t.2.2.2.1 t.w.1 t.w.2.1 t.w.2.2.1 t.w.2.2.2.1 t.x.1 t.x.2.1 t.x.2.2.1 t.x.2.2.2.1 t.x.w.1 t.x.w.2.1 t.x.w.2.2.1 t.x.w.2.2.2.1 t.y.1 t.y.2.1 t.y.2.2.1 t.y.2.2.2.1 t.y.w.1 t.y.w.2.1 t.y.w.2.2.1 t.y.w.2.2.2.1 t.y.x.1 t.y.x.2.1 t.y.x.2.2.1 t.y.x.2.2.2.1 t.y.x.w.1 t.y.x.w.2.1 t.y.x.w.2.2.1 t.y.x.w.2.2.2.1 t.y.y
def Fm.pat : List AV → Blks → Option Ty4
 | [(.agg [(.agg [(.int .u8 a0_0_0), (.int .i64 a0_0_1), (.ints .u8 20 a0_0_2), (.ints .u64 4 a0_0_3), (.ints .u64 4 a0_0_4), (.rints .u8 a0_0_5), (.int .u16 a0_0_6)]), (.rptr (.agg [(.rptr (.agg [(.rmap a0_1_0_0), (.rmap a0_1_0_1), (.rmap []), (.rmap []), (.rmap []), (.rmap []), (.int .i64 a0_1_0_6), .snil, .snil, .snil, (.int .i64 a0_1_0_10)])), (.agg [(.ints .u8 20 a0_1_1_0), (.ints .u64 4 a0_1_1_1), (.bool a0_1_1_2), (.ints .u8 20 a0_1_1_3), (.rints .u8 a0_1_1_4), (.rints .u8 a0_1_1_5), (.int .u64 a0_1_1_6), (.int .u64 a0_1_1_7), (.int .u64 a0_1_1_8), (.ints .u64 4 a0_1_1_9), (.ints .u64 4 a0_1_1_10), (.bool a0_1_1_11), (.ints .u8 20 a0_1_1_12), (.int .u64 a0_1_1_13), (.int .u64 a0_1_1_14), (.rints .u8 a0_1_1_15), (.rints .u8 a0_1_1_16)]), (.int .u8 a0_1_2), (.bool a0_1_3), (.bool a0_1_4), (.robjs 47 32 a0_1_5)])), (.int .i64 a0_2)])], [] => some (a0_0_0, a0_0_1, a0_0_2, a0_0_3, a0_0_4, a0_0_5, a0_0_6, a0_1_0_0, a0_1_0_1, a0_1_0_6, a0_1_0_10, a0_1_1_0, a0_1_1_1, a0_1_1_2, a0_1_1_3, a0_1_1_4, a0_1_1_5, a0_1_1_6, a0_1_1_7, a0_1_1_8, a0_1_1_9, a0_1_1_10, a0_1_1_11, a0_1_1_12, a0_1_1_13, a0_1_1_14, a0_1_1_15, a0_1_1_16, a0_1_2, a0_1_3, a0_1_4, a0_1_5, a0_2)
 | _, _ => none
def Fm.shape (t : Ty4) : List AV × Blks := ([(.agg [(.agg [(.int .u8 t.1), (.int .i64 t.2.1), (.ints .u8 20 t.2.2.1), (.ints .u64 4 t.2.2.2.1), (.ints .u64 4 t.w.1), (.rints .u8 t.w.2.1), (.int .u16 t.w.2.2.1)]), (.rptr (.agg [(.rptr (.agg [(.rmap t.w.2.2.2.1), (.rmap t.x.1), (.rmap []), (.rmap []), (.rmap []), (.rmap []), (.int .i64 t.x.2.1), .snil, .snil, .snil, (.int .i64 t.x.2.2.1)])), (.agg [(.ints .u8 20 t.x.2.2.2.1), (.ints .u64 4 t.x.w.1), (.bool t.x.w.2.1), (.ints .u8 20 t.x.w.2.2.1), (.rints .u8 t.x.w.2.2.2.1), (.rints .u8 t.y.1), (.int .u64 t.y.2.1), (.int .u64 t.y.2.2.1), (.int .u64 t.y.2.2.2.1), (.ints .u64 4 t.y.w.1), (.ints .u64 4 t.y.w.2.1), (.bool t.y.w.2.2.1), (.ints .u8 20 t.y.w.2.2.2.1), (.int .u64 t.y.x.1), (.int .u64 t.y.x.2.1), (.rints .u8 t.y.x.2.2.1), (.rints .u8 t.y.x.2.2.2.1)]), (.int .u8 t.y.x.w.1), (.bool t.y.x.w.2.1), (.bool t.y.x.w.2.2.1), (.robjs 47 32 t.y.x.w.2.2.2.1)])), (.int .i64 t.y.y)])], [])
def Fm.res : Bool → AV × Blks
 | u => ((.bool u), [])
def Fm.resK {R : Type} (u : Bool) (K : AV → Blks → Option R) : Option R := K (Fm.res u).1 (Fm.res u).2
def Fm.c (n : Nat) : Abs.Callee := .mk' [] [none] Fm.pat (Fm.m n) Fm.resK
end
end
section
noncomputable section
noncomputable def Fai.C (n : Nat) : Ctx := ⟨Tryd.prog, kecG, lookC [], fun _ => false⟩
noncomputable def Fai.A (n : Nat) : Ann := ⟨Tryd.f11.ntmps, 0, noNL, [], [none, none], fun k => match k with
 | _ => none, noNL, lookJ []⟩
def Fai.g {α : Type} (mk0 : LI → Bool → α) (n : Nat) (a0_0 : LI) (a0_1 : LI) (a0_2 : Bool) (a0_3 : LI) (a0_4 : LI) (a0_5 : LI) (a0_6 : Int) (a0_7 : Int) (a0_8 : Int) (a0_9 : LI) (a0_10 : LI) (a0_11 : Bool) (a0_12 : LI) (a0_13 : Int) (a0_14 : Int) (a0_15 : LI) (a0_16 : LI) (a1 : Int) : Option α :=
 if (a1 == 1) = true then
  some (mk0 a0_0 true)
 else
  if (a1 == 2) = true then
   if a0_2 = true then
    some (mk0 a0_3 true)
   else
    if (a1 == 3) = true then
     if a0_11 = true then
      some (mk0 a0_12 true)
     else
      some (mk0 ([0, 0, 0, 0, 0, 0, 0, 0, 0, 0, 0, 0, 0, 0, 0, 0, 0, 0, 0, 0] : List Int) false)
    else
     some (mk0 ([0, 0, 0, 0, 0, 0, 0, 0, 0, 0, 0, 0, 0, 0, 0, 0, 0, 0, 0, 0] : List Int) false)
  else
   if (a1 == 3) = true then
    if a0_11 = true then
     some (mk0 a0_12 true)
    else
     some (mk0 ([0, 0, 0, 0, 0, 0, 0, 0, 0, 0, 0, 0, 0, 0, 0, 0, 0, 0, 0, 0] : List Int) false)
   else
    some (mk0 ([0, 0, 0, 0, 0, 0, 0, 0, 0, 0, 0, 0, 0, 0, 0, 0, 0, 0, 0, 0] : List Int) false)
def Fai.m (n : Nat) (t : Ty11) : Option (LI × Bool) := Fai.g (fun a0 a1 => (a0, a1)) n t.1 t.2.1 t.2.2.1 t.2.2.2.1 t.w.1 t.w.2.1 t.w.2.2.1 t.w.2.2.2.1 t.x.1 t.x.2.1 t.x.2.2.1 t.x.2.2.2.1 t.x.w.1 t.x.w.2.1 t.x.w.2.2.1 t.x.w.2.2.2.1 t.y.1 t.y.2
def Fai.pat : List AV → Blks → Option Ty11
 | [(.agg [(.ints .u8 20 a0_0), (.ints .u64 4 a0_1), (.bool a0_2), (.ints .u8 20 a0_3), (.rints .u8 a0_4), (.rints .u8 a0_5), (.int .u64 a0_6), (.int .u64 a0_7), (.int .u64 a0_8), (.ints .u64 4 a0_9), (.ints .u64 4 a0_10), (.bool a0_11), (.ints .u8 20 a0_12), (.int .u64 a0_13), (.int .u64 a0_14), (.rints .u8 a0_15), (.rints .u8 a0_16)]), (.int .u8 a1)], [] => some (a0_0, a0_1, a0_2, a0_3, a0_4, a0_5, a0_6, a0_7, a0_8, a0_9, a0_10, a0_11, a0_12, a0_13, a0_14, a0_15, a0_16, a1)
 | _, _ => none
def Fai.shape (t : Ty11) : List AV × Blks := ([(.agg [(.ints .u8 20 t.1), (.ints .u64 4 t.2.1), (.bool t.2.2.1), (.ints .u8 20 t.2.2.2.1), (.rints .u8 t.w.1), (.rints .u8 t.w.2.1), (.int .u64 t.w.2.2.1), (.int .u64 t.w.2.2.2.1), (.int .u64 t.x.1), (.ints .u64 4 t.x.2.1), (.ints .u64 4 t.x.2.2.1), (.bool t.x.2.2.2.1), (.ints .u8 20 t.x.w.1), (.int .u64 t.x.w.2.1), (.int .u64 t.x.w.2.2.1), (.rints .u8 t.x.w.2.2.2.1), (.rints .u8 t.y.1)]), (.int .u8 t.y.2)], [])
def Fai.res : (LI × Bool) → AV × Blks
 | u => ((.tup [(.ints .u8 20 u.1), (.bool u.2)]), [])
def Fai.resK {R : Type} (u : (LI × Bool)) (K : AV → Blks → Option R) : Option R := K (Fai.res u).1 (Fai.res u).2
def Fai.c (n : Nat) : Abs.Callee := .mk' [] [(some (.agg [none, none, none, none, (some (.ints .u8)), (some (.ints .u8)), none, none, none, none, none, none, none, none, none, (some (.ints .u8)), (some (.ints .u8))])), none] Fai.pat (Fai.m n) Fai.resK
end
end
section
noncomputable section
noncomputable def Fn.C (n : Nat) : Ctx := ⟨Tryd.prog, kecG, lookC [(11, Fai.c n), (64, Faf.c n)], fun _ => false⟩
noncomputable def Fn.A (n : Nat) : Ann := ⟨Tryd.f42.ntmps, 0, noNL, [], [none], fun k => match k with
 | _ => none, noNL, lookJ []⟩
def Fn.g {α : Type} (mk0 : Bool → α) (n : Nat) (a0_0_0 : Int) (a0_0_1 : Int) (a0_0_2 : LI) (a0_0_3 : LI) (a0_0_4 : LI) (a0_0_5 : LI) (a0_0_6 : Int) (a0_1_0_0 : LA) (a0_1_0_1 : LA) (a0_1_0_6 : Int) (a0_1_0_10 : Int) (a0_1_1_0 : LI) (a0_1_1_1 : LI) (a0_1_1_2 : Bool) (a0_1_1_3 : LI) (a0_1_1_4 : LI) (a0_1_1_5 : LI) (a0_1_1_6 : Int) (a0_1_1_7 : Int) (a0_1_1_8 : Int) (a0_1_1_9 : LI) (a0_1_1_10 : LI) (a0_1_1_11 : Bool) (a0_1_1_12 : LI) (a0_1_1_13 : Int) (a0_1_1_14 : Int) (a0_1_1_15 : LI) (a0_1_1_16 : LI) (a0_1_2 : Int) (a0_1_3 : Bool) (a0_1_4 : Bool) (a0_1_5 : LA) (a0_2 : Int) : Option α :=
 if (a0_0_0 != 84) = true then
  if (a0_0_0 != 85) = true then
   some (mk0 false)
  else
   bindO (Fai.m n (a0_1_1_0, a0_1_1_1, a0_1_1_2, a0_1_1_3, a0_1_1_4, a0_1_1_5, a0_1_1_6, a0_1_1_7, a0_1_1_8, a0_1_1_9, a0_1_1_10, a0_1_1_11, a0_1_1_12, a0_1_1_13, a0_1_1_14, a0_1_1_15, a0_1_1_16, a0_1_2)) fun r6 =>
    if (a0_0_2 == a0_1_1_0) = true then
     some (mk0 false)
    else
     if (!a0_1_4) = true then
      bindO (Faf.m n (a0_1_5, a0_1_1_0, a0_0_3)) fun r12 =>
       if r12 = true then
        some (mk0 false)
       else
        if a0_1_3 = true then
         if (a0_0_0 != 84) = true then
          if (!(a0_0_2 == r6.1)) = true then
           bindO (Faf.m n (a0_1_5, r6.1, a0_0_3)) fun r22 =>
            some (mk0 (!r22))
          else
           some (mk0 false)
         else
          some (mk0 false)
        else
         some (mk0 true)
     else
      if a0_1_3 = true then
       if (a0_0_0 != 84) = true then
        if (!(a0_0_2 == r6.1)) = true then
         bindO (Faf.m n (a0_1_5, r6.1, a0_0_3)) fun r18 =>
          some (mk0 (!r18))
        else
         some (mk0 false)
       else
        some (mk0 false)
      else
       some (mk0 true)
 else
  bindO (Fai.m n (a0_1_1_0, a0_1_1_1, a0_1_1_2, a0_1_1_3, a0_1_1_4, a0_1_1_5, a0_1_1_6, a0_1_1_7, a0_1_1_8, a0_1_1_9, a0_1_1_10, a0_1_1_11, a0_1_1_12, a0_1_1_13, a0_1_1_14, a0_1_1_15, a0_1_1_16, a0_1_2)) fun r4 =>
   if (a0_0_2 == a0_1_1_0) = true then
    some (mk0 false)
   else
    if (!a0_1_4) = true then
     bindO (Faf.m n (a0_1_5, a0_1_1_0, a0_0_3)) fun r10 =>
      if r10 = true then
       some (mk0 false)
      else
       if a0_1_3 = true then
        if (a0_0_0 != 84) = true then
         if (!(a0_0_2 == r4.1)) = true then
          bindO (Faf.m n (a0_1_5, r4.1, a0_0_3)) fun r20 =>
           some (mk0 (!r20))
         else
          some (mk0 false)
        else
         some (mk0 false)
       else
        some (mk0 true)
    else
     if a0_1_3 = true then
      if (a0_0_0 != 84) = true then
       if (!(a0_0_2 == r4.1)) = true then
        bindO (Faf.m n (a0_1_5, r4.1, a0_0_3)) fun r16 =>
         some (mk0 (!r16))
       else
        some (mk0 false)
      else
       some (mk0 false)
     else
      some (mk0 true)
def Fn.m (n : Nat) (t : Ty4) : Option Bool := Fn.g (fun a0 => a0) n t.1 t.2.1 t.2.2.1 t.2.2.2.1 t.w.1 t.w.2.1 t.w.2.2.1 t.w.2.2.2.1 t.x.1 t.x.2.1 t.x.2.2.1 t.x.2.2.2.1 t.x.w.1 t.x.w.2.1 t.x.w.2.2.1 t.x.w.2.2.2.1 t.y.1 t.y.2.1 t.y.2.2.1 t.y.2.2.2.1 t.y.w.1 t.y.w.2.1 t.y.w.2.2.1 t.y.w.2.2.2.1 t.y.x.1 t.y.x.2.1 t.y.x.2.2.1 t.y.x.2.2.2.1 t.y.x.w.1 t.y.x.w.2.1 t.y.x.w.2.2.1 t.y.x.w.2.2.2.1 t.y.y
def Fn.pat : List AV → Blks → Option Ty4
 | [(.agg [(.agg [(.int .u8 a0_0_0), (.int .i64 a0_0_1), (.ints .u8 20 a0_0_2), (.ints .u64 4 a0_0_3), (.ints .u64 4 a0_0_4), (.rints .u8 a0_0_5), (.int .u16 a0_0_6)]), (.rptr (.agg [(.rptr (.agg [(.rmap a0_1_0_0), (.rmap a0_1_0_1), (.rmap []), (.rmap []), (.rmap []), (.rmap []), (.int .i64 a0_1_0_6), .snil, .snil, .snil, (.int .i64 a0_1_0_10)])), (.agg [(.ints .u8 20 a0_1_1_0), (.ints .u64 4 a0_1_1_1), (.bool a0_1_1_2), (.ints .u8 20 a0_1_1_3), (.rints .u8 a0_1_1_4), (.rints .u8 a0_1_1_5), (.int .u64 a0_1_1_6), (.int .u64 a0_1_1_7), (.int .u64 a0_1_1_8), (.ints .u64 4 a0_1_1_9), (.ints .u64 4 a0_1_1_10), (.bool a0_1_1_11), (.ints .u8 20 a0_1_1_12), (.int .u64 a0_1_1_13), (.int .u64 a0_1_1_14), (.rints .u8 a0_1_1_15), (.rints .u8 a0_1_1_16)]), (.int .u8 a0_1_2), (.bool a0_1_3), (.bool a0_1_4), (.robjs 47 32 a0_1_5)])), (.int .i64 a0_2)])], [] => some (a0_0_0, a0_0_1, a0_0_2, a0_0_3, a0_0_4, a0_0_5, a0_0_6, a0_1_0_0, a0_1_0_1, a0_1_0_6, a0_1_0_10, a0_1_1_0, a0_1_1_1, a0_1_1_2, a0_1_1_3, a0_1_1_4, a0_1_1_5, a0_1_1_6, a0_1_1_7, a0_1_1_8, a0_1_1_9, a0_1_1_10, a0_1_1_11, a0_1_1_12, a0_1_1_13, a0_1_1_14, a0_1_1_15, a0_1_1_16, a0_1_2, a0_1_3, a0_1_4, a0_1_5, a0_2)
 | _, _ => none
def Fn.shape (t : Ty4) : List AV × Blks := ([(.agg [(.agg [(.int .u8 t.1), (.int .i64 t.2.1), (.ints .u8 20 t.2.2.1), (.ints .u64 4 t.2.2.2.1), (.ints .u64 4 t.w.1), (.rints .u8 t.w.2.1), (.int .u16 t.w.2.2.1)]), (.rptr (.agg [(.rptr (.agg [(.rmap t.w.2.2.2.1), (.rmap t.x.1), (.rmap []), (.rmap []), (.rmap []), (.rmap []), (.int .i64 t.x.2.1), .snil, .snil, .snil, (.int .i64 t.x.2.2.1)])), (.agg [(.ints .u8 20 t.x.2.2.2.1), (.ints .u64 4 t.x.w.1), (.bool t.x.w.2.1), (.ints .u8 20 t.x.w.2.2.1), (.rints .u8 t.x.w.2.2.2.1), (.rints .u8 t.y.1), (.int .u64 t.y.2.1), (.int .u64 t.y.2.2.1), (.int .u64 t.y.2.2.2.1), (.ints .u64 4 t.y.w.1), (.ints .u64 4 t.y.w.2.1), (.bool t.y.w.2.2.1), (.ints .u8 20 t.y.w.2.2.2.1), (.int .u64 t.y.x.1), (.int .u64 t.y.x.2.1), (.rints .u8 t.y.x.2.2.1), (.rints .u8 t.y.x.2.2.2.1)]), (.int .u8 t.y.x.w.1), (.bool t.y.x.w.2.1), (.bool t.y.x.w.2.2.1), (.robjs 47 32 t.y.x.w.2.2.2.1)])), (.int .i64 t.y.y)])], [])
def Fn.res : Bool → AV × Blks
 | u => ((.bool u), [])
def Fn.resK {R : Type} (u : Bool) (K : AV → Blks → Option R) : Option R := K (Fn.res u).1 (Fn.res u).2
def Fn.c (n : Nat) : Abs.Callee := .mk' [] [none] Fn.pat (Fn.m n) Fn.resK
end
end
section
noncomputable section
noncomputable def Fo.C (n : Nat) : Ctx := ⟨Tryd.prog, kecG, lookC [(35, Ff.c n), (36, Fj.c n), (37, Fe.c n), (38, Fu.c n), (39, Fx.c n), (40, Fac.c n), (41, Fm.c n), (42, Fn.c n)], fun _ => false⟩
def Fo.jlive : NL := fun k => match k with
 | 20006 => ([5, 2, 1], [6, 2, 1, 5])
 | _ => ([], [])
noncomputable def Fo.jc0 : Code := ((seqsIn (Tryd.f21.body.getD .skip)).filter fun a => jkey a == 20006).getD 0 .skip
def Fo.j20006.g {α : Type} (mk0 : LI → Int → Int → LI → LI → LI → LI → Int → LA → LA → Int → Int → LI → LI → Bool → LI → LI → LI → Int → Int → Int → LI → LI → Bool → LI → Int → Int → LI → LI → Int → Bool → Bool → LA → Int → LI → α) (n : Nat) (x0 : LI) (x1 : Int) (x2 : Int) (x3 : LI) (x4 : LI) (x5 : LI) (x6 : LI) (x7 : Int) (x8 : LA) (x9 : LA) (x10 : Int) (x11 : Int) (x12 : LI) (x13 : LI) (x14 : Bool) (x15 : LI) (x16 : LI) (x17 : LI) (x18 : Int) (x19 : Int) (x20 : Int) (x21 : LI) (x22 : LI) (x23 : Bool) (x24 : LI) (x25 : Int) (x26 : Int) (x27 : LI) (x28 : LI) (x29 : Int) (x30 : Bool) (x31 : Bool) (x32 : LA) (x33 : Int) (x34 : LI) : Option α :=
  some (mk0 x0 x1 x2 x3 x4 x5 x6 x7 x8 x9 x10 x11 x12 x13 x14 x15 x16 x17 x18 x19 x20 x21 x22 x23 x24 x25 x26 x27 x28 x29 x30 x31 x32 x33 x34)
def Fo.j20006.m (n : Nat) (t : Ty2) : Option Ty2 := Fo.j20006.g (fun a0 a1 a2 a3 a4 a5 a6 a7 a8 a9 a10 a11 a12 a13 a14 a15 a16 a17 a18 a19 a20 a21 a22 a23 a24 a25 a26 a27 a28 a29 a30 a31 a32 a33 a34 => (a0, a1, a2, a3, a4, a5, a6, a7, a8, a9, a10, a11, a12, a13, a14, a15, a16, a17, a18, a19, a20, a21, a22, a23, a24, a25, a26, a27, a28, a29, a30, a31, a32, a33, a34)) n t.1 t.2.1 t.2.2.1 t.2.2.2.1 t.w.1 t.w.2.1 t.w.2.2.1 t.w.2.2.2.1 t.x.1 t.x.2.1 t.x.2.2.1 t.x.2.2.2.1 t.x.w.1 t.x.w.2.1 t.x.w.2.2.1 t.x.w.2.2.2.1 t.y.1 t.y.2.1 t.y.2.2.1 t.y.2.2.2.1 t.y.w.1 t.y.w.2.1 t.y.w.2.2.1 t.y.w.2.2.2.1 t.y.x.1 t.y.x.2.1 t.y.x.2.2.1 t.y.x.2.2.2.1 t.y.x.w.1 t.y.x.w.2.1 t.y.x.w.2.2.1 t.y.x.w.2.2.2.1 t.y.y.1 t.y.y.2.1 t.y.y.2.2
def Fo.j20006.p0 : AV → Option Unit
 | (.ptr 0 []) => some ()
 | _ => none
def Fo.j20006.p1 : AV → Option Unit
 | (.ptr 1 []) => some ()
 | _ => none
def Fo.j20006.p2 : AV → Option LI
 | (.rints .i64 x0) => some x0
 | _ => none
def Fo.j20006.p3 : Option Blk → Option Unit
 | (some (.var (.own 2 1))) => some ()
 | _ => none
def Fo.j20006.p4 : Option Blk → Option Ty4
 | (some (.var (.agg [(.agg [(.int .u8 x1), (.int .i64 x2), (.ints .u8 20 x3), (.ints .u64 4 x4), (.ints .u64 4 x5), (.rints .u8 x6), (.int .u16 x7)]), (.rptr (.agg [(.rptr (.agg [(.rmap x8), (.rmap x9), (.rmap []), (.rmap []), (.rmap []), (.rmap []), (.int .i64 x10), .snil, .snil, .snil, (.int .i64 x11)])), (.agg [(.ints .u8 20 x12), (.ints .u64 4 x13), (.bool x14), (.ints .u8 20 x15), (.rints .u8 x16), (.rints .u8 x17), (.int .u64 x18), (.int .u64 x19), (.int .u64 x20), (.ints .u64 4 x21), (.ints .u64 4 x22), (.bool x23), (.ints .u8 20 x24), (.int .u64 x25), (.int .u64 x26), (.rints .u8 x27), (.rints .u8 x28)]), (.int .u8 x29), (.bool x30), (.bool x31), (.robjs 47 32 x32)])), (.int .i64 x33)]))) => some (x1, x2, x3, x4, x5, x6, x7, x8, x9, x10, x11, x12, x13, x14, x15, x16, x17, x18, x19, x20, x21, x22, x23, x24, x25, x26, x27, x28, x29, x30, x31, x32, x33)
 | _ => none
def Fo.j20006.p5 : Option Blk → Option LI
 | (some (.ints .u8 x34)) => some x34
 | _ => none
def Fo.j20006.pat : St → Option Ty2
 | (St.mk [s0, s1, s2] [s3, s4, s5]) => bindO (Fo.j20006.p0 s0) fun a0 => bindO (Fo.j20006.p1 s1) fun a1 => bindO (Fo.j20006.p2 s2) fun a2 => bindO (Fo.j20006.p3 s3) fun a3 => bindO (Fo.j20006.p4 s4) fun a4 => bindO (Fo.j20006.p5 s5) fun a5 => some (a2, a4.1, a4.2.1, a4.2.2.1, a4.2.2.2.1, a4.2.2.2.2.1, a4.2.2.2.2.2.1, a4.2.2.2.2.2.2.1, a4.2.2.2.2.2.2.2.1, a4.2.2.2.2.2.2.2.2.1, a4.2.2.2.2.2.2.2.2.2.1, a4.2.2.2.2.2.2.2.2.2.2.1, a4.2.2.2.2.2.2.2.2.2.2.2.1, a4.2.2.2.2.2.2.2.2.2.2.2.2.1, a4.2.2.2.2.2.2.2.2.2.2.2.2.2.1, a4.2.2.2.2.2.2.2.2.2.2.2.2.2.2.1, a4.2.2.2.2.2.2.2.2.2.2.2.2.2.2.2.1, a4.2.2.2.2.2.2.2.2.2.2.2.2.2.2.2.2.1, a4.2.2.2.2.2.2.2.2.2.2.2.2.2.2.2.2.2.1, a4.2.2.2.2.2.2.2.2.2.2.2.2.2.2.2.2.2.2.1, a4.2.2.2.2.2.2.2.2.2.2.2.2.2.2.2.2.2.2.2.1, a4.2.2.2.2.2.2.2.2.2.2.2.2.2.2.2.2.2.2.2.2.1, a4.2.2.2.2.2.2.2.2.2.2.2.2.2.2.2.2.2.2.2.2.2.1, a4.2.2.2.2.2.2.2.2.2.2.2.2.2.2.2.2.2.2.2.2.2.2.1, a4.2.2.2.2.2.2.2.2.2.2.2.2.2.2.2.2.2.2.2.2.2.2.2.1, a4.2.2.2.2.2.2.2.2.2.2.2.2.2.2.2.2.2.2.2.2.2.2.2.2.1, a4.2.2.2.2.2.2.2.2.2.2.2.2.2.2.2.2.2.2.2.2.2.2.2.2.2.1, a4.2.2.2.2.2.2.2.2.2.2.2.2.2.2.2.2.2.2.2.2.2.2.2.2.2.2.1, a4.2.2.2.2.2.2.2.2.2.2.2.2.2.2.2.2.2.2.2.2.2.2.2.2.2.2.2.1, a4.2.2.2.2.2.2.2.2.2.2.2.2.2.2.2.2.2.2.2.2.2.2.2.2.2.2.2.2.1, a4.2.2.2.2.2.2.2.2.2.2.2.2.2.2.2.2.2.2.2.2.2.2.2.2.2.2.2.2.2.1, a4.2.2.2.2.2.2.2.2.2.2.2.2.2.2.2.2.2.2.2.2.2.2.2.2.2.2.2.2.2.2.1, a4.2.2.2.2.2.2.2.2.2.2.2.2.2.2.2.2.2.2.2.2.2.2.2.2.2.2.2.2.2.2.2.1, a4.2.2.2.2.2.2.2.2.2.2.2.2.2.2.2.2.2.2.2.2.2.2.2.2.2.2.2.2.2.2.2.2, a5)
 | _ => none
def Fo.j20006.shape (t : Ty2) : St := (St.mk [(.ptr 0 []), (.ptr 1 []), (.rints .i64 t.1)] [(some (.var (.own 2 1))), (some (.var (.agg [(.agg [(.int .u8 t.2.1), (.int .i64 t.2.2.1), (.ints .u8 20 t.2.2.2.1), (.ints .u64 4 t.w.1), (.ints .u64 4 t.w.2.1), (.rints .u8 t.w.2.2.1), (.int .u16 t.w.2.2.2.1)]), (.rptr (.agg [(.rptr (.agg [(.rmap t.x.1), (.rmap t.x.2.1), (.rmap []), (.rmap []), (.rmap []), (.rmap []), (.int .i64 t.x.2.2.1), .snil, .snil, .snil, (.int .i64 t.x.2.2.2.1)])), (.agg [(.ints .u8 20 t.x.w.1), (.ints .u64 4 t.x.w.2.1), (.bool t.x.w.2.2.1), (.ints .u8 20 t.x.w.2.2.2.1), (.rints .u8 t.y.1), (.rints .u8 t.y.2.1), (.int .u64 t.y.2.2.1), (.int .u64 t.y.2.2.2.1), (.int .u64 t.y.w.1), (.ints .u64 4 t.y.w.2.1), (.ints .u64 4 t.y.w.2.2.1), (.bool t.y.w.2.2.2.1), (.ints .u8 20 t.y.x.1), (.int .u64 t.y.x.2.1), (.int .u64 t.y.x.2.2.1), (.rints .u8 t.y.x.2.2.2.1), (.rints .u8 t.y.x.w.1)]), (.int .u8 t.y.x.w.2.1), (.bool t.y.x.w.2.2.1), (.bool t.y.x.w.2.2.2.1), (.robjs 47 32 t.y.y.1)])), (.int .i64 t.y.y.2.1)]))), (some (.ints .u8 t.y.y.2.2))])
def Fo.j20006.res : Ty2 → Ex × St
 | u => (.normal, (St.mk [(.fn (.func 35) [] [(.ptr 0 [])]), (.ptr 1 []), (.rints .i64 u.1), (.ptr 0 [])] [(some (.var (.own 2 1))), (some (.var (.agg [(.agg [(.int .u8 u.2.1), (.int .i64 u.2.2.1), (.ints .u8 20 u.2.2.2.1), (.ints .u64 4 u.w.1), (.ints .u64 4 u.w.2.1), (.rints .u8 u.w.2.2.1), (.int .u16 u.w.2.2.2.1)]), (.rptr (.agg [(.rptr (.agg [(.rmap u.x.1), (.rmap u.x.2.1), (.rmap []), (.rmap []), (.rmap []), (.rmap []), (.int .i64 u.x.2.2.1), .snil, .snil, .snil, (.int .i64 u.x.2.2.2.1)])), (.agg [(.ints .u8 20 u.x.w.1), (.ints .u64 4 u.x.w.2.1), (.bool u.x.w.2.2.1), (.ints .u8 20 u.x.w.2.2.2.1), (.rints .u8 u.y.1), (.rints .u8 u.y.2.1), (.int .u64 u.y.2.2.1), (.int .u64 u.y.2.2.2.1), (.int .u64 u.y.w.1), (.ints .u64 4 u.y.w.2.1), (.ints .u64 4 u.y.w.2.2.1), (.bool u.y.w.2.2.2.1), (.ints .u8 20 u.y.x.1), (.int .u64 u.y.x.2.1), (.int .u64 u.y.x.2.2.1), (.rints .u8 u.y.x.2.2.2.1), (.rints .u8 u.y.x.w.1)]), (.int .u8 u.y.x.w.2.1), (.bool u.y.x.w.2.2.1), (.bool u.y.x.w.2.2.2.1), (.robjs 47 32 u.y.y.1)])), (.int .i64 u.y.y.2.1)]))), (some (.ints .u8 u.y.y.2.2))]))
def Fo.j20006.resK {R : Type} (u : Ty2) (K : Ex → St → Option R) : Option R := K (Fo.j20006.res u).1 (Fo.j20006.res u).2
noncomputable def Fo.A (n : Nat) : Ann := ⟨Tryd.f21.ntmps, 0, noNL, [(1, (.ints .i64)), (5, (.ints .u8))], [(some (.ints .u8))], fun k => match k with
 | _ => none, Fo.jlive, lookJ [(20006, .mk' Fo.j20006.pat (Fo.j20006.m n) Fo.j20006.resK)]⟩
def Fo.g {α : Type} (mk0 : LI → α) (n : Nat) (a0_0_0 : Int) (a0_0_1 : Int) (a0_0_2 : LI) (a0_0_3 : LI) (a0_0_4 : LI) (a0_0_5 : LI) (a0_0_6 : Int) (a0_1_0_0 : LA) (a0_1_0_1 : LA) (a0_1_0_6 : Int) (a0_1_0_10 : Int) (a0_1_1_0 : LI) (a0_1_1_1 : LI) (a0_1_1_2 : Bool) (a0_1_1_3 : LI) (a0_1_1_4 : LI) (a0_1_1_5 : LI) (a0_1_1_6 : Int) (a0_1_1_7 : Int) (a0_1_1_8 : Int) (a0_1_1_9 : LI) (a0_1_1_10 : LI) (a0_1_1_11 : Bool) (a0_1_1_12 : LI) (a0_1_1_13 : Int) (a0_1_1_14 : Int) (a0_1_1_15 : LI) (a0_1_1_16 : LI) (a0_1_2 : Int) (a0_1_3 : Bool) (a0_1_4 : Bool) (a0_1_5 : LA) (a0_2 : Int) (a1 : LI) : Option α :=
 if (a0_0_6 == 130) = true then
  some (mk0 [3])
 else
  if (a0_0_6 != 0) = true then
   some (mk0 [])
  else
   bindO (Fo.j20006.m n (a1, a0_0_0, a0_0_1, a0_0_2, a0_0_3, a0_0_4, a0_0_5, a0_0_6, a0_1_0_0, a0_1_0_1, a0_1_0_6, a0_1_0_10, a0_1_1_0, a0_1_1_1, a0_1_1_2, a0_1_1_3, a0_1_1_4, a0_1_1_5, a0_1_1_6, a0_1_1_7, a0_1_1_8, a0_1_1_9, a0_1_1_10, a0_1_1_11, a0_1_1_12, a0_1_1_13, a0_1_1_14, a0_1_1_15, a0_1_1_16, a0_1_2, a0_1_3, a0_1_4, a0_1_5, a0_2, [])) fun r6 =>
    bindO (Fj.m n (r6.2.1, r6.2.2.1, r6.2.2.2.1, r6.w.1, r6.w.2.1, r6.w.2.2.1, r6.w.2.2.2.1, r6.x.1, r6.x.2.1, r6.x.2.2.1, r6.x.2.2.2.1, r6.x.w.1, r6.x.w.2.1, r6.x.w.2.2.1, r6.x.w.2.2.2.1, r6.y.1, r6.y.2.1, r6.y.2.2.1, r6.y.2.2.2.1, r6.y.w.1, r6.y.w.2.1, r6.y.w.2.2.1, r6.y.w.2.2.2.1, r6.y.x.1, r6.y.x.2.1, r6.y.x.2.2.1, r6.y.x.2.2.2.1, r6.y.x.w.1, r6.y.x.w.2.1, r6.y.x.w.2.2.1, r6.y.x.w.2.2.2.1, r6.y.y.1, r6.y.y.2.1)) fun r8 =>
     bindO (Ff.m n (1, r8, r6.y.y.2.2)) fun r10 =>
      bindO (Fe.m n (r6.1, r6.y.y.2.1)) fun r12 =>
       bindO (Ff.m n (2, r12, r10)) fun r14 =>
        bindO (Fu.m n (r6.2.1, r6.2.2.1, r6.2.2.2.1, r6.w.1, r6.w.2.1, r6.w.2.2.1, r6.w.2.2.2.1, r6.x.1, r6.x.2.1, r6.x.2.2.1, r6.x.2.2.2.1, r6.x.w.1, r6.x.w.2.1, r6.x.w.2.2.1, r6.x.w.2.2.2.1, r6.y.1, r6.y.2.1, r6.y.2.2.1, r6.y.2.2.2.1, r6.y.w.1, r6.y.w.2.1, r6.y.w.2.2.1, r6.y.w.2.2.2.1, r6.y.x.1, r6.y.x.2.1, r6.y.x.2.2.1, r6.y.x.2.2.2.1, r6.y.x.w.1, r6.y.x.w.2.1, r6.y.x.w.2.2.1, r6.y.x.w.2.2.2.1, r6.y.y.1, r6.y.y.2.1)) fun r16 =>
         bindO (Ff.m n (4, r16, r14)) fun r18 =>
          bindO (Fx.m n (r6.2.1, r6.2.2.1, r6.2.2.2.1, r6.w.1, r6.w.2.1, r6.w.2.2.1, r6.w.2.2.2.1, r6.x.1, r6.x.2.1, r6.x.2.2.1, r6.x.2.2.2.1, r6.x.w.1, r6.x.w.2.1, r6.x.w.2.2.1, r6.x.w.2.2.2.1, r6.y.1, r6.y.2.1, r6.y.2.2.1, r6.y.2.2.2.1, r6.y.w.1, r6.y.w.2.1, r6.y.w.2.2.1, r6.y.w.2.2.2.1, r6.y.x.1, r6.y.x.2.1, r6.y.x.2.2.1, r6.y.x.2.2.2.1, r6.y.x.w.1, r6.y.x.w.2.1, r6.y.x.w.2.2.1, r6.y.x.w.2.2.2.1, r6.y.y.1, r6.y.y.2.1)) fun r20 =>
           bindO (Ff.m n (5, r20, r18)) fun r22 =>
            bindO (Fac.m n (r6.2.1, r6.2.2.1, r6.2.2.2.1, r6.w.1, r6.w.2.1, r6.w.2.2.1, r6.w.2.2.2.1, r6.x.1, r6.x.2.1, r6.x.2.2.1, r6.x.2.2.2.1, r6.x.w.1, r6.x.w.2.1, r6.x.w.2.2.1, r6.x.w.2.2.2.1, r6.y.1, r6.y.2.1, r6.y.2.2.1, r6.y.2.2.2.1, r6.y.w.1, r6.y.w.2.1, r6.y.w.2.2.1, r6.y.w.2.2.2.1, r6.y.x.1, r6.y.x.2.1, r6.y.x.2.2.1, r6.y.x.2.2.2.1, r6.y.x.w.1, r6.y.x.w.2.1, r6.y.x.w.2.2.1, r6.y.x.w.2.2.2.1, r6.y.y.1, r6.y.y.2.1)) fun r24 =>
             bindO (Ff.m n (6, r24, r22)) fun r26 =>
              bindO (Fm.m n (r6.2.1, r6.2.2.1, r6.2.2.2.1, r6.w.1, r6.w.2.1, r6.w.2.2.1, r6.w.2.2.2.1, r6.x.1, r6.x.2.1, r6.x.2.2.1, r6.x.2.2.2.1, r6.x.w.1, r6.x.w.2.1, r6.x.w.2.2.1, r6.x.w.2.2.2.1, r6.y.1, r6.y.2.1, r6.y.2.2.1, r6.y.2.2.2.1, r6.y.w.1, r6.y.w.2.1, r6.y.w.2.2.1, r6.y.w.2.2.2.1, r6.y.x.1, r6.y.x.2.1, r6.y.x.2.2.1, r6.y.x.2.2.2.1, r6.y.x.w.1, r6.y.x.w.2.1, r6.y.x.w.2.2.1, r6.y.x.w.2.2.2.1, r6.y.y.1, r6.y.y.2.1)) fun r28 =>
               bindO (Ff.m n (7, r28, r26)) fun r30 =>
                bindO (Fn.m n (r6.2.1, r6.2.2.1, r6.2.2.2.1, r6.w.1, r6.w.2.1, r6.w.2.2.1, r6.w.2.2.2.1, r6.x.1, r6.x.2.1, r6.x.2.2.1, r6.x.2.2.2.1, r6.x.w.1, r6.x.w.2.1, r6.x.w.2.2.1, r6.x.w.2.2.2.1, r6.y.1, r6.y.2.1, r6.y.2.2.1, r6.y.2.2.2.1, r6.y.w.1, r6.y.w.2.1, r6.y.w.2.2.1, r6.y.w.2.2.2.1, r6.y.x.1, r6.y.x.2.1, r6.y.x.2.2.1, r6.y.x.2.2.2.1, r6.y.x.w.1, r6.y.x.w.2.1, r6.y.x.w.2.2.1, r6.y.x.w.2.2.2.1, r6.y.y.1, r6.y.y.2.1)) fun r32 =>
                 bindO (Ff.m n (8, r32, r30)) fun r34 =>
                  some (mk0 r34)
def Fo.m (n : Nat) (t : Ty3) : Option LI := Fo.g (fun a0 => a0) n t.1 t.2.1 t.2.2.1 t.2.2.2.1 t.w.1 t.w.2.1 t.w.2.2.1 t.w.2.2.2.1 t.x.1 t.x.2.1 t.x.2.2.1 t.x.2.2.2.1 t.x.w.1 t.x.w.2.1 t.x.w.2.2.1 t.x.w.2.2.2.1 t.y.1 t.y.2.1 t.y.2.2.1 t.y.2.2.2.1 t.y.w.1 t.y.w.2.1 t.y.w.2.2.1 t.y.w.2.2.2.1 t.y.x.1 t.y.x.2.1 t.y.x.2.2.1 t.y.x.2.2.2.1 t.y.x.w.1 t.y.x.w.2.1 t.y.x.w.2.2.1 t.y.x.w.2.2.2.1 t.y.y.1 t.y.y.2
def Fo.pat : List AV → Blks → Option Ty3
 | [(.agg [(.agg [(.int .u8 a0_0_0), (.int .i64 a0_0_1), (.ints .u8 20 a0_0_2), (.ints .u64 4 a0_0_3), (.ints .u64 4 a0_0_4), (.rints .u8 a0_0_5), (.int .u16 a0_0_6)]), (.rptr (.agg [(.rptr (.agg [(.rmap a0_1_0_0), (.rmap a0_1_0_1), (.rmap []), (.rmap []), (.rmap []), (.rmap []), (.int .i64 a0_1_0_6), .snil, .snil, .snil, (.int .i64 a0_1_0_10)])), (.agg [(.ints .u8 20 a0_1_1_0), (.ints .u64 4 a0_1_1_1), (.bool a0_1_1_2), (.ints .u8 20 a0_1_1_3), (.rints .u8 a0_1_1_4), (.rints .u8 a0_1_1_5), (.int .u64 a0_1_1_6), (.int .u64 a0_1_1_7), (.int .u64 a0_1_1_8), (.ints .u64 4 a0_1_1_9), (.ints .u64 4 a0_1_1_10), (.bool a0_1_1_11), (.ints .u8 20 a0_1_1_12), (.int .u64 a0_1_1_13), (.int .u64 a0_1_1_14), (.rints .u8 a0_1_1_15), (.rints .u8 a0_1_1_16)]), (.int .u8 a0_1_2), (.bool a0_1_3), (.bool a0_1_4), (.robjs 47 32 a0_1_5)])), (.int .i64 a0_2)]), (.rints .i64 a1)], [] => some (a0_0_0, a0_0_1, a0_0_2, a0_0_3, a0_0_4, a0_0_5, a0_0_6, a0_1_0_0, a0_1_0_1, a0_1_0_6, a0_1_0_10, a0_1_1_0, a0_1_1_1, a0_1_1_2, a0_1_1_3, a0_1_1_4, a0_1_1_5, a0_1_1_6, a0_1_1_7, a0_1_1_8, a0_1_1_9, a0_1_1_10, a0_1_1_11, a0_1_1_12, a0_1_1_13, a0_1_1_14, a0_1_1_15, a0_1_1_16, a0_1_2, a0_1_3, a0_1_4, a0_1_5, a0_2, a1)
 | _, _ => none
def Fo.shape (t : Ty3) : List AV × Blks := ([(.agg [(.agg [(.int .u8 t.1), (.int .i64 t.2.1), (.ints .u8 20 t.2.2.1), (.ints .u64 4 t.2.2.2.1), (.ints .u64 4 t.w.1), (.rints .u8 t.w.2.1), (.int .u16 t.w.2.2.1)]), (.rptr (.agg [(.rptr (.agg [(.rmap t.w.2.2.2.1), (.rmap t.x.1), (.rmap []), (.rmap []), (.rmap []), (.rmap []), (.int .i64 t.x.2.1), .snil, .snil, .snil, (.int .i64 t.x.2.2.1)])), (.agg [(.ints .u8 20 t.x.2.2.2.1), (.ints .u64 4 t.x.w.1), (.bool t.x.w.2.1), (.ints .u8 20 t.x.w.2.2.1), (.rints .u8 t.x.w.2.2.2.1), (.rints .u8 t.y.1), (.int .u64 t.y.2.1), (.int .u64 t.y.2.2.1), (.int .u64 t.y.2.2.2.1), (.ints .u64 4 t.y.w.1), (.ints .u64 4 t.y.w.2.1), (.bool t.y.w.2.2.1), (.ints .u8 20 t.y.w.2.2.2.1), (.int .u64 t.y.x.1), (.int .u64 t.y.x.2.1), (.rints .u8 t.y.x.2.2.1), (.rints .u8 t.y.x.2.2.2.1)]), (.int .u8 t.y.x.w.1), (.bool t.y.x.w.2.1), (.bool t.y.x.w.2.2.1), (.robjs 47 32 t.y.x.w.2.2.2.1)])), (.int .i64 t.y.y.1)]), (.rints .i64 t.y.y.2)], [])
def Fo.res : LI → AV × Blks
 | u => ((.own 0 1), [(some (.ints .u8 u))])
def Fo.resK {R : Type} (u : LI) (K : AV → Blks → Option R) : Option R := K (Fo.res u).1 (Fo.res u).2
def Fo.c (n : Nat) : Abs.Callee := .mk' [] [none, (some (.ints .i64))] Fo.pat (Fo.m n) Fo.resK
end
end
section
noncomputable section
noncomputable def Fak.C (n : Nat) : Ctx := ⟨Tryd.prog, kecG, lookC [], fun _ => false⟩
noncomputable def Fak.A (n : Nat) : Ann := ⟨Tryd.f34.ntmps, 0, noNL, [], [none], fun k => match k with
 | _ => none, noNL, lookJ []⟩
def Fak.g {α : Type} (mk0 : Bool → α) (n : Nat) (a0_0 : Int) (a0_1 : Int) (a0_2 : LI) (a0_3 : LI) (a0_4 : LI) (a0_5 : LI) (a0_6 : Int) : Option α :=
 if (a0_0 == 241) = true then
  some (mk0 (a0_6 == 0))
 else
  if (a0_0 == 242) = true then
   some (mk0 (a0_6 == 0))
  else
   if (a0_0 == 244) = true then
    some (mk0 (a0_6 == 0))
   else
    if (a0_0 == 250) = true then
     some (mk0 (a0_6 == 0))
    else
     some (mk0 false)
def Fak.m (n : Nat) (t : Ty16) : Option Bool := Fak.g (fun a0 => a0) n t.1 t.2.1 t.2.2.1 t.2.2.2.1 t.w.1 t.w.2.1 t.w.2.2
def Fak.pat : List AV → Blks → Option Ty16
 | [(.agg [(.int .u8 a0_0), (.int .i64 a0_1), (.ints .u8 20 a0_2), (.ints .u64 4 a0_3), (.ints .u64 4 a0_4), (.rints .u8 a0_5), (.int .u16 a0_6)])], [] => some (a0_0, a0_1, a0_2, a0_3, a0_4, a0_5, a0_6)
 | _, _ => none
def Fak.shape (t : Ty16) : List AV × Blks := ([(.agg [(.int .u8 t.1), (.int .i64 t.2.1), (.ints .u8 20 t.2.2.1), (.ints .u64 4 t.2.2.2.1), (.ints .u64 4 t.w.1), (.rints .u8 t.w.2.1), (.int .u16 t.w.2.2)])], [])
def Fak.res : Bool → AV × Blks
 | u => ((.bool u), [])
def Fak.resK {R : Type} (u : Bool) (K : AV → Blks → Option R) : Option R := K (Fak.res u).1 (Fak.res u).2
def Fak.c (n : Nat) : Abs.Callee := .mk' [] [(some (.agg [none, none, none, none, none, (some (.ints .u8)), none]))] Fak.pat (Fak.m n) Fak.resK
end
end
section
noncomputable section
noncomputable def Fal.C (n : Nat) : Ctx := ⟨Tryd.prog, kecG, lookC [(34, Fak.c n)], fun _ => false⟩
def Fal.live : NL := fun k => match k with
 | 3 => ([8, 7, 6, 0, 3], [3])
 | _ => ([], [])
def Fal.l3_0.r {α : Type} (mk0 : LI → α) (n : Nat) (rc : Int → Int → LA → LA → LI → Option α)  (x0 : Int) (x1 : Int) (x2 : LA) (x3 : LA) (x4 : LI) : Option α :=
  if (decide (x0 < x1)) = true then
   if 0 ≤ x0 then
    if x0 < (((List.length x2) : Nat) : Int) then
     bindO (tkAgg 7 (List.getD x2 (Int.toNat x0) AV.any)) fun r10 =>
      bindO (tkInt .u8 (List.getD r10 0 AV.any)) fun r12 =>
       bindO (tkInt .i64 (List.getD r10 1 AV.any)) fun r14 =>
        bindO (tkInts .u8 20 (List.getD r10 2 AV.any)) fun r16 =>
         bindO (tkInts .u64 4 (List.getD r10 3 AV.any)) fun r18 =>
          bindO (tkInts .u64 4 (List.getD r10 4 AV.any)) fun r20 =>
           bindO (tkRints .u8 (List.getD r10 5 AV.any)) fun r22 =>
            bindO (tkInt .u16 (List.getD r10 6 AV.any)) fun r24 =>
             if (r12 != 90) = true then
              rc (IntKind.wrap .i64 (x0 + 1)) x1 x2 x3 x4
             else
              if (r24 != 0) = true then
               rc (IntKind.wrap .i64 (x0 + 1)) x1 x2 x3 x4
              else
               if (decide ((IntKind.wrap .i64 (x0 + 1)) < (((List.length x3) : Nat) : Int))) = true then
                if 0 ≤ (IntKind.wrap .i64 (x0 + 1)) then
                 if (IntKind.wrap .i64 (x0 + 1)) < (((List.length x3) : Nat) : Int) then
                  bindO (tkAgg 7 (List.getD x3 (Int.toNat (IntKind.wrap .i64 (x0 + 1))) AV.any)) fun r36 =>
                   bindO (tkInt .u8 (List.getD r36 0 AV.any)) fun r38 =>
                    bindO (tkInt .i64 (List.getD r36 1 AV.any)) fun r40 =>
                     bindO (tkInts .u8 20 (List.getD r36 2 AV.any)) fun r42 =>
                      bindO (tkInts .u64 4 (List.getD r36 3 AV.any)) fun r44 =>
                       bindO (tkInts .u64 4 (List.getD r36 4 AV.any)) fun r46 =>
                        bindO (tkRints .u8 (List.getD r36 5 AV.any)) fun r48 =>
                         bindO (tkInt .u16 (List.getD r36 6 AV.any)) fun r50 =>
                          bindO (Fak.m n (r38, r40, r42, r44, r46, r48, r50)) fun r52 =>
                           if r52 = true then
                            if 0 ≤ (IntKind.wrap .i64 (x0 + 1)) then
                             if (IntKind.wrap .i64 (x0 + 1)) < (((List.length x3) : Nat) : Int) then
                              bindO (tkAgg 7 (List.getD x3 (Int.toNat (IntKind.wrap .i64 (x0 + 1))) AV.any)) fun r60 =>
                               bindO (tkInt .u8 (List.getD r60 0 AV.any)) fun r62 =>
                                bindO (tkInt .i64 (List.getD r60 1 AV.any)) fun r64 =>
                                 bindO (tkInts .u8 20 (List.getD r60 2 AV.any)) fun r66 =>
                                  bindO (tkInts .u64 4 (List.getD r60 3 AV.any)) fun r68 =>
                                   bindO (tkInts .u64 4 (List.getD r60 4 AV.any)) fun r70 =>
                                    bindO (tkRints .u8 (List.getD r60 5 AV.any)) fun r72 =>
                                     bindO (tkInt .u16 (List.getD r60 6 AV.any)) fun r74 =>
                                      if (r64 == r14) = true then
                                       if 0 ≤ (IntKind.wrap .i64 (x0 + 1)) then
                                        if (IntKind.wrap .i64 (x0 + 1)) < (((List.length x3) : Nat) : Int) then
                                         bindO (tkAgg 7 (List.getD x3 (Int.toNat (IntKind.wrap .i64 (x0 + 1))) AV.any)) fun r82 =>
                                          bindO (tkInt .u8 (List.getD r82 0 AV.any)) fun r84 =>
                                           bindO (tkInt .i64 (List.getD r82 1 AV.any)) fun r86 =>
                                            bindO (tkInts .u8 20 (List.getD r82 2 AV.any)) fun r88 =>
                                             bindO (tkInts .u64 4 (List.getD r82 3 AV.any)) fun r90 =>
                                              bindO (tkInts .u64 4 (List.getD r82 4 AV.any)) fun r92 =>
                                               bindO (tkRints .u8 (List.getD r82 5 AV.any)) fun r94 =>
                                                bindO (tkInt .u16 (List.getD r82 6 AV.any)) fun r96 =>
                                                 if (r88 == r16) = true then
                                                  rc (IntKind.wrap .i64 (x0 + 1)) x1 x2 x3 x4
                                                 else
                                                  if ((((List.length x4) + 1) * 8) ≤ 70368744177664 ∧ ((List.length x4) + 1) ≤ 9223372036854775807) then
                                                   rc (IntKind.wrap .i64 (x0 + 1)) x1 x2 x3 (x4 ++ [x0])
                                                  else
                                                   none
                                        else
                                         none
                                       else
                                        none
                                      else
                                       if ((((List.length x4) + 1) * 8) ≤ 70368744177664 ∧ ((List.length x4) + 1) ≤ 9223372036854775807) then
                                        rc (IntKind.wrap .i64 (x0 + 1)) x1 x2 x3 (x4 ++ [x0])
                                       else
                                        none
                             else
                              none
                            else
                             none
                           else
                            if ((((List.length x4) + 1) * 8) ≤ 70368744177664 ∧ ((List.length x4) + 1) ≤ 9223372036854775807) then
                             rc (IntKind.wrap .i64 (x0 + 1)) x1 x2 x3 (x4 ++ [x0])
                            else
                             none
                 else
                  none
                else
                 none
               else
                if ((((List.length x4) + 1) * 8) ≤ 70368744177664 ∧ ((List.length x4) + 1) ≤ 9223372036854775807) then
                 rc (IntKind.wrap .i64 (x0 + 1)) x1 x2 x3 (x4 ++ [x0])
                else
                 none
    else
     none
   else
    none
  else
   some (mk0 x4)
def Fal.l3_0.g {α : Type} (mk0 : LI → α) (n : Nat) : Nat → Int → Int → LA → LA → LI → Option α
 | 0, _, _, _, _, _ => none
 | m + 1, x0, x1, x2, x3, x4 => Fal.l3_0.r mk0 n (fun y0 y1 y2 y3 y4 => Fal.l3_0.g mk0 n m y0 y1 y2 y3 y4)  x0 x1 x2 x3 x4
def Fal.l3_0.m (n m : Nat) (t : (Int × (Int × (LA × (LA × LI))))) : Option LI := Fal.l3_0.g (fun a0 => a0) n m t.1 t.2.1 t.2.2.1 t.2.2.2.1 t.w
def Fal.l3_0.pat : St → Option (Int × (Int × (LA × (LA × LI))))
 | (St.mk [(.int .i64 x0), (.int .i64 x1), (.robjs 47 32 x2), (.robjs 47 32 x3), (.own 0 1)] [(some (.ints .i64 x4))]) => some (x0, x1, x2, x3, x4)
 | _ => none
def Fal.l3_0.shape (t : (Int × (Int × (LA × (LA × LI))))) : St := (St.mk [(.int .i64 t.1), (.int .i64 t.2.1), (.robjs 47 32 t.2.2.1), (.robjs 47 32 t.2.2.2.1), (.own 0 1)] [(some (.ints .i64 t.w))])
def Fal.l3_0.res : LI → Ex × St
 | u => ((.exit 0), (St.mk [(.own 0 1)] [(some (.ints .i64 u))]))
def Fal.l3_0.resK {R : Type} (u : LI) (K : Ex → St → Option R) : Option R := K (Fal.l3_0.res u).1 (Fal.l3_0.res u).2
noncomputable def Fal.A (n : Nat) : Ann := ⟨Tryd.f20.ntmps, 0, Fal.live, [(0, (.objs 47 32)), (6, (.objs 47 32)), (3, (.ints .i64))], [(some (.ints .i64))], fun k => match k with
 | 3 => some (.mk' Fal.l3_0.pat (Fal.l3_0.m n n) Fal.l3_0.resK)
 | _ => none, noNL, lookJ []⟩
noncomputable def Fal.b0 : Code := (loopsIn (Tryd.f20.body.getD .skip)).getD 0 .skip
def Fal.g {α : Type} (mk0 : LI → α) (n : Nat) (a0 : LA) : Option α :=
 bindO (Fal.l3_0.m n n (0, (((List.length a0) : Nat) : Int), a0, a0, [])) fun r2 =>
  some (mk0 r2)
def Fal.m (n : Nat) (t : LA) : Option LI := Fal.g (fun a0 => a0) n t
def Fal.pat : List AV → Blks → Option LA
 | [(.robjs 47 32 a0)], [] => some a0
 | _, _ => none
def Fal.shape (t : LA) : List AV × Blks := ([(.robjs 47 32 t)], [])
def Fal.res : LI → AV × Blks
 | u => ((.own 0 1), [(some (.ints .i64 u))])
def Fal.resK {R : Type} (u : LI) (K : AV → Blks → Option R) : Option R := K (Fal.res u).1 (Fal.res u).2
def Fal.c (n : Nat) : Abs.Callee := .mk' [] [(some (.objs 47 32))] Fal.pat (Fal.m n) Fal.resK
end
end
