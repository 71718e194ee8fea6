/- What the program's functions compute, as plain functions, each with its proof: the function does just that. Condition: the plain function has an answer. -/
import Derived.Test.YtkknbhapkdgcjaaDoorAbsM1
import Derived.Test.YtkknbhapkdgcjaaDoorAbsM7
import Derived.Test.YtkknbhapkdgcjaaDoorProg
set_option linter.unusedVariables false
set_option linter.unusedSimpArgs false
set_option maxRecDepth 100000
open Go Go.Abs Go.Proofs
section
namespace Go.Abs
open Go
def kecKeys : List Int := [1, 32898, 9223372036854808714, 9223372039002292224, 32907, 2147483649, 9223372039002292353, 9223372036854808585, 138, 136, 2147516425, 2147483658, 2147516555, 9223372036854775947, 9223372036854808713, 9223372036854808579, 9223372036854808578, 9223372036854775936, 32778, 9223372039002259466, 9223372039002292353, 9223372036854808704, 2147483649, 9223372039002292232]
def kecTo : List Int := [10, 7, 11, 17, 18, 3, 5, 16, 8, 21, 24, 4, 15, 23, 19, 13, 12, 2, 20, 14, 22, 9, 6, 1]
def kecTurns : List Int := [1, 3, 6, 10, 15, 21, 28, 36, 45, 55, 2, 14, 27, 41, 56, 8, 25, 43, 62, 18, 39, 61, 20, 44]
def kecG : Nat → AV := fun g => match g with
  | 0 => .ints .u64 24 kecKeys
  | 1 => .ints .i64 24 kecTo
  | 2 => .ints .i64 24 kecTurns
  | _ => .any
end Go.Abs
end
section
noncomputable section
noncomputable def Fag.C (n : Nat) : Ctx := ⟨Tryd.prog, kecG, lookC [], fun _ => false⟩
noncomputable def Fag.A (n : Nat) : Ann := ⟨Tryd.f34.ntmps, 0, noNL, [], [none], fun k => match k with
 | _ => none, noNL, lookJ []⟩
def Fag.g {α : Type} (mk0 : Bool → α) (n : Nat) (a0_0 : Int) (a0_1 : Int) (a0_2 : LI) (a0_3 : LI) (a0_4 : LI) (a0_5 : LI) (a0_6 : Int) : Option α :=
 if (a0_0 == 241) = true then
  some (mk0 (a0_6 == 0))
 else
  if (a0_0 == 242) = true then
   some (mk0 (a0_6 == 0))
  else
   if (a0_0 == 244) = true then
    some (mk0 (a0_6 == 0))
   else
    if (a0_0 == 250) = true then
     some (mk0 (a0_6 == 0))
    else
     some (mk0 false)
def Fag.m (n : Nat) (t : (Int × (Int × (LI × (LI × (LI × (LI × Int))))))) : Option Bool := Fag.g (fun a0 => a0) n t.1 t.2.1 t.2.2.1 t.2.2.2.1 t.2.2.2.2.1 t.2.2.2.2.2.1 t.2.2.2.2.2.2
def Fag.pat : List AV → Blks → Option (Int × (Int × (LI × (LI × (LI × (LI × Int))))))
 | [(.agg [(.int .u8 a0_0), (.int .i64 a0_1), (.ints .u8 20 a0_2), (.ints .u64 4 a0_3), (.ints .u64 4 a0_4), (.rints .u8 a0_5), (.int .u16 a0_6)])], [] => some (a0_0, a0_1, a0_2, a0_3, a0_4, a0_5, a0_6)
 | _, _ => none
def Fag.shape (t : (Int × (Int × (LI × (LI × (LI × (LI × Int))))))) : List AV × Blks := ([(.agg [(.int .u8 t.1), (.int .i64 t.2.1), (.ints .u8 20 t.2.2.1), (.ints .u64 4 t.2.2.2.1), (.ints .u64 4 t.2.2.2.2.1), (.rints .u8 t.2.2.2.2.2.1), (.int .u16 t.2.2.2.2.2.2)])], [])
def Fag.res : Bool → AV × Blks
 | u => ((.bool u), [])
def Fag.resK {R : Type} (u : Bool) (K : AV → Blks → Option R) : Option R := K (Fag.res u).1 (Fag.res u).2
def Fag.c (n : Nat) : Abs.Callee := .mk' [] [(some (.agg [none, none, none, none, none, (some (.ints .u8)), none]))] Fag.pat (Fag.m n) Fag.resK
end
end
section
noncomputable section
noncomputable def Fah.C (n : Nat) : Ctx := ⟨Tryd.prog, kecG, lookC [(34, Fag.c n)], fun _ => false⟩
def Fah.live : NL := fun k => match k with
 | 3 => ([8, 7, 6, 0, 3], [3])
 | _ => ([], [])
def Fah.l3_0.r {α : Type} (mk0 : LI → α) (n : Nat) (rc : Int → Int → LA → LA → LI → Option α)  (x0 : Int) (x1 : Int) (x2 : LA) (x3 : LA) (x4 : LI) : Option α :=
  if (decide (x0 < x1)) = true then
   if 0 ≤ x0 then
    if x0 < (((List.length x2) : Nat) : Int) then
     bindO (tkAgg 7 (List.getD x2 (Int.toNat x0) AV.any)) fun r10 =>
      bindO (tkInt .u8 (List.getD r10 0 AV.any)) fun r12 =>
       bindO (tkInt .i64 (List.getD r10 1 AV.any)) fun r14 =>
        bindO (tkInts .u8 20 (List.getD r10 2 AV.any)) fun r16 =>
         bindO (tkInts .u64 4 (List.getD r10 3 AV.any)) fun r18 =>
          bindO (tkInts .u64 4 (List.getD r10 4 AV.any)) fun r20 =>
           bindO (tkRints .u8 (List.getD r10 5 AV.any)) fun r22 =>
            bindO (tkInt .u16 (List.getD r10 6 AV.any)) fun r24 =>
             if (r12 != 90) = true then
              rc (IntKind.wrap .i64 (x0 + 1)) x1 x2 x3 x4
             else
              if (r24 != 0) = true then
               rc (IntKind.wrap .i64 (x0 + 1)) x1 x2 x3 x4
              else
               if (decide ((IntKind.wrap .i64 (x0 + 1)) < (((List.length x3) : Nat) : Int))) = true then
                if 0 ≤ (IntKind.wrap .i64 (x0 + 1)) then
                 if (IntKind.wrap .i64 (x0 + 1)) < (((List.length x3) : Nat) : Int) then
                  bindO (tkAgg 7 (List.getD x3 (Int.toNat (IntKind.wrap .i64 (x0 + 1))) AV.any)) fun r36 =>
                   bindO (tkInt .u8 (List.getD r36 0 AV.any)) fun r38 =>
                    bindO (tkInt .i64 (List.getD r36 1 AV.any)) fun r40 =>
                     bindO (tkInts .u8 20 (List.getD r36 2 AV.any)) fun r42 =>
                      bindO (tkInts .u64 4 (List.getD r36 3 AV.any)) fun r44 =>
                       bindO (tkInts .u64 4 (List.getD r36 4 AV.any)) fun r46 =>
                        bindO (tkRints .u8 (List.getD r36 5 AV.any)) fun r48 =>
                         bindO (tkInt .u16 (List.getD r36 6 AV.any)) fun r50 =>
                          bindO (Fag.m n (r38, r40, r42, r44, r46, r48, r50)) fun r52 =>
                           if r52 = true then
                            if 0 ≤ (IntKind.wrap .i64 (x0 + 1)) then
                             if (IntKind.wrap .i64 (x0 + 1)) < (((List.length x3) : Nat) : Int) then
                              bindO (tkAgg 7 (List.getD x3 (Int.toNat (IntKind.wrap .i64 (x0 + 1))) AV.any)) fun r60 =>
                               bindO (tkInt .u8 (List.getD r60 0 AV.any)) fun r62 =>
                                bindO (tkInt .i64 (List.getD r60 1 AV.any)) fun r64 =>
                                 bindO (tkInts .u8 20 (List.getD r60 2 AV.any)) fun r66 =>
                                  bindO (tkInts .u64 4 (List.getD r60 3 AV.any)) fun r68 =>
                                   bindO (tkInts .u64 4 (List.getD r60 4 AV.any)) fun r70 =>
                                    bindO (tkRints .u8 (List.getD r60 5 AV.any)) fun r72 =>
                                     bindO (tkInt .u16 (List.getD r60 6 AV.any)) fun r74 =>
                                      if (r64 == r14) = true then
                                       if 0 ≤ (IntKind.wrap .i64 (x0 + 1)) then
                                        if (IntKind.wrap .i64 (x0 + 1)) < (((List.length x3) : Nat) : Int) then
                                         bindO (tkAgg 7 (List.getD x3 (Int.toNat (IntKind.wrap .i64 (x0 + 1))) AV.any)) fun r82 =>
                                          bindO (tkInt .u8 (List.getD r82 0 AV.any)) fun r84 =>
                                           bindO (tkInt .i64 (List.getD r82 1 AV.any)) fun r86 =>
                                            bindO (tkInts .u8 20 (List.getD r82 2 AV.any)) fun r88 =>
                                             bindO (tkInts .u64 4 (List.getD r82 3 AV.any)) fun r90 =>
                                              bindO (tkInts .u64 4 (List.getD r82 4 AV.any)) fun r92 =>
                                               bindO (tkRints .u8 (List.getD r82 5 AV.any)) fun r94 =>
                                                bindO (tkInt .u16 (List.getD r82 6 AV.any)) fun r96 =>
                                                 if (r88 == r16) = true then
                                                  rc (IntKind.wrap .i64 (x0 + 1)) x1 x2 x3 x4
                                                 else
                                                  if ((((List.length x4) + 1) * 8) ≤ 70368744177664 ∧ ((List.length x4) + 1) ≤ 9223372036854775807) then
                                                   rc (IntKind.wrap .i64 (x0 + 1)) x1 x2 x3 (x4 ++ [x0])
                                                  else
                                                   none
                                        else
                                         none
                                       else
                                        none
                                      else
                                       if ((((List.length x4) + 1) * 8) ≤ 70368744177664 ∧ ((List.length x4) + 1) ≤ 9223372036854775807) then
                                        rc (IntKind.wrap .i64 (x0 + 1)) x1 x2 x3 (x4 ++ [x0])
                                       else
                                        none
                             else
                              none
                            else
                             none
                           else
                            if ((((List.length x4) + 1) * 8) ≤ 70368744177664 ∧ ((List.length x4) + 1) ≤ 9223372036854775807) then
                             rc (IntKind.wrap .i64 (x0 + 1)) x1 x2 x3 (x4 ++ [x0])
                            else
                             none
                 else
                  none
                else
                 none
               else
                if ((((List.length x4) + 1) * 8) ≤ 70368744177664 ∧ ((List.length x4) + 1) ≤ 9223372036854775807) then
                 rc (IntKind.wrap .i64 (x0 + 1)) x1 x2 x3 (x4 ++ [x0])
                else
                 none
    else
     none
   else
    none
  else
   some (mk0 x4)
def Fah.l3_0.g {α : Type} (mk0 : LI → α) (n : Nat) : Nat → Int → Int → LA → LA → LI → Option α
 | 0, _, _, _, _, _ => none
 | m + 1, x0, x1, x2, x3, x4 => Fah.l3_0.r mk0 n (fun y0 y1 y2 y3 y4 => Fah.l3_0.g mk0 n m y0 y1 y2 y3 y4)  x0 x1 x2 x3 x4
def Fah.l3_0.m (n m : Nat) (t : (Int × (Int × (LA × (LA × LI))))) : Option LI := Fah.l3_0.g (fun a0 => a0) n m t.1 t.2.1 t.2.2.1 t.2.2.2.1 t.2.2.2.2
def Fah.l3_0.pat : St → Option (Int × (Int × (LA × (LA × LI))))
 | (St.mk [(.int .i64 x0), (.int .i64 x1), (.robjs 47 32 x2), (.robjs 47 32 x3), (.own 0 1)] [(some (.ints .i64 x4))]) => some (x0, x1, x2, x3, x4)
 | _ => none
def Fah.l3_0.shape (t : (Int × (Int × (LA × (LA × LI))))) : St := (St.mk [(.int .i64 t.1), (.int .i64 t.2.1), (.robjs 47 32 t.2.2.1), (.robjs 47 32 t.2.2.2.1), (.own 0 1)] [(some (.ints .i64 t.2.2.2.2))])
def Fah.l3_0.res : LI → Ex × St
 | u => ((.exit 0), (St.mk [(.own 0 1)] [(some (.ints .i64 u))]))
def Fah.l3_0.resK {R : Type} (u : LI) (K : Ex → St → Option R) : Option R := K (Fah.l3_0.res u).1 (Fah.l3_0.res u).2
noncomputable def Fah.A (n : Nat) : Ann := ⟨Tryd.f20.ntmps, 0, Fah.live, [(0, (.objs 47 32)), (6, (.objs 47 32)), (3, (.ints .i64))], [(some (.ints .i64))], fun k => match k with
 | 3 => some (.mk' Fah.l3_0.pat (Fah.l3_0.m n n) Fah.l3_0.resK)
 | _ => none, noNL, lookJ []⟩
noncomputable def Fah.b0 : Code := (loopsIn (Tryd.f20.body.getD .skip)).getD 0 .skip
def Fah.g {α : Type} (mk0 : LI → α) (n : Nat) (a0 : LA) : Option α :=
 bindO (Fah.l3_0.m n n (0, (((List.length a0) : Nat) : Int), a0, a0, [])) fun r2 =>
  some (mk0 r2)
def Fah.m (n : Nat) (t : LA) : Option LI := Fah.g (fun a0 => a0) n t
def Fah.pat : List AV → Blks → Option LA
 | [(.robjs 47 32 a0)], [] => some a0
 | _, _ => none
def Fah.shape (t : LA) : List AV × Blks := ([(.robjs 47 32 t)], [])
def Fah.res : LI → AV × Blks
 | u => ((.own 0 1), [(some (.ints .i64 u))])
def Fah.resK {R : Type} (u : LI) (K : AV → Blks → Option R) : Option R := K (Fah.res u).1 (Fah.res u).2
def Fah.c (n : Nat) : Abs.Callee := .mk' [] [(some (.objs 47 32))] Fah.pat (Fah.m n) Fah.resK
end
end
section
noncomputable section
noncomputable def Fe.C (n : Nat) : Ctx := ⟨Tryd.prog, kecG, lookC [], fun _ => false⟩
noncomputable def Fe.A (n : Nat) : Ann := ⟨Tryd.f35.ntmps, 2, noNL, [], [(some (.agg []))], fun k => match k with
 | _ => none, noNL, lookJ []⟩
def Fe.g {α : Type} (mk0 : LI → α) (n : Nat) (r : Int) (b : Bool) (l : LI) : Option α :=
 if b = true then
  if ((((List.length l) + 1) * 1) ≤ 70368744177664 ∧ ((List.length l) + 1) ≤ 9223372036854775807) then
   some (mk0 (l ++ [r]))
  else
   none
 else
  some (mk0 l)
def Fe.m (n : Nat) (t : (Int × (Bool × LI))) : Option LI := Fe.g (fun a0 => a0) n t.1 t.2.1 t.2.2
def Fe.pat : List AV → Blks → Option (Int × (Bool × LI))
 | [(.int .u8 r), (.bool b), (.ptr 0 [])], [(some (.var (.own 1 1))), (some (.ints .u8 l))] => some (r, b, l)
 | _, _ => none
def Fe.shape (t : (Int × (Bool × LI))) : List AV × Blks := ([(.int .u8 t.1), (.bool t.2.1), (.ptr 0 [])], [(some (.var (.own 1 1))), (some (.ints .u8 t.2.2))])
def Fe.res : LI → AV × Blks
 | u => ((.tup []), [(some (.var (.own 2 1))), none, (some (.ints .u8 u))])
def Fe.resK {R : Type} (u : LI) (K : AV → Blks → Option R) : Option R := K (Fe.res u).1 (Fe.res u).2
def Fe.c (n : Nat) : Abs.Callee := .mk' [false, false, true] [none, none] Fe.pat (Fe.m n) Fe.resK
end
end
section
noncomputable section
noncomputable def Fh.C (n : Nat) : Ctx := ⟨Tryd.prog, kecG, lookC [], fun _ => false⟩
noncomputable def Fh.A (n : Nat) : Ann := ⟨Tryd.f36.ntmps, 0, noNL, [], [none], fun k => match k with
 | _ => none, noNL, lookJ []⟩
def Fh.g {α : Type} (mk0 : Bool → α) (n : Nat) (a0_0_0 : Int) (a0_0_1 : Int) (a0_0_2 : LI) (a0_0_3 : LI) (a0_0_4 : LI) (a0_0_5 : LI) (a0_0_6 : Int) (a0_1_0_6 : Int) (a0_1_0_10 : Int) (a0_1_1_0 : LI) (a0_1_1_1 : LI) (a0_1_1_2 : Bool) (a0_1_1_3 : LI) (a0_1_1_4 : LI) (a0_1_1_5 : LI) (a0_1_1_6 : Int) (a0_1_1_7 : Int) (a0_1_1_8 : Int) (a0_1_1_9 : LI) (a0_1_1_10 : LI) (a0_1_1_11 : Bool) (a0_1_1_12 : LI) (a0_1_1_13 : Int) (a0_1_1_14 : Int) (a0_1_1_15 : LI) (a0_1_1_16 : LI) (a0_1_2 : Int) (a0_1_3 : Bool) (a0_1_4 : Bool) (a0_1_5 : LA) (a0_2 : Int) : Option α :=
 if (a0_0_0 == 50) = true then
  some (mk0 true)
 else
  if (a0_0_0 == 58) = true then
   some (mk0 true)
  else
   if (a0_0_0 == 64) = true then
    some (mk0 true)
   else
    if (a0_0_0 == 65) = true then
     some (mk0 true)
    else
     if (a0_0_0 == 66) = true then
      some (mk0 true)
     else
      if (a0_0_0 == 67) = true then
       some (mk0 true)
      else
       if (a0_0_0 == 68) = true then
        some (mk0 true)
       else
        if (a0_0_0 == 69) = true then
         some (mk0 true)
        else
         if (a0_0_0 == 72) = true then
          some (mk0 true)
         else
          if (a0_0_0 == 255) = true then
           some (mk0 true)
          else
           if (a0_0_0 == 49) = true then
            some (mk0 (!a0_1_3))
           else
            if (a0_0_0 == 71) = true then
             some (mk0 (!a0_1_3))
            else
             some (mk0 false)
def Fh.m (n : Nat) (t : (Int × (Int × (LI × (LI × (LI × (LI × (Int × (Int × (Int × (LI × (LI × (Bool × (LI × (LI × (LI × (Int × (Int × (Int × (LI × (LI × (Bool × (LI × (Int × (Int × (LI × (LI × (Int × (Bool × (Bool × (LA × Int))))))))))))))))))))))))))))))) : Option Bool := Fh.g (fun a0 => a0) n t.1 t.2.1 t.2.2.1 t.2.2.2.1 t.2.2.2.2.1 t.2.2.2.2.2.1 t.2.2.2.2.2.2.1 t.2.2.2.2.2.2.2.1 t.2.2.2.2.2.2.2.2.1 t.2.2.2.2.2.2.2.2.2.1 t.2.2.2.2.2.2.2.2.2.2.1 t.2.2.2.2.2.2.2.2.2.2.2.1 t.2.2.2.2.2.2.2.2.2.2.2.2.1 t.2.2.2.2.2.2.2.2.2.2.2.2.2.1 t.2.2.2.2.2.2.2.2.2.2.2.2.2.2.1 t.2.2.2.2.2.2.2.2.2.2.2.2.2.2.2.1 t.2.2.2.2.2.2.2.2.2.2.2.2.2.2.2.2.1 t.2.2.2.2.2.2.2.2.2.2.2.2.2.2.2.2.2.1 t.2.2.2.2.2.2.2.2.2.2.2.2.2.2.2.2.2.2.1 t.2.2.2.2.2.2.2.2.2.2.2.2.2.2.2.2.2.2.2.1 t.2.2.2.2.2.2.2.2.2.2.2.2.2.2.2.2.2.2.2.2.1 t.2.2.2.2.2.2.2.2.2.2.2.2.2.2.2.2.2.2.2.2.2.1 t.2.2.2.2.2.2.2.2.2.2.2.2.2.2.2.2.2.2.2.2.2.2.1 t.2.2.2.2.2.2.2.2.2.2.2.2.2.2.2.2.2.2.2.2.2.2.2.1 t.2.2.2.2.2.2.2.2.2.2.2.2.2.2.2.2.2.2.2.2.2.2.2.2.1 t.2.2.2.2.2.2.2.2.2.2.2.2.2.2.2.2.2.2.2.2.2.2.2.2.2.1 t.2.2.2.2.2.2.2.2.2.2.2.2.2.2.2.2.2.2.2.2.2.2.2.2.2.2.1 t.2.2.2.2.2.2.2.2.2.2.2.2.2.2.2.2.2.2.2.2.2.2.2.2.2.2.2.1 t.2.2.2.2.2.2.2.2.2.2.2.2.2.2.2.2.2.2.2.2.2.2.2.2.2.2.2.2.1 t.2.2.2.2.2.2.2.2.2.2.2.2.2.2.2.2.2.2.2.2.2.2.2.2.2.2.2.2.2.1 t.2.2.2.2.2.2.2.2.2.2.2.2.2.2.2.2.2.2.2.2.2.2.2.2.2.2.2.2.2.2
def Fh.pat : List AV → Blks → Option (Int × (Int × (LI × (LI × (LI × (LI × (Int × (Int × (Int × (LI × (LI × (Bool × (LI × (LI × (LI × (Int × (Int × (Int × (LI × (LI × (Bool × (LI × (Int × (Int × (LI × (LI × (Int × (Bool × (Bool × (LA × Int))))))))))))))))))))))))))))))
 | [(.agg [(.agg [(.int .u8 a0_0_0), (.int .i64 a0_0_1), (.ints .u8 20 a0_0_2), (.ints .u64 4 a0_0_3), (.ints .u64 4 a0_0_4), (.rints .u8 a0_0_5), (.int .u16 a0_0_6)]), (.rptr (.agg [(.rptr (.agg [.emap, .emap, .emap, .emap, .emap, .emap, (.int .i64 a0_1_0_6), .snil, .snil, .snil, (.int .i64 a0_1_0_10)])), (.agg [(.ints .u8 20 a0_1_1_0), (.ints .u64 4 a0_1_1_1), (.bool a0_1_1_2), (.ints .u8 20 a0_1_1_3), (.rints .u8 a0_1_1_4), (.rints .u8 a0_1_1_5), (.int .u64 a0_1_1_6), (.int .u64 a0_1_1_7), (.int .u64 a0_1_1_8), (.ints .u64 4 a0_1_1_9), (.ints .u64 4 a0_1_1_10), (.bool a0_1_1_11), (.ints .u8 20 a0_1_1_12), (.int .u64 a0_1_1_13), (.int .u64 a0_1_1_14), (.rints .u8 a0_1_1_15), (.rints .u8 a0_1_1_16)]), (.int .u8 a0_1_2), (.bool a0_1_3), (.bool a0_1_4), (.robjs 47 32 a0_1_5)])), (.int .i64 a0_2)])], [] => some (a0_0_0, a0_0_1, a0_0_2, a0_0_3, a0_0_4, a0_0_5, a0_0_6, a0_1_0_6, a0_1_0_10, a0_1_1_0, a0_1_1_1, a0_1_1_2, a0_1_1_3, a0_1_1_4, a0_1_1_5, a0_1_1_6, a0_1_1_7, a0_1_1_8, a0_1_1_9, a0_1_1_10, a0_1_1_11, a0_1_1_12, a0_1_1_13, a0_1_1_14, a0_1_1_15, a0_1_1_16, a0_1_2, a0_1_3, a0_1_4, a0_1_5, a0_2)
 | _, _ => none
def Fh.shape (t : (Int × (Int × (LI × (LI × (LI × (LI × (Int × (Int × (Int × (LI × (LI × (Bool × (LI × (LI × (LI × (Int × (Int × (Int × (LI × (LI × (Bool × (LI × (Int × (Int × (LI × (LI × (Int × (Bool × (Bool × (LA × Int))))))))))))))))))))))))))))))) : List AV × Blks := ([(.agg [(.agg [(.int .u8 t.1), (.int .i64 t.2.1), (.ints .u8 20 t.2.2.1), (.ints .u64 4 t.2.2.2.1), (.ints .u64 4 t.2.2.2.2.1), (.rints .u8 t.2.2.2.2.2.1), (.int .u16 t.2.2.2.2.2.2.1)]), (.rptr (.agg [(.rptr (.agg [.emap, .emap, .emap, .emap, .emap, .emap, (.int .i64 t.2.2.2.2.2.2.2.1), .snil, .snil, .snil, (.int .i64 t.2.2.2.2.2.2.2.2.1)])), (.agg [(.ints .u8 20 t.2.2.2.2.2.2.2.2.2.1), (.ints .u64 4 t.2.2.2.2.2.2.2.2.2.2.1), (.bool t.2.2.2.2.2.2.2.2.2.2.2.1), (.ints .u8 20 t.2.2.2.2.2.2.2.2.2.2.2.2.1), (.rints .u8 t.2.2.2.2.2.2.2.2.2.2.2.2.2.1), (.rints .u8 t.2.2.2.2.2.2.2.2.2.2.2.2.2.2.1), (.int .u64 t.2.2.2.2.2.2.2.2.2.2.2.2.2.2.2.1), (.int .u64 t.2.2.2.2.2.2.2.2.2.2.2.2.2.2.2.2.1), (.int .u64 t.2.2.2.2.2.2.2.2.2.2.2.2.2.2.2.2.2.1), (.ints .u64 4 t.2.2.2.2.2.2.2.2.2.2.2.2.2.2.2.2.2.2.1), (.ints .u64 4 t.2.2.2.2.2.2.2.2.2.2.2.2.2.2.2.2.2.2.2.1), (.bool t.2.2.2.2.2.2.2.2.2.2.2.2.2.2.2.2.2.2.2.2.1), (.ints .u8 20 t.2.2.2.2.2.2.2.2.2.2.2.2.2.2.2.2.2.2.2.2.2.1), (.int .u64 t.2.2.2.2.2.2.2.2.2.2.2.2.2.2.2.2.2.2.2.2.2.2.1), (.int .u64 t.2.2.2.2.2.2.2.2.2.2.2.2.2.2.2.2.2.2.2.2.2.2.2.1), (.rints .u8 t.2.2.2.2.2.2.2.2.2.2.2.2.2.2.2.2.2.2.2.2.2.2.2.2.1), (.rints .u8 t.2.2.2.2.2.2.2.2.2.2.2.2.2.2.2.2.2.2.2.2.2.2.2.2.2.1)]), (.int .u8 t.2.2.2.2.2.2.2.2.2.2.2.2.2.2.2.2.2.2.2.2.2.2.2.2.2.2.1), (.bool t.2.2.2.2.2.2.2.2.2.2.2.2.2.2.2.2.2.2.2.2.2.2.2.2.2.2.2.1), (.bool t.2.2.2.2.2.2.2.2.2.2.2.2.2.2.2.2.2.2.2.2.2.2.2.2.2.2.2.2.1), (.robjs 47 32 t.2.2.2.2.2.2.2.2.2.2.2.2.2.2.2.2.2.2.2.2.2.2.2.2.2.2.2.2.2.1)])), (.int .i64 t.2.2.2.2.2.2.2.2.2.2.2.2.2.2.2.2.2.2.2.2.2.2.2.2.2.2.2.2.2.2)])], [])
def Fh.res : Bool → AV × Blks
 | u => ((.bool u), [])
def Fh.resK {R : Type} (u : Bool) (K : AV → Blks → Option R) : Option R := K (Fh.res u).1 (Fh.res u).2
def Fh.c (n : Nat) : Abs.Callee := .mk' [] [none] Fh.pat (Fh.m n) Fh.resK
end
end
section
noncomputable section
noncomputable def Fi.C (n : Nat) : Ctx := ⟨Tryd.prog, kecG, lookC [], fun _ => false⟩
def Fi.live : NL := fun k => match k with
 | 2 => ([8, 7, 1, 0], [4])
 | _ => ([], [])
def Fi.l2_0.r {α : Type} (mk0 : Int → α) (mk1 : α) (n : Nat) (rc : Int → Int → Int → LI → Option α)  (x0 : Int) (x1 : Int) (x2 : Int) (x3 : LI) : Option α :=
  if (decide (x0 < x1)) = true then
   if 0 ≤ x0 then
    if x0 < (((List.length x3) : Nat) : Int) then
     if (x2 == (List.getD x3 (Int.toNat x0) 0)) = true then
      some (mk0 x0)
     else
      rc (IntKind.wrap .i64 (x0 + 1)) x1 x2 x3
    else
     none
   else
    none
  else
   some (mk1)
def Fi.l2_0.g {α : Type} (mk0 : Int → α) (mk1 : α) (n : Nat) : Nat → Int → Int → Int → LI → Option α
 | 0, _, _, _, _ => none
 | m + 1, x0, x1, x2, x3 => Fi.l2_0.r mk0 mk1 n (fun y0 y1 y2 y3 => Fi.l2_0.g mk0 mk1 n m y0 y1 y2 y3)  x0 x1 x2 x3
def Fi.l2_0.m (n m : Nat) (t : (Int × (Int × (Int × LI)))) : Option (Int ⊕ Unit) := Fi.l2_0.g (fun a0 => (.inl a0)) (.inr ()) n m t.1 t.2.1 t.2.2.1 t.2.2.2
def Fi.l2_0.pat : St → Option (Int × (Int × (Int × LI)))
 | (St.mk [(.int .i64 x0), (.int .i64 x1), (.int .i64 x2), (.rints .i64 x3)] []) => some (x0, x1, x2, x3)
 | _ => none
def Fi.l2_0.shape (t : (Int × (Int × (Int × LI)))) : St := (St.mk [(.int .i64 t.1), (.int .i64 t.2.1), (.int .i64 t.2.2.1), (.rints .i64 t.2.2.2)] [])
def Fi.l2_0.res : (Int ⊕ Unit) → Ex × St
 | (.inl u) => (.ret, (St.mk [(.int .i64 u)] []))
 | (.inr u) => ((.exit 0), (St.mk [.any] []))
def Fi.l2_0.resK {R : Type} (u : (Int ⊕ Unit)) (K : Ex → St → Option R) : Option R := match u with
 | (.inl u) => (fun p : Ex × St => K p.1 p.2) (.ret, (St.mk [(.int .i64 u)] []))
 | (.inr u) => (fun p : Ex × St => K p.1 p.2) ((.exit 0), (St.mk [.any] []))
noncomputable def Fi.A (n : Nat) : Ann := ⟨Tryd.f52.ntmps, 0, Fi.live, [(0, (.ints .i64))], [none], fun k => match k with
 | 2 => some (.mk' Fi.l2_0.pat (Fi.l2_0.m n n) Fi.l2_0.resK)
 | _ => none, noNL, lookJ []⟩
noncomputable def Fi.b0 : Code := (loopsIn (Tryd.f52.body.getD .skip)).getD 0 .skip
def Fi.g {α : Type} (mk0 : Int → α) (n : Nat) (a0 : LI) (a1 : Int) : Option α :=
 bindO (Fi.l2_0.m n n (0, (((List.length a0) : Nat) : Int), a1, a0)) fun r2 => match r2 with
  | (.inl r2) =>
   some (mk0 r2)
  | (.inr r2) =>
   some (mk0 (-1))
def Fi.m (n : Nat) (t : (LI × Int)) : Option Int := Fi.g (fun a0 => a0) n t.1 t.2
def Fi.pat : List AV → Blks → Option (LI × Int)
 | [(.rints .i64 a0), (.int .i64 a1)], [] => some (a0, a1)
 | _, _ => none
def Fi.shape (t : (LI × Int)) : List AV × Blks := ([(.rints .i64 t.1), (.int .i64 t.2)], [])
def Fi.res : Int → AV × Blks
 | u => ((.int .i64 u), [])
def Fi.resK {R : Type} (u : Int) (K : AV → Blks → Option R) : Option R := K (Fi.res u).1 (Fi.res u).2
def Fi.c (n : Nat) : Abs.Callee := .mk' [] [(some (.ints .i64)), none] Fi.pat (Fi.m n) Fi.resK
end
end
section
noncomputable section
noncomputable def Fd.C (n : Nat) : Ctx := ⟨Tryd.prog, kecG, lookC [(52, Fi.c n)], fun _ => false⟩
noncomputable def Fd.A (n : Nat) : Ann := ⟨Tryd.f37.ntmps, 0, noNL, [], [none], fun k => match k with
 | _ => none, noNL, lookJ []⟩
def Fd.g {α : Type} (mk0 : Bool → α) (n : Nat) (a0 : LI) (a1 : Int) : Option α :=
 bindO (Fi.m n (a0, a1)) fun r2 =>
  some (mk0 (decide (r2 ≥ 0)))
def Fd.m (n : Nat) (t : (LI × Int)) : Option Bool := Fd.g (fun a0 => a0) n t.1 t.2
def Fd.pat : List AV → Blks → Option (LI × Int)
 | [(.rints .i64 a0), (.int .i64 a1)], [] => some (a0, a1)
 | _, _ => none
def Fd.shape (t : (LI × Int)) : List AV × Blks := ([(.rints .i64 t.1), (.int .i64 t.2)], [])
def Fd.res : Bool → AV × Blks
 | u => ((.bool u), [])
def Fd.resK {R : Type} (u : Bool) (K : AV → Blks → Option R) : Option R := K (Fd.res u).1 (Fd.res u).2
def Fd.c (n : Nat) : Abs.Callee := .mk' [] [(some (.ints .i64)), none] Fd.pat (Fd.m n) Fd.resK
end
end
section
noncomputable section
noncomputable def Ff.C (n : Nat) : Ctx := ⟨Tryd.prog, kecG, lookC [], fun _ => false⟩
noncomputable def Ff.A (n : Nat) : Ann := ⟨Tryd.f54.ntmps, 0, noNL, [], [none], fun k => match k with
 | _ => none, noNL, lookJ []⟩
def Ff.g {α : Type} (mk0 : Bool → α) (n : Nat) (a0_0 : Int) (a0_1 : Int) (a0_2 : LI) (a0_3 : LI) (a0_4 : LI) (a0_5 : LI) (a0_6 : Int) : Option α :=
 if (a0_0 == 245) = true then
  some (mk0 (a0_6 == 0))
 else
  some (mk0 false)
def Ff.m (n : Nat) (t : (Int × (Int × (LI × (LI × (LI × (LI × Int))))))) : Option Bool := Ff.g (fun a0 => a0) n t.1 t.2.1 t.2.2.1 t.2.2.2.1 t.2.2.2.2.1 t.2.2.2.2.2.1 t.2.2.2.2.2.2
def Ff.pat : List AV → Blks → Option (Int × (Int × (LI × (LI × (LI × (LI × Int))))))
 | [(.agg [(.int .u8 a0_0), (.int .i64 a0_1), (.ints .u8 20 a0_2), (.ints .u64 4 a0_3), (.ints .u64 4 a0_4), (.rints .u8 a0_5), (.int .u16 a0_6)])], [] => some (a0_0, a0_1, a0_2, a0_3, a0_4, a0_5, a0_6)
 | _, _ => none
def Ff.shape (t : (Int × (Int × (LI × (LI × (LI × (LI × Int))))))) : List AV × Blks := ([(.agg [(.int .u8 t.1), (.int .i64 t.2.1), (.ints .u8 20 t.2.2.1), (.ints .u64 4 t.2.2.2.1), (.ints .u64 4 t.2.2.2.2.1), (.rints .u8 t.2.2.2.2.2.1), (.int .u16 t.2.2.2.2.2.2)])], [])
def Ff.res : Bool → AV × Blks
 | u => ((.bool u), [])
def Ff.resK {R : Type} (u : Bool) (K : AV → Blks → Option R) : Option R := K (Ff.res u).1 (Ff.res u).2
def Ff.c (n : Nat) : Abs.Callee := .mk' [] [(some (.agg [none, none, none, none, none, (some (.ints .u8)), none]))] Ff.pat (Ff.m n) Ff.resK
end
end
section
noncomputable section
noncomputable def Fai.C (n : Nat) : Ctx := ⟨Tryd.prog, kecG, lookC [], fun _ => false⟩
noncomputable def Fai.A (n : Nat) : Ann := ⟨Tryd.f62.ntmps, 0, noNL, [], [none], fun k => match k with
 | _ => none, noNL, lookJ []⟩
def Fai.g {α : Type} (mk0 : Bool → α) (n : Nat) (a0 : LI) (a1 : LI) : Option α :=
 some (mk0 ((ByteArray.toList (Go.Abs.strOf a0)) == (ByteArray.toList (Go.Abs.strOf a1))))
def Fai.m (n : Nat) (t : (LI × LI)) : Option Bool := Fai.g (fun a0 => a0) n t.1 t.2
def Fai.pat : List AV → Blks → Option (LI × LI)
 | [(.rints .u8 a0), (.rints .u8 a1)], [] => some (a0, a1)
 | _, _ => none
def Fai.shape (t : (LI × LI)) : List AV × Blks := ([(.rints .u8 t.1), (.rints .u8 t.2)], [])
def Fai.res : Bool → AV × Blks
 | u => ((.bool u), [])
def Fai.resK {R : Type} (u : Bool) (K : AV → Blks → Option R) : Option R := K (Fai.res u).1 (Fai.res u).2
def Fai.c (n : Nat) : Abs.Callee := .mk' [] [(some (.ints .u8)), (some (.ints .u8))] Fai.pat (Fai.m n) Fai.resK
end
end
section
noncomputable section
noncomputable def Faa.C (n : Nat) : Ctx := ⟨Tryd.prog, kecG, lookC [(62, Fai.c n)], fun _ => false⟩
noncomputable def Faa.A (n : Nat) : Ann := ⟨Tryd.f77.ntmps, 0, noNL, [], [none], fun k => match k with
 | _ => none, noNL, lookJ []⟩
def Faa.g {α : Type} (mk0 : Bool → α) (n : Nat) (a0 : LI) (a1 : LI) : Option α :=
 if (decide ((((List.length a0) : Nat) : Int) ≥ (((List.length a1) : Nat) : Int))) = true then
  if (((List.length a1) : Nat) : Int) ≤ (((List.length a0) : Nat) : Int) then
   bindO (Fai.m n ((Go.Abs.cut a0 0 (Option.some (Int.toNat (((List.length a1) : Nat) : Int)))), a1)) fun r6 =>
    some (mk0 r6)
  else
   none
 else
  some (mk0 false)
def Faa.m (n : Nat) (t : (LI × LI)) : Option Bool := Faa.g (fun a0 => a0) n t.1 t.2
def Faa.pat : List AV → Blks → Option (LI × LI)
 | [(.rints .u8 a0), (.rints .u8 a1)], [] => some (a0, a1)
 | _, _ => none
def Faa.shape (t : (LI × LI)) : List AV × Blks := ([(.rints .u8 t.1), (.rints .u8 t.2)], [])
def Faa.res : Bool → AV × Blks
 | u => ((.bool u), [])
def Faa.resK {R : Type} (u : Bool) (K : AV → Blks → Option R) : Option R := K (Faa.res u).1 (Faa.res u).2
def Faa.c (n : Nat) : Abs.Callee := .mk' [] [(some (.ints .u8)), (some (.ints .u8))] Faa.pat (Faa.m n) Faa.resK
end
end
section
noncomputable section
def Fak.m (n : Nat) (t : (Int × (Int × Int))) : Option (Int × Int) := xSub64 t
def Fak.pat : List AV → Blks → Option (Int × (Int × Int))
 | [(.int .u64 a0), (.int .u64 a1), (.int .u64 a2)], [] => some (a0, a1, a2)
 | _, _ => none
def Fak.shape (t : (Int × (Int × Int))) : List AV × Blks := ([(.int .u64 t.1), (.int .u64 t.2.1), (.int .u64 t.2.2)], [])
def Fak.res : (Int × Int) → AV × Blks
 | u => ((.tup [(.int .u64 u.1), (.int .u64 u.2)]), [])
def Fak.resK {R : Type} (u : (Int × Int)) (K : AV → Blks → Option R) : Option R := K (Fak.res u).1 (Fak.res u).2
def Fak.c (n : Nat) : Abs.Callee := .mk' [] [none, none, none] Fak.pat (Fak.m n) Fak.resK
end
end
section
noncomputable section
noncomputable def Fau.C (n : Nat) : Ctx := ⟨Tryd.prog, kecG, lookC [(66, Fak.c n)], fun _ => false⟩
def Fau.live : NL := fun k => match k with
 | 4 => ([9, 2, 3, 7, 6, 4], [6, 7, 4])
 | _ => ([], [])
def Fau.l4_0.r {α : Type} (mk0 : Int → LI → LI → α) (n : Nat) (rc : Int → Int → LI → LI → LI → LI → Option α)  (x0 : Int) (x1 : Int) (x2 : LI) (x3 : LI) (x4 : LI) (x5 : LI) : Option α :=
  if (decide (x0 < 4)) = true then
   if 0 ≤ x0 then
    if x0 < 4 then
     if 0 ≤ x0 then
      if x0 < 4 then
       bindO (Fak.m n ((List.getD x2 (Int.toNat x0) 0), (List.getD x3 (Int.toNat x0) 0), x1)) fun r14 =>
        if 0 ≤ x0 then
         if x0 < 4 then
          rc (IntKind.wrap .i64 (x0 + 1)) r14.2 x2 x3 (List.set x4 (Int.toNat x0) r14.1) x5
         else
          none
        else
         none
      else
       none
     else
      none
    else
     none
   else
    none
  else
   some (mk0 x1 x4 x5)
def Fau.l4_0.g {α : Type} (mk0 : Int → LI → LI → α) (n : Nat) : Nat → Int → Int → LI → LI → LI → LI → Option α
 | 0, _, _, _, _, _, _ => none
 | m + 1, x0, x1, x2, x3, x4, x5 => Fau.l4_0.r mk0 n (fun y0 y1 y2 y3 y4 y5 => Fau.l4_0.g mk0 n m y0 y1 y2 y3 y4 y5)  x0 x1 x2 x3 x4 x5
def Fau.l4_0.m (n m : Nat) (t : (Int × (Int × (LI × (LI × (LI × LI)))))) : Option (Int × (LI × LI)) := Fau.l4_0.g (fun a0 a1 a2 => (a0, a1, a2)) n m t.1 t.2.1 t.2.2.1 t.2.2.2.1 t.2.2.2.2.1 t.2.2.2.2.2
def Fau.l4_0.pat : St → Option (Int × (Int × (LI × (LI × (LI × LI)))))
 | (St.mk [(.int .i64 x0), (.ptr 0 []), (.ptr 1 []), (.int .u64 x1), (.ptr 2 []), (.ptr 3 [])] [(some (.var (.ints .u64 4 x2))), (some (.var (.ints .u64 4 x3))), (some (.var (.ints .u64 4 x4))), (some (.var (.ints .u64 4 x5)))]) => some (x0, x1, x2, x3, x4, x5)
 | _ => none
def Fau.l4_0.shape (t : (Int × (Int × (LI × (LI × (LI × LI)))))) : St := (St.mk [(.int .i64 t.1), (.ptr 0 []), (.ptr 1 []), (.int .u64 t.2.1), (.ptr 2 []), (.ptr 3 [])] [(some (.var (.ints .u64 4 t.2.2.1))), (some (.var (.ints .u64 4 t.2.2.2.1))), (some (.var (.ints .u64 4 t.2.2.2.2.1))), (some (.var (.ints .u64 4 t.2.2.2.2.2)))])
def Fau.l4_0.res : (Int × (LI × LI)) → Ex × St
 | u => ((.exit 0), (St.mk [(.ptr 0 []), (.int .u64 u.1), (.ptr 1 [])] [(some (.var (.ints .u64 4 u.2.1))), (some (.var (.ints .u64 4 u.2.2)))]))
def Fau.l4_0.resK {R : Type} (u : (Int × (LI × LI))) (K : Ex → St → Option R) : Option R := K (Fau.l4_0.res u).1 (Fau.l4_0.res u).2
noncomputable def Fau.A (n : Nat) : Ann := ⟨Tryd.f46.ntmps, 0, Fau.live, [], [none, none], fun k => match k with
 | 4 => some (.mk' Fau.l4_0.pat (Fau.l4_0.m n n) Fau.l4_0.resK)
 | _ => none, noNL, lookJ []⟩
noncomputable def Fau.b0 : Code := (loopsIn (Tryd.f46.body.getD .skip)).getD 0 .skip
def Fau.g {α : Type} (mk0 : LI → Bool → α) (n : Nat) (a0 : LI) (a1 : LI) : Option α :=
 bindO (Fau.l4_0.m n n (0, 0, a0, a1, [0, 0, 0, 0], [0, 0, 0, 0])) fun r2 =>
  some (mk0 r2.2.1 (r2.1 != 0))
def Fau.m (n : Nat) (t : (LI × LI)) : Option (LI × Bool) := Fau.g (fun a0 a1 => (a0, a1)) n t.1 t.2
def Fau.pat : List AV → Blks → Option (LI × LI)
 | [(.ints .u64 4 a0), (.ints .u64 4 a1)], [] => some (a0, a1)
 | _, _ => none
def Fau.shape (t : (LI × LI)) : List AV × Blks := ([(.ints .u64 4 t.1), (.ints .u64 4 t.2)], [])
def Fau.res : (LI × Bool) → AV × Blks
 | u => ((.tup [(.ints .u64 4 u.1), (.bool u.2)]), [])
def Fau.resK {R : Type} (u : (LI × Bool)) (K : AV → Blks → Option R) : Option R := K (Fau.res u).1 (Fau.res u).2
def Fau.c (n : Nat) : Abs.Callee := .mk' [] [none, none] Fau.pat (Fau.m n) Fau.resK
end
end
section
noncomputable section
noncomputable def Fal.C (n : Nat) : Ctx := ⟨Tryd.prog, kecG, lookC [], fun _ => false⟩
noncomputable def Fal.A (n : Nat) : Ann := ⟨Tryd.f56.ntmps, 0, noNL, [], [none, none], fun k => match k with
 | _ => none, noNL, lookJ []⟩
def Fal.g {α : Type} (mk0 : Int → Bool → α) (n : Nat) (a0 : LI) : Option α :=
 if ((ibits BinOp.or .u64 (ibits BinOp.or .u64 (List.getD a0 1 0) (List.getD a0 2 0)) (List.getD a0 3 0)) != 0) = true then
  some (mk0 0 false)
 else
  some (mk0 (List.getD a0 0 0) true)
def Fal.m (n : Nat) (t : LI) : Option (Int × Bool) := Fal.g (fun a0 a1 => (a0, a1)) n t
def Fal.pat : List AV → Blks → Option LI
 | [(.ints .u64 4 a0)], [] => some a0
 | _, _ => none
def Fal.shape (t : LI) : List AV × Blks := ([(.ints .u64 4 t)], [])
def Fal.res : (Int × Bool) → AV × Blks
 | u => ((.tup [(.int .u64 u.1), (.bool u.2)]), [])
def Fal.resK {R : Type} (u : (Int × Bool)) (K : AV → Blks → Option R) : Option R := K (Fal.res u).1 (Fal.res u).2
def Fal.c (n : Nat) : Abs.Callee := .mk' [] [none] Fal.pat (Fal.m n) Fal.resK
end
end
section
noncomputable section
noncomputable def Fab.C (n : Nat) : Ctx := ⟨Tryd.prog, kecG, lookC [(77, Faa.c n), (46, Fau.c n), (56, Fal.c n)], fun _ => false⟩
noncomputable def Fab.A (n : Nat) : Ann := ⟨Tryd.f76.ntmps, 0, noNL, [], [none], fun k => match k with
 | _ => none, noNL, lookJ []⟩
def Fab.g {α : Type} (mk0 : Bool → α) (n : Nat) (op : Int) (dp : Int) (se : LI) (ar : LI) (va : LI) (da : LI) (fa : Int) (o : LI) (s : LI) : Option α :=
 if (op != 32) = true then
  some (mk0 false)
 else
  if (fa != 0) = true then
   some (mk0 false)
  else
   bindO (Faa.m n (da, o)) fun r6 =>
    if (!r6) = true then
     some (mk0 false)
    else
     bindO (Fau.m n (s, va)) fun r10 =>
      bindO (Fal.m n r10.1) fun r12 =>
       if r12.2 = true then
        some (mk0 (decide (r12.1 ≤ 128)))
       else
        some (mk0 false)
def Fab.m (n : Nat) (t : (Int × (Int × (LI × (LI × (LI × (LI × (Int × (LI × LI))))))))) : Option Bool := Fab.g (fun a0 => a0) n t.1 t.2.1 t.2.2.1 t.2.2.2.1 t.2.2.2.2.1 t.2.2.2.2.2.1 t.2.2.2.2.2.2.1 t.2.2.2.2.2.2.2.1 t.2.2.2.2.2.2.2.2
def Fab.pat : List AV → Blks → Option (Int × (Int × (LI × (LI × (LI × (LI × (Int × (LI × LI))))))))
 | [(.agg [(.int .u8 op), (.int .i64 dp), (.ints .u8 20 se), (.ints .u64 4 ar), (.ints .u64 4 va), (.rints .u8 da), (.int .u16 fa)]), (.rptr (.rints .u8 o)), (.rptr (.ints .u64 4 s))], [] => some (op, dp, se, ar, va, da, fa, o, s)
 | _, _ => none
def Fab.shape (t : (Int × (Int × (LI × (LI × (LI × (LI × (Int × (LI × LI))))))))) : List AV × Blks := ([(.agg [(.int .u8 t.1), (.int .i64 t.2.1), (.ints .u8 20 t.2.2.1), (.ints .u64 4 t.2.2.2.1), (.ints .u64 4 t.2.2.2.2.1), (.rints .u8 t.2.2.2.2.2.1), (.int .u16 t.2.2.2.2.2.2.1)]), (.rptr (.rints .u8 t.2.2.2.2.2.2.2.1)), (.rptr (.ints .u64 4 t.2.2.2.2.2.2.2.2))], [])
def Fab.res : Bool → AV × Blks
 | u => ((.bool u), [])
def Fab.resK {R : Type} (u : Bool) (K : AV → Blks → Option R) : Option R := K (Fab.res u).1 (Fab.res u).2
def Fab.c (n : Nat) : Abs.Callee := .mk' [] [(some (.agg [none, none, none, none, none, (some (.ints .u8)), none]))] Fab.pat (Fab.m n) Fab.resK
end
end
section
noncomputable section
noncomputable def Fb.C (n : Nat) : Ctx := ⟨Tryd.prog, kecG, lookC [(54, Ff.c n), (76, Fab.c n)], fun _ => false⟩
def Fb.live : NL := fun k => match k with
 | 2 => ([8, 7, 1, 0], [4])
 | _ => ([], [])
def Fb.l2_0.r {α : Type} (mk0 : Int → α) (mk1 : α) (n : Nat) (rc : Int → Int → LA → Option α)  (x0 : Int) (x1 : Int) (x2 : LA) : Option α :=
  if (decide (x0 < x1)) = true then
   if 0 ≤ x0 then
    if x0 < (((List.length x2) : Nat) : Int) then
     bindO (tkAgg 7 (List.getD x2 (Int.toNat x0) AV.any)) fun r10 =>
      bindO (tkInt .u8 (List.getD r10 0 AV.any)) fun r12 =>
       bindO (tkInt .i64 (List.getD r10 1 AV.any)) fun r14 =>
        bindO (tkInts .u8 20 (List.getD r10 2 AV.any)) fun r16 =>
         bindO (tkInts .u64 4 (List.getD r10 3 AV.any)) fun r18 =>
          bindO (tkInts .u64 4 (List.getD r10 4 AV.any)) fun r20 =>
           bindO (tkRints .u8 (List.getD r10 5 AV.any)) fun r22 =>
            bindO (tkInt .u16 (List.getD r10 6 AV.any)) fun r24 =>
             bindO (Ff.m n (r12, r14, r16, r18, r20, r22, r24)) fun r26 =>
              if r26 = true then
               some (mk0 x0)
              else
               rc (IntKind.wrap .i64 (x0 + 1)) x1 x2
    else
     none
   else
    none
  else
   some (mk1)
def Fb.l2_0.g {α : Type} (mk0 : Int → α) (mk1 : α) (n : Nat) : Nat → Int → Int → LA → Option α
 | 0, _, _, _ => none
 | m + 1, x0, x1, x2 => Fb.l2_0.r mk0 mk1 n (fun y0 y1 y2 => Fb.l2_0.g mk0 mk1 n m y0 y1 y2)  x0 x1 x2
def Fb.l2_0.m (n m : Nat) (t : (Int × (Int × LA))) : Option (Int ⊕ Unit) := Fb.l2_0.g (fun a0 => (.inl a0)) (.inr ()) n m t.1 t.2.1 t.2.2
def Fb.l2_0.pat : St → Option (Int × (Int × LA))
 | (St.mk [(.int .i64 x0), (.int .i64 x1), (.fn (.func 54) [] []), (.robjs 47 32 x2)] []) => some (x0, x1, x2)
 | _ => none
def Fb.l2_0.shape (t : (Int × (Int × LA))) : St := (St.mk [(.int .i64 t.1), (.int .i64 t.2.1), (.fn (.func 54) [] []), (.robjs 47 32 t.2.2)] [])
def Fb.l2_0.res : (Int ⊕ Unit) → Ex × St
 | (.inl u) => (.ret, (St.mk [(.int .i64 u)] []))
 | (.inr u) => ((.exit 0), (St.mk [.any] []))
def Fb.l2_0.resK {R : Type} (u : (Int ⊕ Unit)) (K : Ex → St → Option R) : Option R := match u with
 | (.inl u) => (fun p : Ex × St => K p.1 p.2) (.ret, (St.mk [(.int .i64 u)] []))
 | (.inr u) => (fun p : Ex × St => K p.1 p.2) ((.exit 0), (St.mk [.any] []))
noncomputable def Fb.A (n : Nat) : Ann := ⟨Tryd.f53.ntmps, 0, Fb.live, [(0, (.objs 47 32))], [none], fun k => match k with
 | 2 => some (.mk' Fb.l2_0.pat (Fb.l2_0.m n n) Fb.l2_0.resK)
 | _ => none, noNL, lookJ []⟩
noncomputable def Fb.b0 : Code := (loopsIn (Tryd.f53.body.getD .skip)).getD 0 .skip
def Fb.g {α : Type} (mk0 : Int → α) (n : Nat) (l : LA) : Option α :=
 bindO (Fb.l2_0.m n n (0, (((List.length l) : Nat) : Int), l)) fun r2 => match r2 with
  | (.inl r2) =>
   some (mk0 r2)
  | (.inr r2) =>
   some (mk0 (-1))
def Fb.m (n : Nat) (t : LA) : Option Int := Fb.g (fun a0 => a0) n t
def Fb.pat : List AV → Blks → Option LA
 | [(.robjs 47 32 l), (.fn (.func 54) [] [])], [] => some l
 | _, _ => none
def Fb.shape (t : LA) : List AV × Blks := ([(.robjs 47 32 t), (.fn (.func 54) [] [])], [])
def Fb.res : Int → AV × Blks
 | u => ((.int .i64 u), [])
def Fb.resK {R : Type} (u : Int) (K : AV → Blks → Option R) : Option R := K (Fb.res u).1 (Fb.res u).2
def Fb.c (n : Nat) : Abs.Callee := .mk' [] [(some (.objs 47 32)), none] Fb.pat (Fb.m n) Fb.resK
end
end
section
noncomputable section
noncomputable def Fc.C (n : Nat) : Ctx := ⟨Tryd.prog, kecG, lookC [(54, Ff.c n), (76, Fab.c n)], fun _ => false⟩
def Fc.live : NL := fun k => match k with
 | 2 => ([8, 7, 1, 0], [4])
 | _ => ([], [])
def Fc.l2_0.r {α : Type} (mk0 : Int → α) (mk1 : α) (n : Nat) (rc : Int → Int → LI → LI → LA → Option α)  (x0 : Int) (x1 : Int) (x2 : LI) (x3 : LI) (x4 : LA) : Option α :=
  if (decide (x0 < x1)) = true then
   if 0 ≤ x0 then
    if x0 < (((List.length x4) : Nat) : Int) then
     bindO (tkAgg 7 (List.getD x4 (Int.toNat x0) AV.any)) fun r10 =>
      bindO (tkInt .u8 (List.getD r10 0 AV.any)) fun r12 =>
       bindO (tkInt .i64 (List.getD r10 1 AV.any)) fun r14 =>
        bindO (tkInts .u8 20 (List.getD r10 2 AV.any)) fun r16 =>
         bindO (tkInts .u64 4 (List.getD r10 3 AV.any)) fun r18 =>
          bindO (tkInts .u64 4 (List.getD r10 4 AV.any)) fun r20 =>
           bindO (tkRints .u8 (List.getD r10 5 AV.any)) fun r22 =>
            bindO (tkInt .u16 (List.getD r10 6 AV.any)) fun r24 =>
             bindO (Fab.m n (r12, r14, r16, r18, r20, r22, r24, x2, x3)) fun r26 =>
              if r26 = true then
               some (mk0 x0)
              else
               rc (IntKind.wrap .i64 (x0 + 1)) x1 x2 x3 x4
    else
     none
   else
    none
  else
   some (mk1)
def Fc.l2_0.g {α : Type} (mk0 : Int → α) (mk1 : α) (n : Nat) : Nat → Int → Int → LI → LI → LA → Option α
 | 0, _, _, _, _, _ => none
 | m + 1, x0, x1, x2, x3, x4 => Fc.l2_0.r mk0 mk1 n (fun y0 y1 y2 y3 y4 => Fc.l2_0.g mk0 mk1 n m y0 y1 y2 y3 y4)  x0 x1 x2 x3 x4
def Fc.l2_0.m (n m : Nat) (t : (Int × (Int × (LI × (LI × LA))))) : Option (Int ⊕ Unit) := Fc.l2_0.g (fun a0 => (.inl a0)) (.inr ()) n m t.1 t.2.1 t.2.2.1 t.2.2.2.1 t.2.2.2.2
def Fc.l2_0.pat : St → Option (Int × (Int × (LI × (LI × LA))))
 | (St.mk [(.int .i64 x0), (.int .i64 x1), (.fn (.func 76) [] [(.rptr (.rints .u8 x2)), (.rptr (.ints .u64 4 x3))]), (.robjs 47 32 x4)] []) => some (x0, x1, x2, x3, x4)
 | _ => none
def Fc.l2_0.shape (t : (Int × (Int × (LI × (LI × LA))))) : St := (St.mk [(.int .i64 t.1), (.int .i64 t.2.1), (.fn (.func 76) [] [(.rptr (.rints .u8 t.2.2.1)), (.rptr (.ints .u64 4 t.2.2.2.1))]), (.robjs 47 32 t.2.2.2.2)] [])
def Fc.l2_0.res : (Int ⊕ Unit) → Ex × St
 | (.inl u) => (.ret, (St.mk [(.int .i64 u)] []))
 | (.inr u) => ((.exit 0), (St.mk [.any] []))
def Fc.l2_0.resK {R : Type} (u : (Int ⊕ Unit)) (K : Ex → St → Option R) : Option R := match u with
 | (.inl u) => (fun p : Ex × St => K p.1 p.2) (.ret, (St.mk [(.int .i64 u)] []))
 | (.inr u) => (fun p : Ex × St => K p.1 p.2) ((.exit 0), (St.mk [.any] []))
noncomputable def Fc.A (n : Nat) : Ann := ⟨Tryd.f53.ntmps, 0, Fc.live, [(0, (.objs 47 32))], [none], fun k => match k with
 | 2 => some (.mk' Fc.l2_0.pat (Fc.l2_0.m n n) Fc.l2_0.resK)
 | _ => none, noNL, lookJ []⟩
noncomputable def Fc.b0 : Code := (loopsIn (Tryd.f53.body.getD .skip)).getD 0 .skip
def Fc.g {α : Type} (mk0 : Int → α) (n : Nat) (l : LA) (o : LI) (s : LI) : Option α :=
 bindO (Fc.l2_0.m n n (0, (((List.length l) : Nat) : Int), o, s, l)) fun r2 => match r2 with
  | (.inl r2) =>
   some (mk0 r2)
  | (.inr r2) =>
   some (mk0 (-1))
def Fc.m (n : Nat) (t : (LA × (LI × LI))) : Option Int := Fc.g (fun a0 => a0) n t.1 t.2.1 t.2.2
def Fc.pat : List AV → Blks → Option (LA × (LI × LI))
 | [(.robjs 47 32 l), (.fn (.func 76) [] [(.rptr (.rints .u8 o)), (.rptr (.ints .u64 4 s))])], [] => some (l, o, s)
 | _, _ => none
def Fc.shape (t : (LA × (LI × LI))) : List AV × Blks := ([(.robjs 47 32 t.1), (.fn (.func 76) [] [(.rptr (.rints .u8 t.2.1)), (.rptr (.ints .u64 4 t.2.2))])], [])
def Fc.res : Int → AV × Blks
 | u => ((.int .i64 u), [])
def Fc.resK {R : Type} (u : Int) (K : AV → Blks → Option R) : Option R := K (Fc.res u).1 (Fc.res u).2
def Fc.c (n : Nat) : Abs.Callee := .mk' [] [(some (.objs 47 32)), none] Fc.pat (Fc.m n) Fc.resK
end
end
section
noncomputable section
def zslicesIndexFuncquaestorapiEventquaestorapiEvent.c (n : Nat) : Abs.Callee := .pick (fun args => match args with | [_, .fn (.func 54) _ _] => true | _ => false) (Fb.c n) (Fc.c n)
end
end
section
noncomputable section
noncomputable def Fam.C (n : Nat) : Ctx := ⟨Tryd.prog, kecG, lookC [], fun _ => false⟩
def Fam.live : NL := fun k => match k with
 | 3 => ([6, 3, 1], [3])
 | _ => ([], [])
def Fam.l3_0.r {α : Type} (mk0 : LI → α) (n : Nat) (rc : Int → LI → LI → Option α)  (x0 : Int) (x1 : LI) (x2 : LI) : Option α :=
  if (decide (x0 < 32)) = true then
   if 0 ≤ (IntKind.wrap .i64 (Int.tdiv x0 8)) then
    if (IntKind.wrap .i64 (Int.tdiv x0 8)) < 4 then
     if 0 ≤ (IntKind.wrap .i64 ((Int.tmod x0 8) * 8)) then
      if 0 ≤ (IntKind.wrap .i64 (31 - x0)) then
       if (IntKind.wrap .i64 (31 - x0)) < (((List.length x1) : Nat) : Int) then
        rc (IntKind.wrap .i64 (x0 + 1)) (List.set x1 (Int.toNat (IntKind.wrap .i64 (31 - x0))) (IntKind.wrap .u8 (ishr .u64 (List.getD x2 (Int.toNat (IntKind.wrap .i64 (Int.tdiv x0 8))) 0) (IntKind.wrap .i64 ((Int.tmod x0 8) * 8))))) x2
       else
        none
      else
       none
     else
      none
    else
     none
   else
    none
  else
   some (mk0 x1)
def Fam.l3_0.g {α : Type} (mk0 : LI → α) (n : Nat) : Nat → Int → LI → LI → Option α
 | 0, _, _, _ => none
 | m + 1, x0, x1, x2 => Fam.l3_0.r mk0 n (fun y0 y1 y2 => Fam.l3_0.g mk0 n m y0 y1 y2)  x0 x1 x2
def Fam.l3_0.m (n m : Nat) (t : (Int × (LI × LI))) : Option LI := Fam.l3_0.g (fun a0 => a0) n m t.1 t.2.1 t.2.2
def Fam.l3_0.pat : St → Option (Int × (LI × LI))
 | (St.mk [(.int .i64 x0), (.own 0 1), (.ptr 1 [])] [(some (.ints .u8 x1)), (some (.var (.ints .u64 4 x2)))]) => some (x0, x1, x2)
 | _ => none
def Fam.l3_0.shape (t : (Int × (LI × LI))) : St := (St.mk [(.int .i64 t.1), (.own 0 1), (.ptr 1 [])] [(some (.ints .u8 t.2.1)), (some (.var (.ints .u64 4 t.2.2)))])
def Fam.l3_0.res : LI → Ex × St
 | u => ((.exit 0), (St.mk [(.own 0 1)] [(some (.ints .u8 u))]))
def Fam.l3_0.resK {R : Type} (u : LI) (K : Ex → St → Option R) : Option R := K (Fam.l3_0.res u).1 (Fam.l3_0.res u).2
noncomputable def Fam.A (n : Nat) : Ann := ⟨Tryd.f73.ntmps, 0, Fam.live, [(3, (.ints .u8))], [(some (.ints .u8))], fun k => match k with
 | 3 => some (.mk' Fam.l3_0.pat (Fam.l3_0.m n n) Fam.l3_0.resK)
 | _ => none, noNL, lookJ []⟩
noncomputable def Fam.b0 : Code := (loopsIn (Tryd.f73.body.getD .skip)).getD 0 .skip
def Fam.g {α : Type} (mk0 : LI → α) (n : Nat) (a0 : LI) : Option α :=
 bindO (Fam.l3_0.m n n (0, ([0, 0, 0, 0, 0, 0, 0, 0, 0, 0, 0, 0, 0, 0, 0, 0, 0, 0, 0, 0, 0, 0, 0, 0, 0, 0, 0, 0, 0, 0, 0, 0] : List Int), a0)) fun r2 =>
  some (mk0 r2)
def Fam.m (n : Nat) (t : LI) : Option LI := Fam.g (fun a0 => a0) n t
def Fam.pat : List AV → Blks → Option LI
 | [(.ints .u64 4 a0)], [] => some a0
 | _, _ => none
def Fam.shape (t : LI) : List AV × Blks := ([(.ints .u64 4 t)], [])
def Fam.res : LI → AV × Blks
 | u => ((.own 0 1), [(some (.ints .u8 u))])
def Fam.resK {R : Type} (u : LI) (K : AV → Blks → Option R) : Option R := K (Fam.res u).1 (Fam.res u).2
def Fam.c (n : Nat) : Abs.Callee := .mk' [] [none] Fam.pat (Fam.m n) Fam.resK
end
end
section
noncomputable section
noncomputable def Fao.C (n : Nat) : Ctx := ⟨Tryd.prog, kecG, lookC [(73, Fam.c n)], fun _ => false⟩
noncomputable def Fao.A (n : Nat) : Ann := ⟨Tryd.f71.ntmps, 0, noNL, [], [none], fun k => match k with
 | _ => none, noNL, lookJ []⟩
def Fao.g {α : Type} (mk0 : LI → α) (n : Nat) (a0 : LI) : Option α :=
 bindO (Fam.m n a0) fun r2 =>
  if 12 ≤ (((List.length r2) : Nat) : Int) then
   if 20 ≤ (Go.Abs.span (List.length r2) 12 (Option.none)) then
    some (mk0 (List.take 20 (List.drop 12 r2)))
   else
    none
  else
   none
def Fao.m (n : Nat) (t : LI) : Option LI := Fao.g (fun a0 => a0) n t
def Fao.pat : List AV → Blks → Option LI
 | [(.ints .u64 4 a0)], [] => some a0
 | _, _ => none
def Fao.shape (t : LI) : List AV × Blks := ([(.ints .u64 4 t)], [])
def Fao.res : LI → AV × Blks
 | u => ((.ints .u8 20 u), [])
def Fao.resK {R : Type} (u : LI) (K : AV → Blks → Option R) : Option R := K (Fao.res u).1 (Fao.res u).2
def Fao.c (n : Nat) : Abs.Callee := .mk' [] [none] Fao.pat (Fao.m n) Fao.resK
end
end
section
noncomputable section
noncomputable def Fn.C (n : Nat) : Ctx := ⟨Tryd.prog, kecG, lookC [(71, Fao.c n)], fun _ => false⟩
noncomputable def Fn.A (n : Nat) : Ann := ⟨Tryd.f55.ntmps, 0, noNL, [], [none], fun k => match k with
 | _ => none, noNL, lookJ []⟩
def Fn.g {α : Type} (mk0 : LI → α) (n : Nat) (a0_0_0 : Int) (a0_0_1 : Int) (a0_0_2 : LI) (a0_0_3 : LI) (a0_0_4 : LI) (a0_0_5 : LI) (a0_0_6 : Int) (a0_1_0_6 : Int) (a0_1_0_10 : Int) (a0_1_1_0 : LI) (a0_1_1_1 : LI) (a0_1_1_2 : Bool) (a0_1_1_3 : LI) (a0_1_1_4 : LI) (a0_1_1_5 : LI) (a0_1_1_6 : Int) (a0_1_1_7 : Int) (a0_1_1_8 : Int) (a0_1_1_9 : LI) (a0_1_1_10 : LI) (a0_1_1_11 : Bool) (a0_1_1_12 : LI) (a0_1_1_13 : Int) (a0_1_1_14 : Int) (a0_1_1_15 : LI) (a0_1_1_16 : LI) (a0_1_2 : Int) (a0_1_3 : Bool) (a0_1_4 : Bool) (a0_1_5 : LA) (a0_2 : Int) : Option α :=
 bindO (Fao.m n a0_0_3) fun r2 =>
  some (mk0 r2)
def Fn.m (n : Nat) (t : (Int × (Int × (LI × (LI × (LI × (LI × (Int × (Int × (Int × (LI × (LI × (Bool × (LI × (LI × (LI × (Int × (Int × (Int × (LI × (LI × (Bool × (LI × (Int × (Int × (LI × (LI × (Int × (Bool × (Bool × (LA × Int))))))))))))))))))))))))))))))) : Option LI := Fn.g (fun a0 => a0) n t.1 t.2.1 t.2.2.1 t.2.2.2.1 t.2.2.2.2.1 t.2.2.2.2.2.1 t.2.2.2.2.2.2.1 t.2.2.2.2.2.2.2.1 t.2.2.2.2.2.2.2.2.1 t.2.2.2.2.2.2.2.2.2.1 t.2.2.2.2.2.2.2.2.2.2.1 t.2.2.2.2.2.2.2.2.2.2.2.1 t.2.2.2.2.2.2.2.2.2.2.2.2.1 t.2.2.2.2.2.2.2.2.2.2.2.2.2.1 t.2.2.2.2.2.2.2.2.2.2.2.2.2.2.1 t.2.2.2.2.2.2.2.2.2.2.2.2.2.2.2.1 t.2.2.2.2.2.2.2.2.2.2.2.2.2.2.2.2.1 t.2.2.2.2.2.2.2.2.2.2.2.2.2.2.2.2.2.1 t.2.2.2.2.2.2.2.2.2.2.2.2.2.2.2.2.2.2.1 t.2.2.2.2.2.2.2.2.2.2.2.2.2.2.2.2.2.2.2.1 t.2.2.2.2.2.2.2.2.2.2.2.2.2.2.2.2.2.2.2.2.1 t.2.2.2.2.2.2.2.2.2.2.2.2.2.2.2.2.2.2.2.2.2.1 t.2.2.2.2.2.2.2.2.2.2.2.2.2.2.2.2.2.2.2.2.2.2.1 t.2.2.2.2.2.2.2.2.2.2.2.2.2.2.2.2.2.2.2.2.2.2.2.1 t.2.2.2.2.2.2.2.2.2.2.2.2.2.2.2.2.2.2.2.2.2.2.2.2.1 t.2.2.2.2.2.2.2.2.2.2.2.2.2.2.2.2.2.2.2.2.2.2.2.2.2.1 t.2.2.2.2.2.2.2.2.2.2.2.2.2.2.2.2.2.2.2.2.2.2.2.2.2.2.1 t.2.2.2.2.2.2.2.2.2.2.2.2.2.2.2.2.2.2.2.2.2.2.2.2.2.2.2.1 t.2.2.2.2.2.2.2.2.2.2.2.2.2.2.2.2.2.2.2.2.2.2.2.2.2.2.2.2.1 t.2.2.2.2.2.2.2.2.2.2.2.2.2.2.2.2.2.2.2.2.2.2.2.2.2.2.2.2.2.1 t.2.2.2.2.2.2.2.2.2.2.2.2.2.2.2.2.2.2.2.2.2.2.2.2.2.2.2.2.2.2
def Fn.pat : List AV → Blks → Option (Int × (Int × (LI × (LI × (LI × (LI × (Int × (Int × (Int × (LI × (LI × (Bool × (LI × (LI × (LI × (Int × (Int × (Int × (LI × (LI × (Bool × (LI × (Int × (Int × (LI × (LI × (Int × (Bool × (Bool × (LA × Int))))))))))))))))))))))))))))))
 | [(.agg [(.agg [(.int .u8 a0_0_0), (.int .i64 a0_0_1), (.ints .u8 20 a0_0_2), (.ints .u64 4 a0_0_3), (.ints .u64 4 a0_0_4), (.rints .u8 a0_0_5), (.int .u16 a0_0_6)]), (.rptr (.agg [(.rptr (.agg [.emap, .emap, .emap, .emap, .emap, .emap, (.int .i64 a0_1_0_6), .snil, .snil, .snil, (.int .i64 a0_1_0_10)])), (.agg [(.ints .u8 20 a0_1_1_0), (.ints .u64 4 a0_1_1_1), (.bool a0_1_1_2), (.ints .u8 20 a0_1_1_3), (.rints .u8 a0_1_1_4), (.rints .u8 a0_1_1_5), (.int .u64 a0_1_1_6), (.int .u64 a0_1_1_7), (.int .u64 a0_1_1_8), (.ints .u64 4 a0_1_1_9), (.ints .u64 4 a0_1_1_10), (.bool a0_1_1_11), (.ints .u8 20 a0_1_1_12), (.int .u64 a0_1_1_13), (.int .u64 a0_1_1_14), (.rints .u8 a0_1_1_15), (.rints .u8 a0_1_1_16)]), (.int .u8 a0_1_2), (.bool a0_1_3), (.bool a0_1_4), (.robjs 47 32 a0_1_5)])), (.int .i64 a0_2)])], [] => some (a0_0_0, a0_0_1, a0_0_2, a0_0_3, a0_0_4, a0_0_5, a0_0_6, a0_1_0_6, a0_1_0_10, a0_1_1_0, a0_1_1_1, a0_1_1_2, a0_1_1_3, a0_1_1_4, a0_1_1_5, a0_1_1_6, a0_1_1_7, a0_1_1_8, a0_1_1_9, a0_1_1_10, a0_1_1_11, a0_1_1_12, a0_1_1_13, a0_1_1_14, a0_1_1_15, a0_1_1_16, a0_1_2, a0_1_3, a0_1_4, a0_1_5, a0_2)
 | _, _ => none
def Fn.shape (t : (Int × (Int × (LI × (LI × (LI × (LI × (Int × (Int × (Int × (LI × (LI × (Bool × (LI × (LI × (LI × (Int × (Int × (Int × (LI × (LI × (Bool × (LI × (Int × (Int × (LI × (LI × (Int × (Bool × (Bool × (LA × Int))))))))))))))))))))))))))))))) : List AV × Blks := ([(.agg [(.agg [(.int .u8 t.1), (.int .i64 t.2.1), (.ints .u8 20 t.2.2.1), (.ints .u64 4 t.2.2.2.1), (.ints .u64 4 t.2.2.2.2.1), (.rints .u8 t.2.2.2.2.2.1), (.int .u16 t.2.2.2.2.2.2.1)]), (.rptr (.agg [(.rptr (.agg [.emap, .emap, .emap, .emap, .emap, .emap, (.int .i64 t.2.2.2.2.2.2.2.1), .snil, .snil, .snil, (.int .i64 t.2.2.2.2.2.2.2.2.1)])), (.agg [(.ints .u8 20 t.2.2.2.2.2.2.2.2.2.1), (.ints .u64 4 t.2.2.2.2.2.2.2.2.2.2.1), (.bool t.2.2.2.2.2.2.2.2.2.2.2.1), (.ints .u8 20 t.2.2.2.2.2.2.2.2.2.2.2.2.1), (.rints .u8 t.2.2.2.2.2.2.2.2.2.2.2.2.2.1), (.rints .u8 t.2.2.2.2.2.2.2.2.2.2.2.2.2.2.1), (.int .u64 t.2.2.2.2.2.2.2.2.2.2.2.2.2.2.2.1), (.int .u64 t.2.2.2.2.2.2.2.2.2.2.2.2.2.2.2.2.1), (.int .u64 t.2.2.2.2.2.2.2.2.2.2.2.2.2.2.2.2.2.1), (.ints .u64 4 t.2.2.2.2.2.2.2.2.2.2.2.2.2.2.2.2.2.2.1), (.ints .u64 4 t.2.2.2.2.2.2.2.2.2.2.2.2.2.2.2.2.2.2.2.1), (.bool t.2.2.2.2.2.2.2.2.2.2.2.2.2.2.2.2.2.2.2.2.1), (.ints .u8 20 t.2.2.2.2.2.2.2.2.2.2.2.2.2.2.2.2.2.2.2.2.2.1), (.int .u64 t.2.2.2.2.2.2.2.2.2.2.2.2.2.2.2.2.2.2.2.2.2.2.1), (.int .u64 t.2.2.2.2.2.2.2.2.2.2.2.2.2.2.2.2.2.2.2.2.2.2.2.1), (.rints .u8 t.2.2.2.2.2.2.2.2.2.2.2.2.2.2.2.2.2.2.2.2.2.2.2.2.1), (.rints .u8 t.2.2.2.2.2.2.2.2.2.2.2.2.2.2.2.2.2.2.2.2.2.2.2.2.2.1)]), (.int .u8 t.2.2.2.2.2.2.2.2.2.2.2.2.2.2.2.2.2.2.2.2.2.2.2.2.2.2.1), (.bool t.2.2.2.2.2.2.2.2.2.2.2.2.2.2.2.2.2.2.2.2.2.2.2.2.2.2.2.1), (.bool t.2.2.2.2.2.2.2.2.2.2.2.2.2.2.2.2.2.2.2.2.2.2.2.2.2.2.2.2.1), (.robjs 47 32 t.2.2.2.2.2.2.2.2.2.2.2.2.2.2.2.2.2.2.2.2.2.2.2.2.2.2.2.2.2.1)])), (.int .i64 t.2.2.2.2.2.2.2.2.2.2.2.2.2.2.2.2.2.2.2.2.2.2.2.2.2.2.2.2.2.2)])], [])
def Fn.res : LI → AV × Blks
 | u => ((.ints .u8 20 u), [])
def Fn.resK {R : Type} (u : LI) (K : AV → Blks → Option R) : Option R := K (Fn.res u).1 (Fn.res u).2
def Fn.c (n : Nat) : Abs.Callee := .mk' [] [none] Fn.pat (Fn.m n) Fn.resK
end
end
section
noncomputable section
noncomputable def Fo.C (n : Nat) : Ctx := ⟨Tryd.prog, kecG, lookC [(53, zslicesIndexFuncquaestorapiEventquaestorapiEvent.c n), (54, Ff.c n), (55, Fn.c n)], fun _ => false⟩
noncomputable def Fo.A (n : Nat) : Ann := ⟨Tryd.f38.ntmps, 0, noNL, [], [none], fun k => match k with
 | _ => none, noNL, lookJ []⟩
def Fo.g {α : Type} (mk0 : Bool → α) (n : Nat) (a0_0_0 : Int) (a0_0_1 : Int) (a0_0_2 : LI) (a0_0_3 : LI) (a0_0_4 : LI) (a0_0_5 : LI) (a0_0_6 : Int) (a0_1_0_6 : Int) (a0_1_0_10 : Int) (a0_1_1_0 : LI) (a0_1_1_1 : LI) (a0_1_1_2 : Bool) (a0_1_1_3 : LI) (a0_1_1_4 : LI) (a0_1_1_5 : LI) (a0_1_1_6 : Int) (a0_1_1_7 : Int) (a0_1_1_8 : Int) (a0_1_1_9 : LI) (a0_1_1_10 : LI) (a0_1_1_11 : Bool) (a0_1_1_12 : LI) (a0_1_1_13 : Int) (a0_1_1_14 : Int) (a0_1_1_15 : LI) (a0_1_1_16 : LI) (a0_1_2 : Int) (a0_1_3 : Bool) (a0_1_4 : Bool) (a0_1_5 : LA) (a0_2 : Int) : Option α :=
 if (a0_0_0 != 240) = true then
  if (a0_0_0 != 245) = true then
   some (mk0 false)
  else
   bindO (Fb.m n a0_1_5) fun r6 =>
    if (a0_1_2 != 2) = true then
     some (mk0 true)
    else
     if (a0_2 != r6) = true then
      some (mk0 true)
     else
      bindO (Fn.m n (a0_0_0, a0_0_1, a0_0_2, a0_0_3, a0_0_4, a0_0_5, a0_0_6, a0_1_0_6, a0_1_0_10, a0_1_1_0, a0_1_1_1, a0_1_1_2, a0_1_1_3, a0_1_1_4, a0_1_1_5, a0_1_1_6, a0_1_1_7, a0_1_1_8, a0_1_1_9, a0_1_1_10, a0_1_1_11, a0_1_1_12, a0_1_1_13, a0_1_1_14, a0_1_1_15, a0_1_1_16, a0_1_2, a0_1_3, a0_1_4, a0_1_5, a0_2)) fun r12 =>
       some (mk0 (!(r12 == a0_1_1_0)))
 else
  bindO (Fb.m n a0_1_5) fun r4 =>
   if (a0_1_2 != 2) = true then
    some (mk0 true)
   else
    if (a0_2 != r4) = true then
     some (mk0 true)
    else
     bindO (Fn.m n (a0_0_0, a0_0_1, a0_0_2, a0_0_3, a0_0_4, a0_0_5, a0_0_6, a0_1_0_6, a0_1_0_10, a0_1_1_0, a0_1_1_1, a0_1_1_2, a0_1_1_3, a0_1_1_4, a0_1_1_5, a0_1_1_6, a0_1_1_7, a0_1_1_8, a0_1_1_9, a0_1_1_10, a0_1_1_11, a0_1_1_12, a0_1_1_13, a0_1_1_14, a0_1_1_15, a0_1_1_16, a0_1_2, a0_1_3, a0_1_4, a0_1_5, a0_2)) fun r10 =>
      some (mk0 (!(r10 == a0_1_1_0)))
def Fo.m (n : Nat) (t : (Int × (Int × (LI × (LI × (LI × (LI × (Int × (Int × (Int × (LI × (LI × (Bool × (LI × (LI × (LI × (Int × (Int × (Int × (LI × (LI × (Bool × (LI × (Int × (Int × (LI × (LI × (Int × (Bool × (Bool × (LA × Int))))))))))))))))))))))))))))))) : Option Bool := Fo.g (fun a0 => a0) n t.1 t.2.1 t.2.2.1 t.2.2.2.1 t.2.2.2.2.1 t.2.2.2.2.2.1 t.2.2.2.2.2.2.1 t.2.2.2.2.2.2.2.1 t.2.2.2.2.2.2.2.2.1 t.2.2.2.2.2.2.2.2.2.1 t.2.2.2.2.2.2.2.2.2.2.1 t.2.2.2.2.2.2.2.2.2.2.2.1 t.2.2.2.2.2.2.2.2.2.2.2.2.1 t.2.2.2.2.2.2.2.2.2.2.2.2.2.1 t.2.2.2.2.2.2.2.2.2.2.2.2.2.2.1 t.2.2.2.2.2.2.2.2.2.2.2.2.2.2.2.1 t.2.2.2.2.2.2.2.2.2.2.2.2.2.2.2.2.1 t.2.2.2.2.2.2.2.2.2.2.2.2.2.2.2.2.2.1 t.2.2.2.2.2.2.2.2.2.2.2.2.2.2.2.2.2.2.1 t.2.2.2.2.2.2.2.2.2.2.2.2.2.2.2.2.2.2.2.1 t.2.2.2.2.2.2.2.2.2.2.2.2.2.2.2.2.2.2.2.2.1 t.2.2.2.2.2.2.2.2.2.2.2.2.2.2.2.2.2.2.2.2.2.1 t.2.2.2.2.2.2.2.2.2.2.2.2.2.2.2.2.2.2.2.2.2.2.1 t.2.2.2.2.2.2.2.2.2.2.2.2.2.2.2.2.2.2.2.2.2.2.2.1 t.2.2.2.2.2.2.2.2.2.2.2.2.2.2.2.2.2.2.2.2.2.2.2.2.1 t.2.2.2.2.2.2.2.2.2.2.2.2.2.2.2.2.2.2.2.2.2.2.2.2.2.1 t.2.2.2.2.2.2.2.2.2.2.2.2.2.2.2.2.2.2.2.2.2.2.2.2.2.2.1 t.2.2.2.2.2.2.2.2.2.2.2.2.2.2.2.2.2.2.2.2.2.2.2.2.2.2.2.1 t.2.2.2.2.2.2.2.2.2.2.2.2.2.2.2.2.2.2.2.2.2.2.2.2.2.2.2.2.1 t.2.2.2.2.2.2.2.2.2.2.2.2.2.2.2.2.2.2.2.2.2.2.2.2.2.2.2.2.2.1 t.2.2.2.2.2.2.2.2.2.2.2.2.2.2.2.2.2.2.2.2.2.2.2.2.2.2.2.2.2.2
def Fo.pat : List AV → Blks → Option (Int × (Int × (LI × (LI × (LI × (LI × (Int × (Int × (Int × (LI × (LI × (Bool × (LI × (LI × (LI × (Int × (Int × (Int × (LI × (LI × (Bool × (LI × (Int × (Int × (LI × (LI × (Int × (Bool × (Bool × (LA × Int))))))))))))))))))))))))))))))
 | [(.agg [(.agg [(.int .u8 a0_0_0), (.int .i64 a0_0_1), (.ints .u8 20 a0_0_2), (.ints .u64 4 a0_0_3), (.ints .u64 4 a0_0_4), (.rints .u8 a0_0_5), (.int .u16 a0_0_6)]), (.rptr (.agg [(.rptr (.agg [.emap, .emap, .emap, .emap, .emap, .emap, (.int .i64 a0_1_0_6), .snil, .snil, .snil, (.int .i64 a0_1_0_10)])), (.agg [(.ints .u8 20 a0_1_1_0), (.ints .u64 4 a0_1_1_1), (.bool a0_1_1_2), (.ints .u8 20 a0_1_1_3), (.rints .u8 a0_1_1_4), (.rints .u8 a0_1_1_5), (.int .u64 a0_1_1_6), (.int .u64 a0_1_1_7), (.int .u64 a0_1_1_8), (.ints .u64 4 a0_1_1_9), (.ints .u64 4 a0_1_1_10), (.bool a0_1_1_11), (.ints .u8 20 a0_1_1_12), (.int .u64 a0_1_1_13), (.int .u64 a0_1_1_14), (.rints .u8 a0_1_1_15), (.rints .u8 a0_1_1_16)]), (.int .u8 a0_1_2), (.bool a0_1_3), (.bool a0_1_4), (.robjs 47 32 a0_1_5)])), (.int .i64 a0_2)])], [] => some (a0_0_0, a0_0_1, a0_0_2, a0_0_3, a0_0_4, a0_0_5, a0_0_6, a0_1_0_6, a0_1_0_10, a0_1_1_0, a0_1_1_1, a0_1_1_2, a0_1_1_3, a0_1_1_4, a0_1_1_5, a0_1_1_6, a0_1_1_7, a0_1_1_8, a0_1_1_9, a0_1_1_10, a0_1_1_11, a0_1_1_12, a0_1_1_13, a0_1_1_14, a0_1_1_15, a0_1_1_16, a0_1_2, a0_1_3, a0_1_4, a0_1_5, a0_2)
 | _, _ => none
def Fo.shape (t : (Int × (Int × (LI × (LI × (LI × (LI × (Int × (Int × (Int × (LI × (LI × (Bool × (LI × (LI × (LI × (Int × (Int × (Int × (LI × (LI × (Bool × (LI × (Int × (Int × (LI × (LI × (Int × (Bool × (Bool × (LA × Int))))))))))))))))))))))))))))))) : List AV × Blks := ([(.agg [(.agg [(.int .u8 t.1), (.int .i64 t.2.1), (.ints .u8 20 t.2.2.1), (.ints .u64 4 t.2.2.2.1), (.ints .u64 4 t.2.2.2.2.1), (.rints .u8 t.2.2.2.2.2.1), (.int .u16 t.2.2.2.2.2.2.1)]), (.rptr (.agg [(.rptr (.agg [.emap, .emap, .emap, .emap, .emap, .emap, (.int .i64 t.2.2.2.2.2.2.2.1), .snil, .snil, .snil, (.int .i64 t.2.2.2.2.2.2.2.2.1)])), (.agg [(.ints .u8 20 t.2.2.2.2.2.2.2.2.2.1), (.ints .u64 4 t.2.2.2.2.2.2.2.2.2.2.1), (.bool t.2.2.2.2.2.2.2.2.2.2.2.1), (.ints .u8 20 t.2.2.2.2.2.2.2.2.2.2.2.2.1), (.rints .u8 t.2.2.2.2.2.2.2.2.2.2.2.2.2.1), (.rints .u8 t.2.2.2.2.2.2.2.2.2.2.2.2.2.2.1), (.int .u64 t.2.2.2.2.2.2.2.2.2.2.2.2.2.2.2.1), (.int .u64 t.2.2.2.2.2.2.2.2.2.2.2.2.2.2.2.2.1), (.int .u64 t.2.2.2.2.2.2.2.2.2.2.2.2.2.2.2.2.2.1), (.ints .u64 4 t.2.2.2.2.2.2.2.2.2.2.2.2.2.2.2.2.2.2.1), (.ints .u64 4 t.2.2.2.2.2.2.2.2.2.2.2.2.2.2.2.2.2.2.2.1), (.bool t.2.2.2.2.2.2.2.2.2.2.2.2.2.2.2.2.2.2.2.2.1), (.ints .u8 20 t.2.2.2.2.2.2.2.2.2.2.2.2.2.2.2.2.2.2.2.2.2.1), (.int .u64 t.2.2.2.2.2.2.2.2.2.2.2.2.2.2.2.2.2.2.2.2.2.2.1), (.int .u64 t.2.2.2.2.2.2.2.2.2.2.2.2.2.2.2.2.2.2.2.2.2.2.2.1), (.rints .u8 t.2.2.2.2.2.2.2.2.2.2.2.2.2.2.2.2.2.2.2.2.2.2.2.2.1), (.rints .u8 t.2.2.2.2.2.2.2.2.2.2.2.2.2.2.2.2.2.2.2.2.2.2.2.2.2.1)]), (.int .u8 t.2.2.2.2.2.2.2.2.2.2.2.2.2.2.2.2.2.2.2.2.2.2.2.2.2.2.1), (.bool t.2.2.2.2.2.2.2.2.2.2.2.2.2.2.2.2.2.2.2.2.2.2.2.2.2.2.2.1), (.bool t.2.2.2.2.2.2.2.2.2.2.2.2.2.2.2.2.2.2.2.2.2.2.2.2.2.2.2.2.1), (.robjs 47 32 t.2.2.2.2.2.2.2.2.2.2.2.2.2.2.2.2.2.2.2.2.2.2.2.2.2.2.2.2.2.1)])), (.int .i64 t.2.2.2.2.2.2.2.2.2.2.2.2.2.2.2.2.2.2.2.2.2.2.2.2.2.2.2.2.2.2)])], [])
def Fo.res : Bool → AV × Blks
 | u => ((.bool u), [])
def Fo.resK {R : Type} (u : Bool) (K : AV → Blks → Option R) : Option R := K (Fo.res u).1 (Fo.res u).2
def Fo.c (n : Nat) : Abs.Callee := .mk' [] [none] Fo.pat (Fo.m n) Fo.resK
end
end
section
noncomputable section
noncomputable def Fap.C (n : Nat) : Ctx := ⟨Tryd.prog, kecG, lookC [], fun _ => false⟩
def Fap.live : NL := fun k => match k with
 | 4 => ([13, 12, 3, 0, 2], [3, 2])
 | _ => ([], [])
def Fap.l4_0.r {α : Type} (mk0 : LI → LI → α) (n : Nat) (rc : Int → Int → LI → LI → LI → Option α)  (x0 : Int) (x1 : Int) (x2 : LI) (x3 : LI) (x4 : LI) : Option α :=
  if (decide (x0 < x1)) = true then
   if 0 ≤ (IntKind.wrap .i64 (Int.tdiv x0 8)) then
    if (IntKind.wrap .i64 (Int.tdiv x0 8)) < 4 then
     if 0 ≤ (IntKind.wrap .i64 ((IntKind.wrap .i64 ((((List.length x2) : Nat) : Int) - 1)) - x0)) then
      if (IntKind.wrap .i64 ((IntKind.wrap .i64 ((((List.length x2) : Nat) : Int) - 1)) - x0)) < (((List.length x2) : Nat) : Int) then
       if 0 ≤ (IntKind.wrap .i64 ((Int.tmod x0 8) * 8)) then
        if 0 ≤ (IntKind.wrap .i64 (Int.tdiv x0 8)) then
         if (IntKind.wrap .i64 (Int.tdiv x0 8)) < 4 then
          rc (IntKind.wrap .i64 (x0 + 1)) x1 x2 (List.set x3 (Int.toNat (IntKind.wrap .i64 (Int.tdiv x0 8))) (ibits BinOp.or .u64 (List.getD x3 (Int.toNat (IntKind.wrap .i64 (Int.tdiv x0 8))) 0) (ishl .u64 (IntKind.wrap .u64 (List.getD x2 (Int.toNat (IntKind.wrap .i64 ((IntKind.wrap .i64 ((((List.length x2) : Nat) : Int) - 1)) - x0))) 0)) (IntKind.wrap .i64 ((Int.tmod x0 8) * 8))))) x4
         else
          none
        else
         none
       else
        none
      else
       none
     else
      none
    else
     none
   else
    none
  else
   some (mk0 x3 x4)
def Fap.l4_0.g {α : Type} (mk0 : LI → LI → α) (n : Nat) : Nat → Int → Int → LI → LI → LI → Option α
 | 0, _, _, _, _, _ => none
 | m + 1, x0, x1, x2, x3, x4 => Fap.l4_0.r mk0 n (fun y0 y1 y2 y3 y4 => Fap.l4_0.g mk0 n m y0 y1 y2 y3 y4)  x0 x1 x2 x3 x4
def Fap.l4_0.m (n m : Nat) (t : (Int × (Int × (LI × (LI × LI))))) : Option (LI × LI) := Fap.l4_0.g (fun a0 a1 => (a0, a1)) n m t.1 t.2.1 t.2.2.1 t.2.2.2.1 t.2.2.2.2
def Fap.l4_0.pat : St → Option (Int × (Int × (LI × (LI × LI))))
 | (St.mk [(.int .i64 x0), (.int .i64 x1), (.ptr 0 []), (.rints .u8 x2), (.ptr 1 [])] [(some (.var (.ints .u64 4 x3))), (some (.var (.ints .u64 4 x4)))]) => some (x0, x1, x2, x3, x4)
 | _ => none
def Fap.l4_0.shape (t : (Int × (Int × (LI × (LI × LI))))) : St := (St.mk [(.int .i64 t.1), (.int .i64 t.2.1), (.ptr 0 []), (.rints .u8 t.2.2.1), (.ptr 1 [])] [(some (.var (.ints .u64 4 t.2.2.2.1))), (some (.var (.ints .u64 4 t.2.2.2.2)))])
def Fap.l4_0.res : (LI × LI) → Ex × St
 | u => ((.exit 0), (St.mk [(.ptr 0 []), (.ptr 1 [])] [(some (.var (.ints .u64 4 u.1))), (some (.var (.ints .u64 4 u.2)))]))
def Fap.l4_0.resK {R : Type} (u : (LI × LI)) (K : Ex → St → Option R) : Option R := K (Fap.l4_0.res u).1 (Fap.l4_0.res u).2
noncomputable def Fap.A (n : Nat) : Ann := ⟨Tryd.f72.ntmps, 0, Fap.live, [(0, (.ints .u8))], [none], fun k => match k with
 | 4 => some (.mk' Fap.l4_0.pat (Fap.l4_0.m n n) Fap.l4_0.resK)
 | _ => none, noNL, lookJ []⟩
noncomputable def Fap.b0 : Code := (loopsIn (Tryd.f72.body.getD .skip)).getD 0 .skip
def Fap.g {α : Type} (mk0 : LI → α) (n : Nat) (a0 : LI) : Option α :=
 if 0 ≤ (if 0 > (IntKind.wrap .i64 ((((List.length a0) : Nat) : Int) - 32)) then 0 else (IntKind.wrap .i64 ((((List.length a0) : Nat) : Int) - 32))) then
  if (if 0 > (IntKind.wrap .i64 ((((List.length a0) : Nat) : Int) - 32)) then 0 else (IntKind.wrap .i64 ((((List.length a0) : Nat) : Int) - 32))) ≤ (((List.length a0) : Nat) : Int) then
   bindO (Fap.l4_0.m n n (0, (((List.length (Go.Abs.cut a0 (Int.toNat (if 0 > (IntKind.wrap .i64 ((((List.length a0) : Nat) : Int) - 32)) then 0 else (IntKind.wrap .i64 ((((List.length a0) : Nat) : Int) - 32)))) (Option.none))) : Nat) : Int), (Go.Abs.cut a0 (Int.toNat (if 0 > (IntKind.wrap .i64 ((((List.length a0) : Nat) : Int) - 32)) then 0 else (IntKind.wrap .i64 ((((List.length a0) : Nat) : Int) - 32)))) (Option.none)), [0, 0, 0, 0], [0, 0, 0, 0])) fun r6 =>
    some (mk0 r6.1)
  else
   none
 else
  none
def Fap.m (n : Nat) (t : LI) : Option LI := Fap.g (fun a0 => a0) n t
def Fap.pat : List AV → Blks → Option LI
 | [(.rints .u8 a0)], [] => some a0
 | _, _ => none
def Fap.shape (t : LI) : List AV × Blks := ([(.rints .u8 t)], [])
def Fap.res : LI → AV × Blks
 | u => ((.ints .u64 4 u), [])
def Fap.resK {R : Type} (u : LI) (K : AV → Blks → Option R) : Option R := K (Fap.res u).1 (Fap.res u).2
def Fap.c (n : Nat) : Abs.Callee := .mk' [] [(some (.ints .u8))] Fap.pat (Fap.m n) Fap.resK
end
end
section
noncomputable section
noncomputable def Faq.C (n : Nat) : Ctx := ⟨Tryd.prog, kecG, lookC [(72, Fap.c n)], fun _ => false⟩
noncomputable def Faq.A (n : Nat) : Ann := ⟨Tryd.f57.ntmps, 0, noNL, [], [none], fun k => match k with
 | _ => none, noNL, lookJ []⟩
def Faq.g {α : Type} (mk0 : LI → α) (n : Nat) (a0 : LI) : Option α :=
 bindO (Fap.m n (List.take 20 (List.drop 0 a0))) fun r2 =>
  some (mk0 r2)
def Faq.m (n : Nat) (t : LI) : Option LI := Faq.g (fun a0 => a0) n t
def Faq.pat : List AV → Blks → Option LI
 | [(.ints .u8 20 a0)], [] => some a0
 | _, _ => none
def Faq.shape (t : LI) : List AV × Blks := ([(.ints .u8 20 t)], [])
def Faq.res : LI → AV × Blks
 | u => ((.ints .u64 4 u), [])
def Faq.resK {R : Type} (u : LI) (K : AV → Blks → Option R) : Option R := K (Faq.res u).1 (Faq.res u).2
def Faq.c (n : Nat) : Abs.Callee := .mk' [] [none] Faq.pat (Faq.m n) Faq.resK
end
end
section
noncomputable section
noncomputable def Fp.C (n : Nat) : Ctx := ⟨Tryd.prog, kecG, lookC [], fun _ => false⟩
noncomputable def Fp.A (n : Nat) : Ann := ⟨Tryd.f61.ntmps, 0, noNL, [], [none], fun k => match k with
 | _ => none, noNL, lookJ []⟩
def Fp.g {α : Type} (mk0 : Bool → α) (n : Nat) (a0_0_0 : Int) (a0_0_1 : Int) (a0_0_2 : LI) (a0_0_3 : LI) (a0_0_4 : LI) (a0_0_5 : LI) (a0_0_6 : Int) (a0_1_0_6 : Int) (a0_1_0_10 : Int) (a0_1_1_0 : LI) (a0_1_1_1 : LI) (a0_1_1_2 : Bool) (a0_1_1_3 : LI) (a0_1_1_4 : LI) (a0_1_1_5 : LI) (a0_1_1_6 : Int) (a0_1_1_7 : Int) (a0_1_1_8 : Int) (a0_1_1_9 : LI) (a0_1_1_10 : LI) (a0_1_1_11 : Bool) (a0_1_1_12 : LI) (a0_1_1_13 : Int) (a0_1_1_14 : Int) (a0_1_1_15 : LI) (a0_1_1_16 : LI) (a0_1_2 : Int) (a0_1_3 : Bool) (a0_1_4 : Bool) (a0_1_5 : LA) (a0_2 : Int) : Option α :=
 if (a0_0_0 == 241) = true then
  some (mk0 true)
 else
  if (a0_0_0 == 242) = true then
   some (mk0 true)
  else
   if (a0_0_0 == 244) = true then
    some (mk0 true)
   else
    if (a0_0_0 == 250) = true then
     some (mk0 true)
    else
     some (mk0 false)
def Fp.m (n : Nat) (t : (Int × (Int × (LI × (LI × (LI × (LI × (Int × (Int × (Int × (LI × (LI × (Bool × (LI × (LI × (LI × (Int × (Int × (Int × (LI × (LI × (Bool × (LI × (Int × (Int × (LI × (LI × (Int × (Bool × (Bool × (LA × Int))))))))))))))))))))))))))))))) : Option Bool := Fp.g (fun a0 => a0) n t.1 t.2.1 t.2.2.1 t.2.2.2.1 t.2.2.2.2.1 t.2.2.2.2.2.1 t.2.2.2.2.2.2.1 t.2.2.2.2.2.2.2.1 t.2.2.2.2.2.2.2.2.1 t.2.2.2.2.2.2.2.2.2.1 t.2.2.2.2.2.2.2.2.2.2.1 t.2.2.2.2.2.2.2.2.2.2.2.1 t.2.2.2.2.2.2.2.2.2.2.2.2.1 t.2.2.2.2.2.2.2.2.2.2.2.2.2.1 t.2.2.2.2.2.2.2.2.2.2.2.2.2.2.1 t.2.2.2.2.2.2.2.2.2.2.2.2.2.2.2.1 t.2.2.2.2.2.2.2.2.2.2.2.2.2.2.2.2.1 t.2.2.2.2.2.2.2.2.2.2.2.2.2.2.2.2.2.1 t.2.2.2.2.2.2.2.2.2.2.2.2.2.2.2.2.2.2.1 t.2.2.2.2.2.2.2.2.2.2.2.2.2.2.2.2.2.2.2.1 t.2.2.2.2.2.2.2.2.2.2.2.2.2.2.2.2.2.2.2.2.1 t.2.2.2.2.2.2.2.2.2.2.2.2.2.2.2.2.2.2.2.2.2.1 t.2.2.2.2.2.2.2.2.2.2.2.2.2.2.2.2.2.2.2.2.2.2.1 t.2.2.2.2.2.2.2.2.2.2.2.2.2.2.2.2.2.2.2.2.2.2.2.1 t.2.2.2.2.2.2.2.2.2.2.2.2.2.2.2.2.2.2.2.2.2.2.2.2.1 t.2.2.2.2.2.2.2.2.2.2.2.2.2.2.2.2.2.2.2.2.2.2.2.2.2.1 t.2.2.2.2.2.2.2.2.2.2.2.2.2.2.2.2.2.2.2.2.2.2.2.2.2.2.1 t.2.2.2.2.2.2.2.2.2.2.2.2.2.2.2.2.2.2.2.2.2.2.2.2.2.2.2.1 t.2.2.2.2.2.2.2.2.2.2.2.2.2.2.2.2.2.2.2.2.2.2.2.2.2.2.2.2.1 t.2.2.2.2.2.2.2.2.2.2.2.2.2.2.2.2.2.2.2.2.2.2.2.2.2.2.2.2.2.1 t.2.2.2.2.2.2.2.2.2.2.2.2.2.2.2.2.2.2.2.2.2.2.2.2.2.2.2.2.2.2
def Fp.pat : List AV → Blks → Option (Int × (Int × (LI × (LI × (LI × (LI × (Int × (Int × (Int × (LI × (LI × (Bool × (LI × (LI × (LI × (Int × (Int × (Int × (LI × (LI × (Bool × (LI × (Int × (Int × (LI × (LI × (Int × (Bool × (Bool × (LA × Int))))))))))))))))))))))))))))))
 | [(.agg [(.agg [(.int .u8 a0_0_0), (.int .i64 a0_0_1), (.ints .u8 20 a0_0_2), (.ints .u64 4 a0_0_3), (.ints .u64 4 a0_0_4), (.rints .u8 a0_0_5), (.int .u16 a0_0_6)]), (.rptr (.agg [(.rptr (.agg [.emap, .emap, .emap, .emap, .emap, .emap, (.int .i64 a0_1_0_6), .snil, .snil, .snil, (.int .i64 a0_1_0_10)])), (.agg [(.ints .u8 20 a0_1_1_0), (.ints .u64 4 a0_1_1_1), (.bool a0_1_1_2), (.ints .u8 20 a0_1_1_3), (.rints .u8 a0_1_1_4), (.rints .u8 a0_1_1_5), (.int .u64 a0_1_1_6), (.int .u64 a0_1_1_7), (.int .u64 a0_1_1_8), (.ints .u64 4 a0_1_1_9), (.ints .u64 4 a0_1_1_10), (.bool a0_1_1_11), (.ints .u8 20 a0_1_1_12), (.int .u64 a0_1_1_13), (.int .u64 a0_1_1_14), (.rints .u8 a0_1_1_15), (.rints .u8 a0_1_1_16)]), (.int .u8 a0_1_2), (.bool a0_1_3), (.bool a0_1_4), (.robjs 47 32 a0_1_5)])), (.int .i64 a0_2)])], [] => some (a0_0_0, a0_0_1, a0_0_2, a0_0_3, a0_0_4, a0_0_5, a0_0_6, a0_1_0_6, a0_1_0_10, a0_1_1_0, a0_1_1_1, a0_1_1_2, a0_1_1_3, a0_1_1_4, a0_1_1_5, a0_1_1_6, a0_1_1_7, a0_1_1_8, a0_1_1_9, a0_1_1_10, a0_1_1_11, a0_1_1_12, a0_1_1_13, a0_1_1_14, a0_1_1_15, a0_1_1_16, a0_1_2, a0_1_3, a0_1_4, a0_1_5, a0_2)
 | _, _ => none
def Fp.shape (t : (Int × (Int × (LI × (LI × (LI × (LI × (Int × (Int × (Int × (LI × (LI × (Bool × (LI × (LI × (LI × (Int × (Int × (Int × (LI × (LI × (Bool × (LI × (Int × (Int × (LI × (LI × (Int × (Bool × (Bool × (LA × Int))))))))))))))))))))))))))))))) : List AV × Blks := ([(.agg [(.agg [(.int .u8 t.1), (.int .i64 t.2.1), (.ints .u8 20 t.2.2.1), (.ints .u64 4 t.2.2.2.1), (.ints .u64 4 t.2.2.2.2.1), (.rints .u8 t.2.2.2.2.2.1), (.int .u16 t.2.2.2.2.2.2.1)]), (.rptr (.agg [(.rptr (.agg [.emap, .emap, .emap, .emap, .emap, .emap, (.int .i64 t.2.2.2.2.2.2.2.1), .snil, .snil, .snil, (.int .i64 t.2.2.2.2.2.2.2.2.1)])), (.agg [(.ints .u8 20 t.2.2.2.2.2.2.2.2.2.1), (.ints .u64 4 t.2.2.2.2.2.2.2.2.2.2.1), (.bool t.2.2.2.2.2.2.2.2.2.2.2.1), (.ints .u8 20 t.2.2.2.2.2.2.2.2.2.2.2.2.1), (.rints .u8 t.2.2.2.2.2.2.2.2.2.2.2.2.2.1), (.rints .u8 t.2.2.2.2.2.2.2.2.2.2.2.2.2.2.1), (.int .u64 t.2.2.2.2.2.2.2.2.2.2.2.2.2.2.2.1), (.int .u64 t.2.2.2.2.2.2.2.2.2.2.2.2.2.2.2.2.1), (.int .u64 t.2.2.2.2.2.2.2.2.2.2.2.2.2.2.2.2.2.1), (.ints .u64 4 t.2.2.2.2.2.2.2.2.2.2.2.2.2.2.2.2.2.2.1), (.ints .u64 4 t.2.2.2.2.2.2.2.2.2.2.2.2.2.2.2.2.2.2.2.1), (.bool t.2.2.2.2.2.2.2.2.2.2.2.2.2.2.2.2.2.2.2.2.1), (.ints .u8 20 t.2.2.2.2.2.2.2.2.2.2.2.2.2.2.2.2.2.2.2.2.2.1), (.int .u64 t.2.2.2.2.2.2.2.2.2.2.2.2.2.2.2.2.2.2.2.2.2.2.1), (.int .u64 t.2.2.2.2.2.2.2.2.2.2.2.2.2.2.2.2.2.2.2.2.2.2.2.1), (.rints .u8 t.2.2.2.2.2.2.2.2.2.2.2.2.2.2.2.2.2.2.2.2.2.2.2.2.1), (.rints .u8 t.2.2.2.2.2.2.2.2.2.2.2.2.2.2.2.2.2.2.2.2.2.2.2.2.2.1)]), (.int .u8 t.2.2.2.2.2.2.2.2.2.2.2.2.2.2.2.2.2.2.2.2.2.2.2.2.2.2.1), (.bool t.2.2.2.2.2.2.2.2.2.2.2.2.2.2.2.2.2.2.2.2.2.2.2.2.2.2.2.1), (.bool t.2.2.2.2.2.2.2.2.2.2.2.2.2.2.2.2.2.2.2.2.2.2.2.2.2.2.2.2.1), (.robjs 47 32 t.2.2.2.2.2.2.2.2.2.2.2.2.2.2.2.2.2.2.2.2.2.2.2.2.2.2.2.2.2.1)])), (.int .i64 t.2.2.2.2.2.2.2.2.2.2.2.2.2.2.2.2.2.2.2.2.2.2.2.2.2.2.2.2.2.2)])], [])
def Fp.res : Bool → AV × Blks
 | u => ((.bool u), [])
def Fp.resK {R : Type} (u : Bool) (K : AV → Blks → Option R) : Option R := K (Fp.res u).1 (Fp.res u).2
def Fp.c (n : Nat) : Abs.Callee := .mk' [] [none] Fp.pat (Fp.m n) Fp.resK
end
end
section
noncomputable section
noncomputable def Fq.C (n : Nat) : Ctx := ⟨Tryd.prog, kecG, lookC [(61, Fp.c n)], fun _ => false⟩
noncomputable def Fq.A (n : Nat) : Ann := ⟨Tryd.f58.ntmps, 0, noNL, [], [none], fun k => match k with
 | _ => none, noNL, lookJ []⟩
def Fq.g {α : Type} (mk0 : Bool → α) (n : Nat) (a0_0_0 : Int) (a0_0_1 : Int) (a0_0_2 : LI) (a0_0_3 : LI) (a0_0_4 : LI) (a0_0_5 : LI) (a0_0_6 : Int) (a0_1_0_6 : Int) (a0_1_0_10 : Int) (a0_1_1_0 : LI) (a0_1_1_1 : LI) (a0_1_1_2 : Bool) (a0_1_1_3 : LI) (a0_1_1_4 : LI) (a0_1_1_5 : LI) (a0_1_1_6 : Int) (a0_1_1_7 : Int) (a0_1_1_8 : Int) (a0_1_1_9 : LI) (a0_1_1_10 : LI) (a0_1_1_11 : Bool) (a0_1_1_12 : LI) (a0_1_1_13 : Int) (a0_1_1_14 : Int) (a0_1_1_15 : LI) (a0_1_1_16 : LI) (a0_1_2 : Int) (a0_1_3 : Bool) (a0_1_4 : Bool) (a0_1_5 : LA) (a0_2 : Int) : Option α :=
 if (a0_0_0 == 59) = true then
  some (mk0 true)
 else
  if (a0_0_0 == 60) = true then
   some (mk0 true)
  else
   if (a0_0_0 == 63) = true then
    some (mk0 true)
   else
    bindO (Fp.m n (a0_0_0, a0_0_1, a0_0_2, a0_0_3, a0_0_4, a0_0_5, a0_0_6, a0_1_0_6, a0_1_0_10, a0_1_1_0, a0_1_1_1, a0_1_1_2, a0_1_1_3, a0_1_1_4, a0_1_1_5, a0_1_1_6, a0_1_1_7, a0_1_1_8, a0_1_1_9, a0_1_1_10, a0_1_1_11, a0_1_1_12, a0_1_1_13, a0_1_1_14, a0_1_1_15, a0_1_1_16, a0_1_2, a0_1_3, a0_1_4, a0_1_5, a0_2)) fun r8 =>
     some (mk0 r8)
def Fq.m (n : Nat) (t : (Int × (Int × (LI × (LI × (LI × (LI × (Int × (Int × (Int × (LI × (LI × (Bool × (LI × (LI × (LI × (Int × (Int × (Int × (LI × (LI × (Bool × (LI × (Int × (Int × (LI × (LI × (Int × (Bool × (Bool × (LA × Int))))))))))))))))))))))))))))))) : Option Bool := Fq.g (fun a0 => a0) n t.1 t.2.1 t.2.2.1 t.2.2.2.1 t.2.2.2.2.1 t.2.2.2.2.2.1 t.2.2.2.2.2.2.1 t.2.2.2.2.2.2.2.1 t.2.2.2.2.2.2.2.2.1 t.2.2.2.2.2.2.2.2.2.1 t.2.2.2.2.2.2.2.2.2.2.1 t.2.2.2.2.2.2.2.2.2.2.2.1 t.2.2.2.2.2.2.2.2.2.2.2.2.1 t.2.2.2.2.2.2.2.2.2.2.2.2.2.1 t.2.2.2.2.2.2.2.2.2.2.2.2.2.2.1 t.2.2.2.2.2.2.2.2.2.2.2.2.2.2.2.1 t.2.2.2.2.2.2.2.2.2.2.2.2.2.2.2.2.1 t.2.2.2.2.2.2.2.2.2.2.2.2.2.2.2.2.2.1 t.2.2.2.2.2.2.2.2.2.2.2.2.2.2.2.2.2.2.1 t.2.2.2.2.2.2.2.2.2.2.2.2.2.2.2.2.2.2.2.1 t.2.2.2.2.2.2.2.2.2.2.2.2.2.2.2.2.2.2.2.2.1 t.2.2.2.2.2.2.2.2.2.2.2.2.2.2.2.2.2.2.2.2.2.1 t.2.2.2.2.2.2.2.2.2.2.2.2.2.2.2.2.2.2.2.2.2.2.1 t.2.2.2.2.2.2.2.2.2.2.2.2.2.2.2.2.2.2.2.2.2.2.2.1 t.2.2.2.2.2.2.2.2.2.2.2.2.2.2.2.2.2.2.2.2.2.2.2.2.1 t.2.2.2.2.2.2.2.2.2.2.2.2.2.2.2.2.2.2.2.2.2.2.2.2.2.1 t.2.2.2.2.2.2.2.2.2.2.2.2.2.2.2.2.2.2.2.2.2.2.2.2.2.2.1 t.2.2.2.2.2.2.2.2.2.2.2.2.2.2.2.2.2.2.2.2.2.2.2.2.2.2.2.1 t.2.2.2.2.2.2.2.2.2.2.2.2.2.2.2.2.2.2.2.2.2.2.2.2.2.2.2.2.1 t.2.2.2.2.2.2.2.2.2.2.2.2.2.2.2.2.2.2.2.2.2.2.2.2.2.2.2.2.2.1 t.2.2.2.2.2.2.2.2.2.2.2.2.2.2.2.2.2.2.2.2.2.2.2.2.2.2.2.2.2.2
def Fq.pat : List AV → Blks → Option (Int × (Int × (LI × (LI × (LI × (LI × (Int × (Int × (Int × (LI × (LI × (Bool × (LI × (LI × (LI × (Int × (Int × (Int × (LI × (LI × (Bool × (LI × (Int × (Int × (LI × (LI × (Int × (Bool × (Bool × (LA × Int))))))))))))))))))))))))))))))
 | [(.agg [(.agg [(.int .u8 a0_0_0), (.int .i64 a0_0_1), (.ints .u8 20 a0_0_2), (.ints .u64 4 a0_0_3), (.ints .u64 4 a0_0_4), (.rints .u8 a0_0_5), (.int .u16 a0_0_6)]), (.rptr (.agg [(.rptr (.agg [.emap, .emap, .emap, .emap, .emap, .emap, (.int .i64 a0_1_0_6), .snil, .snil, .snil, (.int .i64 a0_1_0_10)])), (.agg [(.ints .u8 20 a0_1_1_0), (.ints .u64 4 a0_1_1_1), (.bool a0_1_1_2), (.ints .u8 20 a0_1_1_3), (.rints .u8 a0_1_1_4), (.rints .u8 a0_1_1_5), (.int .u64 a0_1_1_6), (.int .u64 a0_1_1_7), (.int .u64 a0_1_1_8), (.ints .u64 4 a0_1_1_9), (.ints .u64 4 a0_1_1_10), (.bool a0_1_1_11), (.ints .u8 20 a0_1_1_12), (.int .u64 a0_1_1_13), (.int .u64 a0_1_1_14), (.rints .u8 a0_1_1_15), (.rints .u8 a0_1_1_16)]), (.int .u8 a0_1_2), (.bool a0_1_3), (.bool a0_1_4), (.robjs 47 32 a0_1_5)])), (.int .i64 a0_2)])], [] => some (a0_0_0, a0_0_1, a0_0_2, a0_0_3, a0_0_4, a0_0_5, a0_0_6, a0_1_0_6, a0_1_0_10, a0_1_1_0, a0_1_1_1, a0_1_1_2, a0_1_1_3, a0_1_1_4, a0_1_1_5, a0_1_1_6, a0_1_1_7, a0_1_1_8, a0_1_1_9, a0_1_1_10, a0_1_1_11, a0_1_1_12, a0_1_1_13, a0_1_1_14, a0_1_1_15, a0_1_1_16, a0_1_2, a0_1_3, a0_1_4, a0_1_5, a0_2)
 | _, _ => none
def Fq.shape (t : (Int × (Int × (LI × (LI × (LI × (LI × (Int × (Int × (Int × (LI × (LI × (Bool × (LI × (LI × (LI × (Int × (Int × (Int × (LI × (LI × (Bool × (LI × (Int × (Int × (LI × (LI × (Int × (Bool × (Bool × (LA × Int))))))))))))))))))))))))))))))) : List AV × Blks := ([(.agg [(.agg [(.int .u8 t.1), (.int .i64 t.2.1), (.ints .u8 20 t.2.2.1), (.ints .u64 4 t.2.2.2.1), (.ints .u64 4 t.2.2.2.2.1), (.rints .u8 t.2.2.2.2.2.1), (.int .u16 t.2.2.2.2.2.2.1)]), (.rptr (.agg [(.rptr (.agg [.emap, .emap, .emap, .emap, .emap, .emap, (.int .i64 t.2.2.2.2.2.2.2.1), .snil, .snil, .snil, (.int .i64 t.2.2.2.2.2.2.2.2.1)])), (.agg [(.ints .u8 20 t.2.2.2.2.2.2.2.2.2.1), (.ints .u64 4 t.2.2.2.2.2.2.2.2.2.2.1), (.bool t.2.2.2.2.2.2.2.2.2.2.2.1), (.ints .u8 20 t.2.2.2.2.2.2.2.2.2.2.2.2.1), (.rints .u8 t.2.2.2.2.2.2.2.2.2.2.2.2.2.1), (.rints .u8 t.2.2.2.2.2.2.2.2.2.2.2.2.2.2.1), (.int .u64 t.2.2.2.2.2.2.2.2.2.2.2.2.2.2.2.1), (.int .u64 t.2.2.2.2.2.2.2.2.2.2.2.2.2.2.2.2.1), (.int .u64 t.2.2.2.2.2.2.2.2.2.2.2.2.2.2.2.2.2.1), (.ints .u64 4 t.2.2.2.2.2.2.2.2.2.2.2.2.2.2.2.2.2.2.1), (.ints .u64 4 t.2.2.2.2.2.2.2.2.2.2.2.2.2.2.2.2.2.2.2.1), (.bool t.2.2.2.2.2.2.2.2.2.2.2.2.2.2.2.2.2.2.2.2.1), (.ints .u8 20 t.2.2.2.2.2.2.2.2.2.2.2.2.2.2.2.2.2.2.2.2.2.1), (.int .u64 t.2.2.2.2.2.2.2.2.2.2.2.2.2.2.2.2.2.2.2.2.2.2.1), (.int .u64 t.2.2.2.2.2.2.2.2.2.2.2.2.2.2.2.2.2.2.2.2.2.2.2.1), (.rints .u8 t.2.2.2.2.2.2.2.2.2.2.2.2.2.2.2.2.2.2.2.2.2.2.2.2.1), (.rints .u8 t.2.2.2.2.2.2.2.2.2.2.2.2.2.2.2.2.2.2.2.2.2.2.2.2.2.1)]), (.int .u8 t.2.2.2.2.2.2.2.2.2.2.2.2.2.2.2.2.2.2.2.2.2.2.2.2.2.2.1), (.bool t.2.2.2.2.2.2.2.2.2.2.2.2.2.2.2.2.2.2.2.2.2.2.2.2.2.2.2.1), (.bool t.2.2.2.2.2.2.2.2.2.2.2.2.2.2.2.2.2.2.2.2.2.2.2.2.2.2.2.2.1), (.robjs 47 32 t.2.2.2.2.2.2.2.2.2.2.2.2.2.2.2.2.2.2.2.2.2.2.2.2.2.2.2.2.2.1)])), (.int .i64 t.2.2.2.2.2.2.2.2.2.2.2.2.2.2.2.2.2.2.2.2.2.2.2.2.2.2.2.2.2.2)])], [])
def Fq.res : Bool → AV × Blks
 | u => ((.bool u), [])
def Fq.resK {R : Type} (u : Bool) (K : AV → Blks → Option R) : Option R := K (Fq.res u).1 (Fq.res u).2
def Fq.c (n : Nat) : Abs.Callee := .mk' [] [none] Fq.pat (Fq.m n) Fq.resK
end
end
section
noncomputable section
noncomputable def Far.C (n : Nat) : Ctx := ⟨Tryd.prog, kecG, lookC [], fun _ => false⟩
noncomputable def Far.A (n : Nat) : Ann := ⟨Tryd.f44.ntmps, 0, noNL, [], [none], fun k => match k with
 | _ => none, noNL, lookJ []⟩
def Far.g {α : Type} (mk0 : LI → α) (n : Nat)  : Option α :=
 some (mk0 ([0, 0, 0, 0, 113, 114, 125, 226, 46, 94, 157, 139, 175, 14, 218, 198, 243, 125, 160, 50] : List Int))
def Far.m (n : Nat) (t : Unit) : Option LI := Far.g (fun a0 => a0) n 
def Far.pat : List AV → Blks → Option Unit
 | [], [] => some ()
 | _, _ => none
def Far.shape (t : Unit) : List AV × Blks := ([], [])
def Far.res : LI → AV × Blks
 | u => ((.ints .u8 20 u), [])
def Far.resK {R : Type} (u : LI) (K : AV → Blks → Option R) : Option R := K (Far.res u).1 (Far.res u).2
def Far.c (n : Nat) : Abs.Callee := .mk' [] [] Far.pat (Far.m n) Far.resK
end
end
section
noncomputable section
noncomputable def Fj.C (n : Nat) : Ctx := ⟨Tryd.prog, kecG, lookC [(55, Fn.c n), (44, Far.c n)], fun _ => false⟩
noncomputable def Fj.A (n : Nat) : Ann := ⟨Tryd.f59.ntmps, 0, noNL, [], [none], fun k => match k with
 | _ => none, noNL, lookJ []⟩
def Fj.g {α : Type} (mk0 : Bool → α) (n : Nat) (a0_0_0 : Int) (a0_0_1 : Int) (a0_0_2 : LI) (a0_0_3 : LI) (a0_0_4 : LI) (a0_0_5 : LI) (a0_0_6 : Int) (a0_1_0_6 : Int) (a0_1_0_10 : Int) (a0_1_1_0 : LI) (a0_1_1_1 : LI) (a0_1_1_2 : Bool) (a0_1_1_3 : LI) (a0_1_1_4 : LI) (a0_1_1_5 : LI) (a0_1_1_6 : Int) (a0_1_1_7 : Int) (a0_1_1_8 : Int) (a0_1_1_9 : LI) (a0_1_1_10 : LI) (a0_1_1_11 : Bool) (a0_1_1_12 : LI) (a0_1_1_13 : Int) (a0_1_1_14 : Int) (a0_1_1_15 : LI) (a0_1_1_16 : LI) (a0_1_2 : Int) (a0_1_3 : Bool) (a0_1_4 : Bool) (a0_1_5 : LA) (a0_2 : Int) : Option α :=
 bindO (Fn.m n (a0_0_0, a0_0_1, a0_0_2, a0_0_3, a0_0_4, a0_0_5, a0_0_6, a0_1_0_6, a0_1_0_10, a0_1_1_0, a0_1_1_1, a0_1_1_2, a0_1_1_3, a0_1_1_4, a0_1_1_5, a0_1_1_6, a0_1_1_7, a0_1_1_8, a0_1_1_9, a0_1_1_10, a0_1_1_11, a0_1_1_12, a0_1_1_13, a0_1_1_14, a0_1_1_15, a0_1_1_16, a0_1_2, a0_1_3, a0_1_4, a0_1_5, a0_2)) fun r2 =>
  bindO (Far.m n Unit.unit) fun r4 =>
   some (mk0 (r2 == r4))
def Fj.m (n : Nat) (t : (Int × (Int × (LI × (LI × (LI × (LI × (Int × (Int × (Int × (LI × (LI × (Bool × (LI × (LI × (LI × (Int × (Int × (Int × (LI × (LI × (Bool × (LI × (Int × (Int × (LI × (LI × (Int × (Bool × (Bool × (LA × Int))))))))))))))))))))))))))))))) : Option Bool := Fj.g (fun a0 => a0) n t.1 t.2.1 t.2.2.1 t.2.2.2.1 t.2.2.2.2.1 t.2.2.2.2.2.1 t.2.2.2.2.2.2.1 t.2.2.2.2.2.2.2.1 t.2.2.2.2.2.2.2.2.1 t.2.2.2.2.2.2.2.2.2.1 t.2.2.2.2.2.2.2.2.2.2.1 t.2.2.2.2.2.2.2.2.2.2.2.1 t.2.2.2.2.2.2.2.2.2.2.2.2.1 t.2.2.2.2.2.2.2.2.2.2.2.2.2.1 t.2.2.2.2.2.2.2.2.2.2.2.2.2.2.1 t.2.2.2.2.2.2.2.2.2.2.2.2.2.2.2.1 t.2.2.2.2.2.2.2.2.2.2.2.2.2.2.2.2.1 t.2.2.2.2.2.2.2.2.2.2.2.2.2.2.2.2.2.1 t.2.2.2.2.2.2.2.2.2.2.2.2.2.2.2.2.2.2.1 t.2.2.2.2.2.2.2.2.2.2.2.2.2.2.2.2.2.2.2.1 t.2.2.2.2.2.2.2.2.2.2.2.2.2.2.2.2.2.2.2.2.1 t.2.2.2.2.2.2.2.2.2.2.2.2.2.2.2.2.2.2.2.2.2.1 t.2.2.2.2.2.2.2.2.2.2.2.2.2.2.2.2.2.2.2.2.2.2.1 t.2.2.2.2.2.2.2.2.2.2.2.2.2.2.2.2.2.2.2.2.2.2.2.1 t.2.2.2.2.2.2.2.2.2.2.2.2.2.2.2.2.2.2.2.2.2.2.2.2.1 t.2.2.2.2.2.2.2.2.2.2.2.2.2.2.2.2.2.2.2.2.2.2.2.2.2.1 t.2.2.2.2.2.2.2.2.2.2.2.2.2.2.2.2.2.2.2.2.2.2.2.2.2.2.1 t.2.2.2.2.2.2.2.2.2.2.2.2.2.2.2.2.2.2.2.2.2.2.2.2.2.2.2.1 t.2.2.2.2.2.2.2.2.2.2.2.2.2.2.2.2.2.2.2.2.2.2.2.2.2.2.2.2.1 t.2.2.2.2.2.2.2.2.2.2.2.2.2.2.2.2.2.2.2.2.2.2.2.2.2.2.2.2.2.1 t.2.2.2.2.2.2.2.2.2.2.2.2.2.2.2.2.2.2.2.2.2.2.2.2.2.2.2.2.2.2
def Fj.pat : List AV → Blks → Option (Int × (Int × (LI × (LI × (LI × (LI × (Int × (Int × (Int × (LI × (LI × (Bool × (LI × (LI × (LI × (Int × (Int × (Int × (LI × (LI × (Bool × (LI × (Int × (Int × (LI × (LI × (Int × (Bool × (Bool × (LA × Int))))))))))))))))))))))))))))))
 | [(.agg [(.agg [(.int .u8 a0_0_0), (.int .i64 a0_0_1), (.ints .u8 20 a0_0_2), (.ints .u64 4 a0_0_3), (.ints .u64 4 a0_0_4), (.rints .u8 a0_0_5), (.int .u16 a0_0_6)]), (.rptr (.agg [(.rptr (.agg [.emap, .emap, .emap, .emap, .emap, .emap, (.int .i64 a0_1_0_6), .snil, .snil, .snil, (.int .i64 a0_1_0_10)])), (.agg [(.ints .u8 20 a0_1_1_0), (.ints .u64 4 a0_1_1_1), (.bool a0_1_1_2), (.ints .u8 20 a0_1_1_3), (.rints .u8 a0_1_1_4), (.rints .u8 a0_1_1_5), (.int .u64 a0_1_1_6), (.int .u64 a0_1_1_7), (.int .u64 a0_1_1_8), (.ints .u64 4 a0_1_1_9), (.ints .u64 4 a0_1_1_10), (.bool a0_1_1_11), (.ints .u8 20 a0_1_1_12), (.int .u64 a0_1_1_13), (.int .u64 a0_1_1_14), (.rints .u8 a0_1_1_15), (.rints .u8 a0_1_1_16)]), (.int .u8 a0_1_2), (.bool a0_1_3), (.bool a0_1_4), (.robjs 47 32 a0_1_5)])), (.int .i64 a0_2)])], [] => some (a0_0_0, a0_0_1, a0_0_2, a0_0_3, a0_0_4, a0_0_5, a0_0_6, a0_1_0_6, a0_1_0_10, a0_1_1_0, a0_1_1_1, a0_1_1_2, a0_1_1_3, a0_1_1_4, a0_1_1_5, a0_1_1_6, a0_1_1_7, a0_1_1_8, a0_1_1_9, a0_1_1_10, a0_1_1_11, a0_1_1_12, a0_1_1_13, a0_1_1_14, a0_1_1_15, a0_1_1_16, a0_1_2, a0_1_3, a0_1_4, a0_1_5, a0_2)
 | _, _ => none
def Fj.shape (t : (Int × (Int × (LI × (LI × (LI × (LI × (Int × (Int × (Int × (LI × (LI × (Bool × (LI × (LI × (LI × (Int × (Int × (Int × (LI × (LI × (Bool × (LI × (Int × (Int × (LI × (LI × (Int × (Bool × (Bool × (LA × Int))))))))))))))))))))))))))))))) : List AV × Blks := ([(.agg [(.agg [(.int .u8 t.1), (.int .i64 t.2.1), (.ints .u8 20 t.2.2.1), (.ints .u64 4 t.2.2.2.1), (.ints .u64 4 t.2.2.2.2.1), (.rints .u8 t.2.2.2.2.2.1), (.int .u16 t.2.2.2.2.2.2.1)]), (.rptr (.agg [(.rptr (.agg [.emap, .emap, .emap, .emap, .emap, .emap, (.int .i64 t.2.2.2.2.2.2.2.1), .snil, .snil, .snil, (.int .i64 t.2.2.2.2.2.2.2.2.1)])), (.agg [(.ints .u8 20 t.2.2.2.2.2.2.2.2.2.1), (.ints .u64 4 t.2.2.2.2.2.2.2.2.2.2.1), (.bool t.2.2.2.2.2.2.2.2.2.2.2.1), (.ints .u8 20 t.2.2.2.2.2.2.2.2.2.2.2.2.1), (.rints .u8 t.2.2.2.2.2.2.2.2.2.2.2.2.2.1), (.rints .u8 t.2.2.2.2.2.2.2.2.2.2.2.2.2.2.1), (.int .u64 t.2.2.2.2.2.2.2.2.2.2.2.2.2.2.2.1), (.int .u64 t.2.2.2.2.2.2.2.2.2.2.2.2.2.2.2.2.1), (.int .u64 t.2.2.2.2.2.2.2.2.2.2.2.2.2.2.2.2.2.1), (.ints .u64 4 t.2.2.2.2.2.2.2.2.2.2.2.2.2.2.2.2.2.2.1), (.ints .u64 4 t.2.2.2.2.2.2.2.2.2.2.2.2.2.2.2.2.2.2.2.1), (.bool t.2.2.2.2.2.2.2.2.2.2.2.2.2.2.2.2.2.2.2.2.1), (.ints .u8 20 t.2.2.2.2.2.2.2.2.2.2.2.2.2.2.2.2.2.2.2.2.2.1), (.int .u64 t.2.2.2.2.2.2.2.2.2.2.2.2.2.2.2.2.2.2.2.2.2.2.1), (.int .u64 t.2.2.2.2.2.2.2.2.2.2.2.2.2.2.2.2.2.2.2.2.2.2.2.1), (.rints .u8 t.2.2.2.2.2.2.2.2.2.2.2.2.2.2.2.2.2.2.2.2.2.2.2.2.1), (.rints .u8 t.2.2.2.2.2.2.2.2.2.2.2.2.2.2.2.2.2.2.2.2.2.2.2.2.2.1)]), (.int .u8 t.2.2.2.2.2.2.2.2.2.2.2.2.2.2.2.2.2.2.2.2.2.2.2.2.2.2.1), (.bool t.2.2.2.2.2.2.2.2.2.2.2.2.2.2.2.2.2.2.2.2.2.2.2.2.2.2.2.1), (.bool t.2.2.2.2.2.2.2.2.2.2.2.2.2.2.2.2.2.2.2.2.2.2.2.2.2.2.2.2.1), (.robjs 47 32 t.2.2.2.2.2.2.2.2.2.2.2.2.2.2.2.2.2.2.2.2.2.2.2.2.2.2.2.2.2.1)])), (.int .i64 t.2.2.2.2.2.2.2.2.2.2.2.2.2.2.2.2.2.2.2.2.2.2.2.2.2.2.2.2.2.2)])], [])
def Fj.res : Bool → AV × Blks
 | u => ((.bool u), [])
def Fj.resK {R : Type} (u : Bool) (K : AV → Blks → Option R) : Option R := K (Fj.res u).1 (Fj.res u).2
def Fj.c (n : Nat) : Abs.Callee := .mk' [] [none] Fj.pat (Fj.m n) Fj.resK
end
end
section
noncomputable section
noncomputable def Fw.C (n : Nat) : Ctx := ⟨Tryd.prog, kecG, lookC [], fun _ => false⟩
noncomputable def Fw.A (n : Nat) : Ann := ⟨Tryd.f60.ntmps, 0, noNL, [], [(some (.ints .u8))], fun k => match k with
 | _ => none, noNL, lookJ []⟩
def Fw.g {α : Type} (mk0 : LI → α) (n : Nat) (a0_6 : Int) (a0_10 : Int) (a1 : LI) : Option α :=
 some (mk0 [])
def Fw.m (n : Nat) (t : (Int × (Int × LI))) : Option LI := Fw.g (fun a0 => a0) n t.1 t.2.1 t.2.2
def Fw.pat : List AV → Blks → Option (Int × (Int × LI))
 | [(.rptr (.agg [.emap, .emap, .emap, .emap, .emap, .emap, (.int .i64 a0_6), .snil, .snil, .snil, (.int .i64 a0_10)])), (.ints .u8 20 a1)], [] => some (a0_6, a0_10, a1)
 | _, _ => none
def Fw.shape (t : (Int × (Int × LI))) : List AV × Blks := ([(.rptr (.agg [.emap, .emap, .emap, .emap, .emap, .emap, (.int .i64 t.1), .snil, .snil, .snil, (.int .i64 t.2.1)])), (.ints .u8 20 t.2.2)], [])
def Fw.res : LI → AV × Blks
 | u => ((.own 0 1), [(some (.ints .u8 u))])
def Fw.resK {R : Type} (u : LI) (K : AV → Blks → Option R) : Option R := K (Fw.res u).1 (Fw.res u).2
def Fw.c (n : Nat) : Abs.Callee := .mk' [] [none, none] Fw.pat (Fw.m n) Fw.resK
end
end
section
noncomputable section
noncomputable def Fr.C (n : Nat) : Ctx := ⟨Tryd.prog, kecG, lookC [(55, Fn.c n), (57, Faq.c n), (56, Fal.c n), (58, Fq.c n), (59, Fj.c n), (60, Fw.c n)], fun _ => false⟩
noncomputable def Fr.A (n : Nat) : Ann := ⟨Tryd.f39.ntmps, 0, noNL, [], [none], fun k => match k with
 | _ => none, noNL, lookJ []⟩
def Fr.g {α : Type} (mk0 : Bool → α) (n : Nat) (a0_0_0 : Int) (a0_0_1 : Int) (a0_0_2 : LI) (a0_0_3 : LI) (a0_0_4 : LI) (a0_0_5 : LI) (a0_0_6 : Int) (a0_1_0_6 : Int) (a0_1_0_10 : Int) (a0_1_1_0 : LI) (a0_1_1_1 : LI) (a0_1_1_2 : Bool) (a0_1_1_3 : LI) (a0_1_1_4 : LI) (a0_1_1_5 : LI) (a0_1_1_6 : Int) (a0_1_1_7 : Int) (a0_1_1_8 : Int) (a0_1_1_9 : LI) (a0_1_1_10 : LI) (a0_1_1_11 : Bool) (a0_1_1_12 : LI) (a0_1_1_13 : Int) (a0_1_1_14 : Int) (a0_1_1_15 : LI) (a0_1_1_16 : LI) (a0_1_2 : Int) (a0_1_3 : Bool) (a0_1_4 : Bool) (a0_1_5 : LA) (a0_2 : Int) : Option α :=
 bindO (Fn.m n (a0_0_0, a0_0_1, a0_0_2, a0_0_3, a0_0_4, a0_0_5, a0_0_6, a0_1_0_6, a0_1_0_10, a0_1_1_0, a0_1_1_1, a0_1_1_2, a0_1_1_3, a0_1_1_4, a0_1_1_5, a0_1_1_6, a0_1_1_7, a0_1_1_8, a0_1_1_9, a0_1_1_10, a0_1_1_11, a0_1_1_12, a0_1_1_13, a0_1_1_14, a0_1_1_15, a0_1_1_16, a0_1_2, a0_1_3, a0_1_4, a0_1_5, a0_2)) fun r2 =>
  bindO (Faq.m n r2) fun r4 =>
   bindO (Fal.m n r4) fun r6 =>
    bindO (Fq.m n (a0_0_0, a0_0_1, a0_0_2, a0_0_3, a0_0_4, a0_0_5, a0_0_6, a0_1_0_6, a0_1_0_10, a0_1_1_0, a0_1_1_1, a0_1_1_2, a0_1_1_3, a0_1_1_4, a0_1_1_5, a0_1_1_6, a0_1_1_7, a0_1_1_8, a0_1_1_9, a0_1_1_10, a0_1_1_11, a0_1_1_12, a0_1_1_13, a0_1_1_14, a0_1_1_15, a0_1_1_16, a0_1_2, a0_1_3, a0_1_4, a0_1_5, a0_2)) fun r8 =>
     if r8 = true then
      bindO (Fj.m n (a0_0_0, a0_0_1, a0_0_2, a0_0_3, a0_0_4, a0_0_5, a0_0_6, a0_1_0_6, a0_1_0_10, a0_1_1_0, a0_1_1_1, a0_1_1_2, a0_1_1_3, a0_1_1_4, a0_1_1_5, a0_1_1_6, a0_1_1_7, a0_1_1_8, a0_1_1_9, a0_1_1_10, a0_1_1_11, a0_1_1_12, a0_1_1_13, a0_1_1_14, a0_1_1_15, a0_1_1_16, a0_1_2, a0_1_3, a0_1_4, a0_1_5, a0_2)) fun r12 =>
       if (!r12) = true then
        bindO (Fn.m n (a0_0_0, a0_0_1, a0_0_2, a0_0_3, a0_0_4, a0_0_5, a0_0_6, a0_1_0_6, a0_1_0_10, a0_1_1_0, a0_1_1_1, a0_1_1_2, a0_1_1_3, a0_1_1_4, a0_1_1_5, a0_1_1_6, a0_1_1_7, a0_1_1_8, a0_1_1_9, a0_1_1_10, a0_1_1_11, a0_1_1_12, a0_1_1_13, a0_1_1_14, a0_1_1_15, a0_1_1_16, a0_1_2, a0_1_3, a0_1_4, a0_1_5, a0_2)) fun r16 =>
         bindO (Fw.m n (a0_1_0_6, a0_1_0_10, r16)) fun r18 =>
          if ((((List.length r18) : Nat) : Int) == 0) = true then
           if r6.2 = true then
            if (decide (r6.1 ≥ 1)) = true then
             some (mk0 (!(decide (r6.1 ≤ 9))))
            else
             some (mk0 true)
           else
            some (mk0 true)
          else
           some (mk0 false)
       else
        some (mk0 false)
     else
      some (mk0 false)
def Fr.m (n : Nat) (t : (Int × (Int × (LI × (LI × (LI × (LI × (Int × (Int × (Int × (LI × (LI × (Bool × (LI × (LI × (LI × (Int × (Int × (Int × (LI × (LI × (Bool × (LI × (Int × (Int × (LI × (LI × (Int × (Bool × (Bool × (LA × Int))))))))))))))))))))))))))))))) : Option Bool := Fr.g (fun a0 => a0) n t.1 t.2.1 t.2.2.1 t.2.2.2.1 t.2.2.2.2.1 t.2.2.2.2.2.1 t.2.2.2.2.2.2.1 t.2.2.2.2.2.2.2.1 t.2.2.2.2.2.2.2.2.1 t.2.2.2.2.2.2.2.2.2.1 t.2.2.2.2.2.2.2.2.2.2.1 t.2.2.2.2.2.2.2.2.2.2.2.1 t.2.2.2.2.2.2.2.2.2.2.2.2.1 t.2.2.2.2.2.2.2.2.2.2.2.2.2.1 t.2.2.2.2.2.2.2.2.2.2.2.2.2.2.1 t.2.2.2.2.2.2.2.2.2.2.2.2.2.2.2.1 t.2.2.2.2.2.2.2.2.2.2.2.2.2.2.2.2.1 t.2.2.2.2.2.2.2.2.2.2.2.2.2.2.2.2.2.1 t.2.2.2.2.2.2.2.2.2.2.2.2.2.2.2.2.2.2.1 t.2.2.2.2.2.2.2.2.2.2.2.2.2.2.2.2.2.2.2.1 t.2.2.2.2.2.2.2.2.2.2.2.2.2.2.2.2.2.2.2.2.1 t.2.2.2.2.2.2.2.2.2.2.2.2.2.2.2.2.2.2.2.2.2.1 t.2.2.2.2.2.2.2.2.2.2.2.2.2.2.2.2.2.2.2.2.2.2.1 t.2.2.2.2.2.2.2.2.2.2.2.2.2.2.2.2.2.2.2.2.2.2.2.1 t.2.2.2.2.2.2.2.2.2.2.2.2.2.2.2.2.2.2.2.2.2.2.2.2.1 t.2.2.2.2.2.2.2.2.2.2.2.2.2.2.2.2.2.2.2.2.2.2.2.2.2.1 t.2.2.2.2.2.2.2.2.2.2.2.2.2.2.2.2.2.2.2.2.2.2.2.2.2.2.1 t.2.2.2.2.2.2.2.2.2.2.2.2.2.2.2.2.2.2.2.2.2.2.2.2.2.2.2.1 t.2.2.2.2.2.2.2.2.2.2.2.2.2.2.2.2.2.2.2.2.2.2.2.2.2.2.2.2.1 t.2.2.2.2.2.2.2.2.2.2.2.2.2.2.2.2.2.2.2.2.2.2.2.2.2.2.2.2.2.1 t.2.2.2.2.2.2.2.2.2.2.2.2.2.2.2.2.2.2.2.2.2.2.2.2.2.2.2.2.2.2
def Fr.pat : List AV → Blks → Option (Int × (Int × (LI × (LI × (LI × (LI × (Int × (Int × (Int × (LI × (LI × (Bool × (LI × (LI × (LI × (Int × (Int × (Int × (LI × (LI × (Bool × (LI × (Int × (Int × (LI × (LI × (Int × (Bool × (Bool × (LA × Int))))))))))))))))))))))))))))))
 | [(.agg [(.agg [(.int .u8 a0_0_0), (.int .i64 a0_0_1), (.ints .u8 20 a0_0_2), (.ints .u64 4 a0_0_3), (.ints .u64 4 a0_0_4), (.rints .u8 a0_0_5), (.int .u16 a0_0_6)]), (.rptr (.agg [(.rptr (.agg [.emap, .emap, .emap, .emap, .emap, .emap, (.int .i64 a0_1_0_6), .snil, .snil, .snil, (.int .i64 a0_1_0_10)])), (.agg [(.ints .u8 20 a0_1_1_0), (.ints .u64 4 a0_1_1_1), (.bool a0_1_1_2), (.ints .u8 20 a0_1_1_3), (.rints .u8 a0_1_1_4), (.rints .u8 a0_1_1_5), (.int .u64 a0_1_1_6), (.int .u64 a0_1_1_7), (.int .u64 a0_1_1_8), (.ints .u64 4 a0_1_1_9), (.ints .u64 4 a0_1_1_10), (.bool a0_1_1_11), (.ints .u8 20 a0_1_1_12), (.int .u64 a0_1_1_13), (.int .u64 a0_1_1_14), (.rints .u8 a0_1_1_15), (.rints .u8 a0_1_1_16)]), (.int .u8 a0_1_2), (.bool a0_1_3), (.bool a0_1_4), (.robjs 47 32 a0_1_5)])), (.int .i64 a0_2)])], [] => some (a0_0_0, a0_0_1, a0_0_2, a0_0_3, a0_0_4, a0_0_5, a0_0_6, a0_1_0_6, a0_1_0_10, a0_1_1_0, a0_1_1_1, a0_1_1_2, a0_1_1_3, a0_1_1_4, a0_1_1_5, a0_1_1_6, a0_1_1_7, a0_1_1_8, a0_1_1_9, a0_1_1_10, a0_1_1_11, a0_1_1_12, a0_1_1_13, a0_1_1_14, a0_1_1_15, a0_1_1_16, a0_1_2, a0_1_3, a0_1_4, a0_1_5, a0_2)
 | _, _ => none
def Fr.shape (t : (Int × (Int × (LI × (LI × (LI × (LI × (Int × (Int × (Int × (LI × (LI × (Bool × (LI × (LI × (LI × (Int × (Int × (Int × (LI × (LI × (Bool × (LI × (Int × (Int × (LI × (LI × (Int × (Bool × (Bool × (LA × Int))))))))))))))))))))))))))))))) : List AV × Blks := ([(.agg [(.agg [(.int .u8 t.1), (.int .i64 t.2.1), (.ints .u8 20 t.2.2.1), (.ints .u64 4 t.2.2.2.1), (.ints .u64 4 t.2.2.2.2.1), (.rints .u8 t.2.2.2.2.2.1), (.int .u16 t.2.2.2.2.2.2.1)]), (.rptr (.agg [(.rptr (.agg [.emap, .emap, .emap, .emap, .emap, .emap, (.int .i64 t.2.2.2.2.2.2.2.1), .snil, .snil, .snil, (.int .i64 t.2.2.2.2.2.2.2.2.1)])), (.agg [(.ints .u8 20 t.2.2.2.2.2.2.2.2.2.1), (.ints .u64 4 t.2.2.2.2.2.2.2.2.2.2.1), (.bool t.2.2.2.2.2.2.2.2.2.2.2.1), (.ints .u8 20 t.2.2.2.2.2.2.2.2.2.2.2.2.1), (.rints .u8 t.2.2.2.2.2.2.2.2.2.2.2.2.2.1), (.rints .u8 t.2.2.2.2.2.2.2.2.2.2.2.2.2.2.1), (.int .u64 t.2.2.2.2.2.2.2.2.2.2.2.2.2.2.2.1), (.int .u64 t.2.2.2.2.2.2.2.2.2.2.2.2.2.2.2.2.1), (.int .u64 t.2.2.2.2.2.2.2.2.2.2.2.2.2.2.2.2.2.1), (.ints .u64 4 t.2.2.2.2.2.2.2.2.2.2.2.2.2.2.2.2.2.2.1), (.ints .u64 4 t.2.2.2.2.2.2.2.2.2.2.2.2.2.2.2.2.2.2.2.1), (.bool t.2.2.2.2.2.2.2.2.2.2.2.2.2.2.2.2.2.2.2.2.1), (.ints .u8 20 t.2.2.2.2.2.2.2.2.2.2.2.2.2.2.2.2.2.2.2.2.2.1), (.int .u64 t.2.2.2.2.2.2.2.2.2.2.2.2.2.2.2.2.2.2.2.2.2.2.1), (.int .u64 t.2.2.2.2.2.2.2.2.2.2.2.2.2.2.2.2.2.2.2.2.2.2.2.1), (.rints .u8 t.2.2.2.2.2.2.2.2.2.2.2.2.2.2.2.2.2.2.2.2.2.2.2.2.1), (.rints .u8 t.2.2.2.2.2.2.2.2.2.2.2.2.2.2.2.2.2.2.2.2.2.2.2.2.2.1)]), (.int .u8 t.2.2.2.2.2.2.2.2.2.2.2.2.2.2.2.2.2.2.2.2.2.2.2.2.2.2.1), (.bool t.2.2.2.2.2.2.2.2.2.2.2.2.2.2.2.2.2.2.2.2.2.2.2.2.2.2.2.1), (.bool t.2.2.2.2.2.2.2.2.2.2.2.2.2.2.2.2.2.2.2.2.2.2.2.2.2.2.2.2.1), (.robjs 47 32 t.2.2.2.2.2.2.2.2.2.2.2.2.2.2.2.2.2.2.2.2.2.2.2.2.2.2.2.2.2.1)])), (.int .i64 t.2.2.2.2.2.2.2.2.2.2.2.2.2.2.2.2.2.2.2.2.2.2.2.2.2.2.2.2.2.2)])], [])
def Fr.res : Bool → AV × Blks
 | u => ((.bool u), [])
def Fr.resK {R : Type} (u : Bool) (K : AV → Blks → Option R) : Option R := K (Fr.res u).1 (Fr.res u).2
def Fr.c (n : Nat) : Abs.Callee := .mk' [] [none] Fr.pat (Fr.m n) Fr.resK
end
end
section
noncomputable section
noncomputable def Fx.C (n : Nat) : Ctx := ⟨Tryd.prog, kecG, lookC [(59, Fj.c n)], fun _ => false⟩
noncomputable def Fx.A (n : Nat) : Ann := ⟨Tryd.f40.ntmps, 0, noNL, [], [none], fun k => match k with
 | _ => none, noNL, lookJ []⟩
def Fx.g {α : Type} (mk0 : Bool → α) (n : Nat) (a0_0_0 : Int) (a0_0_1 : Int) (a0_0_2 : LI) (a0_0_3 : LI) (a0_0_4 : LI) (a0_0_5 : LI) (a0_0_6 : Int) (a0_1_0_6 : Int) (a0_1_0_10 : Int) (a0_1_1_0 : LI) (a0_1_1_1 : LI) (a0_1_1_2 : Bool) (a0_1_1_3 : LI) (a0_1_1_4 : LI) (a0_1_1_5 : LI) (a0_1_1_6 : Int) (a0_1_1_7 : Int) (a0_1_1_8 : Int) (a0_1_1_9 : LI) (a0_1_1_10 : LI) (a0_1_1_11 : Bool) (a0_1_1_12 : LI) (a0_1_1_13 : Int) (a0_1_1_14 : Int) (a0_1_1_15 : LI) (a0_1_1_16 : LI) (a0_1_2 : Int) (a0_1_3 : Bool) (a0_1_4 : Bool) (a0_1_5 : LA) (a0_2 : Int) : Option α :=
 if (a0_0_0 == 241) = true then
  if (!(a0_0_4 == [0, 0, 0, 0])) = true then
   bindO (Fj.m n (a0_0_0, a0_0_1, a0_0_2, a0_0_3, a0_0_4, a0_0_5, a0_0_6, a0_1_0_6, a0_1_0_10, a0_1_1_0, a0_1_1_1, a0_1_1_2, a0_1_1_3, a0_1_1_4, a0_1_1_5, a0_1_1_6, a0_1_1_7, a0_1_1_8, a0_1_1_9, a0_1_1_10, a0_1_1_11, a0_1_1_12, a0_1_1_13, a0_1_1_14, a0_1_1_15, a0_1_1_16, a0_1_2, a0_1_3, a0_1_4, a0_1_5, a0_2)) fun r6 =>
    some (mk0 (!r6))
  else
   some (mk0 false)
 else
  if (a0_0_0 == 242) = true then
   if (!(a0_0_4 == [0, 0, 0, 0])) = true then
    bindO (Fj.m n (a0_0_0, a0_0_1, a0_0_2, a0_0_3, a0_0_4, a0_0_5, a0_0_6, a0_1_0_6, a0_1_0_10, a0_1_1_0, a0_1_1_1, a0_1_1_2, a0_1_1_3, a0_1_1_4, a0_1_1_5, a0_1_1_6, a0_1_1_7, a0_1_1_8, a0_1_1_9, a0_1_1_10, a0_1_1_11, a0_1_1_12, a0_1_1_13, a0_1_1_14, a0_1_1_15, a0_1_1_16, a0_1_2, a0_1_3, a0_1_4, a0_1_5, a0_2)) fun r8 =>
     some (mk0 (!r8))
   else
    some (mk0 false)
  else
   some (mk0 false)
def Fx.m (n : Nat) (t : (Int × (Int × (LI × (LI × (LI × (LI × (Int × (Int × (Int × (LI × (LI × (Bool × (LI × (LI × (LI × (Int × (Int × (Int × (LI × (LI × (Bool × (LI × (Int × (Int × (LI × (LI × (Int × (Bool × (Bool × (LA × Int))))))))))))))))))))))))))))))) : Option Bool := Fx.g (fun a0 => a0) n t.1 t.2.1 t.2.2.1 t.2.2.2.1 t.2.2.2.2.1 t.2.2.2.2.2.1 t.2.2.2.2.2.2.1 t.2.2.2.2.2.2.2.1 t.2.2.2.2.2.2.2.2.1 t.2.2.2.2.2.2.2.2.2.1 t.2.2.2.2.2.2.2.2.2.2.1 t.2.2.2.2.2.2.2.2.2.2.2.1 t.2.2.2.2.2.2.2.2.2.2.2.2.1 t.2.2.2.2.2.2.2.2.2.2.2.2.2.1 t.2.2.2.2.2.2.2.2.2.2.2.2.2.2.1 t.2.2.2.2.2.2.2.2.2.2.2.2.2.2.2.1 t.2.2.2.2.2.2.2.2.2.2.2.2.2.2.2.2.1 t.2.2.2.2.2.2.2.2.2.2.2.2.2.2.2.2.2.1 t.2.2.2.2.2.2.2.2.2.2.2.2.2.2.2.2.2.2.1 t.2.2.2.2.2.2.2.2.2.2.2.2.2.2.2.2.2.2.2.1 t.2.2.2.2.2.2.2.2.2.2.2.2.2.2.2.2.2.2.2.2.1 t.2.2.2.2.2.2.2.2.2.2.2.2.2.2.2.2.2.2.2.2.2.1 t.2.2.2.2.2.2.2.2.2.2.2.2.2.2.2.2.2.2.2.2.2.2.1 t.2.2.2.2.2.2.2.2.2.2.2.2.2.2.2.2.2.2.2.2.2.2.2.1 t.2.2.2.2.2.2.2.2.2.2.2.2.2.2.2.2.2.2.2.2.2.2.2.2.1 t.2.2.2.2.2.2.2.2.2.2.2.2.2.2.2.2.2.2.2.2.2.2.2.2.2.1 t.2.2.2.2.2.2.2.2.2.2.2.2.2.2.2.2.2.2.2.2.2.2.2.2.2.2.1 t.2.2.2.2.2.2.2.2.2.2.2.2.2.2.2.2.2.2.2.2.2.2.2.2.2.2.2.1 t.2.2.2.2.2.2.2.2.2.2.2.2.2.2.2.2.2.2.2.2.2.2.2.2.2.2.2.2.1 t.2.2.2.2.2.2.2.2.2.2.2.2.2.2.2.2.2.2.2.2.2.2.2.2.2.2.2.2.2.1 t.2.2.2.2.2.2.2.2.2.2.2.2.2.2.2.2.2.2.2.2.2.2.2.2.2.2.2.2.2.2
def Fx.pat : List AV → Blks → Option (Int × (Int × (LI × (LI × (LI × (LI × (Int × (Int × (Int × (LI × (LI × (Bool × (LI × (LI × (LI × (Int × (Int × (Int × (LI × (LI × (Bool × (LI × (Int × (Int × (LI × (LI × (Int × (Bool × (Bool × (LA × Int))))))))))))))))))))))))))))))
 | [(.agg [(.agg [(.int .u8 a0_0_0), (.int .i64 a0_0_1), (.ints .u8 20 a0_0_2), (.ints .u64 4 a0_0_3), (.ints .u64 4 a0_0_4), (.rints .u8 a0_0_5), (.int .u16 a0_0_6)]), (.rptr (.agg [(.rptr (.agg [.emap, .emap, .emap, .emap, .emap, .emap, (.int .i64 a0_1_0_6), .snil, .snil, .snil, (.int .i64 a0_1_0_10)])), (.agg [(.ints .u8 20 a0_1_1_0), (.ints .u64 4 a0_1_1_1), (.bool a0_1_1_2), (.ints .u8 20 a0_1_1_3), (.rints .u8 a0_1_1_4), (.rints .u8 a0_1_1_5), (.int .u64 a0_1_1_6), (.int .u64 a0_1_1_7), (.int .u64 a0_1_1_8), (.ints .u64 4 a0_1_1_9), (.ints .u64 4 a0_1_1_10), (.bool a0_1_1_11), (.ints .u8 20 a0_1_1_12), (.int .u64 a0_1_1_13), (.int .u64 a0_1_1_14), (.rints .u8 a0_1_1_15), (.rints .u8 a0_1_1_16)]), (.int .u8 a0_1_2), (.bool a0_1_3), (.bool a0_1_4), (.robjs 47 32 a0_1_5)])), (.int .i64 a0_2)])], [] => some (a0_0_0, a0_0_1, a0_0_2, a0_0_3, a0_0_4, a0_0_5, a0_0_6, a0_1_0_6, a0_1_0_10, a0_1_1_0, a0_1_1_1, a0_1_1_2, a0_1_1_3, a0_1_1_4, a0_1_1_5, a0_1_1_6, a0_1_1_7, a0_1_1_8, a0_1_1_9, a0_1_1_10, a0_1_1_11, a0_1_1_12, a0_1_1_13, a0_1_1_14, a0_1_1_15, a0_1_1_16, a0_1_2, a0_1_3, a0_1_4, a0_1_5, a0_2)
 | _, _ => none
def Fx.shape (t : (Int × (Int × (LI × (LI × (LI × (LI × (Int × (Int × (Int × (LI × (LI × (Bool × (LI × (LI × (LI × (Int × (Int × (Int × (LI × (LI × (Bool × (LI × (Int × (Int × (LI × (LI × (Int × (Bool × (Bool × (LA × Int))))))))))))))))))))))))))))))) : List AV × Blks := ([(.agg [(.agg [(.int .u8 t.1), (.int .i64 t.2.1), (.ints .u8 20 t.2.2.1), (.ints .u64 4 t.2.2.2.1), (.ints .u64 4 t.2.2.2.2.1), (.rints .u8 t.2.2.2.2.2.1), (.int .u16 t.2.2.2.2.2.2.1)]), (.rptr (.agg [(.rptr (.agg [.emap, .emap, .emap, .emap, .emap, .emap, (.int .i64 t.2.2.2.2.2.2.2.1), .snil, .snil, .snil, (.int .i64 t.2.2.2.2.2.2.2.2.1)])), (.agg [(.ints .u8 20 t.2.2.2.2.2.2.2.2.2.1), (.ints .u64 4 t.2.2.2.2.2.2.2.2.2.2.1), (.bool t.2.2.2.2.2.2.2.2.2.2.2.1), (.ints .u8 20 t.2.2.2.2.2.2.2.2.2.2.2.2.1), (.rints .u8 t.2.2.2.2.2.2.2.2.2.2.2.2.2.1), (.rints .u8 t.2.2.2.2.2.2.2.2.2.2.2.2.2.2.1), (.int .u64 t.2.2.2.2.2.2.2.2.2.2.2.2.2.2.2.1), (.int .u64 t.2.2.2.2.2.2.2.2.2.2.2.2.2.2.2.2.1), (.int .u64 t.2.2.2.2.2.2.2.2.2.2.2.2.2.2.2.2.2.1), (.ints .u64 4 t.2.2.2.2.2.2.2.2.2.2.2.2.2.2.2.2.2.2.1), (.ints .u64 4 t.2.2.2.2.2.2.2.2.2.2.2.2.2.2.2.2.2.2.2.1), (.bool t.2.2.2.2.2.2.2.2.2.2.2.2.2.2.2.2.2.2.2.2.1), (.ints .u8 20 t.2.2.2.2.2.2.2.2.2.2.2.2.2.2.2.2.2.2.2.2.2.1), (.int .u64 t.2.2.2.2.2.2.2.2.2.2.2.2.2.2.2.2.2.2.2.2.2.2.1), (.int .u64 t.2.2.2.2.2.2.2.2.2.2.2.2.2.2.2.2.2.2.2.2.2.2.2.1), (.rints .u8 t.2.2.2.2.2.2.2.2.2.2.2.2.2.2.2.2.2.2.2.2.2.2.2.2.1), (.rints .u8 t.2.2.2.2.2.2.2.2.2.2.2.2.2.2.2.2.2.2.2.2.2.2.2.2.2.1)]), (.int .u8 t.2.2.2.2.2.2.2.2.2.2.2.2.2.2.2.2.2.2.2.2.2.2.2.2.2.2.1), (.bool t.2.2.2.2.2.2.2.2.2.2.2.2.2.2.2.2.2.2.2.2.2.2.2.2.2.2.2.1), (.bool t.2.2.2.2.2.2.2.2.2.2.2.2.2.2.2.2.2.2.2.2.2.2.2.2.2.2.2.2.1), (.robjs 47 32 t.2.2.2.2.2.2.2.2.2.2.2.2.2.2.2.2.2.2.2.2.2.2.2.2.2.2.2.2.2.1)])), (.int .i64 t.2.2.2.2.2.2.2.2.2.2.2.2.2.2.2.2.2.2.2.2.2.2.2.2.2.2.2.2.2.2)])], [])
def Fx.res : Bool → AV × Blks
 | u => ((.bool u), [])
def Fx.resK {R : Type} (u : Bool) (K : AV → Blks → Option R) : Option R := K (Fx.res u).1 (Fx.res u).2
def Fx.c (n : Nat) : Abs.Callee := .mk' [] [none] Fx.pat (Fx.m n) Fx.resK
end
end
section
noncomputable section
noncomputable def Fs.C (n : Nat) : Ctx := ⟨Tryd.prog, kecG, lookC [], fun _ => false⟩
noncomputable def Fs.A (n : Nat) : Ann := ⟨Tryd.f94.ntmps, 0, noNL, [], [none], fun k => match k with
 | _ => none, noNL, lookJ []⟩
def Fs.g {α : Type} (mk0 : Int → α) (n : Nat) (a0 : Int) (a1 : Int) : Option α :=
 if 0 ≤ (IntKind.wrap .u64 (64 - (ibits BinOp.and .u64 (IntKind.wrap .u64 a1) 63))) then
  some (mk0 (ibits BinOp.or .u64 (ishl .u64 a0 (ibits BinOp.and .u64 (IntKind.wrap .u64 a1) 63)) (ishr .u64 a0 (IntKind.wrap .u64 (64 - (ibits BinOp.and .u64 (IntKind.wrap .u64 a1) 63))))))
 else
  none
def Fs.m (n : Nat) (t : (Int × Int)) : Option Int := Fs.g (fun a0 => a0) n t.1 t.2
def Fs.pat : List AV → Blks → Option (Int × Int)
 | [(.int .u64 a0), (.int .i64 a1)], [] => some (a0, a1)
 | _, _ => none
def Fs.shape (t : (Int × Int)) : List AV × Blks := ([(.int .u64 t.1), (.int .i64 t.2)], [])
def Fs.res : Int → AV × Blks
 | u => ((.int .u64 u), [])
def Fs.resK {R : Type} (u : Int) (K : AV → Blks → Option R) : Option R := K (Fs.res u).1 (Fs.res u).2
def Fs.c (n : Nat) : Abs.Callee := .mk' [] [none, none] Fs.pat (Fs.m n) Fs.resK
end
end
section
noncomputable section
noncomputable def Fg.C (n : Nat) : Ctx := ⟨Tryd.prog, kecG, lookC [(94, Fs.c n)], fun _ => false⟩
def Fg.live : NL := fun k => match k with
 | 2 => ([7, 6, 2, 0], [0, 2])
 | 7 => ([21, 0, 2], [])
 | _ => ([], [])
def Fg.l2_0.r {α : Type} (mk0 : LI → LI → α) (n : Nat) (rc : Int → LI → LI → Option α)  (x0 : Int) (x1 : LI) (x2 : LI) : Option α :=
  if (decide (x0 < 25)) = true then
   if 0 ≤ x0 then
    if x0 < 25 then
     if 0 ≤ (Int.tmod x0 5) then
      if (Int.tmod x0 5) < 5 then
       if 0 ≤ (Int.tmod x0 5) then
        if (Int.tmod x0 5) < 5 then
         rc (IntKind.wrap .i64 (x0 + 1)) x1 (List.set x2 (Int.toNat (Int.tmod x0 5)) (ibits BinOp.xor .u64 (List.getD x2 (Int.toNat (Int.tmod x0 5)) 0) (List.getD x1 (Int.toNat x0) 0)))
        else
         none
       else
        none
      else
       none
     else
      none
    else
     none
   else
    none
  else
   some (mk0 x1 x2)
def Fg.l2_0.g {α : Type} (mk0 : LI → LI → α) (n : Nat) : Nat → Int → LI → LI → Option α
 | 0, _, _, _ => none
 | m + 1, x0, x1, x2 => Fg.l2_0.r mk0 n (fun y0 y1 y2 => Fg.l2_0.g mk0 n m y0 y1 y2)  x0 x1 x2
def Fg.l2_0.m (n m : Nat) (t : (Int × (LI × LI))) : Option (LI × LI) := Fg.l2_0.g (fun a0 a1 => (a0, a1)) n m t.1 t.2.1 t.2.2
def Fg.l2_0.pat : St → Option (Int × (LI × LI))
 | (St.mk [(.int .i64 x0), (.ptr 0 []), (.ptr 1 []), (.ptr 0 [])] [(some (.var (.ints .u64 25 x1))), (some (.var (.ints .u64 5 x2)))]) => some (x0, x1, x2)
 | _ => none
def Fg.l2_0.shape (t : (Int × (LI × LI))) : St := (St.mk [(.int .i64 t.1), (.ptr 0 []), (.ptr 1 []), (.ptr 0 [])] [(some (.var (.ints .u64 25 t.2.1))), (some (.var (.ints .u64 5 t.2.2)))])
def Fg.l2_0.res : (LI × LI) → Ex × St
 | u => ((.exit 0), (St.mk [(.ptr 0 []), (.ptr 1 [])] [(some (.var (.ints .u64 25 u.1))), (some (.var (.ints .u64 5 u.2)))]))
def Fg.l2_0.resK {R : Type} (u : (LI × LI)) (K : Ex → St → Option R) : Option R := K (Fg.l2_0.res u).1 (Fg.l2_0.res u).2
def Fg.l7_0.r {α : Type} (mk0 : LI → α) (n : Nat) (rc : Int → LI → LI → Option α)  (x0 : Int) (x1 : LI) (x2 : LI) : Option α :=
  if (decide (x0 < 25)) = true then
   if 0 ≤ x0 then
    if x0 < 25 then
     if 0 ≤ (Int.tmod (IntKind.wrap .i64 (x0 + 4)) 5) then
      if (Int.tmod (IntKind.wrap .i64 (x0 + 4)) 5) < 5 then
       if 0 ≤ (Int.tmod (IntKind.wrap .i64 (x0 + 1)) 5) then
        if (Int.tmod (IntKind.wrap .i64 (x0 + 1)) 5) < 5 then
         bindO (Fs.m n ((List.getD x2 (Int.toNat (Int.tmod (IntKind.wrap .i64 (x0 + 1)) 5)) 0), 1)) fun r18 =>
          if 0 ≤ x0 then
           if x0 < 25 then
            rc (IntKind.wrap .i64 (x0 + 1)) (List.set x1 (Int.toNat x0) (ibits BinOp.xor .u64 (List.getD x1 (Int.toNat x0) 0) (ibits BinOp.xor .u64 (List.getD x2 (Int.toNat (Int.tmod (IntKind.wrap .i64 (x0 + 4)) 5)) 0) r18))) x2
           else
            none
          else
           none
        else
         none
       else
        none
      else
       none
     else
      none
    else
     none
   else
    none
  else
   some (mk0 x1)
def Fg.l7_0.g {α : Type} (mk0 : LI → α) (n : Nat) : Nat → Int → LI → LI → Option α
 | 0, _, _, _ => none
 | m + 1, x0, x1, x2 => Fg.l7_0.r mk0 n (fun y0 y1 y2 => Fg.l7_0.g mk0 n m y0 y1 y2)  x0 x1 x2
def Fg.l7_0.m (n m : Nat) (t : (Int × (LI × LI))) : Option LI := Fg.l7_0.g (fun a0 => a0) n m t.1 t.2.1 t.2.2
def Fg.l7_0.pat : St → Option (Int × (LI × LI))
 | (St.mk [(.int .i64 x0), (.ptr 0 []), (.ptr 1 [])] [(some (.var (.ints .u64 25 x1))), (some (.var (.ints .u64 5 x2)))]) => some (x0, x1, x2)
 | _ => none
def Fg.l7_0.shape (t : (Int × (LI × LI))) : St := (St.mk [(.int .i64 t.1), (.ptr 0 []), (.ptr 1 [])] [(some (.var (.ints .u64 25 t.2.1))), (some (.var (.ints .u64 5 t.2.2)))])
def Fg.l7_0.res : LI → Ex × St
 | u => ((.exit 2), (St.mk [] [(some (.var (.ints .u64 25 u)))]))
def Fg.l7_0.resK {R : Type} (u : LI) (K : Ex → St → Option R) : Option R := K (Fg.l7_0.res u).1 (Fg.l7_0.res u).2
noncomputable def Fg.A (n : Nat) : Ann := ⟨Tryd.f91.ntmps, 1, Fg.live, [], [], fun k => match k with
 | 2 => some (.mk' Fg.l2_0.pat (Fg.l2_0.m n n) Fg.l2_0.resK)
 | 7 => some (.mk' Fg.l7_0.pat (Fg.l7_0.m n n) Fg.l7_0.resK)
 | _ => none, noNL, lookJ []⟩
noncomputable def Fg.b0 : Code := (loopsIn (Tryd.f91.body.getD .skip)).getD 0 .skip
noncomputable def Fg.b1 : Code := (loopsIn (Tryd.f91.body.getD .skip)).getD 1 .skip
def Fg.g {α : Type} (mk0 : LI → α) (n : Nat) (s : LI) : Option α :=
 bindO (Fg.l2_0.m n n (0, s, [0, 0, 0, 0, 0])) fun r2 =>
  bindO (Fg.l7_0.m n n (0, r2.1, r2.2)) fun r4 =>
   some (mk0 r4)
def Fg.m (n : Nat) (t : LI) : Option LI := Fg.g (fun a0 => a0) n t
def Fg.pat : List AV → Blks → Option LI
 | [(.ptr 0 [])], [(some (.var (.ints .u64 25 s)))] => some s
 | _, _ => none
def Fg.shape (t : LI) : List AV × Blks := ([(.ptr 0 [])], [(some (.var (.ints .u64 25 t)))])
def Fg.res : LI → AV × Blks
 | u => ((.tup []), [(some (.var (.ints .u64 25 u)))])
def Fg.resK {R : Type} (u : LI) (K : AV → Blks → Option R) : Option R := K (Fg.res u).1 (Fg.res u).2
def Fg.c (n : Nat) : Abs.Callee := .mk' [true] [none] Fg.pat (Fg.m n) Fg.resK
end
end
section
noncomputable section
noncomputable def Ft.C (n : Nat) : Ctx := ⟨Tryd.prog, kecG, lookC [(94, Fs.c n)], fun _ => false⟩
def Ft.live : NL := fun k => match k with
 | 2 => ([9, 0, 2], [])
 | _ => ([], [])
def Ft.l2_0.r {α : Type} (mk0 : LI → α) (n : Nat) (rc : Int → Int → LI → Option α)  (x0 : Int) (x1 : Int) (x2 : LI) : Option α :=
  if (decide (x0 < 24)) = true then
   if 0 ≤ x0 then
    if x0 < 24 then
     if 0 ≤ (List.getD ([10, 7, 11, 17, 18, 3, 5, 16, 8, 21, 24, 4, 15, 23, 19, 13, 12, 2, 20, 14, 22, 9, 6, 1] : List Int) (Int.toNat x0) 0) then
      if (List.getD ([10, 7, 11, 17, 18, 3, 5, 16, 8, 21, 24, 4, 15, 23, 19, 13, 12, 2, 20, 14, 22, 9, 6, 1] : List Int) (Int.toNat x0) 0) < 25 then
       if 0 ≤ x0 then
        if x0 < 24 then
         if 0 ≤ x0 then
          if x0 < 24 then
           bindO (Fs.m n (x1, (List.getD ([1, 3, 6, 10, 15, 21, 28, 36, 45, 55, 2, 14, 27, 41, 56, 8, 25, 43, 62, 18, 39, 61, 20, 44] : List Int) (Int.toNat x0) 0))) fun r22 =>
            if 0 ≤ (List.getD ([10, 7, 11, 17, 18, 3, 5, 16, 8, 21, 24, 4, 15, 23, 19, 13, 12, 2, 20, 14, 22, 9, 6, 1] : List Int) (Int.toNat x0) 0) then
             if (List.getD ([10, 7, 11, 17, 18, 3, 5, 16, 8, 21, 24, 4, 15, 23, 19, 13, 12, 2, 20, 14, 22, 9, 6, 1] : List Int) (Int.toNat x0) 0) < 25 then
              rc (IntKind.wrap .i64 (x0 + 1)) (List.getD x2 (Int.toNat (List.getD ([10, 7, 11, 17, 18, 3, 5, 16, 8, 21, 24, 4, 15, 23, 19, 13, 12, 2, 20, 14, 22, 9, 6, 1] : List Int) (Int.toNat x0) 0)) 0) (List.set x2 (Int.toNat (List.getD ([10, 7, 11, 17, 18, 3, 5, 16, 8, 21, 24, 4, 15, 23, 19, 13, 12, 2, 20, 14, 22, 9, 6, 1] : List Int) (Int.toNat x0) 0)) r22)
             else
              none
            else
             none
          else
           none
         else
          none
        else
         none
       else
        none
      else
       none
     else
      none
    else
     none
   else
    none
  else
   some (mk0 x2)
def Ft.l2_0.g {α : Type} (mk0 : LI → α) (n : Nat) : Nat → Int → Int → LI → Option α
 | 0, _, _, _ => none
 | m + 1, x0, x1, x2 => Ft.l2_0.r mk0 n (fun y0 y1 y2 => Ft.l2_0.g mk0 n m y0 y1 y2)  x0 x1 x2
def Ft.l2_0.m (n m : Nat) (t : (Int × (Int × LI))) : Option LI := Ft.l2_0.g (fun a0 => a0) n m t.1 t.2.1 t.2.2
def Ft.l2_0.pat : St → Option (Int × (Int × LI))
 | (St.mk [(.int .i64 x0), (.ptr 0 []), (.int .u64 x1)] [(some (.var (.ints .u64 25 x2)))]) => some (x0, x1, x2)
 | _ => none
def Ft.l2_0.shape (t : (Int × (Int × LI))) : St := (St.mk [(.int .i64 t.1), (.ptr 0 []), (.int .u64 t.2.1)] [(some (.var (.ints .u64 25 t.2.2)))])
def Ft.l2_0.res : LI → Ex × St
 | u => ((.exit 0), (St.mk [] [(some (.var (.ints .u64 25 u)))]))
def Ft.l2_0.resK {R : Type} (u : LI) (K : Ex → St → Option R) : Option R := K (Ft.l2_0.res u).1 (Ft.l2_0.res u).2
noncomputable def Ft.A (n : Nat) : Ann := ⟨Tryd.f92.ntmps, 1, Ft.live, [], [], fun k => match k with
 | 2 => some (.mk' Ft.l2_0.pat (Ft.l2_0.m n n) Ft.l2_0.resK)
 | _ => none, noNL, lookJ []⟩
noncomputable def Ft.b0 : Code := (loopsIn (Tryd.f92.body.getD .skip)).getD 0 .skip
def Ft.g {α : Type} (mk0 : LI → α) (n : Nat) (s : LI) : Option α :=
 bindO (Ft.l2_0.m n n (0, (List.getD s 1 0), s)) fun r2 =>
  some (mk0 r2)
def Ft.m (n : Nat) (t : LI) : Option LI := Ft.g (fun a0 => a0) n t
def Ft.pat : List AV → Blks → Option LI
 | [(.ptr 0 [])], [(some (.var (.ints .u64 25 s)))] => some s
 | _, _ => none
def Ft.shape (t : LI) : List AV × Blks := ([(.ptr 0 [])], [(some (.var (.ints .u64 25 t)))])
def Ft.res : LI → AV × Blks
 | u => ((.tup []), [(some (.var (.ints .u64 25 u)))])
def Ft.resK {R : Type} (u : LI) (K : AV → Blks → Option R) : Option R := K (Ft.res u).1 (Ft.res u).2
def Ft.c (n : Nat) : Abs.Callee := .mk' [true] [none] Ft.pat (Ft.m n) Ft.resK
end
end
section
noncomputable section
noncomputable def Fy.C (n : Nat) : Ctx := ⟨Tryd.prog, kecG, lookC [], fun _ => false⟩
def Fy.live : NL := fun k => match k with
 | 1 => ([2, 0], [])
 | 5 => ([17, 0, 2, 3], [2, 0])
 | _ => ([], [])
def Fy.l5_0.r {α : Type} (mk0 : Int → LI → α) (n : Nat) (rc : Int → Int → LI → LI → Option α)  (x0 : Int) (x1 : Int) (x2 : LI) (x3 : LI) : Option α :=
  if (decide (x0 < 5)) = true then
   if 0 ≤ x0 then
    if x0 < 5 then
     if 0 ≤ (Int.tmod (IntKind.wrap .i64 (x0 + 1)) 5) then
      if (Int.tmod (IntKind.wrap .i64 (x0 + 1)) 5) < 5 then
       if 0 ≤ (Int.tmod (IntKind.wrap .i64 (x0 + 2)) 5) then
        if (Int.tmod (IntKind.wrap .i64 (x0 + 2)) 5) < 5 then
         if 0 ≤ (IntKind.wrap .i64 (x1 + x0)) then
          if (IntKind.wrap .i64 (x1 + x0)) < 25 then
           rc (IntKind.wrap .i64 (x0 + 1)) x1 (List.set x2 (Int.toNat (IntKind.wrap .i64 (x1 + x0))) (ibits BinOp.xor .u64 (List.getD x3 (Int.toNat x0) 0) (ibits BinOp.and .u64 (ibits BinOp.xor .u64 (if false = true then (-1) else 18446744073709551615) (List.getD x3 (Int.toNat (Int.tmod (IntKind.wrap .i64 (x0 + 1)) 5)) 0)) (List.getD x3 (Int.toNat (Int.tmod (IntKind.wrap .i64 (x0 + 2)) 5)) 0)))) x3
          else
           none
         else
          none
        else
         none
       else
        none
      else
       none
     else
      none
    else
     none
   else
    none
  else
   some (mk0 x1 x2)
def Fy.l5_0.g {α : Type} (mk0 : Int → LI → α) (n : Nat) : Nat → Int → Int → LI → LI → Option α
 | 0, _, _, _, _ => none
 | m + 1, x0, x1, x2, x3 => Fy.l5_0.r mk0 n (fun y0 y1 y2 y3 => Fy.l5_0.g mk0 n m y0 y1 y2 y3)  x0 x1 x2 x3
def Fy.l5_0.m (n m : Nat) (t : (Int × (Int × (LI × LI)))) : Option (Int × LI) := Fy.l5_0.g (fun a0 a1 => (a0, a1)) n m t.1 t.2.1 t.2.2.1 t.2.2.2
def Fy.l5_0.pat : St → Option (Int × (Int × (LI × LI)))
 | (St.mk [(.int .i64 x0), (.ptr 0 []), (.int .i64 x1), (.ptr 1 [])] [(some (.var (.ints .u64 25 x2))), (some (.var (.ints .u64 5 x3)))]) => some (x0, x1, x2, x3)
 | _ => none
def Fy.l5_0.shape (t : (Int × (Int × (LI × LI)))) : St := (St.mk [(.int .i64 t.1), (.ptr 0 []), (.int .i64 t.2.1), (.ptr 1 [])] [(some (.var (.ints .u64 25 t.2.2.1))), (some (.var (.ints .u64 5 t.2.2.2)))])
def Fy.l5_0.res : (Int × LI) → Ex × St
 | u => ((.exit 2), (St.mk [(.int .i64 u.1), (.ptr 0 [])] [(some (.var (.ints .u64 25 u.2)))]))
def Fy.l5_0.resK {R : Type} (u : (Int × LI)) (K : Ex → St → Option R) : Option R := K (Fy.l5_0.res u).1 (Fy.l5_0.res u).2
def Fy.l1_0.r {α : Type} (mk0 : LI → α) (n : Nat) (rc : Int → LI → Option α)  (x0 : Int) (x1 : LI) : Option α :=
  if (decide (x0 < 25)) = true then
   if 0 ≤ (IntKind.wrap .i64 (x0 + 5)) then
    if (IntKind.wrap .i64 (x0 + 5)) ≤ 25 then
     if 0 ≤ x0 then
      if x0 ≤ (IntKind.wrap .i64 (x0 + 5)) then
       if 5 ≤ (Go.Abs.span 25 (Int.toNat x0) (Option.some (Int.toNat (IntKind.wrap .i64 (x0 + 5))))) then
        bindO (Fy.l5_0.m n n (0, x0, x1, (List.take 5 (List.drop (Int.toNat x0) x1)))) fun r16 =>
         rc (IntKind.wrap .i64 (r16.1 + 5)) r16.2
       else
        none
      else
       none
     else
      none
    else
     none
   else
    none
  else
   some (mk0 x1)
def Fy.l1_0.g {α : Type} (mk0 : LI → α) (n : Nat) : Nat → Int → LI → Option α
 | 0, _, _ => none
 | m + 1, x0, x1 => Fy.l1_0.r mk0 n (fun y0 y1 => Fy.l1_0.g mk0 n m y0 y1)  x0 x1
def Fy.l1_0.m (n m : Nat) (t : (Int × LI)) : Option LI := Fy.l1_0.g (fun a0 => a0) n m t.1 t.2
def Fy.l1_0.pat : St → Option (Int × LI)
 | (St.mk [(.int .i64 x0), (.ptr 0 [])] [(some (.var (.ints .u64 25 x1)))]) => some (x0, x1)
 | _ => none
def Fy.l1_0.shape (t : (Int × LI)) : St := (St.mk [(.int .i64 t.1), (.ptr 0 [])] [(some (.var (.ints .u64 25 t.2)))])
def Fy.l1_0.res : LI → Ex × St
 | u => ((.exit 0), (St.mk [] [(some (.var (.ints .u64 25 u)))]))
def Fy.l1_0.resK {R : Type} (u : LI) (K : Ex → St → Option R) : Option R := K (Fy.l1_0.res u).1 (Fy.l1_0.res u).2
noncomputable def Fy.A (n : Nat) : Ann := ⟨Tryd.f93.ntmps, 1, Fy.live, [], [], fun k => match k with
 | 5 => some (.mk' Fy.l5_0.pat (Fy.l5_0.m n n) Fy.l5_0.resK)
 | 1 => some (.mk' Fy.l1_0.pat (Fy.l1_0.m n n) Fy.l1_0.resK)
 | _ => none, noNL, lookJ []⟩
noncomputable def Fy.b0 : Code := (loopsIn (Tryd.f93.body.getD .skip)).getD 0 .skip
noncomputable def Fy.b1 : Code := (loopsIn (Tryd.f93.body.getD .skip)).getD 1 .skip
def Fy.g {α : Type} (mk0 : LI → α) (n : Nat) (s : LI) : Option α :=
 bindO (Fy.l1_0.m n n (0, s)) fun r2 =>
  some (mk0 r2)
def Fy.m (n : Nat) (t : LI) : Option LI := Fy.g (fun a0 => a0) n t
def Fy.pat : List AV → Blks → Option LI
 | [(.ptr 0 [])], [(some (.var (.ints .u64 25 s)))] => some s
 | _, _ => none
def Fy.shape (t : LI) : List AV × Blks := ([(.ptr 0 [])], [(some (.var (.ints .u64 25 t)))])
def Fy.res : LI → AV × Blks
 | u => ((.tup []), [(some (.var (.ints .u64 25 u)))])
def Fy.resK {R : Type} (u : LI) (K : AV → Blks → Option R) : Option R := K (Fy.res u).1 (Fy.res u).2
def Fy.c (n : Nat) : Abs.Callee := .mk' [true] [none] Fy.pat (Fy.m n) Fy.resK
end
end
section
noncomputable section
noncomputable def Fz.C (n : Nat) : Ctx := ⟨Tryd.prog, kecG, lookC [(91, Fg.c n), (92, Ft.c n), (93, Fy.c n)], fun _ => false⟩
def Fz.live : NL := fun k => match k with
 | 1 => ([3, 0], [])
 | _ => ([], [])
def Fz.l1_0.r {α : Type} (mk0 : LI → α) (n : Nat) (rc : Int → LI → Option α)  (x0 : Int) (x1 : LI) : Option α :=
  if (decide (x0 < 24)) = true then
   bindO (Fg.m n x1) fun r6 =>
    bindO (Ft.m n r6) fun r8 =>
     bindO (Fy.m n r8) fun r10 =>
      if 0 ≤ x0 then
       if x0 < 24 then
        rc (IntKind.wrap .i64 (x0 + 1)) (List.set r10 0 (ibits BinOp.xor .u64 (List.getD r10 0 0) (List.getD ([1, 32898, 9223372036854808714, 9223372039002292224, 32907, 2147483649, 9223372039002292353, 9223372036854808585, 138, 136, 2147516425, 2147483658, 2147516555, 9223372036854775947, 9223372036854808713, 9223372036854808579, 9223372036854808578, 9223372036854775936, 32778, 9223372039002259466, 9223372039002292353, 9223372036854808704, 2147483649, 9223372039002292232] : List Int) (Int.toNat x0) 0)))
       else
        none
      else
       none
  else
   some (mk0 x1)
def Fz.l1_0.g {α : Type} (mk0 : LI → α) (n : Nat) : Nat → Int → LI → Option α
 | 0, _, _ => none
 | m + 1, x0, x1 => Fz.l1_0.r mk0 n (fun y0 y1 => Fz.l1_0.g mk0 n m y0 y1)  x0 x1
def Fz.l1_0.m (n m : Nat) (t : (Int × LI)) : Option LI := Fz.l1_0.g (fun a0 => a0) n m t.1 t.2
def Fz.l1_0.pat : St → Option (Int × LI)
 | (St.mk [(.int .i64 x0), (.ptr 0 [])] [(some (.var (.ints .u64 25 x1)))]) => some (x0, x1)
 | _ => none
def Fz.l1_0.shape (t : (Int × LI)) : St := (St.mk [(.int .i64 t.1), (.ptr 0 [])] [(some (.var (.ints .u64 25 t.2)))])
def Fz.l1_0.res : LI → Ex × St
 | u => ((.exit 0), (St.mk [] [(some (.var (.ints .u64 25 u)))]))
def Fz.l1_0.resK {R : Type} (u : LI) (K : Ex → St → Option R) : Option R := K (Fz.l1_0.res u).1 (Fz.l1_0.res u).2
noncomputable def Fz.A (n : Nat) : Ann := ⟨Tryd.f87.ntmps, 1, Fz.live, [], [], fun k => match k with
 | 1 => some (.mk' Fz.l1_0.pat (Fz.l1_0.m n n) Fz.l1_0.resK)
 | _ => none, noNL, lookJ []⟩
noncomputable def Fz.b0 : Code := (loopsIn (Tryd.f87.body.getD .skip)).getD 0 .skip
def Fz.g {α : Type} (mk0 : LI → α) (n : Nat) (s : LI) : Option α :=
 bindO (Fz.l1_0.m n n (0, s)) fun r2 =>
  some (mk0 r2)
def Fz.m (n : Nat) (t : LI) : Option LI := Fz.g (fun a0 => a0) n t
def Fz.pat : List AV → Blks → Option LI
 | [(.ptr 0 [])], [(some (.var (.ints .u64 25 s)))] => some s
 | _, _ => none
def Fz.shape (t : LI) : List AV × Blks := ([(.ptr 0 [])], [(some (.var (.ints .u64 25 t)))])
def Fz.res : LI → AV × Blks
 | u => ((.tup []), [(some (.var (.ints .u64 25 u)))])
def Fz.resK {R : Type} (u : LI) (K : AV → Blks → Option R) : Option R := K (Fz.res u).1 (Fz.res u).2
def Fz.c (n : Nat) : Abs.Callee := .mk' [true] [none] Fz.pat (Fz.m n) Fz.resK
end
end
section
noncomputable section
noncomputable def Fu.C (n : Nat) : Ctx := ⟨Tryd.prog, kecG, lookC [(87, Fz.c n)], fun _ => false⟩
def Fu.live : NL := fun k => match k with
 | 1 => ([8, 7, 6, 0], [0])
 | _ => ([], [])
def Fu.l1_0.r {α : Type} (mk0 : LI → α) (n : Nat) (rc : Int → Int → LI → LI → Option α)  (x0 : Int) (x1 : Int) (x2 : LI) (x3 : LI) : Option α :=
  if (decide (x0 < x1)) = true then
   if 0 ≤ x0 then
    if x0 < (((List.length x2) : Nat) : Int) then
     if 0 ≤ (IntKind.wrap .i64 (Int.tdiv x0 8)) then
      if (IntKind.wrap .i64 (Int.tdiv x0 8)) < 25 then
       if 0 ≤ (IntKind.wrap .i64 ((Int.tmod x0 8) * 8)) then
        if 0 ≤ (IntKind.wrap .i64 (Int.tdiv x0 8)) then
         if (IntKind.wrap .i64 (Int.tdiv x0 8)) < 25 then
          rc (IntKind.wrap .i64 (x0 + 1)) x1 x2 (List.set x3 (Int.toNat (IntKind.wrap .i64 (Int.tdiv x0 8))) (ibits BinOp.xor .u64 (List.getD x3 (Int.toNat (IntKind.wrap .i64 (Int.tdiv x0 8))) 0) (ishl .u64 (IntKind.wrap .u64 (List.getD x2 (Int.toNat x0) 0)) (IntKind.wrap .i64 ((Int.tmod x0 8) * 8)))))
         else
          none
        else
         none
       else
        none
      else
       none
     else
      none
    else
     none
   else
    none
  else
   some (mk0 x3)
def Fu.l1_0.g {α : Type} (mk0 : LI → α) (n : Nat) : Nat → Int → Int → LI → LI → Option α
 | 0, _, _, _, _ => none
 | m + 1, x0, x1, x2, x3 => Fu.l1_0.r mk0 n (fun y0 y1 y2 y3 => Fu.l1_0.g mk0 n m y0 y1 y2 y3)  x0 x1 x2 x3
def Fu.l1_0.m (n m : Nat) (t : (Int × (Int × (LI × LI)))) : Option LI := Fu.l1_0.g (fun a0 => a0) n m t.1 t.2.1 t.2.2.1 t.2.2.2
def Fu.l1_0.pat : St → Option (Int × (Int × (LI × LI)))
 | (St.mk [(.int .i64 x0), (.int .i64 x1), (.rints .u8 x2), (.ptr 0 [])] [(some (.var (.ints .u64 25 x3)))]) => some (x0, x1, x2, x3)
 | _ => none
def Fu.l1_0.shape (t : (Int × (Int × (LI × LI)))) : St := (St.mk [(.int .i64 t.1), (.int .i64 t.2.1), (.rints .u8 t.2.2.1), (.ptr 0 [])] [(some (.var (.ints .u64 25 t.2.2.2)))])
def Fu.l1_0.res : LI → Ex × St
 | u => ((.exit 0), (St.mk [(.ptr 0 [])] [(some (.var (.ints .u64 25 u)))]))
def Fu.l1_0.resK {R : Type} (u : LI) (K : Ex → St → Option R) : Option R := K (Fu.l1_0.res u).1 (Fu.l1_0.res u).2
noncomputable def Fu.A (n : Nat) : Ann := ⟨Tryd.f83.ntmps, 1, Fu.live, [(6, (.ints .u8))], [], fun k => match k with
 | 1 => some (.mk' Fu.l1_0.pat (Fu.l1_0.m n n) Fu.l1_0.resK)
 | _ => none, noNL, lookJ []⟩
noncomputable def Fu.b0 : Code := (loopsIn (Tryd.f83.body.getD .skip)).getD 0 .skip
def Fu.g {α : Type} (mk0 : LI → α) (n : Nat) (b : LI) (s : LI) : Option α :=
 bindO (Fu.l1_0.m n n (0, (((List.length b) : Nat) : Int), b, s)) fun r2 =>
  bindO (Fz.m n r2) fun r4 =>
   some (mk0 r4)
def Fu.m (n : Nat) (t : (LI × LI)) : Option LI := Fu.g (fun a0 => a0) n t.1 t.2
def Fu.pat : List AV → Blks → Option (LI × LI)
 | [(.ptr 0 []), (.rints .u8 b)], [(some (.var (.ints .u64 25 s)))] => some (b, s)
 | _, _ => none
def Fu.shape (t : (LI × LI)) : List AV × Blks := ([(.ptr 0 []), (.rints .u8 t.1)], [(some (.var (.ints .u64 25 t.2)))])
def Fu.res : LI → AV × Blks
 | u => ((.tup []), [(some (.var (.ints .u64 25 u)))])
def Fu.resK {R : Type} (u : LI) (K : AV → Blks → Option R) : Option R := K (Fu.res u).1 (Fu.res u).2
def Fu.c (n : Nat) : Abs.Callee := .mk' [true, false] [none, (some (.ints .u8))] Fu.pat (Fu.m n) Fu.resK
end
end
section
noncomputable section
noncomputable def Fan.C (n : Nat) : Ctx := ⟨Tryd.prog, kecG, lookC [(83, Fu.c n), (72, Fap.c n)], fun _ => false⟩
def Fan.live : NL := fun k => match k with
 | 2 => ([0, 3, 2], [0, 3, 2])
 | 12 => ([30, 3, 5, 2], [5, 2])
 | _ => ([], [])
def Fan.l2_0.r {α : Type} (mk0 : LI → LI → LI → α) (n : Nat) (rc : LI → LI → LI → Option α)  (x0 : LI) (x1 : LI) (x2 : LI) : Option α :=
  if (decide ((((List.length x0) : Nat) : Int) ≥ 136)) = true then
   if 136 ≤ (((List.length x0) : Nat) : Int) then
    bindO (Fu.m n ((Go.Abs.cut x0 0 (Option.some 136)), x1)) fun r8 =>
     if 136 ≤ (((List.length x0) : Nat) : Int) then
      rc (Go.Abs.cut x0 136 (Option.none)) r8 x2
     else
      none
   else
    none
  else
   some (mk0 x0 x1 x2)
def Fan.l2_0.g {α : Type} (mk0 : LI → LI → LI → α) (n : Nat) : Nat → LI → LI → LI → Option α
 | 0, _, _, _ => none
 | m + 1, x0, x1, x2 => Fan.l2_0.r mk0 n (fun y0 y1 y2 => Fan.l2_0.g mk0 n m y0 y1 y2)  x0 x1 x2
def Fan.l2_0.m (n m : Nat) (t : (LI × (LI × LI))) : Option (LI × (LI × LI)) := Fan.l2_0.g (fun a0 a1 a2 => (a0, a1, a2)) n m t.1 t.2.1 t.2.2
def Fan.l2_0.pat : St → Option (LI × (LI × LI))
 | (St.mk [(.rints .u8 x0), (.ptr 0 []), (.ptr 1 [])] [(some (.var (.ints .u64 25 x1))), (some (.var (.ints .u64 4 x2)))]) => some (x0, x1, x2)
 | _ => none
def Fan.l2_0.shape (t : (LI × (LI × LI))) : St := (St.mk [(.rints .u8 t.1), (.ptr 0 []), (.ptr 1 [])] [(some (.var (.ints .u64 25 t.2.1))), (some (.var (.ints .u64 4 t.2.2)))])
def Fan.l2_0.res : (LI × (LI × LI)) → Ex × St
 | u => ((.exit 0), (St.mk [(.rints .u8 u.1), (.ptr 0 []), (.ptr 1 [])] [(some (.var (.ints .u64 25 u.2.1))), (some (.var (.ints .u64 4 u.2.2)))]))
def Fan.l2_0.resK {R : Type} (u : (LI × (LI × LI))) (K : Ex → St → Option R) : Option R := K (Fan.l2_0.res u).1 (Fan.l2_0.res u).2
def Fan.l12_0.r {α : Type} (mk0 : LI → LI → α) (n : Nat) (rc : Int → LI → LI → LI → Option α)  (x0 : Int) (x1 : LI) (x2 : LI) (x3 : LI) : Option α :=
  if (decide (x0 < 32)) = true then
   if 0 ≤ (IntKind.wrap .i64 (Int.tdiv x0 8)) then
    if (IntKind.wrap .i64 (Int.tdiv x0 8)) < 25 then
     if 0 ≤ (IntKind.wrap .i64 ((Int.tmod x0 8) * 8)) then
      if 0 ≤ x0 then
       if x0 < 32 then
        rc (IntKind.wrap .i64 (x0 + 1)) x1 (List.set x2 (Int.toNat x0) (IntKind.wrap .u8 (ishr .u64 (List.getD x1 (Int.toNat (IntKind.wrap .i64 (Int.tdiv x0 8))) 0) (IntKind.wrap .i64 ((Int.tmod x0 8) * 8))))) x3
       else
        none
      else
       none
     else
      none
    else
     none
   else
    none
  else
   some (mk0 x2 x3)
def Fan.l12_0.g {α : Type} (mk0 : LI → LI → α) (n : Nat) : Nat → Int → LI → LI → LI → Option α
 | 0, _, _, _, _ => none
 | m + 1, x0, x1, x2, x3 => Fan.l12_0.r mk0 n (fun y0 y1 y2 y3 => Fan.l12_0.g mk0 n m y0 y1 y2 y3)  x0 x1 x2 x3
def Fan.l12_0.m (n m : Nat) (t : (Int × (LI × (LI × LI)))) : Option (LI × LI) := Fan.l12_0.g (fun a0 a1 => (a0, a1)) n m t.1 t.2.1 t.2.2.1 t.2.2.2
def Fan.l12_0.pat : St → Option (Int × (LI × (LI × LI)))
 | (St.mk [(.int .i64 x0), (.ptr 0 []), (.ptr 1 []), (.ptr 2 [])] [(some (.var (.ints .u64 25 x1))), (some (.var (.ints .u8 32 x2))), (some (.var (.ints .u64 4 x3)))]) => some (x0, x1, x2, x3)
 | _ => none
def Fan.l12_0.shape (t : (Int × (LI × (LI × LI)))) : St := (St.mk [(.int .i64 t.1), (.ptr 0 []), (.ptr 1 []), (.ptr 2 [])] [(some (.var (.ints .u64 25 t.2.1))), (some (.var (.ints .u8 32 t.2.2.1))), (some (.var (.ints .u64 4 t.2.2.2)))])
def Fan.l12_0.res : (LI × LI) → Ex × St
 | u => ((.exit 2), (St.mk [(.ptr 0 []), (.ptr 1 [])] [(some (.var (.ints .u8 32 u.1))), (some (.var (.ints .u64 4 u.2)))]))
def Fan.l12_0.resK {R : Type} (u : (LI × LI)) (K : Ex → St → Option R) : Option R := K (Fan.l12_0.res u).1 (Fan.l12_0.res u).2
noncomputable def Fan.A (n : Nat) : Ann := ⟨Tryd.f74.ntmps, 0, Fan.live, [(0, (.ints .u8))], [none], fun k => match k with
 | 2 => some (.mk' Fan.l2_0.pat (Fan.l2_0.m n n) Fan.l2_0.resK)
 | 12 => some (.mk' Fan.l12_0.pat (Fan.l12_0.m n n) Fan.l12_0.resK)
 | _ => none, noNL, lookJ []⟩
noncomputable def Fan.b0 : Code := (loopsIn (Tryd.f74.body.getD .skip)).getD 0 .skip
noncomputable def Fan.b1 : Code := (loopsIn (Tryd.f74.body.getD .skip)).getD 1 .skip
def Fan.g {α : Type} (mk0 : LI → α) (n : Nat) (a0 : LI) : Option α :=
 bindO (Fan.l2_0.m n n (a0, ([0, 0, 0, 0, 0, 0, 0, 0, 0, 0, 0, 0, 0, 0, 0, 0, 0, 0, 0, 0, 0, 0, 0, 0, 0] : List Int), [0, 0, 0, 0])) fun r2 =>
  if (((List.length r2.1) : Nat) : Int) < 136 then
   if (((List.length r2.1) : Nat) : Int) < 136 then
    bindO (Fu.m n ((List.take 136 (List.drop 0 (List.set (List.set ([] ++ ((List.take 136 r2.1) ++ (List.drop (0 + (Min.min (List.length r2.1) 136)) ([0, 0, 0, 0, 0, 0, 0, 0, 0, 0, 0, 0, 0, 0, 0, 0, 0, 0, 0, 0, 0, 0, 0, 0, 0, 0, 0, 0, 0, 0, 0, 0, 0, 0, 0, 0, 0, 0, 0, 0, 0, 0, 0, 0, 0, 0, 0, 0, 0, 0, 0, 0, 0, 0, 0, 0, 0, 0, 0, 0, 0, 0, 0, 0, 0, 0, 0, 0, 0, 0, 0, 0, 0, 0, 0, 0, 0, 0, 0, 0, 0, 0, 0, 0, 0, 0, 0, 0, 0, 0, 0, 0, 0, 0, 0, 0, 0, 0, 0, 0, 0, 0, 0, 0, 0, 0, 0, 0, 0, 0, 0, 0, 0, 0, 0, 0, 0, 0, 0, 0, 0, 0, 0, 0, 0, 0, 0, 0, 0, 0, 0, 0, 0, 0, 0, 0] : List Int)))) (Int.toNat (((List.length r2.1) : Nat) : Int)) (ibits BinOp.xor .u8 (List.getD ([] ++ ((List.take 136 r2.1) ++ (List.drop (0 + (Min.min (List.length r2.1) 136)) ([0, 0, 0, 0, 0, 0, 0, 0, 0, 0, 0, 0, 0, 0, 0, 0, 0, 0, 0, 0, 0, 0, 0, 0, 0, 0, 0, 0, 0, 0, 0, 0, 0, 0, 0, 0, 0, 0, 0, 0, 0, 0, 0, 0, 0, 0, 0, 0, 0, 0, 0, 0, 0, 0, 0, 0, 0, 0, 0, 0, 0, 0, 0, 0, 0, 0, 0, 0, 0, 0, 0, 0, 0, 0, 0, 0, 0, 0, 0, 0, 0, 0, 0, 0, 0, 0, 0, 0, 0, 0, 0, 0, 0, 0, 0, 0, 0, 0, 0, 0, 0, 0, 0, 0, 0, 0, 0, 0, 0, 0, 0, 0, 0, 0, 0, 0, 0, 0, 0, 0, 0, 0, 0, 0, 0, 0, 0, 0, 0, 0, 0, 0, 0, 0, 0, 0] : List Int)))) (Int.toNat (((List.length r2.1) : Nat) : Int)) 0) 1)) 135 (ibits BinOp.xor .u8 (List.getD (List.set ([] ++ ((List.take 136 r2.1) ++ (List.drop (0 + (Min.min (List.length r2.1) 136)) ([0, 0, 0, 0, 0, 0, 0, 0, 0, 0, 0, 0, 0, 0, 0, 0, 0, 0, 0, 0, 0, 0, 0, 0, 0, 0, 0, 0, 0, 0, 0, 0, 0, 0, 0, 0, 0, 0, 0, 0, 0, 0, 0, 0, 0, 0, 0, 0, 0, 0, 0, 0, 0, 0, 0, 0, 0, 0, 0, 0, 0, 0, 0, 0, 0, 0, 0, 0, 0, 0, 0, 0, 0, 0, 0, 0, 0, 0, 0, 0, 0, 0, 0, 0, 0, 0, 0, 0, 0, 0, 0, 0, 0, 0, 0, 0, 0, 0, 0, 0, 0, 0, 0, 0, 0, 0, 0, 0, 0, 0, 0, 0, 0, 0, 0, 0, 0, 0, 0, 0, 0, 0, 0, 0, 0, 0, 0, 0, 0, 0, 0, 0, 0, 0, 0, 0] : List Int)))) (Int.toNat (((List.length r2.1) : Nat) : Int)) (ibits BinOp.xor .u8 (List.getD ([] ++ ((List.take 136 r2.1) ++ (List.drop (0 + (Min.min (List.length r2.1) 136)) ([0, 0, 0, 0, 0, 0, 0, 0, 0, 0, 0, 0, 0, 0, 0, 0, 0, 0, 0, 0, 0, 0, 0, 0, 0, 0, 0, 0, 0, 0, 0, 0, 0, 0, 0, 0, 0, 0, 0, 0, 0, 0, 0, 0, 0, 0, 0, 0, 0, 0, 0, 0, 0, 0, 0, 0, 0, 0, 0, 0, 0, 0, 0, 0, 0, 0, 0, 0, 0, 0, 0, 0, 0, 0, 0, 0, 0, 0, 0, 0, 0, 0, 0, 0, 0, 0, 0, 0, 0, 0, 0, 0, 0, 0, 0, 0, 0, 0, 0, 0, 0, 0, 0, 0, 0, 0, 0, 0, 0, 0, 0, 0, 0, 0, 0, 0, 0, 0, 0, 0, 0, 0, 0, 0, 0, 0, 0, 0, 0, 0, 0, 0, 0, 0, 0, 0] : List Int)))) (Int.toNat (((List.length r2.1) : Nat) : Int)) 0) 1)) 135 0) 128)))), r2.2.1)) fun r8 =>
     bindO (Fan.l12_0.m n n (0, r8, ([0, 0, 0, 0, 0, 0, 0, 0, 0, 0, 0, 0, 0, 0, 0, 0, 0, 0, 0, 0, 0, 0, 0, 0, 0, 0, 0, 0, 0, 0, 0, 0] : List Int), r2.2.2)) fun r10 =>
      bindO (Fap.m n (List.take 32 (List.drop 0 r10.1))) fun r12 =>
       some (mk0 r12)
   else
    none
  else
   none
def Fan.m (n : Nat) (t : LI) : Option LI := Fan.g (fun a0 => a0) n t
def Fan.pat : List AV → Blks → Option LI
 | [(.rints .u8 a0)], [] => some a0
 | _, _ => none
def Fan.shape (t : LI) : List AV × Blks := ([(.rints .u8 t)], [])
def Fan.res : LI → AV × Blks
 | u => ((.ints .u64 4 u), [])
def Fan.resK {R : Type} (u : LI) (K : AV → Blks → Option R) : Option R := K (Fan.res u).1 (Fan.res u).2
def Fan.c (n : Nat) : Abs.Callee := .mk' [] [(some (.ints .u8))] Fan.pat (Fan.m n) Fan.resK
end
end
section
noncomputable section
noncomputable def Fae.C (n : Nat) : Ctx := ⟨Tryd.prog, kecG, lookC [(74, Fan.c n), (73, Fam.c n)], fun _ => false⟩
noncomputable def Fae.A (n : Nat) : Ann := ⟨Tryd.f63.ntmps, 0, noNL, [], [(some (.ints .u8))], fun k => match k with
 | _ => none, noNL, lookJ []⟩
def Fae.g {α : Type} (mk0 : LI → α) (n : Nat) (a0 : ByteArray) : Option α :=
 bindO (Fan.m n (Go.Abs.bytesOf a0)) fun r2 =>
  bindO (Fam.m n r2) fun r4 =>
   if 4 ≤ (((List.length r4) : Nat) : Int) then
    some (mk0 (Go.Abs.partL r4 0 (Go.Abs.span (List.length r4) 0 (Option.some 4))))
   else
    none
def Fae.m (n : Nat) (t : ByteArray) : Option LI := Fae.g (fun a0 => a0) n t
def Fae.pat : List AV → Blks → Option ByteArray
 | [(.str a0)], [] => some a0
 | _, _ => none
def Fae.shape (t : ByteArray) : List AV × Blks := ([(.str t)], [])
def Fae.res : LI → AV × Blks
 | u => ((.own 0 1), [(some (.ints .u8 u))])
def Fae.resK {R : Type} (u : LI) (K : AV → Blks → Option R) : Option R := K (Fae.res u).1 (Fae.res u).2
def Fae.c (n : Nat) : Abs.Callee := .mk' [] [none] Fae.pat (Fae.m n) Fae.resK
end
end
section
noncomputable section
noncomputable def Fk.C (n : Nat) : Ctx := ⟨Tryd.prog, kecG, lookC [(61, Fp.c n), (59, Fj.c n), (63, Fae.c n), (62, Fai.c n)], fun _ => false⟩
noncomputable def Fk.A (n : Nat) : Ann := ⟨Tryd.f41.ntmps, 0, noNL, [], [none], fun k => match k with
 | _ => none, noNL, lookJ []⟩
def Fk.g {α : Type} (mk0 : Bool → α) (n : Nat) (a0_0_0 : Int) (a0_0_1 : Int) (a0_0_2 : LI) (a0_0_3 : LI) (a0_0_4 : LI) (a0_0_5 : LI) (a0_0_6 : Int) (a0_1_0_6 : Int) (a0_1_0_10 : Int) (a0_1_1_0 : LI) (a0_1_1_1 : LI) (a0_1_1_2 : Bool) (a0_1_1_3 : LI) (a0_1_1_4 : LI) (a0_1_1_5 : LI) (a0_1_1_6 : Int) (a0_1_1_7 : Int) (a0_1_1_8 : Int) (a0_1_1_9 : LI) (a0_1_1_10 : LI) (a0_1_1_11 : Bool) (a0_1_1_12 : LI) (a0_1_1_13 : Int) (a0_1_1_14 : Int) (a0_1_1_15 : LI) (a0_1_1_16 : LI) (a0_1_2 : Int) (a0_1_3 : Bool) (a0_1_4 : Bool) (a0_1_5 : LA) (a0_2 : Int) : Option α :=
 bindO (Fp.m n (a0_0_0, a0_0_1, a0_0_2, a0_0_3, a0_0_4, a0_0_5, a0_0_6, a0_1_0_6, a0_1_0_10, a0_1_1_0, a0_1_1_1, a0_1_1_2, a0_1_1_3, a0_1_1_4, a0_1_1_5, a0_1_1_6, a0_1_1_7, a0_1_1_8, a0_1_1_9, a0_1_1_10, a0_1_1_11, a0_1_1_12, a0_1_1_13, a0_1_1_14, a0_1_1_15, a0_1_1_16, a0_1_2, a0_1_3, a0_1_4, a0_1_5, a0_2)) fun r2 =>
  if (!r2) = true then
   some (mk0 false)
  else
   bindO (Fj.m n (a0_0_0, a0_0_1, a0_0_2, a0_0_3, a0_0_4, a0_0_5, a0_0_6, a0_1_0_6, a0_1_0_10, a0_1_1_0, a0_1_1_1, a0_1_1_2, a0_1_1_3, a0_1_1_4, a0_1_1_5, a0_1_1_6, a0_1_1_7, a0_1_1_8, a0_1_1_9, a0_1_1_10, a0_1_1_11, a0_1_1_12, a0_1_1_13, a0_1_1_14, a0_1_1_15, a0_1_1_16, a0_1_2, a0_1_3, a0_1_4, a0_1_5, a0_2)) fun r6 =>
    if (!r6) = true then
     some (mk0 false)
    else
     if ((((List.length a0_0_5) : Nat) : Int) == 0) = true then
      if (a0_0_0 == 242) = true then
       some (mk0 true)
      else
       if (a0_0_0 == 244) = true then
        some (mk0 true)
       else
        some (mk0 false)
     else
      bindO (Fae.m n (b8 [100, 101, 112, 111, 115, 105, 116, 84, 111, 40, 97, 100, 100, 114, 101, 115, 115, 41])) fun r12 =>
       bindO (Fai.m n (a0_0_5, r12)) fun r14 =>
        if (a0_0_0 == 242) = true then
         some (mk0 true)
        else
         if (a0_0_0 == 244) = true then
          some (mk0 true)
         else
          some (mk0 (!r14))
def Fk.m (n : Nat) (t : (Int × (Int × (LI × (LI × (LI × (LI × (Int × (Int × (Int × (LI × (LI × (Bool × (LI × (LI × (LI × (Int × (Int × (Int × (LI × (LI × (Bool × (LI × (Int × (Int × (LI × (LI × (Int × (Bool × (Bool × (LA × Int))))))))))))))))))))))))))))))) : Option Bool := Fk.g (fun a0 => a0) n t.1 t.2.1 t.2.2.1 t.2.2.2.1 t.2.2.2.2.1 t.2.2.2.2.2.1 t.2.2.2.2.2.2.1 t.2.2.2.2.2.2.2.1 t.2.2.2.2.2.2.2.2.1 t.2.2.2.2.2.2.2.2.2.1 t.2.2.2.2.2.2.2.2.2.2.1 t.2.2.2.2.2.2.2.2.2.2.2.1 t.2.2.2.2.2.2.2.2.2.2.2.2.1 t.2.2.2.2.2.2.2.2.2.2.2.2.2.1 t.2.2.2.2.2.2.2.2.2.2.2.2.2.2.1 t.2.2.2.2.2.2.2.2.2.2.2.2.2.2.2.1 t.2.2.2.2.2.2.2.2.2.2.2.2.2.2.2.2.1 t.2.2.2.2.2.2.2.2.2.2.2.2.2.2.2.2.2.1 t.2.2.2.2.2.2.2.2.2.2.2.2.2.2.2.2.2.2.1 t.2.2.2.2.2.2.2.2.2.2.2.2.2.2.2.2.2.2.2.1 t.2.2.2.2.2.2.2.2.2.2.2.2.2.2.2.2.2.2.2.2.1 t.2.2.2.2.2.2.2.2.2.2.2.2.2.2.2.2.2.2.2.2.2.1 t.2.2.2.2.2.2.2.2.2.2.2.2.2.2.2.2.2.2.2.2.2.2.1 t.2.2.2.2.2.2.2.2.2.2.2.2.2.2.2.2.2.2.2.2.2.2.2.1 t.2.2.2.2.2.2.2.2.2.2.2.2.2.2.2.2.2.2.2.2.2.2.2.2.1 t.2.2.2.2.2.2.2.2.2.2.2.2.2.2.2.2.2.2.2.2.2.2.2.2.2.1 t.2.2.2.2.2.2.2.2.2.2.2.2.2.2.2.2.2.2.2.2.2.2.2.2.2.2.1 t.2.2.2.2.2.2.2.2.2.2.2.2.2.2.2.2.2.2.2.2.2.2.2.2.2.2.2.1 t.2.2.2.2.2.2.2.2.2.2.2.2.2.2.2.2.2.2.2.2.2.2.2.2.2.2.2.2.1 t.2.2.2.2.2.2.2.2.2.2.2.2.2.2.2.2.2.2.2.2.2.2.2.2.2.2.2.2.2.1 t.2.2.2.2.2.2.2.2.2.2.2.2.2.2.2.2.2.2.2.2.2.2.2.2.2.2.2.2.2.2
def Fk.pat : List AV → Blks → Option (Int × (Int × (LI × (LI × (LI × (LI × (Int × (Int × (Int × (LI × (LI × (Bool × (LI × (LI × (LI × (Int × (Int × (Int × (LI × (LI × (Bool × (LI × (Int × (Int × (LI × (LI × (Int × (Bool × (Bool × (LA × Int))))))))))))))))))))))))))))))
 | [(.agg [(.agg [(.int .u8 a0_0_0), (.int .i64 a0_0_1), (.ints .u8 20 a0_0_2), (.ints .u64 4 a0_0_3), (.ints .u64 4 a0_0_4), (.rints .u8 a0_0_5), (.int .u16 a0_0_6)]), (.rptr (.agg [(.rptr (.agg [.emap, .emap, .emap, .emap, .emap, .emap, (.int .i64 a0_1_0_6), .snil, .snil, .snil, (.int .i64 a0_1_0_10)])), (.agg [(.ints .u8 20 a0_1_1_0), (.ints .u64 4 a0_1_1_1), (.bool a0_1_1_2), (.ints .u8 20 a0_1_1_3), (.rints .u8 a0_1_1_4), (.rints .u8 a0_1_1_5), (.int .u64 a0_1_1_6), (.int .u64 a0_1_1_7), (.int .u64 a0_1_1_8), (.ints .u64 4 a0_1_1_9), (.ints .u64 4 a0_1_1_10), (.bool a0_1_1_11), (.ints .u8 20 a0_1_1_12), (.int .u64 a0_1_1_13), (.int .u64 a0_1_1_14), (.rints .u8 a0_1_1_15), (.rints .u8 a0_1_1_16)]), (.int .u8 a0_1_2), (.bool a0_1_3), (.bool a0_1_4), (.robjs 47 32 a0_1_5)])), (.int .i64 a0_2)])], [] => some (a0_0_0, a0_0_1, a0_0_2, a0_0_3, a0_0_4, a0_0_5, a0_0_6, a0_1_0_6, a0_1_0_10, a0_1_1_0, a0_1_1_1, a0_1_1_2, a0_1_1_3, a0_1_1_4, a0_1_1_5, a0_1_1_6, a0_1_1_7, a0_1_1_8, a0_1_1_9, a0_1_1_10, a0_1_1_11, a0_1_1_12, a0_1_1_13, a0_1_1_14, a0_1_1_15, a0_1_1_16, a0_1_2, a0_1_3, a0_1_4, a0_1_5, a0_2)
 | _, _ => none
def Fk.shape (t : (Int × (Int × (LI × (LI × (LI × (LI × (Int × (Int × (Int × (LI × (LI × (Bool × (LI × (LI × (LI × (Int × (Int × (Int × (LI × (LI × (Bool × (LI × (Int × (Int × (LI × (LI × (Int × (Bool × (Bool × (LA × Int))))))))))))))))))))))))))))))) : List AV × Blks := ([(.agg [(.agg [(.int .u8 t.1), (.int .i64 t.2.1), (.ints .u8 20 t.2.2.1), (.ints .u64 4 t.2.2.2.1), (.ints .u64 4 t.2.2.2.2.1), (.rints .u8 t.2.2.2.2.2.1), (.int .u16 t.2.2.2.2.2.2.1)]), (.rptr (.agg [(.rptr (.agg [.emap, .emap, .emap, .emap, .emap, .emap, (.int .i64 t.2.2.2.2.2.2.2.1), .snil, .snil, .snil, (.int .i64 t.2.2.2.2.2.2.2.2.1)])), (.agg [(.ints .u8 20 t.2.2.2.2.2.2.2.2.2.1), (.ints .u64 4 t.2.2.2.2.2.2.2.2.2.2.1), (.bool t.2.2.2.2.2.2.2.2.2.2.2.1), (.ints .u8 20 t.2.2.2.2.2.2.2.2.2.2.2.2.1), (.rints .u8 t.2.2.2.2.2.2.2.2.2.2.2.2.2.1), (.rints .u8 t.2.2.2.2.2.2.2.2.2.2.2.2.2.2.1), (.int .u64 t.2.2.2.2.2.2.2.2.2.2.2.2.2.2.2.1), (.int .u64 t.2.2.2.2.2.2.2.2.2.2.2.2.2.2.2.2.1), (.int .u64 t.2.2.2.2.2.2.2.2.2.2.2.2.2.2.2.2.2.1), (.ints .u64 4 t.2.2.2.2.2.2.2.2.2.2.2.2.2.2.2.2.2.2.1), (.ints .u64 4 t.2.2.2.2.2.2.2.2.2.2.2.2.2.2.2.2.2.2.2.1), (.bool t.2.2.2.2.2.2.2.2.2.2.2.2.2.2.2.2.2.2.2.2.1), (.ints .u8 20 t.2.2.2.2.2.2.2.2.2.2.2.2.2.2.2.2.2.2.2.2.2.1), (.int .u64 t.2.2.2.2.2.2.2.2.2.2.2.2.2.2.2.2.2.2.2.2.2.2.1), (.int .u64 t.2.2.2.2.2.2.2.2.2.2.2.2.2.2.2.2.2.2.2.2.2.2.2.1), (.rints .u8 t.2.2.2.2.2.2.2.2.2.2.2.2.2.2.2.2.2.2.2.2.2.2.2.2.1), (.rints .u8 t.2.2.2.2.2.2.2.2.2.2.2.2.2.2.2.2.2.2.2.2.2.2.2.2.2.1)]), (.int .u8 t.2.2.2.2.2.2.2.2.2.2.2.2.2.2.2.2.2.2.2.2.2.2.2.2.2.2.1), (.bool t.2.2.2.2.2.2.2.2.2.2.2.2.2.2.2.2.2.2.2.2.2.2.2.2.2.2.2.1), (.bool t.2.2.2.2.2.2.2.2.2.2.2.2.2.2.2.2.2.2.2.2.2.2.2.2.2.2.2.2.1), (.robjs 47 32 t.2.2.2.2.2.2.2.2.2.2.2.2.2.2.2.2.2.2.2.2.2.2.2.2.2.2.2.2.2.1)])), (.int .i64 t.2.2.2.2.2.2.2.2.2.2.2.2.2.2.2.2.2.2.2.2.2.2.2.2.2.2.2.2.2.2)])], [])
def Fk.res : Bool → AV × Blks
 | u => ((.bool u), [])
def Fk.resK {R : Type} (u : Bool) (K : AV → Blks → Option R) : Option R := K (Fk.res u).1 (Fk.res u).2
def Fk.c (n : Nat) : Abs.Callee := .mk' [] [none] Fk.pat (Fk.m n) Fk.resK
end
end
section
noncomputable section
noncomputable def Faf.C (n : Nat) : Ctx := ⟨Tryd.prog, kecG, lookC [], fun _ => false⟩
noncomputable def Faf.A (n : Nat) : Ann := ⟨Tryd.f11.ntmps, 0, noNL, [], [none, none], fun k => match k with
 | _ => none, noNL, lookJ []⟩
def Faf.g {α : Type} (mk0 : LI → Bool → α) (n : Nat) (a0_0 : LI) (a0_1 : LI) (a0_2 : Bool) (a0_3 : LI) (a0_4 : LI) (a0_5 : LI) (a0_6 : Int) (a0_7 : Int) (a0_8 : Int) (a0_9 : LI) (a0_10 : LI) (a0_11 : Bool) (a0_12 : LI) (a0_13 : Int) (a0_14 : Int) (a0_15 : LI) (a0_16 : LI) (a1 : Int) : Option α :=
 if (a1 == 1) = true then
  some (mk0 a0_0 true)
 else
  if (a1 == 2) = true then
   if a0_2 = true then
    some (mk0 a0_3 true)
   else
    if (a1 == 3) = true then
     if a0_11 = true then
      some (mk0 a0_12 true)
     else
      some (mk0 ([0, 0, 0, 0, 0, 0, 0, 0, 0, 0, 0, 0, 0, 0, 0, 0, 0, 0, 0, 0] : List Int) false)
    else
     some (mk0 ([0, 0, 0, 0, 0, 0, 0, 0, 0, 0, 0, 0, 0, 0, 0, 0, 0, 0, 0, 0] : List Int) false)
  else
   if (a1 == 3) = true then
    if a0_11 = true then
     some (mk0 a0_12 true)
    else
     some (mk0 ([0, 0, 0, 0, 0, 0, 0, 0, 0, 0, 0, 0, 0, 0, 0, 0, 0, 0, 0, 0] : List Int) false)
   else
    some (mk0 ([0, 0, 0, 0, 0, 0, 0, 0, 0, 0, 0, 0, 0, 0, 0, 0, 0, 0, 0, 0] : List Int) false)
def Faf.m (n : Nat) (t : (LI × (LI × (Bool × (LI × (LI × (LI × (Int × (Int × (Int × (LI × (LI × (Bool × (LI × (Int × (Int × (LI × (LI × Int)))))))))))))))))) : Option (LI × Bool) := Faf.g (fun a0 a1 => (a0, a1)) n t.1 t.2.1 t.2.2.1 t.2.2.2.1 t.2.2.2.2.1 t.2.2.2.2.2.1 t.2.2.2.2.2.2.1 t.2.2.2.2.2.2.2.1 t.2.2.2.2.2.2.2.2.1 t.2.2.2.2.2.2.2.2.2.1 t.2.2.2.2.2.2.2.2.2.2.1 t.2.2.2.2.2.2.2.2.2.2.2.1 t.2.2.2.2.2.2.2.2.2.2.2.2.1 t.2.2.2.2.2.2.2.2.2.2.2.2.2.1 t.2.2.2.2.2.2.2.2.2.2.2.2.2.2.1 t.2.2.2.2.2.2.2.2.2.2.2.2.2.2.2.1 t.2.2.2.2.2.2.2.2.2.2.2.2.2.2.2.2.1 t.2.2.2.2.2.2.2.2.2.2.2.2.2.2.2.2.2
def Faf.pat : List AV → Blks → Option (LI × (LI × (Bool × (LI × (LI × (LI × (Int × (Int × (Int × (LI × (LI × (Bool × (LI × (Int × (Int × (LI × (LI × Int)))))))))))))))))
 | [(.agg [(.ints .u8 20 a0_0), (.ints .u64 4 a0_1), (.bool a0_2), (.ints .u8 20 a0_3), (.rints .u8 a0_4), (.rints .u8 a0_5), (.int .u64 a0_6), (.int .u64 a0_7), (.int .u64 a0_8), (.ints .u64 4 a0_9), (.ints .u64 4 a0_10), (.bool a0_11), (.ints .u8 20 a0_12), (.int .u64 a0_13), (.int .u64 a0_14), (.rints .u8 a0_15), (.rints .u8 a0_16)]), (.int .u8 a1)], [] => some (a0_0, a0_1, a0_2, a0_3, a0_4, a0_5, a0_6, a0_7, a0_8, a0_9, a0_10, a0_11, a0_12, a0_13, a0_14, a0_15, a0_16, a1)
 | _, _ => none
def Faf.shape (t : (LI × (LI × (Bool × (LI × (LI × (LI × (Int × (Int × (Int × (LI × (LI × (Bool × (LI × (Int × (Int × (LI × (LI × Int)))))))))))))))))) : List AV × Blks := ([(.agg [(.ints .u8 20 t.1), (.ints .u64 4 t.2.1), (.bool t.2.2.1), (.ints .u8 20 t.2.2.2.1), (.rints .u8 t.2.2.2.2.1), (.rints .u8 t.2.2.2.2.2.1), (.int .u64 t.2.2.2.2.2.2.1), (.int .u64 t.2.2.2.2.2.2.2.1), (.int .u64 t.2.2.2.2.2.2.2.2.1), (.ints .u64 4 t.2.2.2.2.2.2.2.2.2.1), (.ints .u64 4 t.2.2.2.2.2.2.2.2.2.2.1), (.bool t.2.2.2.2.2.2.2.2.2.2.2.1), (.ints .u8 20 t.2.2.2.2.2.2.2.2.2.2.2.2.1), (.int .u64 t.2.2.2.2.2.2.2.2.2.2.2.2.2.1), (.int .u64 t.2.2.2.2.2.2.2.2.2.2.2.2.2.2.1), (.rints .u8 t.2.2.2.2.2.2.2.2.2.2.2.2.2.2.2.1), (.rints .u8 t.2.2.2.2.2.2.2.2.2.2.2.2.2.2.2.2.1)]), (.int .u8 t.2.2.2.2.2.2.2.2.2.2.2.2.2.2.2.2.2)], [])
def Faf.res : (LI × Bool) → AV × Blks
 | u => ((.tup [(.ints .u8 20 u.1), (.bool u.2)]), [])
def Faf.resK {R : Type} (u : (LI × Bool)) (K : AV → Blks → Option R) : Option R := K (Faf.res u).1 (Faf.res u).2
def Faf.c (n : Nat) : Abs.Callee := .mk' [] [(some (.agg [none, none, none, none, (some (.ints .u8)), (some (.ints .u8)), none, none, none, none, none, none, none, none, none, (some (.ints .u8)), (some (.ints .u8))])), none] Faf.pat (Faf.m n) Faf.resK
end
end
section
noncomputable section
noncomputable def Fa.C (n : Nat) : Ctx := ⟨Tryd.prog, kecG, lookC [(53, zslicesIndexFuncquaestorapiEventquaestorapiEvent.c n), (76, Fab.c n)], fun _ => false⟩
noncomputable def Fa.A (n : Nat) : Ann := ⟨Tryd.f75.ntmps, 0, noNL, [], [none], fun k => match k with
 | _ => none, noNL, lookJ []⟩
def Fa.g {α : Type} (mk0 : Bool → α) (n : Nat) (l : LA) (o : LI) (s : LI) : Option α :=
 bindO (Fc.m n (l, o, s)) fun r2 =>
  some (mk0 (decide (r2 ≥ 0)))
def Fa.m (n : Nat) (t : (LA × (LI × LI))) : Option Bool := Fa.g (fun a0 => a0) n t.1 t.2.1 t.2.2
def Fa.pat : List AV → Blks → Option (LA × (LI × LI))
 | [(.robjs 47 32 l), (.fn (.func 76) [] [(.rptr (.rints .u8 o)), (.rptr (.ints .u64 4 s))])], [] => some (l, o, s)
 | _, _ => none
def Fa.shape (t : (LA × (LI × LI))) : List AV × Blks := ([(.robjs 47 32 t.1), (.fn (.func 76) [] [(.rptr (.rints .u8 t.2.1)), (.rptr (.ints .u64 4 t.2.2))])], [])
def Fa.res : Bool → AV × Blks
 | u => ((.bool u), [])
def Fa.resK {R : Type} (u : Bool) (K : AV → Blks → Option R) : Option R := K (Fa.res u).1 (Fa.res u).2
def Fa.c (n : Nat) : Abs.Callee := .mk' [] [(some (.objs 47 32)), none] Fa.pat (Fa.m n) Fa.resK
end
end
section
noncomputable section
noncomputable def Fad.C (n : Nat) : Ctx := ⟨Tryd.prog, kecG, lookC [(57, Faq.c n), (73, Fam.c n), (76, Fab.c n), (75, Fa.c n)], fun t => t == 2000073⟩
noncomputable def Fad.A (n : Nat) : Ann := ⟨Tryd.f64.ntmps, 0, noNL, [], [none], fun k => match k with
 | _ => none, noNL, lookJ []⟩
def Fad.g {α : Type} (mk0 : Bool → α) (n : Nat) (a0 : LA) (a1 : LI) (a2 : LI) : Option α :=
 bindO (Faq.m n a1) fun r2 =>
  bindO (Fam.m n r2) fun r4 =>
   bindO (Faq.m n a1) fun r6 =>
    if (a2 == r6) = true then
     some (mk0 true)
    else
     bindO (Fa.m n (a0, r4, a2)) fun r10 =>
      some (mk0 r10)
def Fad.m (n : Nat) (t : (LA × (LI × LI))) : Option Bool := Fad.g (fun a0 => a0) n t.1 t.2.1 t.2.2
def Fad.pat : List AV → Blks → Option (LA × (LI × LI))
 | [(.robjs 47 32 a0), (.ints .u8 20 a1), (.ints .u64 4 a2)], [] => some (a0, a1, a2)
 | _, _ => none
def Fad.shape (t : (LA × (LI × LI))) : List AV × Blks := ([(.robjs 47 32 t.1), (.ints .u8 20 t.2.1), (.ints .u64 4 t.2.2)], [])
def Fad.res : Bool → AV × Blks
 | u => ((.bool u), [])
def Fad.resK {R : Type} (u : Bool) (K : AV → Blks → Option R) : Option R := K (Fad.res u).1 (Fad.res u).2
def Fad.c (n : Nat) : Abs.Callee := .mk' [] [(some (.objs 47 32)), none, none] Fad.pat (Fad.m n) Fad.resK
end
end
section
noncomputable section
noncomputable def Fl.C (n : Nat) : Ctx := ⟨Tryd.prog, kecG, lookC [(11, Faf.c n), (64, Fad.c n)], fun _ => false⟩
noncomputable def Fl.A (n : Nat) : Ann := ⟨Tryd.f42.ntmps, 0, noNL, [], [none], fun k => match k with
 | _ => none, noNL, lookJ []⟩
def Fl.g {α : Type} (mk0 : Bool → α) (n : Nat) (a0_0_0 : Int) (a0_0_1 : Int) (a0_0_2 : LI) (a0_0_3 : LI) (a0_0_4 : LI) (a0_0_5 : LI) (a0_0_6 : Int) (a0_1_0_6 : Int) (a0_1_0_10 : Int) (a0_1_1_0 : LI) (a0_1_1_1 : LI) (a0_1_1_2 : Bool) (a0_1_1_3 : LI) (a0_1_1_4 : LI) (a0_1_1_5 : LI) (a0_1_1_6 : Int) (a0_1_1_7 : Int) (a0_1_1_8 : Int) (a0_1_1_9 : LI) (a0_1_1_10 : LI) (a0_1_1_11 : Bool) (a0_1_1_12 : LI) (a0_1_1_13 : Int) (a0_1_1_14 : Int) (a0_1_1_15 : LI) (a0_1_1_16 : LI) (a0_1_2 : Int) (a0_1_3 : Bool) (a0_1_4 : Bool) (a0_1_5 : LA) (a0_2 : Int) : Option α :=
 if (a0_0_0 != 84) = true then
  if (a0_0_0 != 85) = true then
   some (mk0 false)
  else
   bindO (Faf.m n (a0_1_1_0, a0_1_1_1, a0_1_1_2, a0_1_1_3, a0_1_1_4, a0_1_1_5, a0_1_1_6, a0_1_1_7, a0_1_1_8, a0_1_1_9, a0_1_1_10, a0_1_1_11, a0_1_1_12, a0_1_1_13, a0_1_1_14, a0_1_1_15, a0_1_1_16, a0_1_2)) fun r6 =>
    if (a0_0_2 == a0_1_1_0) = true then
     some (mk0 false)
    else
     if (!a0_1_4) = true then
      bindO (Fad.m n (a0_1_5, a0_1_1_0, a0_0_3)) fun r12 =>
       if r12 = true then
        some (mk0 false)
       else
        if a0_1_3 = true then
         if (a0_0_0 != 84) = true then
          if (!(a0_0_2 == r6.1)) = true then
           bindO (Fad.m n (a0_1_5, r6.1, a0_0_3)) fun r22 =>
            some (mk0 (!r22))
          else
           some (mk0 false)
         else
          some (mk0 false)
        else
         some (mk0 true)
     else
      if a0_1_3 = true then
       if (a0_0_0 != 84) = true then
        if (!(a0_0_2 == r6.1)) = true then
         bindO (Fad.m n (a0_1_5, r6.1, a0_0_3)) fun r18 =>
          some (mk0 (!r18))
        else
         some (mk0 false)
       else
        some (mk0 false)
      else
       some (mk0 true)
 else
  bindO (Faf.m n (a0_1_1_0, a0_1_1_1, a0_1_1_2, a0_1_1_3, a0_1_1_4, a0_1_1_5, a0_1_1_6, a0_1_1_7, a0_1_1_8, a0_1_1_9, a0_1_1_10, a0_1_1_11, a0_1_1_12, a0_1_1_13, a0_1_1_14, a0_1_1_15, a0_1_1_16, a0_1_2)) fun r4 =>
   if (a0_0_2 == a0_1_1_0) = true then
    some (mk0 false)
   else
    if (!a0_1_4) = true then
     bindO (Fad.m n (a0_1_5, a0_1_1_0, a0_0_3)) fun r10 =>
      if r10 = true then
       some (mk0 false)
      else
       if a0_1_3 = true then
        if (a0_0_0 != 84) = true then
         if (!(a0_0_2 == r4.1)) = true then
          bindO (Fad.m n (a0_1_5, r4.1, a0_0_3)) fun r20 =>
           some (mk0 (!r20))
         else
          some (mk0 false)
        else
         some (mk0 false)
       else
        some (mk0 true)
    else
     if a0_1_3 = true then
      if (a0_0_0 != 84) = true then
       if (!(a0_0_2 == r4.1)) = true then
        bindO (Fad.m n (a0_1_5, r4.1, a0_0_3)) fun r16 =>
         some (mk0 (!r16))
       else
        some (mk0 false)
      else
       some (mk0 false)
     else
      some (mk0 true)
def Fl.m (n : Nat) (t : (Int × (Int × (LI × (LI × (LI × (LI × (Int × (Int × (Int × (LI × (LI × (Bool × (LI × (LI × (LI × (Int × (Int × (Int × (LI × (LI × (Bool × (LI × (Int × (Int × (LI × (LI × (Int × (Bool × (Bool × (LA × Int))))))))))))))))))))))))))))))) : Option Bool := Fl.g (fun a0 => a0) n t.1 t.2.1 t.2.2.1 t.2.2.2.1 t.2.2.2.2.1 t.2.2.2.2.2.1 t.2.2.2.2.2.2.1 t.2.2.2.2.2.2.2.1 t.2.2.2.2.2.2.2.2.1 t.2.2.2.2.2.2.2.2.2.1 t.2.2.2.2.2.2.2.2.2.2.1 t.2.2.2.2.2.2.2.2.2.2.2.1 t.2.2.2.2.2.2.2.2.2.2.2.2.1 t.2.2.2.2.2.2.2.2.2.2.2.2.2.1 t.2.2.2.2.2.2.2.2.2.2.2.2.2.2.1 t.2.2.2.2.2.2.2.2.2.2.2.2.2.2.2.1 t.2.2.2.2.2.2.2.2.2.2.2.2.2.2.2.2.1 t.2.2.2.2.2.2.2.2.2.2.2.2.2.2.2.2.2.1 t.2.2.2.2.2.2.2.2.2.2.2.2.2.2.2.2.2.2.1 t.2.2.2.2.2.2.2.2.2.2.2.2.2.2.2.2.2.2.2.1 t.2.2.2.2.2.2.2.2.2.2.2.2.2.2.2.2.2.2.2.2.1 t.2.2.2.2.2.2.2.2.2.2.2.2.2.2.2.2.2.2.2.2.2.1 t.2.2.2.2.2.2.2.2.2.2.2.2.2.2.2.2.2.2.2.2.2.2.1 t.2.2.2.2.2.2.2.2.2.2.2.2.2.2.2.2.2.2.2.2.2.2.2.1 t.2.2.2.2.2.2.2.2.2.2.2.2.2.2.2.2.2.2.2.2.2.2.2.2.1 t.2.2.2.2.2.2.2.2.2.2.2.2.2.2.2.2.2.2.2.2.2.2.2.2.2.1 t.2.2.2.2.2.2.2.2.2.2.2.2.2.2.2.2.2.2.2.2.2.2.2.2.2.2.1 t.2.2.2.2.2.2.2.2.2.2.2.2.2.2.2.2.2.2.2.2.2.2.2.2.2.2.2.1 t.2.2.2.2.2.2.2.2.2.2.2.2.2.2.2.2.2.2.2.2.2.2.2.2.2.2.2.2.1 t.2.2.2.2.2.2.2.2.2.2.2.2.2.2.2.2.2.2.2.2.2.2.2.2.2.2.2.2.2.1 t.2.2.2.2.2.2.2.2.2.2.2.2.2.2.2.2.2.2.2.2.2.2.2.2.2.2.2.2.2.2
def Fl.pat : List AV → Blks → Option (Int × (Int × (LI × (LI × (LI × (LI × (Int × (Int × (Int × (LI × (LI × (Bool × (LI × (LI × (LI × (Int × (Int × (Int × (LI × (LI × (Bool × (LI × (Int × (Int × (LI × (LI × (Int × (Bool × (Bool × (LA × Int))))))))))))))))))))))))))))))
 | [(.agg [(.agg [(.int .u8 a0_0_0), (.int .i64 a0_0_1), (.ints .u8 20 a0_0_2), (.ints .u64 4 a0_0_3), (.ints .u64 4 a0_0_4), (.rints .u8 a0_0_5), (.int .u16 a0_0_6)]), (.rptr (.agg [(.rptr (.agg [.emap, .emap, .emap, .emap, .emap, .emap, (.int .i64 a0_1_0_6), .snil, .snil, .snil, (.int .i64 a0_1_0_10)])), (.agg [(.ints .u8 20 a0_1_1_0), (.ints .u64 4 a0_1_1_1), (.bool a0_1_1_2), (.ints .u8 20 a0_1_1_3), (.rints .u8 a0_1_1_4), (.rints .u8 a0_1_1_5), (.int .u64 a0_1_1_6), (.int .u64 a0_1_1_7), (.int .u64 a0_1_1_8), (.ints .u64 4 a0_1_1_9), (.ints .u64 4 a0_1_1_10), (.bool a0_1_1_11), (.ints .u8 20 a0_1_1_12), (.int .u64 a0_1_1_13), (.int .u64 a0_1_1_14), (.rints .u8 a0_1_1_15), (.rints .u8 a0_1_1_16)]), (.int .u8 a0_1_2), (.bool a0_1_3), (.bool a0_1_4), (.robjs 47 32 a0_1_5)])), (.int .i64 a0_2)])], [] => some (a0_0_0, a0_0_1, a0_0_2, a0_0_3, a0_0_4, a0_0_5, a0_0_6, a0_1_0_6, a0_1_0_10, a0_1_1_0, a0_1_1_1, a0_1_1_2, a0_1_1_3, a0_1_1_4, a0_1_1_5, a0_1_1_6, a0_1_1_7, a0_1_1_8, a0_1_1_9, a0_1_1_10, a0_1_1_11, a0_1_1_12, a0_1_1_13, a0_1_1_14, a0_1_1_15, a0_1_1_16, a0_1_2, a0_1_3, a0_1_4, a0_1_5, a0_2)
 | _, _ => none
def Fl.shape (t : (Int × (Int × (LI × (LI × (LI × (LI × (Int × (Int × (Int × (LI × (LI × (Bool × (LI × (LI × (LI × (Int × (Int × (Int × (LI × (LI × (Bool × (LI × (Int × (Int × (LI × (LI × (Int × (Bool × (Bool × (LA × Int))))))))))))))))))))))))))))))) : List AV × Blks := ([(.agg [(.agg [(.int .u8 t.1), (.int .i64 t.2.1), (.ints .u8 20 t.2.2.1), (.ints .u64 4 t.2.2.2.1), (.ints .u64 4 t.2.2.2.2.1), (.rints .u8 t.2.2.2.2.2.1), (.int .u16 t.2.2.2.2.2.2.1)]), (.rptr (.agg [(.rptr (.agg [.emap, .emap, .emap, .emap, .emap, .emap, (.int .i64 t.2.2.2.2.2.2.2.1), .snil, .snil, .snil, (.int .i64 t.2.2.2.2.2.2.2.2.1)])), (.agg [(.ints .u8 20 t.2.2.2.2.2.2.2.2.2.1), (.ints .u64 4 t.2.2.2.2.2.2.2.2.2.2.1), (.bool t.2.2.2.2.2.2.2.2.2.2.2.1), (.ints .u8 20 t.2.2.2.2.2.2.2.2.2.2.2.2.1), (.rints .u8 t.2.2.2.2.2.2.2.2.2.2.2.2.2.1), (.rints .u8 t.2.2.2.2.2.2.2.2.2.2.2.2.2.2.1), (.int .u64 t.2.2.2.2.2.2.2.2.2.2.2.2.2.2.2.1), (.int .u64 t.2.2.2.2.2.2.2.2.2.2.2.2.2.2.2.2.1), (.int .u64 t.2.2.2.2.2.2.2.2.2.2.2.2.2.2.2.2.2.1), (.ints .u64 4 t.2.2.2.2.2.2.2.2.2.2.2.2.2.2.2.2.2.2.1), (.ints .u64 4 t.2.2.2.2.2.2.2.2.2.2.2.2.2.2.2.2.2.2.2.1), (.bool t.2.2.2.2.2.2.2.2.2.2.2.2.2.2.2.2.2.2.2.2.1), (.ints .u8 20 t.2.2.2.2.2.2.2.2.2.2.2.2.2.2.2.2.2.2.2.2.2.1), (.int .u64 t.2.2.2.2.2.2.2.2.2.2.2.2.2.2.2.2.2.2.2.2.2.2.1), (.int .u64 t.2.2.2.2.2.2.2.2.2.2.2.2.2.2.2.2.2.2.2.2.2.2.2.1), (.rints .u8 t.2.2.2.2.2.2.2.2.2.2.2.2.2.2.2.2.2.2.2.2.2.2.2.2.1), (.rints .u8 t.2.2.2.2.2.2.2.2.2.2.2.2.2.2.2.2.2.2.2.2.2.2.2.2.2.1)]), (.int .u8 t.2.2.2.2.2.2.2.2.2.2.2.2.2.2.2.2.2.2.2.2.2.2.2.2.2.2.1), (.bool t.2.2.2.2.2.2.2.2.2.2.2.2.2.2.2.2.2.2.2.2.2.2.2.2.2.2.2.1), (.bool t.2.2.2.2.2.2.2.2.2.2.2.2.2.2.2.2.2.2.2.2.2.2.2.2.2.2.2.2.1), (.robjs 47 32 t.2.2.2.2.2.2.2.2.2.2.2.2.2.2.2.2.2.2.2.2.2.2.2.2.2.2.2.2.2.1)])), (.int .i64 t.2.2.2.2.2.2.2.2.2.2.2.2.2.2.2.2.2.2.2.2.2.2.2.2.2.2.2.2.2.2)])], [])
def Fl.res : Bool → AV × Blks
 | u => ((.bool u), [])
def Fl.resK {R : Type} (u : Bool) (K : AV → Blks → Option R) : Option R := K (Fl.res u).1 (Fl.res u).2
def Fl.c (n : Nat) : Abs.Callee := .mk' [] [none] Fl.pat (Fl.m n) Fl.resK
end
end
section
noncomputable section
noncomputable def Fm.C (n : Nat) : Ctx := ⟨Tryd.prog, kecG, lookC [(35, Fe.c n), (36, Fh.c n), (37, Fd.c n), (38, Fo.c n), (39, Fr.c n), (40, Fx.c n), (41, Fk.c n), (42, Fl.c n)], fun _ => false⟩
def Fm.jlive : NL := fun k => match k with
 | 20006 => ([5, 2, 1], [6, 2, 1, 5])
 | _ => ([], [])
noncomputable def Fm.jc0 : Code := ((seqsIn (Tryd.f21.body.getD .skip)).filter fun a => jkey a == 20006).getD 0 .skip
def Fm.j20006.g {α : Type} (mk0 : LI → Int → Int → LI → LI → LI → LI → Int → Int → Int → LI → LI → Bool → LI → LI → LI → Int → Int → Int → LI → LI → Bool → LI → Int → Int → LI → LI → Int → Bool → Bool → LA → Int → LI → α) (n : Nat) (x0 : LI) (x1 : Int) (x2 : Int) (x3 : LI) (x4 : LI) (x5 : LI) (x6 : LI) (x7 : Int) (x8 : Int) (x9 : Int) (x10 : LI) (x11 : LI) (x12 : Bool) (x13 : LI) (x14 : LI) (x15 : LI) (x16 : Int) (x17 : Int) (x18 : Int) (x19 : LI) (x20 : LI) (x21 : Bool) (x22 : LI) (x23 : Int) (x24 : Int) (x25 : LI) (x26 : LI) (x27 : Int) (x28 : Bool) (x29 : Bool) (x30 : LA) (x31 : Int) (x32 : LI) : Option α :=
  some (mk0 x0 x1 x2 x3 x4 x5 x6 x7 x8 x9 x10 x11 x12 x13 x14 x15 x16 x17 x18 x19 x20 x21 x22 x23 x24 x25 x26 x27 x28 x29 x30 x31 x32)
def Fm.j20006.m (n : Nat) (t : (LI × (Int × (Int × (LI × (LI × (LI × (LI × (Int × (Int × (Int × (LI × (LI × (Bool × (LI × (LI × (LI × (Int × (Int × (Int × (LI × (LI × (Bool × (LI × (Int × (Int × (LI × (LI × (Int × (Bool × (Bool × (LA × (Int × LI))))))))))))))))))))))))))))))))) : Option (LI × (Int × (Int × (LI × (LI × (LI × (LI × (Int × (Int × (Int × (LI × (LI × (Bool × (LI × (LI × (LI × (Int × (Int × (Int × (LI × (LI × (Bool × (LI × (Int × (Int × (LI × (LI × (Int × (Bool × (Bool × (LA × (Int × LI)))))))))))))))))))))))))))))))) := Fm.j20006.g (fun a0 a1 a2 a3 a4 a5 a6 a7 a8 a9 a10 a11 a12 a13 a14 a15 a16 a17 a18 a19 a20 a21 a22 a23 a24 a25 a26 a27 a28 a29 a30 a31 a32 => (a0, a1, a2, a3, a4, a5, a6, a7, a8, a9, a10, a11, a12, a13, a14, a15, a16, a17, a18, a19, a20, a21, a22, a23, a24, a25, a26, a27, a28, a29, a30, a31, a32)) n t.1 t.2.1 t.2.2.1 t.2.2.2.1 t.2.2.2.2.1 t.2.2.2.2.2.1 t.2.2.2.2.2.2.1 t.2.2.2.2.2.2.2.1 t.2.2.2.2.2.2.2.2.1 t.2.2.2.2.2.2.2.2.2.1 t.2.2.2.2.2.2.2.2.2.2.1 t.2.2.2.2.2.2.2.2.2.2.2.1 t.2.2.2.2.2.2.2.2.2.2.2.2.1 t.2.2.2.2.2.2.2.2.2.2.2.2.2.1 t.2.2.2.2.2.2.2.2.2.2.2.2.2.2.1 t.2.2.2.2.2.2.2.2.2.2.2.2.2.2.2.1 t.2.2.2.2.2.2.2.2.2.2.2.2.2.2.2.2.1 t.2.2.2.2.2.2.2.2.2.2.2.2.2.2.2.2.2.1 t.2.2.2.2.2.2.2.2.2.2.2.2.2.2.2.2.2.2.1 t.2.2.2.2.2.2.2.2.2.2.2.2.2.2.2.2.2.2.2.1 t.2.2.2.2.2.2.2.2.2.2.2.2.2.2.2.2.2.2.2.2.1 t.2.2.2.2.2.2.2.2.2.2.2.2.2.2.2.2.2.2.2.2.2.1 t.2.2.2.2.2.2.2.2.2.2.2.2.2.2.2.2.2.2.2.2.2.2.1 t.2.2.2.2.2.2.2.2.2.2.2.2.2.2.2.2.2.2.2.2.2.2.2.1 t.2.2.2.2.2.2.2.2.2.2.2.2.2.2.2.2.2.2.2.2.2.2.2.2.1 t.2.2.2.2.2.2.2.2.2.2.2.2.2.2.2.2.2.2.2.2.2.2.2.2.2.1 t.2.2.2.2.2.2.2.2.2.2.2.2.2.2.2.2.2.2.2.2.2.2.2.2.2.2.1 t.2.2.2.2.2.2.2.2.2.2.2.2.2.2.2.2.2.2.2.2.2.2.2.2.2.2.2.1 t.2.2.2.2.2.2.2.2.2.2.2.2.2.2.2.2.2.2.2.2.2.2.2.2.2.2.2.2.1 t.2.2.2.2.2.2.2.2.2.2.2.2.2.2.2.2.2.2.2.2.2.2.2.2.2.2.2.2.2.1 t.2.2.2.2.2.2.2.2.2.2.2.2.2.2.2.2.2.2.2.2.2.2.2.2.2.2.2.2.2.2.1 t.2.2.2.2.2.2.2.2.2.2.2.2.2.2.2.2.2.2.2.2.2.2.2.2.2.2.2.2.2.2.2.1 t.2.2.2.2.2.2.2.2.2.2.2.2.2.2.2.2.2.2.2.2.2.2.2.2.2.2.2.2.2.2.2.2
def Fm.j20006.pat : St → Option (LI × (Int × (Int × (LI × (LI × (LI × (LI × (Int × (Int × (Int × (LI × (LI × (Bool × (LI × (LI × (LI × (Int × (Int × (Int × (LI × (LI × (Bool × (LI × (Int × (Int × (LI × (LI × (Int × (Bool × (Bool × (LA × (Int × LI))))))))))))))))))))))))))))))))
 | (St.mk [(.ptr 0 []), (.ptr 1 []), (.rints .i64 x0)] [(some (.var (.own 2 1))), (some (.var (.agg [(.agg [(.int .u8 x1), (.int .i64 x2), (.ints .u8 20 x3), (.ints .u64 4 x4), (.ints .u64 4 x5), (.rints .u8 x6), (.int .u16 x7)]), (.rptr (.agg [(.rptr (.agg [.emap, .emap, .emap, .emap, .emap, .emap, (.int .i64 x8), .snil, .snil, .snil, (.int .i64 x9)])), (.agg [(.ints .u8 20 x10), (.ints .u64 4 x11), (.bool x12), (.ints .u8 20 x13), (.rints .u8 x14), (.rints .u8 x15), (.int .u64 x16), (.int .u64 x17), (.int .u64 x18), (.ints .u64 4 x19), (.ints .u64 4 x20), (.bool x21), (.ints .u8 20 x22), (.int .u64 x23), (.int .u64 x24), (.rints .u8 x25), (.rints .u8 x26)]), (.int .u8 x27), (.bool x28), (.bool x29), (.robjs 47 32 x30)])), (.int .i64 x31)]))), (some (.ints .u8 x32))]) => some (x0, x1, x2, x3, x4, x5, x6, x7, x8, x9, x10, x11, x12, x13, x14, x15, x16, x17, x18, x19, x20, x21, x22, x23, x24, x25, x26, x27, x28, x29, x30, x31, x32)
 | _ => none
def Fm.j20006.shape (t : (LI × (Int × (Int × (LI × (LI × (LI × (LI × (Int × (Int × (Int × (LI × (LI × (Bool × (LI × (LI × (LI × (Int × (Int × (Int × (LI × (LI × (Bool × (LI × (Int × (Int × (LI × (LI × (Int × (Bool × (Bool × (LA × (Int × LI))))))))))))))))))))))))))))))))) : St := (St.mk [(.ptr 0 []), (.ptr 1 []), (.rints .i64 t.1)] [(some (.var (.own 2 1))), (some (.var (.agg [(.agg [(.int .u8 t.2.1), (.int .i64 t.2.2.1), (.ints .u8 20 t.2.2.2.1), (.ints .u64 4 t.2.2.2.2.1), (.ints .u64 4 t.2.2.2.2.2.1), (.rints .u8 t.2.2.2.2.2.2.1), (.int .u16 t.2.2.2.2.2.2.2.1)]), (.rptr (.agg [(.rptr (.agg [.emap, .emap, .emap, .emap, .emap, .emap, (.int .i64 t.2.2.2.2.2.2.2.2.1), .snil, .snil, .snil, (.int .i64 t.2.2.2.2.2.2.2.2.2.1)])), (.agg [(.ints .u8 20 t.2.2.2.2.2.2.2.2.2.2.1), (.ints .u64 4 t.2.2.2.2.2.2.2.2.2.2.2.1), (.bool t.2.2.2.2.2.2.2.2.2.2.2.2.1), (.ints .u8 20 t.2.2.2.2.2.2.2.2.2.2.2.2.2.1), (.rints .u8 t.2.2.2.2.2.2.2.2.2.2.2.2.2.2.1), (.rints .u8 t.2.2.2.2.2.2.2.2.2.2.2.2.2.2.2.1), (.int .u64 t.2.2.2.2.2.2.2.2.2.2.2.2.2.2.2.2.1), (.int .u64 t.2.2.2.2.2.2.2.2.2.2.2.2.2.2.2.2.2.1), (.int .u64 t.2.2.2.2.2.2.2.2.2.2.2.2.2.2.2.2.2.2.1), (.ints .u64 4 t.2.2.2.2.2.2.2.2.2.2.2.2.2.2.2.2.2.2.2.1), (.ints .u64 4 t.2.2.2.2.2.2.2.2.2.2.2.2.2.2.2.2.2.2.2.2.1), (.bool t.2.2.2.2.2.2.2.2.2.2.2.2.2.2.2.2.2.2.2.2.2.1), (.ints .u8 20 t.2.2.2.2.2.2.2.2.2.2.2.2.2.2.2.2.2.2.2.2.2.2.1), (.int .u64 t.2.2.2.2.2.2.2.2.2.2.2.2.2.2.2.2.2.2.2.2.2.2.2.1), (.int .u64 t.2.2.2.2.2.2.2.2.2.2.2.2.2.2.2.2.2.2.2.2.2.2.2.2.1), (.rints .u8 t.2.2.2.2.2.2.2.2.2.2.2.2.2.2.2.2.2.2.2.2.2.2.2.2.2.1), (.rints .u8 t.2.2.2.2.2.2.2.2.2.2.2.2.2.2.2.2.2.2.2.2.2.2.2.2.2.2.1)]), (.int .u8 t.2.2.2.2.2.2.2.2.2.2.2.2.2.2.2.2.2.2.2.2.2.2.2.2.2.2.2.1), (.bool t.2.2.2.2.2.2.2.2.2.2.2.2.2.2.2.2.2.2.2.2.2.2.2.2.2.2.2.2.1), (.bool t.2.2.2.2.2.2.2.2.2.2.2.2.2.2.2.2.2.2.2.2.2.2.2.2.2.2.2.2.2.1), (.robjs 47 32 t.2.2.2.2.2.2.2.2.2.2.2.2.2.2.2.2.2.2.2.2.2.2.2.2.2.2.2.2.2.2.1)])), (.int .i64 t.2.2.2.2.2.2.2.2.2.2.2.2.2.2.2.2.2.2.2.2.2.2.2.2.2.2.2.2.2.2.2.1)]))), (some (.ints .u8 t.2.2.2.2.2.2.2.2.2.2.2.2.2.2.2.2.2.2.2.2.2.2.2.2.2.2.2.2.2.2.2.2))])
def Fm.j20006.res : (LI × (Int × (Int × (LI × (LI × (LI × (LI × (Int × (Int × (Int × (LI × (LI × (Bool × (LI × (LI × (LI × (Int × (Int × (Int × (LI × (LI × (Bool × (LI × (Int × (Int × (LI × (LI × (Int × (Bool × (Bool × (LA × (Int × LI)))))))))))))))))))))))))))))))) → Ex × St
 | u => (.normal, (St.mk [(.fn (.func 35) [] [(.ptr 0 [])]), (.ptr 1 []), (.rints .i64 u.1), (.ptr 0 [])] [(some (.var (.own 2 1))), (some (.var (.agg [(.agg [(.int .u8 u.2.1), (.int .i64 u.2.2.1), (.ints .u8 20 u.2.2.2.1), (.ints .u64 4 u.2.2.2.2.1), (.ints .u64 4 u.2.2.2.2.2.1), (.rints .u8 u.2.2.2.2.2.2.1), (.int .u16 u.2.2.2.2.2.2.2.1)]), (.rptr (.agg [(.rptr (.agg [.emap, .emap, .emap, .emap, .emap, .emap, (.int .i64 u.2.2.2.2.2.2.2.2.1), .snil, .snil, .snil, (.int .i64 u.2.2.2.2.2.2.2.2.2.1)])), (.agg [(.ints .u8 20 u.2.2.2.2.2.2.2.2.2.2.1), (.ints .u64 4 u.2.2.2.2.2.2.2.2.2.2.2.1), (.bool u.2.2.2.2.2.2.2.2.2.2.2.2.1), (.ints .u8 20 u.2.2.2.2.2.2.2.2.2.2.2.2.2.1), (.rints .u8 u.2.2.2.2.2.2.2.2.2.2.2.2.2.2.1), (.rints .u8 u.2.2.2.2.2.2.2.2.2.2.2.2.2.2.2.1), (.int .u64 u.2.2.2.2.2.2.2.2.2.2.2.2.2.2.2.2.1), (.int .u64 u.2.2.2.2.2.2.2.2.2.2.2.2.2.2.2.2.2.1), (.int .u64 u.2.2.2.2.2.2.2.2.2.2.2.2.2.2.2.2.2.2.1), (.ints .u64 4 u.2.2.2.2.2.2.2.2.2.2.2.2.2.2.2.2.2.2.2.1), (.ints .u64 4 u.2.2.2.2.2.2.2.2.2.2.2.2.2.2.2.2.2.2.2.2.1), (.bool u.2.2.2.2.2.2.2.2.2.2.2.2.2.2.2.2.2.2.2.2.2.1), (.ints .u8 20 u.2.2.2.2.2.2.2.2.2.2.2.2.2.2.2.2.2.2.2.2.2.2.1), (.int .u64 u.2.2.2.2.2.2.2.2.2.2.2.2.2.2.2.2.2.2.2.2.2.2.2.1), (.int .u64 u.2.2.2.2.2.2.2.2.2.2.2.2.2.2.2.2.2.2.2.2.2.2.2.2.1), (.rints .u8 u.2.2.2.2.2.2.2.2.2.2.2.2.2.2.2.2.2.2.2.2.2.2.2.2.2.1), (.rints .u8 u.2.2.2.2.2.2.2.2.2.2.2.2.2.2.2.2.2.2.2.2.2.2.2.2.2.2.1)]), (.int .u8 u.2.2.2.2.2.2.2.2.2.2.2.2.2.2.2.2.2.2.2.2.2.2.2.2.2.2.2.1), (.bool u.2.2.2.2.2.2.2.2.2.2.2.2.2.2.2.2.2.2.2.2.2.2.2.2.2.2.2.2.1), (.bool u.2.2.2.2.2.2.2.2.2.2.2.2.2.2.2.2.2.2.2.2.2.2.2.2.2.2.2.2.2.1), (.robjs 47 32 u.2.2.2.2.2.2.2.2.2.2.2.2.2.2.2.2.2.2.2.2.2.2.2.2.2.2.2.2.2.2.1)])), (.int .i64 u.2.2.2.2.2.2.2.2.2.2.2.2.2.2.2.2.2.2.2.2.2.2.2.2.2.2.2.2.2.2.2.1)]))), (some (.ints .u8 u.2.2.2.2.2.2.2.2.2.2.2.2.2.2.2.2.2.2.2.2.2.2.2.2.2.2.2.2.2.2.2.2))]))
def Fm.j20006.resK {R : Type} (u : (LI × (Int × (Int × (LI × (LI × (LI × (LI × (Int × (Int × (Int × (LI × (LI × (Bool × (LI × (LI × (LI × (Int × (Int × (Int × (LI × (LI × (Bool × (LI × (Int × (Int × (LI × (LI × (Int × (Bool × (Bool × (LA × (Int × LI))))))))))))))))))))))))))))))))) (K : Ex → St → Option R) : Option R := K (Fm.j20006.res u).1 (Fm.j20006.res u).2
noncomputable def Fm.A (n : Nat) : Ann := ⟨Tryd.f21.ntmps, 0, noNL, [(1, (.ints .i64)), (5, (.ints .u8))], [(some (.ints .u8))], fun k => match k with
 | _ => none, Fm.jlive, lookJ [(20006, .mk' Fm.j20006.pat (Fm.j20006.m n) Fm.j20006.resK)]⟩
def Fm.g {α : Type} (mk0 : LI → α) (n : Nat) (a0_0_0 : Int) (a0_0_1 : Int) (a0_0_2 : LI) (a0_0_3 : LI) (a0_0_4 : LI) (a0_0_5 : LI) (a0_0_6 : Int) (a0_1_0_6 : Int) (a0_1_0_10 : Int) (a0_1_1_0 : LI) (a0_1_1_1 : LI) (a0_1_1_2 : Bool) (a0_1_1_3 : LI) (a0_1_1_4 : LI) (a0_1_1_5 : LI) (a0_1_1_6 : Int) (a0_1_1_7 : Int) (a0_1_1_8 : Int) (a0_1_1_9 : LI) (a0_1_1_10 : LI) (a0_1_1_11 : Bool) (a0_1_1_12 : LI) (a0_1_1_13 : Int) (a0_1_1_14 : Int) (a0_1_1_15 : LI) (a0_1_1_16 : LI) (a0_1_2 : Int) (a0_1_3 : Bool) (a0_1_4 : Bool) (a0_1_5 : LA) (a0_2 : Int) (a1 : LI) : Option α :=
 if (a0_0_6 == 130) = true then
  some (mk0 [3])
 else
  if (a0_0_6 != 0) = true then
   some (mk0 [])
  else
   bindO (Fm.j20006.m n (a1, a0_0_0, a0_0_1, a0_0_2, a0_0_3, a0_0_4, a0_0_5, a0_0_6, a0_1_0_6, a0_1_0_10, a0_1_1_0, a0_1_1_1, a0_1_1_2, a0_1_1_3, a0_1_1_4, a0_1_1_5, a0_1_1_6, a0_1_1_7, a0_1_1_8, a0_1_1_9, a0_1_1_10, a0_1_1_11, a0_1_1_12, a0_1_1_13, a0_1_1_14, a0_1_1_15, a0_1_1_16, a0_1_2, a0_1_3, a0_1_4, a0_1_5, a0_2, [])) fun r6 =>
    bindO (Fh.m n (r6.2.1, r6.2.2.1, r6.2.2.2.1, r6.2.2.2.2.1, r6.2.2.2.2.2.1, r6.2.2.2.2.2.2.1, r6.2.2.2.2.2.2.2.1, r6.2.2.2.2.2.2.2.2.1, r6.2.2.2.2.2.2.2.2.2.1, r6.2.2.2.2.2.2.2.2.2.2.1, r6.2.2.2.2.2.2.2.2.2.2.2.1, r6.2.2.2.2.2.2.2.2.2.2.2.2.1, r6.2.2.2.2.2.2.2.2.2.2.2.2.2.1, r6.2.2.2.2.2.2.2.2.2.2.2.2.2.2.1, r6.2.2.2.2.2.2.2.2.2.2.2.2.2.2.2.1, r6.2.2.2.2.2.2.2.2.2.2.2.2.2.2.2.2.1, r6.2.2.2.2.2.2.2.2.2.2.2.2.2.2.2.2.2.1, r6.2.2.2.2.2.2.2.2.2.2.2.2.2.2.2.2.2.2.1, r6.2.2.2.2.2.2.2.2.2.2.2.2.2.2.2.2.2.2.2.1, r6.2.2.2.2.2.2.2.2.2.2.2.2.2.2.2.2.2.2.2.2.1, r6.2.2.2.2.2.2.2.2.2.2.2.2.2.2.2.2.2.2.2.2.2.1, r6.2.2.2.2.2.2.2.2.2.2.2.2.2.2.2.2.2.2.2.2.2.2.1, r6.2.2.2.2.2.2.2.2.2.2.2.2.2.2.2.2.2.2.2.2.2.2.2.1, r6.2.2.2.2.2.2.2.2.2.2.2.2.2.2.2.2.2.2.2.2.2.2.2.2.1, r6.2.2.2.2.2.2.2.2.2.2.2.2.2.2.2.2.2.2.2.2.2.2.2.2.2.1, r6.2.2.2.2.2.2.2.2.2.2.2.2.2.2.2.2.2.2.2.2.2.2.2.2.2.2.1, r6.2.2.2.2.2.2.2.2.2.2.2.2.2.2.2.2.2.2.2.2.2.2.2.2.2.2.2.1, r6.2.2.2.2.2.2.2.2.2.2.2.2.2.2.2.2.2.2.2.2.2.2.2.2.2.2.2.2.1, r6.2.2.2.2.2.2.2.2.2.2.2.2.2.2.2.2.2.2.2.2.2.2.2.2.2.2.2.2.2.1, r6.2.2.2.2.2.2.2.2.2.2.2.2.2.2.2.2.2.2.2.2.2.2.2.2.2.2.2.2.2.2.1, r6.2.2.2.2.2.2.2.2.2.2.2.2.2.2.2.2.2.2.2.2.2.2.2.2.2.2.2.2.2.2.2.1)) fun r8 =>
     bindO (Fe.m n (1, r8, r6.2.2.2.2.2.2.2.2.2.2.2.2.2.2.2.2.2.2.2.2.2.2.2.2.2.2.2.2.2.2.2.2)) fun r10 =>
      bindO (Fd.m n (r6.1, r6.2.2.2.2.2.2.2.2.2.2.2.2.2.2.2.2.2.2.2.2.2.2.2.2.2.2.2.2.2.2.2.1)) fun r12 =>
       bindO (Fe.m n (2, r12, r10)) fun r14 =>
        bindO (Fo.m n (r6.2.1, r6.2.2.1, r6.2.2.2.1, r6.2.2.2.2.1, r6.2.2.2.2.2.1, r6.2.2.2.2.2.2.1, r6.2.2.2.2.2.2.2.1, r6.2.2.2.2.2.2.2.2.1, r6.2.2.2.2.2.2.2.2.2.1, r6.2.2.2.2.2.2.2.2.2.2.1, r6.2.2.2.2.2.2.2.2.2.2.2.1, r6.2.2.2.2.2.2.2.2.2.2.2.2.1, r6.2.2.2.2.2.2.2.2.2.2.2.2.2.1, r6.2.2.2.2.2.2.2.2.2.2.2.2.2.2.1, r6.2.2.2.2.2.2.2.2.2.2.2.2.2.2.2.1, r6.2.2.2.2.2.2.2.2.2.2.2.2.2.2.2.2.1, r6.2.2.2.2.2.2.2.2.2.2.2.2.2.2.2.2.2.1, r6.2.2.2.2.2.2.2.2.2.2.2.2.2.2.2.2.2.2.1, r6.2.2.2.2.2.2.2.2.2.2.2.2.2.2.2.2.2.2.2.1, r6.2.2.2.2.2.2.2.2.2.2.2.2.2.2.2.2.2.2.2.2.1, r6.2.2.2.2.2.2.2.2.2.2.2.2.2.2.2.2.2.2.2.2.2.1, r6.2.2.2.2.2.2.2.2.2.2.2.2.2.2.2.2.2.2.2.2.2.2.1, r6.2.2.2.2.2.2.2.2.2.2.2.2.2.2.2.2.2.2.2.2.2.2.2.1, r6.2.2.2.2.2.2.2.2.2.2.2.2.2.2.2.2.2.2.2.2.2.2.2.2.1, r6.2.2.2.2.2.2.2.2.2.2.2.2.2.2.2.2.2.2.2.2.2.2.2.2.2.1, r6.2.2.2.2.2.2.2.2.2.2.2.2.2.2.2.2.2.2.2.2.2.2.2.2.2.2.1, r6.2.2.2.2.2.2.2.2.2.2.2.2.2.2.2.2.2.2.2.2.2.2.2.2.2.2.2.1, r6.2.2.2.2.2.2.2.2.2.2.2.2.2.2.2.2.2.2.2.2.2.2.2.2.2.2.2.2.1, r6.2.2.2.2.2.2.2.2.2.2.2.2.2.2.2.2.2.2.2.2.2.2.2.2.2.2.2.2.2.1, r6.2.2.2.2.2.2.2.2.2.2.2.2.2.2.2.2.2.2.2.2.2.2.2.2.2.2.2.2.2.2.1, r6.2.2.2.2.2.2.2.2.2.2.2.2.2.2.2.2.2.2.2.2.2.2.2.2.2.2.2.2.2.2.2.1)) fun r16 =>
         bindO (Fe.m n (4, r16, r14)) fun r18 =>
          bindO (Fr.m n (r6.2.1, r6.2.2.1, r6.2.2.2.1, r6.2.2.2.2.1, r6.2.2.2.2.2.1, r6.2.2.2.2.2.2.1, r6.2.2.2.2.2.2.2.1, r6.2.2.2.2.2.2.2.2.1, r6.2.2.2.2.2.2.2.2.2.1, r6.2.2.2.2.2.2.2.2.2.2.1, r6.2.2.2.2.2.2.2.2.2.2.2.1, r6.2.2.2.2.2.2.2.2.2.2.2.2.1, r6.2.2.2.2.2.2.2.2.2.2.2.2.2.1, r6.2.2.2.2.2.2.2.2.2.2.2.2.2.2.1, r6.2.2.2.2.2.2.2.2.2.2.2.2.2.2.2.1, r6.2.2.2.2.2.2.2.2.2.2.2.2.2.2.2.2.1, r6.2.2.2.2.2.2.2.2.2.2.2.2.2.2.2.2.2.1, r6.2.2.2.2.2.2.2.2.2.2.2.2.2.2.2.2.2.2.1, r6.2.2.2.2.2.2.2.2.2.2.2.2.2.2.2.2.2.2.2.1, r6.2.2.2.2.2.2.2.2.2.2.2.2.2.2.2.2.2.2.2.2.1, r6.2.2.2.2.2.2.2.2.2.2.2.2.2.2.2.2.2.2.2.2.2.1, r6.2.2.2.2.2.2.2.2.2.2.2.2.2.2.2.2.2.2.2.2.2.2.1, r6.2.2.2.2.2.2.2.2.2.2.2.2.2.2.2.2.2.2.2.2.2.2.2.1, r6.2.2.2.2.2.2.2.2.2.2.2.2.2.2.2.2.2.2.2.2.2.2.2.2.1, r6.2.2.2.2.2.2.2.2.2.2.2.2.2.2.2.2.2.2.2.2.2.2.2.2.2.1, r6.2.2.2.2.2.2.2.2.2.2.2.2.2.2.2.2.2.2.2.2.2.2.2.2.2.2.1, r6.2.2.2.2.2.2.2.2.2.2.2.2.2.2.2.2.2.2.2.2.2.2.2.2.2.2.2.1, r6.2.2.2.2.2.2.2.2.2.2.2.2.2.2.2.2.2.2.2.2.2.2.2.2.2.2.2.2.1, r6.2.2.2.2.2.2.2.2.2.2.2.2.2.2.2.2.2.2.2.2.2.2.2.2.2.2.2.2.2.1, r6.2.2.2.2.2.2.2.2.2.2.2.2.2.2.2.2.2.2.2.2.2.2.2.2.2.2.2.2.2.2.1, r6.2.2.2.2.2.2.2.2.2.2.2.2.2.2.2.2.2.2.2.2.2.2.2.2.2.2.2.2.2.2.2.1)) fun r20 =>
           bindO (Fe.m n (5, r20, r18)) fun r22 =>
            bindO (Fx.m n (r6.2.1, r6.2.2.1, r6.2.2.2.1, r6.2.2.2.2.1, r6.2.2.2.2.2.1, r6.2.2.2.2.2.2.1, r6.2.2.2.2.2.2.2.1, r6.2.2.2.2.2.2.2.2.1, r6.2.2.2.2.2.2.2.2.2.1, r6.2.2.2.2.2.2.2.2.2.2.1, r6.2.2.2.2.2.2.2.2.2.2.2.1, r6.2.2.2.2.2.2.2.2.2.2.2.2.1, r6.2.2.2.2.2.2.2.2.2.2.2.2.2.1, r6.2.2.2.2.2.2.2.2.2.2.2.2.2.2.1, r6.2.2.2.2.2.2.2.2.2.2.2.2.2.2.2.1, r6.2.2.2.2.2.2.2.2.2.2.2.2.2.2.2.2.1, r6.2.2.2.2.2.2.2.2.2.2.2.2.2.2.2.2.2.1, r6.2.2.2.2.2.2.2.2.2.2.2.2.2.2.2.2.2.2.1, r6.2.2.2.2.2.2.2.2.2.2.2.2.2.2.2.2.2.2.2.1, r6.2.2.2.2.2.2.2.2.2.2.2.2.2.2.2.2.2.2.2.2.1, r6.2.2.2.2.2.2.2.2.2.2.2.2.2.2.2.2.2.2.2.2.2.1, r6.2.2.2.2.2.2.2.2.2.2.2.2.2.2.2.2.2.2.2.2.2.2.1, r6.2.2.2.2.2.2.2.2.2.2.2.2.2.2.2.2.2.2.2.2.2.2.2.1, r6.2.2.2.2.2.2.2.2.2.2.2.2.2.2.2.2.2.2.2.2.2.2.2.2.1, r6.2.2.2.2.2.2.2.2.2.2.2.2.2.2.2.2.2.2.2.2.2.2.2.2.2.1, r6.2.2.2.2.2.2.2.2.2.2.2.2.2.2.2.2.2.2.2.2.2.2.2.2.2.2.1, r6.2.2.2.2.2.2.2.2.2.2.2.2.2.2.2.2.2.2.2.2.2.2.2.2.2.2.2.1, r6.2.2.2.2.2.2.2.2.2.2.2.2.2.2.2.2.2.2.2.2.2.2.2.2.2.2.2.2.1, r6.2.2.2.2.2.2.2.2.2.2.2.2.2.2.2.2.2.2.2.2.2.2.2.2.2.2.2.2.2.1, r6.2.2.2.2.2.2.2.2.2.2.2.2.2.2.2.2.2.2.2.2.2.2.2.2.2.2.2.2.2.2.1, r6.2.2.2.2.2.2.2.2.2.2.2.2.2.2.2.2.2.2.2.2.2.2.2.2.2.2.2.2.2.2.2.1)) fun r24 =>
             bindO (Fe.m n (6, r24, r22)) fun r26 =>
              bindO (Fk.m n (r6.2.1, r6.2.2.1, r6.2.2.2.1, r6.2.2.2.2.1, r6.2.2.2.2.2.1, r6.2.2.2.2.2.2.1, r6.2.2.2.2.2.2.2.1, r6.2.2.2.2.2.2.2.2.1, r6.2.2.2.2.2.2.2.2.2.1, r6.2.2.2.2.2.2.2.2.2.2.1, r6.2.2.2.2.2.2.2.2.2.2.2.1, r6.2.2.2.2.2.2.2.2.2.2.2.2.1, r6.2.2.2.2.2.2.2.2.2.2.2.2.2.1, r6.2.2.2.2.2.2.2.2.2.2.2.2.2.2.1, r6.2.2.2.2.2.2.2.2.2.2.2.2.2.2.2.1, r6.2.2.2.2.2.2.2.2.2.2.2.2.2.2.2.2.1, r6.2.2.2.2.2.2.2.2.2.2.2.2.2.2.2.2.2.1, r6.2.2.2.2.2.2.2.2.2.2.2.2.2.2.2.2.2.2.1, r6.2.2.2.2.2.2.2.2.2.2.2.2.2.2.2.2.2.2.2.1, r6.2.2.2.2.2.2.2.2.2.2.2.2.2.2.2.2.2.2.2.2.1, r6.2.2.2.2.2.2.2.2.2.2.2.2.2.2.2.2.2.2.2.2.2.1, r6.2.2.2.2.2.2.2.2.2.2.2.2.2.2.2.2.2.2.2.2.2.2.1, r6.2.2.2.2.2.2.2.2.2.2.2.2.2.2.2.2.2.2.2.2.2.2.2.1, r6.2.2.2.2.2.2.2.2.2.2.2.2.2.2.2.2.2.2.2.2.2.2.2.2.1, r6.2.2.2.2.2.2.2.2.2.2.2.2.2.2.2.2.2.2.2.2.2.2.2.2.2.1, r6.2.2.2.2.2.2.2.2.2.2.2.2.2.2.2.2.2.2.2.2.2.2.2.2.2.2.1, r6.2.2.2.2.2.2.2.2.2.2.2.2.2.2.2.2.2.2.2.2.2.2.2.2.2.2.2.1, r6.2.2.2.2.2.2.2.2.2.2.2.2.2.2.2.2.2.2.2.2.2.2.2.2.2.2.2.2.1, r6.2.2.2.2.2.2.2.2.2.2.2.2.2.2.2.2.2.2.2.2.2.2.2.2.2.2.2.2.2.1, r6.2.2.2.2.2.2.2.2.2.2.2.2.2.2.2.2.2.2.2.2.2.2.2.2.2.2.2.2.2.2.1, r6.2.2.2.2.2.2.2.2.2.2.2.2.2.2.2.2.2.2.2.2.2.2.2.2.2.2.2.2.2.2.2.1)) fun r28 =>
               bindO (Fe.m n (7, r28, r26)) fun r30 =>
                bindO (Fl.m n (r6.2.1, r6.2.2.1, r6.2.2.2.1, r6.2.2.2.2.1, r6.2.2.2.2.2.1, r6.2.2.2.2.2.2.1, r6.2.2.2.2.2.2.2.1, r6.2.2.2.2.2.2.2.2.1, r6.2.2.2.2.2.2.2.2.2.1, r6.2.2.2.2.2.2.2.2.2.2.1, r6.2.2.2.2.2.2.2.2.2.2.2.1, r6.2.2.2.2.2.2.2.2.2.2.2.2.1, r6.2.2.2.2.2.2.2.2.2.2.2.2.2.1, r6.2.2.2.2.2.2.2.2.2.2.2.2.2.2.1, r6.2.2.2.2.2.2.2.2.2.2.2.2.2.2.2.1, r6.2.2.2.2.2.2.2.2.2.2.2.2.2.2.2.2.1, r6.2.2.2.2.2.2.2.2.2.2.2.2.2.2.2.2.2.1, r6.2.2.2.2.2.2.2.2.2.2.2.2.2.2.2.2.2.2.1, r6.2.2.2.2.2.2.2.2.2.2.2.2.2.2.2.2.2.2.2.1, r6.2.2.2.2.2.2.2.2.2.2.2.2.2.2.2.2.2.2.2.2.1, r6.2.2.2.2.2.2.2.2.2.2.2.2.2.2.2.2.2.2.2.2.2.1, r6.2.2.2.2.2.2.2.2.2.2.2.2.2.2.2.2.2.2.2.2.2.2.1, r6.2.2.2.2.2.2.2.2.2.2.2.2.2.2.2.2.2.2.2.2.2.2.2.1, r6.2.2.2.2.2.2.2.2.2.2.2.2.2.2.2.2.2.2.2.2.2.2.2.2.1, r6.2.2.2.2.2.2.2.2.2.2.2.2.2.2.2.2.2.2.2.2.2.2.2.2.2.1, r6.2.2.2.2.2.2.2.2.2.2.2.2.2.2.2.2.2.2.2.2.2.2.2.2.2.2.1, r6.2.2.2.2.2.2.2.2.2.2.2.2.2.2.2.2.2.2.2.2.2.2.2.2.2.2.2.1, r6.2.2.2.2.2.2.2.2.2.2.2.2.2.2.2.2.2.2.2.2.2.2.2.2.2.2.2.2.1, r6.2.2.2.2.2.2.2.2.2.2.2.2.2.2.2.2.2.2.2.2.2.2.2.2.2.2.2.2.2.1, r6.2.2.2.2.2.2.2.2.2.2.2.2.2.2.2.2.2.2.2.2.2.2.2.2.2.2.2.2.2.2.1, r6.2.2.2.2.2.2.2.2.2.2.2.2.2.2.2.2.2.2.2.2.2.2.2.2.2.2.2.2.2.2.2.1)) fun r32 =>
                 bindO (Fe.m n (8, r32, r30)) fun r34 =>
                  some (mk0 r34)
def Fm.m (n : Nat) (t : (Int × (Int × (LI × (LI × (LI × (LI × (Int × (Int × (Int × (LI × (LI × (Bool × (LI × (LI × (LI × (Int × (Int × (Int × (LI × (LI × (Bool × (LI × (Int × (Int × (LI × (LI × (Int × (Bool × (Bool × (LA × (Int × LI)))))))))))))))))))))))))))))))) : Option LI := Fm.g (fun a0 => a0) n t.1 t.2.1 t.2.2.1 t.2.2.2.1 t.2.2.2.2.1 t.2.2.2.2.2.1 t.2.2.2.2.2.2.1 t.2.2.2.2.2.2.2.1 t.2.2.2.2.2.2.2.2.1 t.2.2.2.2.2.2.2.2.2.1 t.2.2.2.2.2.2.2.2.2.2.1 t.2.2.2.2.2.2.2.2.2.2.2.1 t.2.2.2.2.2.2.2.2.2.2.2.2.1 t.2.2.2.2.2.2.2.2.2.2.2.2.2.1 t.2.2.2.2.2.2.2.2.2.2.2.2.2.2.1 t.2.2.2.2.2.2.2.2.2.2.2.2.2.2.2.1 t.2.2.2.2.2.2.2.2.2.2.2.2.2.2.2.2.1 t.2.2.2.2.2.2.2.2.2.2.2.2.2.2.2.2.2.1 t.2.2.2.2.2.2.2.2.2.2.2.2.2.2.2.2.2.2.1 t.2.2.2.2.2.2.2.2.2.2.2.2.2.2.2.2.2.2.2.1 t.2.2.2.2.2.2.2.2.2.2.2.2.2.2.2.2.2.2.2.2.1 t.2.2.2.2.2.2.2.2.2.2.2.2.2.2.2.2.2.2.2.2.2.1 t.2.2.2.2.2.2.2.2.2.2.2.2.2.2.2.2.2.2.2.2.2.2.1 t.2.2.2.2.2.2.2.2.2.2.2.2.2.2.2.2.2.2.2.2.2.2.2.1 t.2.2.2.2.2.2.2.2.2.2.2.2.2.2.2.2.2.2.2.2.2.2.2.2.1 t.2.2.2.2.2.2.2.2.2.2.2.2.2.2.2.2.2.2.2.2.2.2.2.2.2.1 t.2.2.2.2.2.2.2.2.2.2.2.2.2.2.2.2.2.2.2.2.2.2.2.2.2.2.1 t.2.2.2.2.2.2.2.2.2.2.2.2.2.2.2.2.2.2.2.2.2.2.2.2.2.2.2.1 t.2.2.2.2.2.2.2.2.2.2.2.2.2.2.2.2.2.2.2.2.2.2.2.2.2.2.2.2.1 t.2.2.2.2.2.2.2.2.2.2.2.2.2.2.2.2.2.2.2.2.2.2.2.2.2.2.2.2.2.1 t.2.2.2.2.2.2.2.2.2.2.2.2.2.2.2.2.2.2.2.2.2.2.2.2.2.2.2.2.2.2.1 t.2.2.2.2.2.2.2.2.2.2.2.2.2.2.2.2.2.2.2.2.2.2.2.2.2.2.2.2.2.2.2
def Fm.pat : List AV → Blks → Option (Int × (Int × (LI × (LI × (LI × (LI × (Int × (Int × (Int × (LI × (LI × (Bool × (LI × (LI × (LI × (Int × (Int × (Int × (LI × (LI × (Bool × (LI × (Int × (Int × (LI × (LI × (Int × (Bool × (Bool × (LA × (Int × LI)))))))))))))))))))))))))))))))
 | [(.agg [(.agg [(.int .u8 a0_0_0), (.int .i64 a0_0_1), (.ints .u8 20 a0_0_2), (.ints .u64 4 a0_0_3), (.ints .u64 4 a0_0_4), (.rints .u8 a0_0_5), (.int .u16 a0_0_6)]), (.rptr (.agg [(.rptr (.agg [.emap, .emap, .emap, .emap, .emap, .emap, (.int .i64 a0_1_0_6), .snil, .snil, .snil, (.int .i64 a0_1_0_10)])), (.agg [(.ints .u8 20 a0_1_1_0), (.ints .u64 4 a0_1_1_1), (.bool a0_1_1_2), (.ints .u8 20 a0_1_1_3), (.rints .u8 a0_1_1_4), (.rints .u8 a0_1_1_5), (.int .u64 a0_1_1_6), (.int .u64 a0_1_1_7), (.int .u64 a0_1_1_8), (.ints .u64 4 a0_1_1_9), (.ints .u64 4 a0_1_1_10), (.bool a0_1_1_11), (.ints .u8 20 a0_1_1_12), (.int .u64 a0_1_1_13), (.int .u64 a0_1_1_14), (.rints .u8 a0_1_1_15), (.rints .u8 a0_1_1_16)]), (.int .u8 a0_1_2), (.bool a0_1_3), (.bool a0_1_4), (.robjs 47 32 a0_1_5)])), (.int .i64 a0_2)]), (.rints .i64 a1)], [] => some (a0_0_0, a0_0_1, a0_0_2, a0_0_3, a0_0_4, a0_0_5, a0_0_6, a0_1_0_6, a0_1_0_10, a0_1_1_0, a0_1_1_1, a0_1_1_2, a0_1_1_3, a0_1_1_4, a0_1_1_5, a0_1_1_6, a0_1_1_7, a0_1_1_8, a0_1_1_9, a0_1_1_10, a0_1_1_11, a0_1_1_12, a0_1_1_13, a0_1_1_14, a0_1_1_15, a0_1_1_16, a0_1_2, a0_1_3, a0_1_4, a0_1_5, a0_2, a1)
 | _, _ => none
def Fm.shape (t : (Int × (Int × (LI × (LI × (LI × (LI × (Int × (Int × (Int × (LI × (LI × (Bool × (LI × (LI × (LI × (Int × (Int × (Int × (LI × (LI × (Bool × (LI × (Int × (Int × (LI × (LI × (Int × (Bool × (Bool × (LA × (Int × LI)))))))))))))))))))))))))))))))) : List AV × Blks := ([(.agg [(.agg [(.int .u8 t.1), (.int .i64 t.2.1), (.ints .u8 20 t.2.2.1), (.ints .u64 4 t.2.2.2.1), (.ints .u64 4 t.2.2.2.2.1), (.rints .u8 t.2.2.2.2.2.1), (.int .u16 t.2.2.2.2.2.2.1)]), (.rptr (.agg [(.rptr (.agg [.emap, .emap, .emap, .emap, .emap, .emap, (.int .i64 t.2.2.2.2.2.2.2.1), .snil, .snil, .snil, (.int .i64 t.2.2.2.2.2.2.2.2.1)])), (.agg [(.ints .u8 20 t.2.2.2.2.2.2.2.2.2.1), (.ints .u64 4 t.2.2.2.2.2.2.2.2.2.2.1), (.bool t.2.2.2.2.2.2.2.2.2.2.2.1), (.ints .u8 20 t.2.2.2.2.2.2.2.2.2.2.2.2.1), (.rints .u8 t.2.2.2.2.2.2.2.2.2.2.2.2.2.1), (.rints .u8 t.2.2.2.2.2.2.2.2.2.2.2.2.2.2.1), (.int .u64 t.2.2.2.2.2.2.2.2.2.2.2.2.2.2.2.1), (.int .u64 t.2.2.2.2.2.2.2.2.2.2.2.2.2.2.2.2.1), (.int .u64 t.2.2.2.2.2.2.2.2.2.2.2.2.2.2.2.2.2.1), (.ints .u64 4 t.2.2.2.2.2.2.2.2.2.2.2.2.2.2.2.2.2.2.1), (.ints .u64 4 t.2.2.2.2.2.2.2.2.2.2.2.2.2.2.2.2.2.2.2.1), (.bool t.2.2.2.2.2.2.2.2.2.2.2.2.2.2.2.2.2.2.2.2.1), (.ints .u8 20 t.2.2.2.2.2.2.2.2.2.2.2.2.2.2.2.2.2.2.2.2.2.1), (.int .u64 t.2.2.2.2.2.2.2.2.2.2.2.2.2.2.2.2.2.2.2.2.2.2.1), (.int .u64 t.2.2.2.2.2.2.2.2.2.2.2.2.2.2.2.2.2.2.2.2.2.2.2.1), (.rints .u8 t.2.2.2.2.2.2.2.2.2.2.2.2.2.2.2.2.2.2.2.2.2.2.2.2.1), (.rints .u8 t.2.2.2.2.2.2.2.2.2.2.2.2.2.2.2.2.2.2.2.2.2.2.2.2.2.1)]), (.int .u8 t.2.2.2.2.2.2.2.2.2.2.2.2.2.2.2.2.2.2.2.2.2.2.2.2.2.2.1), (.bool t.2.2.2.2.2.2.2.2.2.2.2.2.2.2.2.2.2.2.2.2.2.2.2.2.2.2.2.1), (.bool t.2.2.2.2.2.2.2.2.2.2.2.2.2.2.2.2.2.2.2.2.2.2.2.2.2.2.2.2.1), (.robjs 47 32 t.2.2.2.2.2.2.2.2.2.2.2.2.2.2.2.2.2.2.2.2.2.2.2.2.2.2.2.2.2.1)])), (.int .i64 t.2.2.2.2.2.2.2.2.2.2.2.2.2.2.2.2.2.2.2.2.2.2.2.2.2.2.2.2.2.2.1)]), (.rints .i64 t.2.2.2.2.2.2.2.2.2.2.2.2.2.2.2.2.2.2.2.2.2.2.2.2.2.2.2.2.2.2.2)], [])
def Fm.res : LI → AV × Blks
 | u => ((.own 0 1), [(some (.ints .u8 u))])
def Fm.resK {R : Type} (u : LI) (K : AV → Blks → Option R) : Option R := K (Fm.res u).1 (Fm.res u).2
def Fm.c (n : Nat) : Abs.Callee := .mk' [] [none, (some (.ints .i64))] Fm.pat (Fm.m n) Fm.resK
end
end
