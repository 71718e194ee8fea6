/- What the program's functions compute, as plain functions, each with its proof: the function does just that. Condition: the plain function has an answer. -/
import Derived.Test.YtkknbhapkdgcjaaDoorAbsP1
import Derived.Test.YtkknbhapkdgcjaaDoorProg
import Derived.Test.YtkknbhapkdgcjaaDoorAbsP8
set_option linter.unusedVariables false
set_option linter.unusedSimpArgs false
set_option maxRecDepth 100000
open Go Go.Abs Go.Proofs
set_option autoImplicit true
set_option relaxedAutoImplicit true
noncomputable section
section
namespace Go.Abs
open Go
def kecKeys : List Int := [1, 32898, 9223372036854808714, 9223372039002292224, 32907, 2147483649, 9223372039002292353, 9223372036854808585, 138, 136, 2147516425, 2147483658, 2147516555, 9223372036854775947, 9223372036854808713, 9223372036854808579, 9223372036854808578, 9223372036854775936, 32778, 9223372039002259466, 9223372039002292353, 9223372036854808704, 2147483649, 9223372039002292232]
def kecTo : List Int := [10, 7, 11, 17, 18, 3, 5, 16, 8, 21, 24, 4, 15, 23, 19, 13, 12, 2, 20, 14, 22, 9, 6, 1]
def kecTurns : List Int := [1, 3, 6, 10, 15, 21, 28, 36, 45, 55, 2, 14, 27, 41, 56, 8, 25, 43, 62, 18, 39, 61, 20, 44]
def kecG : Nat → AV := fun g => match g with
 | 0 => .ints .u64 24 kecKeys
 | 1 => .ints .i64 24 kecTo
 | 2 => .ints .i64 24 kecTurns
 | _ => .any
end Go.Abs
abbrev HM : Prop := Go.Proofs.Tryd.prog.follows .mixedOrders = true
end
noncomputable def Fay.C (n : Nat) : Ctx := ⟨Tryd.prog, kecG, lookC [], fun _ => false⟩
def Fay.live : NL := fun k => match k with
 | 3 => ([6, 3, 1], [3])
 | _ => ([], [])
def Fay.l3_0.r {α : Type} (mk0 : LI → α) (n : Nat) (rc : Int → LI → LI → Option α)  (x0 : Int) (x1 x2 : LI) : Option α :=
 if (decide (x0 < 32)) = true then
 if 0 ≤ (IntKind.wrap .i64 (Int.tdiv x0 8)) then
 if (IntKind.wrap .i64 (Int.tdiv x0 8)) < 4 then
 if 0 ≤ (IntKind.wrap .i64 ((Int.tmod x0 8) * 8)) then
 if 0 ≤ (IntKind.wrap .i64 (31 - x0)) then
 if (IntKind.wrap .i64 (31 - x0)) < (x1.length : Int) then
 rc (IntKind.wrap .i64 (x0 + 1)) (List.set x1 (Int.toNat (IntKind.wrap .i64 (31 - x0))) (IntKind.wrap .u8 (ishr .u64 (List.getD x2 (Int.toNat (IntKind.wrap .i64 (Int.tdiv x0 8))) 0) (IntKind.wrap .i64 ((Int.tmod x0 8) * 8))))) x2
 else
 none
 else
 none
 else
 none
 else
 none
 else
 none
 else
 some (mk0 x1)
def Fay.l3_0.g {α : Type} (mk0 : LI → α) (n : Nat) : Nat → Int → LI → LI → Option α
 | 0, _, _, _ => none
 | m + 1, x0, x1, x2 => Fay.l3_0.r mk0 n (fun y0 y1 y2 => Fay.l3_0.g mk0 n m y0 y1 y2)  x0 x1 x2
def Fay.l3_0.m (n m : Nat) (t : (Int × (LI × LI))) : Option LI := Fay.l3_0.g (fun a0 => a0) n m t.1 t.2.1 t.2.2
def Fay.l3_0.pat : St → Option (Int × (LI × LI))
 | (St.mk [(.int .i64 x0), (.own 0 1), (.ptr 1 [])] [(some (.ints .u8 x1)), (some (.var (.ints .u64 4 x2)))]) => some (x0, x1, x2)
 | _ => none
def Fay.l3_0.shape (t : (Int × (LI × LI))) : St := (St.mk [(.int .i64 t.1), (.own 0 1), (.ptr 1 [])] [(some (.ints .u8 t.2.1)), (some (.var (.ints .u64 4 t.2.2)))])
def Fay.l3_0.res : LI → Ex × St
 | u => ((.exit 0), (St.mk [(.own 0 1)] [(some (.ints .u8 u))]))
noncomputable def Fay.A (n : Nat) : Ann := ⟨Tryd.f73.ntmps, 0, Fay.live, [(3, (.ints .u8))], [(some (.ints .u8))], fun k => match k with
 | 3 => some (.mk' Fay.l3_0.pat (Fay.l3_0.m n n) (resKl Fay.l3_0.res))
 | _ => none, noNL, lookJ []⟩
noncomputable def Fay.b0 : Code := (loopsIn (Tryd.f73.body.getD .skip)).getD 0 .skip
def Fay.g {α : Type} (mk0 : LI → α) (n : Nat) (a0 : LI) : Option α :=
 bindO (Fay.l3_0.m n n (0, ([0, 0, 0, 0, 0, 0, 0, 0, 0, 0, 0, 0, 0, 0, 0, 0, 0, 0, 0, 0, 0, 0, 0, 0, 0, 0, 0, 0, 0, 0, 0, 0] : List Int), a0)) fun r2 =>
 some (mk0 r2)
def Fay.m (n : Nat) (t : LI) : Option LI := Fay.g (fun a0 => a0) n t
def Fay.pat : List AV → Blks → Option LI
 | [(.ints .u64 4 a0)], [] => some a0
 | _, _ => none
def Fay.shape (t : LI) : List AV × Blks := ([(.ints .u64 4 t)], [])
def Fay.res : LI → AV × Blks
 | u => ((.own 0 1), [(some (.ints .u8 u))])
def Fay.c (n : Nat) : Abs.Callee := .mk' [] [none] Fay.pat (Fay.m n) (resKof Fay.res)
noncomputable def Fbf.C (n : Nat) : Ctx := ⟨Tryd.prog, kecG, lookC [(73, Fay.c n)], fun _ => false⟩
noncomputable def Fbf.A (n : Nat) : Ann := ⟨Tryd.f71.ntmps, 0, noNL, [], [none], fun k => match k with
 | _ => none, noNL, lookJ []⟩
def Fbf.g {α : Type} (mk0 : LI → α) (n : Nat) (a0 : LI) : Option α :=
 bindO (Fay.m n a0) fun r2 =>
 if 12 ≤ (r2.length : Int) then
 if 20 ≤ (Go.Abs.span (List.length r2) 12 (Option.none)) then
 some (mk0 (List.take 20 (List.drop 12 r2)))
 else
 none
 else
 none
def Fbf.m (n : Nat) (t : LI) : Option LI := Fbf.g (fun a0 => a0) n t
def Fbf.pat : List AV → Blks → Option LI
 | [(.ints .u64 4 a0)], [] => some a0
 | _, _ => none
def Fbf.shape (t : LI) : List AV × Blks := ([(.ints .u64 4 t)], [])
def Fbf.res : LI → AV × Blks
 | u => ((.ints .u8 20 u), [])
def Fbf.c (n : Nat) : Abs.Callee := .mk' [] [none] Fbf.pat (Fbf.m n) (resKof Fbf.res)
noncomputable def Fbg.C (n : Nat) : Ctx := ⟨Tryd.prog, kecG, lookC [], fun _ => false⟩
def Fbg.live : NL := fun k => match k with
 | 4 => ([13, 12, 3, 0, 2], [3, 2])
 | _ => ([], [])
def Fbg.l4_0.r {α : Type} (mk0 : LI → LI → α) (n : Nat) (rc : Int → Int → LI → LI → LI → Option α)  (x0 x1 : Int) (x2 x3 x4 : LI) : Option α :=
 if (decide (x0 < x1)) = true then
 if 0 ≤ (IntKind.wrap .i64 (Int.tdiv x0 8)) then
 if (IntKind.wrap .i64 (Int.tdiv x0 8)) < 4 then
 if 0 ≤ (IntKind.wrap .i64 ((IntKind.wrap .i64 ((x2.length : Int) - 1)) - x0)) then
 if (IntKind.wrap .i64 ((IntKind.wrap .i64 ((x2.length : Int) - 1)) - x0)) < (x2.length : Int) then
 if 0 ≤ (IntKind.wrap .i64 ((Int.tmod x0 8) * 8)) then
 if 0 ≤ (IntKind.wrap .i64 (Int.tdiv x0 8)) then
 if (IntKind.wrap .i64 (Int.tdiv x0 8)) < 4 then
 rc (IntKind.wrap .i64 (x0 + 1)) x1 x2 (List.set x3 (Int.toNat (IntKind.wrap .i64 (Int.tdiv x0 8))) (ibits BinOp.or .u64 (List.getD x3 (Int.toNat (IntKind.wrap .i64 (Int.tdiv x0 8))) 0) (ishl .u64 (IntKind.wrap .u64 (List.getD x2 (Int.toNat (IntKind.wrap .i64 ((IntKind.wrap .i64 ((x2.length : Int) - 1)) - x0))) 0)) (IntKind.wrap .i64 ((Int.tmod x0 8) * 8))))) x4
 else
 none
 else
 none
 else
 none
 else
 none
 else
 none
 else
 none
 else
 none
 else
 some (mk0 x3 x4)
def Fbg.l4_0.g {α : Type} (mk0 : LI → LI → α) (n : Nat) : Nat → Int → Int → LI → LI → LI → Option α
 | 0, _, _, _, _, _ => none
 | m + 1, x0, x1, x2, x3, x4 => Fbg.l4_0.r mk0 n (fun y0 y1 y2 y3 y4 => Fbg.l4_0.g mk0 n m y0 y1 y2 y3 y4)  x0 x1 x2 x3 x4
def Fbg.l4_0.m (n m : Nat) (t : (Int × (Int × (LI × (LI × LI))))) : Option (LI × LI) := Fbg.l4_0.g (fun a0 a1 => (a0, a1)) n m t.1 t.2.1 t.2.2.1 t.2.2.2.1 t.w
def Fbg.l4_0.pat : St → Option (Int × (Int × (LI × (LI × LI))))
 | (St.mk [(.int .i64 x0), (.int .i64 x1), (.ptr 0 []), (.rints .u8 x2), (.ptr 1 [])] [(some (.var (.ints .u64 4 x3))), (some (.var (.ints .u64 4 x4)))]) => some (x0, x1, x2, x3, x4)
 | _ => none
def Fbg.l4_0.shape (t : (Int × (Int × (LI × (LI × LI))))) : St := (St.mk [(.int .i64 t.1), (.int .i64 t.2.1), (.ptr 0 []), (.rints .u8 t.2.2.1), (.ptr 1 [])] [(some (.var (.ints .u64 4 t.2.2.2.1))), (some (.var (.ints .u64 4 t.w)))])
def Fbg.l4_0.res : (LI × LI) → Ex × St
 | u => ((.exit 0), (St.mk [(.ptr 0 []), (.ptr 1 [])] [(some (.var (.ints .u64 4 u.1))), (some (.var (.ints .u64 4 u.2)))]))
noncomputable def Fbg.A (n : Nat) : Ann := ⟨Tryd.f72.ntmps, 0, Fbg.live, [(0, (.ints .u8))], [none], fun k => match k with
 | 4 => some (.mk' Fbg.l4_0.pat (Fbg.l4_0.m n n) (resKl Fbg.l4_0.res))
 | _ => none, noNL, lookJ []⟩
noncomputable def Fbg.b0 : Code := (loopsIn (Tryd.f72.body.getD .skip)).getD 0 .skip
def Fbg.g {α : Type} (mk0 : LI → α) (n : Nat) (a0 : LI) : Option α :=
 if 0 ≤ (if 0 > (IntKind.wrap .i64 ((a0.length : Int) - 32)) then 0 else (IntKind.wrap .i64 ((a0.length : Int) - 32))) then
 if (if 0 > (IntKind.wrap .i64 ((a0.length : Int) - 32)) then 0 else (IntKind.wrap .i64 ((a0.length : Int) - 32))) ≤ (a0.length : Int) then
 bindO (Fbg.l4_0.m n n (0, (((List.length (Go.Abs.cut a0 (Int.toNat (if 0 > (IntKind.wrap .i64 ((a0.length : Int) - 32)) then 0 else (IntKind.wrap .i64 ((a0.length : Int) - 32)))) (Option.none))) : Nat) : Int), (Go.Abs.cut a0 (Int.toNat (if 0 > (IntKind.wrap .i64 ((a0.length : Int) - 32)) then 0 else (IntKind.wrap .i64 ((a0.length : Int) - 32)))) (Option.none)), [0, 0, 0, 0], [0, 0, 0, 0])) fun r6 =>
 some (mk0 r6.1)
 else
 none
 else
 none
def Fbg.m (n : Nat) (t : LI) : Option LI := Fbg.g (fun a0 => a0) n t
def Fbg.pat : List AV → Blks → Option LI
 | [(.rints .u8 a0)], [] => some a0
 | _, _ => none
def Fbg.shape (t : LI) : List AV × Blks := ([(.rints .u8 t)], [])
def Fbg.res : LI → AV × Blks
 | u => ((.ints .u64 4 u), [])
def Fbg.c (n : Nat) : Abs.Callee := .mk' [] [(some (.ints .u8))] Fbg.pat (Fbg.m n) (resKof Fbg.res)
noncomputable def Fbh.C (n : Nat) : Ctx := ⟨Tryd.prog, kecG, lookC [(72, Fbg.c n)], fun _ => false⟩
noncomputable def Fbh.A (n : Nat) : Ann := ⟨Tryd.f57.ntmps, 0, noNL, [], [none], fun k => match k with
 | _ => none, noNL, lookJ []⟩
def Fbh.g {α : Type} (mk0 : LI → α) (n : Nat) (a0 : LI) : Option α :=
 bindO (Fbg.m n (List.take 20 (List.drop 0 a0))) fun r2 =>
 some (mk0 r2)
def Fbh.m (n : Nat) (t : LI) : Option LI := Fbh.g (fun a0 => a0) n t
def Fbh.pat : List AV → Blks → Option LI
 | [(.ints .u8 20 a0)], [] => some a0
 | _, _ => none
def Fbh.shape (t : LI) : List AV × Blks := ([(.ints .u8 20 t)], [])
def Fbh.res : LI → AV × Blks
 | u => ((.ints .u64 4 u), [])
def Fbh.c (n : Nat) : Abs.Callee := .mk' [] [none] Fbh.pat (Fbh.m n) (resKof Fbh.res)
noncomputable def Faz.C (n : Nat) : Ctx := ⟨Tryd.prog, kecG, lookC [], fun _ => false⟩
noncomputable def Faz.A (n : Nat) : Ann := ⟨Tryd.f56.ntmps, 0, noNL, [], [none, none], fun k => match k with
 | _ => none, noNL, lookJ []⟩
def Faz.g {α : Type} (mk0 : Int → Bool → α) (n : Nat) (a0 : LI) : Option α :=
 if ((ibits BinOp.or .u64 (ibits BinOp.or .u64 (List.getD a0 1 0) (List.getD a0 2 0)) (List.getD a0 3 0)) != 0) = true then
 some (mk0 0 false)
 else
 some (mk0 (List.getD a0 0 0) true)
def Faz.m (n : Nat) (t : LI) : Option (Int × Bool) := Faz.g (fun a0 a1 => (a0, a1)) n t
def Faz.pat : List AV → Blks → Option LI
 | [(.ints .u64 4 a0)], [] => some a0
 | _, _ => none
def Faz.shape (t : LI) : List AV × Blks := ([(.ints .u64 4 t)], [])
def Faz.res : (Int × Bool) → AV × Blks
 | u => ((.tup [(.int .u64 u.1), (.bool u.2)]), [])
def Faz.c (n : Nat) : Abs.Callee := .mk' [] [none] Faz.pat (Faz.m n) (resKof Faz.res)
def Fba.m (n : Nat) (t : (Int × (Int × Int))) : Option (Int × Int) := xSub64 t
def Fba.pat : List AV → Blks → Option (Int × (Int × Int))
 | [(.int .u64 a0), (.int .u64 a1), (.int .u64 a2)], [] => some (a0, a1, a2)
 | _, _ => none
def Fba.shape (t : (Int × (Int × Int))) : List AV × Blks := ([(.int .u64 t.1), (.int .u64 t.2.1), (.int .u64 t.2.2)], [])
def Fba.res : (Int × Int) → AV × Blks
 | u => ((.tup [(.int .u64 u.1), (.int .u64 u.2)]), [])
def Fba.c (n : Nat) : Abs.Callee := .mk' [] [none, none, none] Fba.pat (Fba.m n) (resKof Fba.res)
noncomputable def Fbr.C (n : Nat) : Ctx := ⟨Tryd.prog, kecG, lookC [(66, Fba.c n)], fun _ => false⟩
def Fbr.live : NL := fun k => match k with
 | 4 => ([9, 2, 3, 7, 6, 4], [6, 7, 4])
 | _ => ([], [])
def Fbr.l4_0.r {α : Type} (mk0 : Int → LI → LI → α) (n : Nat) (rc : Int → Int → LI → LI → LI → LI → Option α)  (x0 x1 : Int) (x2 x3 : LI) (x4 x5 : LI) : Option α :=
 if (decide (x0 < 4)) = true then
 if 0 ≤ x0 then
 if x0 < 4 then
 if 0 ≤ x0 then
 if x0 < 4 then
 bindO (Fba.m n ((List.getD x2 (Int.toNat x0) 0), (List.getD x3 (Int.toNat x0) 0), x1)) fun r14 =>
 if 0 ≤ x0 then
 if x0 < 4 then
 rc (IntKind.wrap .i64 (x0 + 1)) r14.2 x2 x3 (List.set x4 (Int.toNat x0) r14.1) x5
 else
 none
 else
 none
 else
 none
 else
 none
 else
 none
 else
 none
 else
 some (mk0 x1 x4 x5)
def Fbr.l4_0.g {α : Type} (mk0 : Int → LI → LI → α) (n : Nat) : Nat → Int → Int → LI → LI → LI → LI → Option α
 | 0, _, _, _, _, _, _ => none
 | m + 1, x0, x1, x2, x3, x4, x5 => Fbr.l4_0.r mk0 n (fun y0 y1 y2 y3 y4 y5 => Fbr.l4_0.g mk0 n m y0 y1 y2 y3 y4 y5)  x0 x1 x2 x3 x4 x5
def Fbr.l4_0.m (n m : Nat) (t : (Int × (Int × (LI × (LI × (LI × LI)))))) : Option (Int × (LI × LI)) := Fbr.l4_0.g (fun a0 a1 a2 => (a0, a1, a2)) n m t.1 t.2.1 t.2.2.1 t.2.2.2.1 t.w.1 t.w.2
def Fbr.l4_0.pat : St → Option (Int × (Int × (LI × (LI × (LI × LI)))))
 | (St.mk [(.int .i64 x0), (.ptr 0 []), (.ptr 1 []), (.int .u64 x1), (.ptr 2 []), (.ptr 3 [])] [(some (.var (.ints .u64 4 x2))), (some (.var (.ints .u64 4 x3))), (some (.var (.ints .u64 4 x4))), (some (.var (.ints .u64 4 x5)))]) => some (x0, x1, x2, x3, x4, x5)
 | _ => none
def Fbr.l4_0.shape (t : (Int × (Int × (LI × (LI × (LI × LI)))))) : St := (St.mk [(.int .i64 t.1), (.ptr 0 []), (.ptr 1 []), (.int .u64 t.2.1), (.ptr 2 []), (.ptr 3 [])] [(some (.var (.ints .u64 4 t.2.2.1))), (some (.var (.ints .u64 4 t.2.2.2.1))), (some (.var (.ints .u64 4 t.w.1))), (some (.var (.ints .u64 4 t.w.2)))])
def Fbr.l4_0.res : (Int × (LI × LI)) → Ex × St
 | u => ((.exit 0), (St.mk [(.ptr 0 []), (.int .u64 u.1), (.ptr 1 [])] [(some (.var (.ints .u64 4 u.2.1))), (some (.var (.ints .u64 4 u.2.2)))]))
noncomputable def Fbr.A (n : Nat) : Ann := ⟨Tryd.f46.ntmps, 0, Fbr.live, [], [none, none], fun k => match k with
 | 4 => some (.mk' Fbr.l4_0.pat (Fbr.l4_0.m n n) (resKl Fbr.l4_0.res))
 | _ => none, noNL, lookJ []⟩
noncomputable def Fbr.b0 : Code := (loopsIn (Tryd.f46.body.getD .skip)).getD 0 .skip
def Fbr.g {α : Type} (mk0 : LI → Bool → α) (n : Nat) (a0 a1 : LI) : Option α :=
 bindO (Fbr.l4_0.m n n (0, 0, a0, a1, [0, 0, 0, 0], [0, 0, 0, 0])) fun r2 =>
 some (mk0 r2.2.1 (r2.1 != 0))
def Fbr.m (n : Nat) (t : (LI × LI)) : Option (LI × Bool) := Fbr.g (fun a0 a1 => (a0, a1)) n t.1 t.2
def Fbr.pat : List AV → Blks → Option (LI × LI)
 | [(.ints .u64 4 a0), (.ints .u64 4 a1)], [] => some (a0, a1)
 | _, _ => none
def Fbr.shape (t : (LI × LI)) : List AV × Blks := ([(.ints .u64 4 t.1), (.ints .u64 4 t.2)], [])
def Fbr.res : (LI × Bool) → AV × Blks
 | u => ((.tup [(.ints .u64 4 u.1), (.bool u.2)]), [])
def Fbr.c (n : Nat) : Abs.Callee := .mk' [] [none, none] Fbr.pat (Fbr.m n) (resKof Fbr.res)
noncomputable def Fas.C (n : Nat) : Ctx := ⟨Tryd.prog, kecG, lookC [], fun _ => false⟩
noncomputable def Fas.A (n : Nat) : Ann := ⟨Tryd.f62.ntmps, 0, noNL, [], [none], fun k => match k with
 | _ => none, noNL, lookJ []⟩
def Fas.g {α : Type} (mk0 : Bool → α) (n : Nat) (a0 a1 : LI) : Option α :=
 some (mk0 ((ByteArray.toList (Go.Abs.strOf a0)) == (ByteArray.toList (Go.Abs.strOf a1))))
def Fas.m (n : Nat) (t : (LI × LI)) : Option Bool := Fas.g (fun a0 => a0) n t.1 t.2
def Fas.pat : List AV → Blks → Option (LI × LI)
 | [(.rints .u8 a0), (.rints .u8 a1)], [] => some (a0, a1)
 | _, _ => none
def Fas.shape (t : (LI × LI)) : List AV × Blks := ([(.rints .u8 t.1), (.rints .u8 t.2)], [])
def Fas.res : Bool → AV × Blks
 | u => ((.bool u), [])
def Fas.c (n : Nat) : Abs.Callee := .mk' [] [(some (.ints .u8)), (some (.ints .u8))] Fas.pat (Fas.m n) (resKof Fas.res)
noncomputable def Faf.C (n : Nat) : Ctx := ⟨Tryd.prog, kecG, lookC [(62, Fas.c n)], fun _ => false⟩
noncomputable def Faf.A (n : Nat) : Ann := ⟨Tryd.f77.ntmps, 0, noNL, [], [none], fun k => match k with
 | _ => none, noNL, lookJ []⟩
def Faf.g {α : Type} (mk0 : Bool → α) (n : Nat) (a0 a1 : LI) : Option α :=
 if (decide ((a0.length : Int) ≥ (a1.length : Int))) = true then
 if (a1.length : Int) ≤ (a0.length : Int) then
 bindO (Fas.m n ((Go.Abs.cut a0 0 (Option.some (Int.toNat (a1.length : Int)))), a1)) fun r6 =>
 some (mk0 r6)
 else
 none
 else
 some (mk0 false)
def Faf.m (n : Nat) (t : (LI × LI)) : Option Bool := Faf.g (fun a0 => a0) n t.1 t.2
def Faf.pat : List AV → Blks → Option (LI × LI)
 | [(.rints .u8 a0), (.rints .u8 a1)], [] => some (a0, a1)
 | _, _ => none
def Faf.shape (t : (LI × LI)) : List AV × Blks := ([(.rints .u8 t.1), (.rints .u8 t.2)], [])
def Faf.res : Bool → AV × Blks
 | u => ((.bool u), [])
def Faf.c (n : Nat) : Abs.Callee := .mk' [] [(some (.ints .u8)), (some (.ints .u8))] Faf.pat (Faf.m n) (resKof Faf.res)
noncomputable def Fq.C (n : Nat) : Ctx := ⟨Tryd.prog, kecG, lookC [], fun _ => false⟩
noncomputable def Fq.A (n : Nat) : Ann := ⟨Tryd.f94.ntmps, 0, noNL, [], [none], fun k => match k with
 | _ => none, noNL, lookJ []⟩
def Fq.g {α : Type} (mk0 : Int → α) (n : Nat) (a0 a1 : Int) : Option α :=
 if 0 ≤ (IntKind.wrap .u64 (64 - (ibits BinOp.and .u64 (IntKind.wrap .u64 a1) 63))) then
 some (mk0 (ibits BinOp.or .u64 (ishl .u64 a0 (ibits BinOp.and .u64 (IntKind.wrap .u64 a1) 63)) (ishr .u64 a0 (IntKind.wrap .u64 (64 - (ibits BinOp.and .u64 (IntKind.wrap .u64 a1) 63))))))
 else
 none
def Fq.m (n : Nat) (t : (Int × Int)) : Option Int := Fq.g (fun a0 => a0) n t.1 t.2
def Fq.pat : List AV → Blks → Option (Int × Int)
 | [(.int .u64 a0), (.int .i64 a1)], [] => some (a0, a1)
 | _, _ => none
def Fq.shape (t : (Int × Int)) : List AV × Blks := ([(.int .u64 t.1), (.int .i64 t.2)], [])
def Fq.res : Int → AV × Blks
 | u => ((.int .u64 u), [])
def Fq.c (n : Nat) : Abs.Callee := .mk' [] [none, none] Fq.pat (Fq.m n) (resKof Fq.res)
noncomputable def Fh.C (n : Nat) : Ctx := ⟨Tryd.prog, kecG, lookC [(94, Fq.c n)], fun _ => false⟩
def Fh.live : NL := fun k => match k with
 | 2 => ([7, 6, 2, 0], [0, 2])
 | 7 => ([21, 0, 2], [])
 | _ => ([], [])
def Fh.l2_0.r {α : Type} (mk0 : LI → LI → α) (n : Nat) (rc : Int → LI → LI → Option α)  (x0 : Int) (x1 x2 : LI) : Option α :=
 if (decide (x0 < 25)) = true then
 if 0 ≤ x0 then
 if x0 < 25 then
 if 0 ≤ (Int.tmod x0 5) then
 if (Int.tmod x0 5) < 5 then
 if 0 ≤ (Int.tmod x0 5) then
 if (Int.tmod x0 5) < 5 then
 rc (IntKind.wrap .i64 (x0 + 1)) x1 (List.set x2 (Int.toNat (Int.tmod x0 5)) (ibits BinOp.xor .u64 (List.getD x2 (Int.toNat (Int.tmod x0 5)) 0) (List.getD x1 (Int.toNat x0) 0)))
 else
 none
 else
 none
 else
 none
 else
 none
 else
 none
 else
 none
 else
 some (mk0 x1 x2)
def Fh.l2_0.g {α : Type} (mk0 : LI → LI → α) (n : Nat) : Nat → Int → LI → LI → Option α
 | 0, _, _, _ => none
 | m + 1, x0, x1, x2 => Fh.l2_0.r mk0 n (fun y0 y1 y2 => Fh.l2_0.g mk0 n m y0 y1 y2)  x0 x1 x2
def Fh.l2_0.m (n m : Nat) (t : (Int × (LI × LI))) : Option (LI × LI) := Fh.l2_0.g (fun a0 a1 => (a0, a1)) n m t.1 t.2.1 t.2.2
def Fh.l2_0.pat : St → Option (Int × (LI × LI))
 | (St.mk [(.int .i64 x0), (.ptr 0 []), (.ptr 1 []), (.ptr 0 [])] [(some (.var (.ints .u64 25 x1))), (some (.var (.ints .u64 5 x2)))]) => some (x0, x1, x2)
 | _ => none
def Fh.l2_0.shape (t : (Int × (LI × LI))) : St := (St.mk [(.int .i64 t.1), (.ptr 0 []), (.ptr 1 []), (.ptr 0 [])] [(some (.var (.ints .u64 25 t.2.1))), (some (.var (.ints .u64 5 t.2.2)))])
def Fh.l2_0.res : (LI × LI) → Ex × St
 | u => ((.exit 0), (St.mk [(.ptr 0 []), (.ptr 1 [])] [(some (.var (.ints .u64 25 u.1))), (some (.var (.ints .u64 5 u.2)))]))
def Fh.l7_0.r {α : Type} (mk0 : LI → α) (n : Nat) (rc : Int → LI → LI → Option α)  (x0 : Int) (x1 x2 : LI) : Option α :=
 if (decide (x0 < 25)) = true then
 if 0 ≤ x0 then
 if x0 < 25 then
 if 0 ≤ (Int.tmod (IntKind.wrap .i64 (x0 + 4)) 5) then
 if (Int.tmod (IntKind.wrap .i64 (x0 + 4)) 5) < 5 then
 if 0 ≤ (Int.tmod (IntKind.wrap .i64 (x0 + 1)) 5) then
 if (Int.tmod (IntKind.wrap .i64 (x0 + 1)) 5) < 5 then
 bindO (Fq.m n ((List.getD x2 (Int.toNat (Int.tmod (IntKind.wrap .i64 (x0 + 1)) 5)) 0), 1)) fun r18 =>
 if 0 ≤ x0 then
 if x0 < 25 then
 rc (IntKind.wrap .i64 (x0 + 1)) (List.set x1 (Int.toNat x0) (ibits BinOp.xor .u64 (List.getD x1 (Int.toNat x0) 0) (ibits BinOp.xor .u64 (List.getD x2 (Int.toNat (Int.tmod (IntKind.wrap .i64 (x0 + 4)) 5)) 0) r18))) x2
 else
 none
 else
 none
 else
 none
 else
 none
 else
 none
 else
 none
 else
 none
 else
 none
 else
 some (mk0 x1)
def Fh.l7_0.g {α : Type} (mk0 : LI → α) (n : Nat) : Nat → Int → LI → LI → Option α
 | 0, _, _, _ => none
 | m + 1, x0, x1, x2 => Fh.l7_0.r mk0 n (fun y0 y1 y2 => Fh.l7_0.g mk0 n m y0 y1 y2)  x0 x1 x2
def Fh.l7_0.m (n m : Nat) (t : (Int × (LI × LI))) : Option LI := Fh.l7_0.g (fun a0 => a0) n m t.1 t.2.1 t.2.2
def Fh.l7_0.pat : St → Option (Int × (LI × LI))
 | (St.mk [(.int .i64 x0), (.ptr 0 []), (.ptr 1 [])] [(some (.var (.ints .u64 25 x1))), (some (.var (.ints .u64 5 x2)))]) => some (x0, x1, x2)
 | _ => none
def Fh.l7_0.shape (t : (Int × (LI × LI))) : St := (St.mk [(.int .i64 t.1), (.ptr 0 []), (.ptr 1 [])] [(some (.var (.ints .u64 25 t.2.1))), (some (.var (.ints .u64 5 t.2.2)))])
def Fh.l7_0.res : LI → Ex × St
 | u => ((.exit 2), (St.mk [] [(some (.var (.ints .u64 25 u)))]))
noncomputable def Fh.A (n : Nat) : Ann := ⟨Tryd.f91.ntmps, 1, Fh.live, [], [], fun k => match k with
 | 2 => some (.mk' Fh.l2_0.pat (Fh.l2_0.m n n) (resKl Fh.l2_0.res))
 | 7 => some (.mk' Fh.l7_0.pat (Fh.l7_0.m n n) (resKl Fh.l7_0.res))
 | _ => none, noNL, lookJ []⟩
noncomputable def Fh.b0 : Code := (loopsIn (Tryd.f91.body.getD .skip)).getD 0 .skip
noncomputable def Fh.b1 : Code := (loopsIn (Tryd.f91.body.getD .skip)).getD 1 .skip
def Fh.g {α : Type} (mk0 : LI → α) (n : Nat) (s : LI) : Option α :=
 bindO (Fh.l2_0.m n n (0, s, [0, 0, 0, 0, 0])) fun r2 =>
 bindO (Fh.l7_0.m n n (0, r2.1, r2.2)) fun r4 =>
 some (mk0 r4)
def Fh.m (n : Nat) (t : LI) : Option LI := Fh.g (fun a0 => a0) n t
def Fh.pat : List AV → Blks → Option LI
 | [(.ptr 0 [])], [(some (.var (.ints .u64 25 s)))] => some s
 | _, _ => none
def Fh.shape (t : LI) : List AV × Blks := ([(.ptr 0 [])], [(some (.var (.ints .u64 25 t)))])
def Fh.res : LI → AV × Blks
 | u => ((.tup []), [(some (.var (.ints .u64 25 u)))])
def Fh.c (n : Nat) : Abs.Callee := .mk' [true] [none] Fh.pat (Fh.m n) (resKof Fh.res)
noncomputable def Fr.C (n : Nat) : Ctx := ⟨Tryd.prog, kecG, lookC [(94, Fq.c n)], fun _ => false⟩
def Fr.live : NL := fun k => match k with
 | 2 => ([9, 0, 2], [])
 | _ => ([], [])
def Fr.l2_0.r {α : Type} (mk0 : LI → α) (n : Nat) (rc : Int → Int → LI → Option α)  (x0 x1 : Int) (x2 : LI) : Option α :=
 if (decide (x0 < 24)) = true then
 if 0 ≤ x0 then
 if x0 < 24 then
 if 0 ≤ (List.getD ([10, 7, 11, 17, 18, 3, 5, 16, 8, 21, 24, 4, 15, 23, 19, 13, 12, 2, 20, 14, 22, 9, 6, 1] : List Int) (Int.toNat x0) 0) then
 if (List.getD ([10, 7, 11, 17, 18, 3, 5, 16, 8, 21, 24, 4, 15, 23, 19, 13, 12, 2, 20, 14, 22, 9, 6, 1] : List Int) (Int.toNat x0) 0) < 25 then
 if 0 ≤ x0 then
 if x0 < 24 then
 if 0 ≤ x0 then
 if x0 < 24 then
 bindO (Fq.m n (x1, (List.getD ([1, 3, 6, 10, 15, 21, 28, 36, 45, 55, 2, 14, 27, 41, 56, 8, 25, 43, 62, 18, 39, 61, 20, 44] : List Int) (Int.toNat x0) 0))) fun r22 =>
 if 0 ≤ (List.getD ([10, 7, 11, 17, 18, 3, 5, 16, 8, 21, 24, 4, 15, 23, 19, 13, 12, 2, 20, 14, 22, 9, 6, 1] : List Int) (Int.toNat x0) 0) then
 if (List.getD ([10, 7, 11, 17, 18, 3, 5, 16, 8, 21, 24, 4, 15, 23, 19, 13, 12, 2, 20, 14, 22, 9, 6, 1] : List Int) (Int.toNat x0) 0) < 25 then
 rc (IntKind.wrap .i64 (x0 + 1)) (List.getD x2 (Int.toNat (List.getD ([10, 7, 11, 17, 18, 3, 5, 16, 8, 21, 24, 4, 15, 23, 19, 13, 12, 2, 20, 14, 22, 9, 6, 1] : List Int) (Int.toNat x0) 0)) 0) (List.set x2 (Int.toNat (List.getD ([10, 7, 11, 17, 18, 3, 5, 16, 8, 21, 24, 4, 15, 23, 19, 13, 12, 2, 20, 14, 22, 9, 6, 1] : List Int) (Int.toNat x0) 0)) r22)
 else
 none
 else
 none
 else
 none
 else
 none
 else
 none
 else
 none
 else
 none
 else
 none
 else
 none
 else
 none
 else
 some (mk0 x2)
def Fr.l2_0.g {α : Type} (mk0 : LI → α) (n : Nat) : Nat → Int → Int → LI → Option α
 | 0, _, _, _ => none
 | m + 1, x0, x1, x2 => Fr.l2_0.r mk0 n (fun y0 y1 y2 => Fr.l2_0.g mk0 n m y0 y1 y2)  x0 x1 x2
def Fr.l2_0.m (n m : Nat) (t : (Int × (Int × LI))) : Option LI := Fr.l2_0.g (fun a0 => a0) n m t.1 t.2.1 t.2.2
def Fr.l2_0.pat : St → Option (Int × (Int × LI))
 | (St.mk [(.int .i64 x0), (.ptr 0 []), (.int .u64 x1)] [(some (.var (.ints .u64 25 x2)))]) => some (x0, x1, x2)
 | _ => none
def Fr.l2_0.shape (t : (Int × (Int × LI))) : St := (St.mk [(.int .i64 t.1), (.ptr 0 []), (.int .u64 t.2.1)] [(some (.var (.ints .u64 25 t.2.2)))])
def Fr.l2_0.res : LI → Ex × St
 | u => ((.exit 0), (St.mk [] [(some (.var (.ints .u64 25 u)))]))
noncomputable def Fr.A (n : Nat) : Ann := ⟨Tryd.f92.ntmps, 1, Fr.live, [], [], fun k => match k with
 | 2 => some (.mk' Fr.l2_0.pat (Fr.l2_0.m n n) (resKl Fr.l2_0.res))
 | _ => none, noNL, lookJ []⟩
noncomputable def Fr.b0 : Code := (loopsIn (Tryd.f92.body.getD .skip)).getD 0 .skip
def Fr.g {α : Type} (mk0 : LI → α) (n : Nat) (s : LI) : Option α :=
 bindO (Fr.l2_0.m n n (0, (List.getD s 1 0), s)) fun r2 =>
 some (mk0 r2)
def Fr.m (n : Nat) (t : LI) : Option LI := Fr.g (fun a0 => a0) n t
def Fr.pat : List AV → Blks → Option LI
 | [(.ptr 0 [])], [(some (.var (.ints .u64 25 s)))] => some s
 | _, _ => none
def Fr.shape (t : LI) : List AV × Blks := ([(.ptr 0 [])], [(some (.var (.ints .u64 25 t)))])
def Fr.res : LI → AV × Blks
 | u => ((.tup []), [(some (.var (.ints .u64 25 u)))])
def Fr.c (n : Nat) : Abs.Callee := .mk' [true] [none] Fr.pat (Fr.m n) (resKof Fr.res)
noncomputable def Faa.C (n : Nat) : Ctx := ⟨Tryd.prog, kecG, lookC [], fun _ => false⟩
def Faa.live : NL := fun k => match k with
 | 1 => ([2, 0], [])
 | 5 => ([17, 0, 2, 3], [2, 0])
 | _ => ([], [])
def Faa.l5_0.r {α : Type} (mk0 : Int → LI → α) (n : Nat) (rc : Int → Int → LI → LI → Option α)  (x0 x1 : Int) (x2 x3 : LI) : Option α :=
 if (decide (x0 < 5)) = true then
 if 0 ≤ x0 then
 if x0 < 5 then
 if 0 ≤ (Int.tmod (IntKind.wrap .i64 (x0 + 1)) 5) then
 if (Int.tmod (IntKind.wrap .i64 (x0 + 1)) 5) < 5 then
 if 0 ≤ (Int.tmod (IntKind.wrap .i64 (x0 + 2)) 5) then
 if (Int.tmod (IntKind.wrap .i64 (x0 + 2)) 5) < 5 then
 if 0 ≤ (IntKind.wrap .i64 (x1 + x0)) then
 if (IntKind.wrap .i64 (x1 + x0)) < 25 then
 rc (IntKind.wrap .i64 (x0 + 1)) x1 (List.set x2 (Int.toNat (IntKind.wrap .i64 (x1 + x0))) (ibits BinOp.xor .u64 (List.getD x3 (Int.toNat x0) 0) (ibits BinOp.and .u64 (ibits BinOp.xor .u64 (if false = true then (-1) else 18446744073709551615) (List.getD x3 (Int.toNat (Int.tmod (IntKind.wrap .i64 (x0 + 1)) 5)) 0)) (List.getD x3 (Int.toNat (Int.tmod (IntKind.wrap .i64 (x0 + 2)) 5)) 0)))) x3
 else
 none
 else
 none
 else
 none
 else
 none
 else
 none
 else
 none
 else
 none
 else
 none
 else
 some (mk0 x1 x2)
def Faa.l5_0.g {α : Type} (mk0 : Int → LI → α) (n : Nat) : Nat → Int → Int → LI → LI → Option α
 | 0, _, _, _, _ => none
 | m + 1, x0, x1, x2, x3 => Faa.l5_0.r mk0 n (fun y0 y1 y2 y3 => Faa.l5_0.g mk0 n m y0 y1 y2 y3)  x0 x1 x2 x3
def Faa.l5_0.m (n m : Nat) (t : (Int × (Int × (LI × LI)))) : Option (Int × LI) := Faa.l5_0.g (fun a0 a1 => (a0, a1)) n m t.1 t.2.1 t.2.2.1 t.2.2.2
def Faa.l5_0.pat : St → Option (Int × (Int × (LI × LI)))
 | (St.mk [(.int .i64 x0), (.ptr 0 []), (.int .i64 x1), (.ptr 1 [])] [(some (.var (.ints .u64 25 x2))), (some (.var (.ints .u64 5 x3)))]) => some (x0, x1, x2, x3)
 | _ => none
def Faa.l5_0.shape (t : (Int × (Int × (LI × LI)))) : St := (St.mk [(.int .i64 t.1), (.ptr 0 []), (.int .i64 t.2.1), (.ptr 1 [])] [(some (.var (.ints .u64 25 t.2.2.1))), (some (.var (.ints .u64 5 t.2.2.2)))])
def Faa.l5_0.res : (Int × LI) → Ex × St
 | u => ((.exit 2), (St.mk [(.int .i64 u.1), (.ptr 0 [])] [(some (.var (.ints .u64 25 u.2)))]))
def Faa.l1_0.r {α : Type} (mk0 : LI → α) (n : Nat) (rc : Int → LI → Option α)  (x0 : Int) (x1 : LI) : Option α :=
 if (decide (x0 < 25)) = true then
 if 0 ≤ (IntKind.wrap .i64 (x0 + 5)) then
 if (IntKind.wrap .i64 (x0 + 5)) ≤ 25 then
 if 0 ≤ x0 then
 if x0 ≤ (IntKind.wrap .i64 (x0 + 5)) then
 if 5 ≤ (Go.Abs.span 25 (Int.toNat x0) (Option.some (Int.toNat (IntKind.wrap .i64 (x0 + 5))))) then
 bindO (Faa.l5_0.m n n (0, x0, x1, (List.take 5 (List.drop (Int.toNat x0) x1)))) fun r16 =>
 rc (IntKind.wrap .i64 (r16.1 + 5)) r16.2
 else
 none
 else
 none
 else
 none
 else
 none
 else
 none
 else
 some (mk0 x1)
def Faa.l1_0.g {α : Type} (mk0 : LI → α) (n : Nat) : Nat → Int → LI → Option α
 | 0, _, _ => none
 | m + 1, x0, x1 => Faa.l1_0.r mk0 n (fun y0 y1 => Faa.l1_0.g mk0 n m y0 y1)  x0 x1
def Faa.l1_0.m (n m : Nat) (t : (Int × LI)) : Option LI := Faa.l1_0.g (fun a0 => a0) n m t.1 t.2
def Faa.l1_0.pat : St → Option (Int × LI)
 | (St.mk [(.int .i64 x0), (.ptr 0 [])] [(some (.var (.ints .u64 25 x1)))]) => some (x0, x1)
 | _ => none
def Faa.l1_0.shape (t : (Int × LI)) : St := (St.mk [(.int .i64 t.1), (.ptr 0 [])] [(some (.var (.ints .u64 25 t.2)))])
def Faa.l1_0.res : LI → Ex × St
 | u => ((.exit 0), (St.mk [] [(some (.var (.ints .u64 25 u)))]))
noncomputable def Faa.A (n : Nat) : Ann := ⟨Tryd.f93.ntmps, 1, Faa.live, [], [], fun k => match k with
 | 5 => some (.mk' Faa.l5_0.pat (Faa.l5_0.m n n) (resKl Faa.l5_0.res))
 | 1 => some (.mk' Faa.l1_0.pat (Faa.l1_0.m n n) (resKl Faa.l1_0.res))
 | _ => none, noNL, lookJ []⟩
noncomputable def Faa.b0 : Code := (loopsIn (Tryd.f93.body.getD .skip)).getD 0 .skip
noncomputable def Faa.b1 : Code := (loopsIn (Tryd.f93.body.getD .skip)).getD 1 .skip
def Faa.g {α : Type} (mk0 : LI → α) (n : Nat) (s : LI) : Option α :=
 bindO (Faa.l1_0.m n n (0, s)) fun r2 =>
 some (mk0 r2)
def Faa.m (n : Nat) (t : LI) : Option LI := Faa.g (fun a0 => a0) n t
def Faa.pat : List AV → Blks → Option LI
 | [(.ptr 0 [])], [(some (.var (.ints .u64 25 s)))] => some s
 | _, _ => none
def Faa.shape (t : LI) : List AV × Blks := ([(.ptr 0 [])], [(some (.var (.ints .u64 25 t)))])
def Faa.res : LI → AV × Blks
 | u => ((.tup []), [(some (.var (.ints .u64 25 u)))])
def Faa.c (n : Nat) : Abs.Callee := .mk' [true] [none] Faa.pat (Faa.m n) (resKof Faa.res)
noncomputable def Fab.C (n : Nat) : Ctx := ⟨Tryd.prog, kecG, lookC [(91, Fh.c n), (92, Fr.c n), (93, Faa.c n)], fun _ => false⟩
def Fab.live : NL := fun k => match k with
 | 1 => ([3, 0], [])
 | _ => ([], [])
def Fab.l1_0.r {α : Type} (mk0 : LI → α) (n : Nat) (rc : Int → LI → Option α)  (x0 : Int) (x1 : LI) : Option α :=
 if (decide (x0 < 24)) = true then
 bindO (Fh.m n x1) fun r6 =>
 bindO (Fr.m n r6) fun r8 =>
 bindO (Faa.m n r8) fun r10 =>
 if 0 ≤ x0 then
 if x0 < 24 then
 rc (IntKind.wrap .i64 (x0 + 1)) (List.set r10 0 (ibits BinOp.xor .u64 (List.getD r10 0 0) (List.getD ([1, 32898, 9223372036854808714, 9223372039002292224, 32907, 2147483649, 9223372039002292353, 9223372036854808585, 138, 136, 2147516425, 2147483658, 2147516555, 9223372036854775947, 9223372036854808713, 9223372036854808579, 9223372036854808578, 9223372036854775936, 32778, 9223372039002259466, 9223372039002292353, 9223372036854808704, 2147483649, 9223372039002292232] : List Int) (Int.toNat x0) 0)))
 else
 none
 else
 none
 else
 some (mk0 x1)
def Fab.l1_0.g {α : Type} (mk0 : LI → α) (n : Nat) : Nat → Int → LI → Option α
 | 0, _, _ => none
 | m + 1, x0, x1 => Fab.l1_0.r mk0 n (fun y0 y1 => Fab.l1_0.g mk0 n m y0 y1)  x0 x1
def Fab.l1_0.m (n m : Nat) (t : (Int × LI)) : Option LI := Fab.l1_0.g (fun a0 => a0) n m t.1 t.2
def Fab.l1_0.pat : St → Option (Int × LI)
 | (St.mk [(.int .i64 x0), (.ptr 0 [])] [(some (.var (.ints .u64 25 x1)))]) => some (x0, x1)
 | _ => none
def Fab.l1_0.shape (t : (Int × LI)) : St := (St.mk [(.int .i64 t.1), (.ptr 0 [])] [(some (.var (.ints .u64 25 t.2)))])
def Fab.l1_0.res : LI → Ex × St
 | u => ((.exit 0), (St.mk [] [(some (.var (.ints .u64 25 u)))]))
noncomputable def Fab.A (n : Nat) : Ann := ⟨Tryd.f87.ntmps, 1, Fab.live, [], [], fun k => match k with
 | 1 => some (.mk' Fab.l1_0.pat (Fab.l1_0.m n n) (resKl Fab.l1_0.res))
 | _ => none, noNL, lookJ []⟩
noncomputable def Fab.b0 : Code := (loopsIn (Tryd.f87.body.getD .skip)).getD 0 .skip
def Fab.g {α : Type} (mk0 : LI → α) (n : Nat) (s : LI) : Option α :=
 bindO (Fab.l1_0.m n n (0, s)) fun r2 =>
 some (mk0 r2)
def Fab.m (n : Nat) (t : LI) : Option LI := Fab.g (fun a0 => a0) n t
def Fab.pat : List AV → Blks → Option LI
 | [(.ptr 0 [])], [(some (.var (.ints .u64 25 s)))] => some s
 | _, _ => none
def Fab.shape (t : LI) : List AV × Blks := ([(.ptr 0 [])], [(some (.var (.ints .u64 25 t)))])
def Fab.res : LI → AV × Blks
 | u => ((.tup []), [(some (.var (.ints .u64 25 u)))])
def Fab.c (n : Nat) : Abs.Callee := .mk' [true] [none] Fab.pat (Fab.m n) (resKof Fab.res)
noncomputable def Fs.C (n : Nat) : Ctx := ⟨Tryd.prog, kecG, lookC [(87, Fab.c n)], fun _ => false⟩
def Fs.live : NL := fun k => match k with
 | 1 => ([8, 7, 6, 0], [0])
 | _ => ([], [])
def Fs.l1_0.r {α : Type} (mk0 : LI → α) (n : Nat) (rc : Int → Int → LI → LI → Option α)  (x0 x1 : Int) (x2 x3 : LI) : Option α :=
 if (decide (x0 < x1)) = true then
 if 0 ≤ x0 then
 if x0 < (x2.length : Int) then
 if 0 ≤ (IntKind.wrap .i64 (Int.tdiv x0 8)) then
 if (IntKind.wrap .i64 (Int.tdiv x0 8)) < 25 then
 if 0 ≤ (IntKind.wrap .i64 ((Int.tmod x0 8) * 8)) then
 if 0 ≤ (IntKind.wrap .i64 (Int.tdiv x0 8)) then
 if (IntKind.wrap .i64 (Int.tdiv x0 8)) < 25 then
 rc (IntKind.wrap .i64 (x0 + 1)) x1 x2 (List.set x3 (Int.toNat (IntKind.wrap .i64 (Int.tdiv x0 8))) (ibits BinOp.xor .u64 (List.getD x3 (Int.toNat (IntKind.wrap .i64 (Int.tdiv x0 8))) 0) (ishl .u64 (IntKind.wrap .u64 (List.getD x2 (Int.toNat x0) 0)) (IntKind.wrap .i64 ((Int.tmod x0 8) * 8)))))
 else
 none
 else
 none
 else
 none
 else
 none
 else
 none
 else
 none
 else
 none
 else
 some (mk0 x3)
def Fs.l1_0.g {α : Type} (mk0 : LI → α) (n : Nat) : Nat → Int → Int → LI → LI → Option α
 | 0, _, _, _, _ => none
 | m + 1, x0, x1, x2, x3 => Fs.l1_0.r mk0 n (fun y0 y1 y2 y3 => Fs.l1_0.g mk0 n m y0 y1 y2 y3)  x0 x1 x2 x3
def Fs.l1_0.m (n m : Nat) (t : (Int × (Int × (LI × LI)))) : Option LI := Fs.l1_0.g (fun a0 => a0) n m t.1 t.2.1 t.2.2.1 t.2.2.2
def Fs.l1_0.pat : St → Option (Int × (Int × (LI × LI)))
 | (St.mk [(.int .i64 x0), (.int .i64 x1), (.rints .u8 x2), (.ptr 0 [])] [(some (.var (.ints .u64 25 x3)))]) => some (x0, x1, x2, x3)
 | _ => none
def Fs.l1_0.shape (t : (Int × (Int × (LI × LI)))) : St := (St.mk [(.int .i64 t.1), (.int .i64 t.2.1), (.rints .u8 t.2.2.1), (.ptr 0 [])] [(some (.var (.ints .u64 25 t.2.2.2)))])
def Fs.l1_0.res : LI → Ex × St
 | u => ((.exit 0), (St.mk [(.ptr 0 [])] [(some (.var (.ints .u64 25 u)))]))
noncomputable def Fs.A (n : Nat) : Ann := ⟨Tryd.f83.ntmps, 1, Fs.live, [(6, (.ints .u8))], [], fun k => match k with
 | 1 => some (.mk' Fs.l1_0.pat (Fs.l1_0.m n n) (resKl Fs.l1_0.res))
 | _ => none, noNL, lookJ []⟩
noncomputable def Fs.b0 : Code := (loopsIn (Tryd.f83.body.getD .skip)).getD 0 .skip
def Fs.g {α : Type} (mk0 : LI → α) (n : Nat) (b s : LI) : Option α :=
 bindO (Fs.l1_0.m n n (0, (b.length : Int), b, s)) fun r2 =>
 bindO (Fab.m n r2) fun r4 =>
 some (mk0 r4)
def Fs.m (n : Nat) (t : (LI × LI)) : Option LI := Fs.g (fun a0 => a0) n t.1 t.2
def Fs.pat : List AV → Blks → Option (LI × LI)
 | [(.ptr 0 []), (.rints .u8 b)], [(some (.var (.ints .u64 25 s)))] => some (b, s)
 | _, _ => none
def Fs.shape (t : (LI × LI)) : List AV × Blks := ([(.ptr 0 []), (.rints .u8 t.1)], [(some (.var (.ints .u64 25 t.2)))])
def Fs.res : LI → AV × Blks
 | u => ((.tup []), [(some (.var (.ints .u64 25 u)))])
def Fs.c (n : Nat) : Abs.Callee := .mk' [true, false] [none, (some (.ints .u8))] Fs.pat (Fs.m n) (resKof Fs.res)
noncomputable def Fbb.C (n : Nat) : Ctx := ⟨Tryd.prog, kecG, lookC [(83, Fs.c n), (72, Fbg.c n)], fun _ => false⟩
def Fbb.live : NL := fun k => match k with
 | 2 => ([0, 3, 2], [0, 3, 2])
 | 12 => ([30, 3, 5, 2], [5, 2])
 | _ => ([], [])
def Fbb.l2_0.r {α : Type} (mk0 : LI → LI → LI → α) (n : Nat) (rc : LI → LI → LI → Option α)  (x0 x1 x2 : LI) : Option α :=
 if (decide ((x0.length : Int) ≥ 136)) = true then
 if 136 ≤ (x0.length : Int) then
 bindO (Fs.m n ((Go.Abs.cut x0 0 (Option.some 136)), x1)) fun r8 =>
 if 136 ≤ (x0.length : Int) then
 rc (Go.Abs.cut x0 136 (Option.none)) r8 x2
 else
 none
 else
 none
 else
 some (mk0 x0 x1 x2)
def Fbb.l2_0.g {α : Type} (mk0 : LI → LI → LI → α) (n : Nat) : Nat → LI → LI → LI → Option α
 | 0, _, _, _ => none
 | m + 1, x0, x1, x2 => Fbb.l2_0.r mk0 n (fun y0 y1 y2 => Fbb.l2_0.g mk0 n m y0 y1 y2)  x0 x1 x2
def Fbb.l2_0.m (n m : Nat) (t : (LI × (LI × LI))) : Option (LI × (LI × LI)) := Fbb.l2_0.g (fun a0 a1 a2 => (a0, a1, a2)) n m t.1 t.2.1 t.2.2
def Fbb.l2_0.pat : St → Option (LI × (LI × LI))
 | (St.mk [(.rints .u8 x0), (.ptr 0 []), (.ptr 1 [])] [(some (.var (.ints .u64 25 x1))), (some (.var (.ints .u64 4 x2)))]) => some (x0, x1, x2)
 | _ => none
def Fbb.l2_0.shape (t : (LI × (LI × LI))) : St := (St.mk [(.rints .u8 t.1), (.ptr 0 []), (.ptr 1 [])] [(some (.var (.ints .u64 25 t.2.1))), (some (.var (.ints .u64 4 t.2.2)))])
def Fbb.l2_0.res : (LI × (LI × LI)) → Ex × St
 | u => ((.exit 0), (St.mk [(.rints .u8 u.1), (.ptr 0 []), (.ptr 1 [])] [(some (.var (.ints .u64 25 u.2.1))), (some (.var (.ints .u64 4 u.2.2)))]))
def Fbb.l12_0.r {α : Type} (mk0 : LI → LI → α) (n : Nat) (rc : Int → LI → LI → LI → Option α)  (x0 : Int) (x1 x2 x3 : LI) : Option α :=
 if (decide (x0 < 32)) = true then
 if 0 ≤ (IntKind.wrap .i64 (Int.tdiv x0 8)) then
 if (IntKind.wrap .i64 (Int.tdiv x0 8)) < 25 then
 if 0 ≤ (IntKind.wrap .i64 ((Int.tmod x0 8) * 8)) then
 if 0 ≤ x0 then
 if x0 < 32 then
 rc (IntKind.wrap .i64 (x0 + 1)) x1 (List.set x2 (Int.toNat x0) (IntKind.wrap .u8 (ishr .u64 (List.getD x1 (Int.toNat (IntKind.wrap .i64 (Int.tdiv x0 8))) 0) (IntKind.wrap .i64 ((Int.tmod x0 8) * 8))))) x3
 else
 none
 else
 none
 else
 none
 else
 none
 else
 none
 else
 some (mk0 x2 x3)
def Fbb.l12_0.g {α : Type} (mk0 : LI → LI → α) (n : Nat) : Nat → Int → LI → LI → LI → Option α
 | 0, _, _, _, _ => none
 | m + 1, x0, x1, x2, x3 => Fbb.l12_0.r mk0 n (fun y0 y1 y2 y3 => Fbb.l12_0.g mk0 n m y0 y1 y2 y3)  x0 x1 x2 x3
def Fbb.l12_0.m (n m : Nat) (t : (Int × (LI × (LI × LI)))) : Option (LI × LI) := Fbb.l12_0.g (fun a0 a1 => (a0, a1)) n m t.1 t.2.1 t.2.2.1 t.2.2.2
def Fbb.l12_0.pat : St → Option (Int × (LI × (LI × LI)))
 | (St.mk [(.int .i64 x0), (.ptr 0 []), (.ptr 1 []), (.ptr 2 [])] [(some (.var (.ints .u64 25 x1))), (some (.var (.ints .u8 32 x2))), (some (.var (.ints .u64 4 x3)))]) => some (x0, x1, x2, x3)
 | _ => none
def Fbb.l12_0.shape (t : (Int × (LI × (LI × LI)))) : St := (St.mk [(.int .i64 t.1), (.ptr 0 []), (.ptr 1 []), (.ptr 2 [])] [(some (.var (.ints .u64 25 t.2.1))), (some (.var (.ints .u8 32 t.2.2.1))), (some (.var (.ints .u64 4 t.2.2.2)))])
def Fbb.l12_0.res : (LI × LI) → Ex × St
 | u => ((.exit 2), (St.mk [(.ptr 0 []), (.ptr 1 [])] [(some (.var (.ints .u8 32 u.1))), (some (.var (.ints .u64 4 u.2)))]))
noncomputable def Fbb.A (n : Nat) : Ann := ⟨Tryd.f74.ntmps, 0, Fbb.live, [(0, (.ints .u8))], [none], fun k => match k with
 | 2 => some (.mk' Fbb.l2_0.pat (Fbb.l2_0.m n n) (resKl Fbb.l2_0.res))
 | 12 => some (.mk' Fbb.l12_0.pat (Fbb.l12_0.m n n) (resKl Fbb.l12_0.res))
 | _ => none, noNL, lookJ []⟩
noncomputable def Fbb.b0 : Code := (loopsIn (Tryd.f74.body.getD .skip)).getD 0 .skip
noncomputable def Fbb.b1 : Code := (loopsIn (Tryd.f74.body.getD .skip)).getD 1 .skip
def Fbb.g {α : Type} (mk0 : LI → α) (n : Nat) (a0 : LI) : Option α :=
 bindO (Fbb.l2_0.m n n (a0, ([0, 0, 0, 0, 0, 0, 0, 0, 0, 0, 0, 0, 0, 0, 0, 0, 0, 0, 0, 0, 0, 0, 0, 0, 0] : List Int), [0, 0, 0, 0])) fun r2 =>
 if (((List.length r2.1) : Nat) : Int) < 136 then
 if (((List.length r2.1) : Nat) : Int) < 136 then
 bindO (Fs.m n ((List.take 136 (List.drop 0 (List.set (List.set ([] ++ ((List.take 136 r2.1) ++ (List.drop (0 + (Min.min (List.length r2.1) 136)) ([0, 0, 0, 0, 0, 0, 0, 0, 0, 0, 0, 0, 0, 0, 0, 0, 0, 0, 0, 0, 0, 0, 0, 0, 0, 0, 0, 0, 0, 0, 0, 0, 0, 0, 0, 0, 0, 0, 0, 0, 0, 0, 0, 0, 0, 0, 0, 0, 0, 0, 0, 0, 0, 0, 0, 0, 0, 0, 0, 0, 0, 0, 0, 0, 0, 0, 0, 0, 0, 0, 0, 0, 0, 0, 0, 0, 0, 0, 0, 0, 0, 0, 0, 0, 0, 0, 0, 0, 0, 0, 0, 0, 0, 0, 0, 0, 0, 0, 0, 0, 0, 0, 0, 0, 0, 0, 0, 0, 0, 0, 0, 0, 0, 0, 0, 0, 0, 0, 0, 0, 0, 0, 0, 0, 0, 0, 0, 0, 0, 0, 0, 0, 0, 0, 0, 0] : List Int)))) (Int.toNat (((List.length r2.1) : Nat) : Int)) (ibits BinOp.xor .u8 (List.getD ([] ++ ((List.take 136 r2.1) ++ (List.drop (0 + (Min.min (List.length r2.1) 136)) ([0, 0, 0, 0, 0, 0, 0, 0, 0, 0, 0, 0, 0, 0, 0, 0, 0, 0, 0, 0, 0, 0, 0, 0, 0, 0, 0, 0, 0, 0, 0, 0, 0, 0, 0, 0, 0, 0, 0, 0, 0, 0, 0, 0, 0, 0, 0, 0, 0, 0, 0, 0, 0, 0, 0, 0, 0, 0, 0, 0, 0, 0, 0, 0, 0, 0, 0, 0, 0, 0, 0, 0, 0, 0, 0, 0, 0, 0, 0, 0, 0, 0, 0, 0, 0, 0, 0, 0, 0, 0, 0, 0, 0, 0, 0, 0, 0, 0, 0, 0, 0, 0, 0, 0, 0, 0, 0, 0, 0, 0, 0, 0, 0, 0, 0, 0, 0, 0, 0, 0, 0, 0, 0, 0, 0, 0, 0, 0, 0, 0, 0, 0, 0, 0, 0, 0] : List Int)))) (Int.toNat (((List.length r2.1) : Nat) : Int)) 0) 1)) 135 (ibits BinOp.xor .u8 (List.getD (List.set ([] ++ ((List.take 136 r2.1) ++ (List.drop (0 + (Min.min (List.length r2.1) 136)) ([0, 0, 0, 0, 0, 0, 0, 0, 0, 0, 0, 0, 0, 0, 0, 0, 0, 0, 0, 0, 0, 0, 0, 0, 0, 0, 0, 0, 0, 0, 0, 0, 0, 0, 0, 0, 0, 0, 0, 0, 0, 0, 0, 0, 0, 0, 0, 0, 0, 0, 0, 0, 0, 0, 0, 0, 0, 0, 0, 0, 0, 0, 0, 0, 0, 0, 0, 0, 0, 0, 0, 0, 0, 0, 0, 0, 0, 0, 0, 0, 0, 0, 0, 0, 0, 0, 0, 0, 0, 0, 0, 0, 0, 0, 0, 0, 0, 0, 0, 0, 0, 0, 0, 0, 0, 0, 0, 0, 0, 0, 0, 0, 0, 0, 0, 0, 0, 0, 0, 0, 0, 0, 0, 0, 0, 0, 0, 0, 0, 0, 0, 0, 0, 0, 0, 0] : List Int)))) (Int.toNat (((List.length r2.1) : Nat) : Int)) (ibits BinOp.xor .u8 (List.getD ([] ++ ((List.take 136 r2.1) ++ (List.drop (0 + (Min.min (List.length r2.1) 136)) ([0, 0, 0, 0, 0, 0, 0, 0, 0, 0, 0, 0, 0, 0, 0, 0, 0, 0, 0, 0, 0, 0, 0, 0, 0, 0, 0, 0, 0, 0, 0, 0, 0, 0, 0, 0, 0, 0, 0, 0, 0, 0, 0, 0, 0, 0, 0, 0, 0, 0, 0, 0, 0, 0, 0, 0, 0, 0, 0, 0, 0, 0, 0, 0, 0, 0, 0, 0, 0, 0, 0, 0, 0, 0, 0, 0, 0, 0, 0, 0, 0, 0, 0, 0, 0, 0, 0, 0, 0, 0, 0, 0, 0, 0, 0, 0, 0, 0, 0, 0, 0, 0, 0, 0, 0, 0, 0, 0, 0, 0, 0, 0, 0, 0, 0, 0, 0, 0, 0, 0, 0, 0, 0, 0, 0, 0, 0, 0, 0, 0, 0, 0, 0, 0, 0, 0] : List Int)))) (Int.toNat (((List.length r2.1) : Nat) : Int)) 0) 1)) 135 0) 128)))), r2.2.1)) fun r8 =>
 bindO (Fbb.l12_0.m n n (0, r8, ([0, 0, 0, 0, 0, 0, 0, 0, 0, 0, 0, 0, 0, 0, 0, 0, 0, 0, 0, 0, 0, 0, 0, 0, 0, 0, 0, 0, 0, 0, 0, 0] : List Int), r2.2.2)) fun r10 =>
 bindO (Fbg.m n (List.take 32 (List.drop 0 r10.1))) fun r12 =>
 some (mk0 r12)
 else
 none
 else
 none
def Fbb.m (n : Nat) (t : LI) : Option LI := Fbb.g (fun a0 => a0) n t
def Fbb.pat : List AV → Blks → Option LI
 | [(.rints .u8 a0)], [] => some a0
 | _, _ => none
def Fbb.shape (t : LI) : List AV × Blks := ([(.rints .u8 t)], [])
def Fbb.res : LI → AV × Blks
 | u => ((.ints .u64 4 u), [])
def Fbb.c (n : Nat) : Abs.Callee := .mk' [] [(some (.ints .u8))] Fbb.pat (Fbb.m n) (resKof Fbb.res)
noncomputable def Fan.C (n : Nat) : Ctx := ⟨Tryd.prog, kecG, lookC [(74, Fbb.c n), (73, Fay.c n)], fun _ => false⟩
noncomputable def Fan.A (n : Nat) : Ann := ⟨Tryd.f63.ntmps, 0, noNL, [], [(some (.ints .u8))], fun k => match k with
 | _ => none, noNL, lookJ []⟩
def Fan.g {α : Type} (mk0 : LI → α) (n : Nat) (a0 : ByteArray) : Option α :=
 bindO (Fbb.m n (Go.Abs.bytesOf a0)) fun r2 =>
 bindO (Fay.m n r2) fun r4 =>
 if 4 ≤ (r4.length : Int) then
 some (mk0 (Go.Abs.partL r4 0 (Go.Abs.span (List.length r4) 0 (Option.some 4))))
 else
 none
def Fan.m (n : Nat) (t : ByteArray) : Option LI := Fan.g (fun a0 => a0) n t
def Fan.pat : List AV → Blks → Option ByteArray
 | [(.str a0)], [] => some a0
 | _, _ => none
def Fan.shape (t : ByteArray) : List AV × Blks := ([(.str t)], [])
def Fan.res : LI → AV × Blks
 | u => ((.own 0 1), [(some (.ints .u8 u))])
def Fan.c (n : Nat) : Abs.Callee := .mk' [] [none] Fan.pat (Fan.m n) (resKof Fan.res)
noncomputable def Fag.C (n : Nat) : Ctx := ⟨Tryd.prog, kecG, lookC [(77, Faf.c n), (46, Fbr.c n), (56, Faz.c n)], fun _ => false⟩
noncomputable def Fag.A (n : Nat) : Ann := ⟨Tryd.f76.ntmps, 0, noNL, [], [none], fun k => match k with
 | _ => none, noNL, lookJ []⟩
def Fag.g {α : Type} (mk0 : Bool → α) (n : Nat) (op dp : Int) (se ar : LI) (va da : LI) (fa : Int) (o s : LI) : Option α :=
 if (op != 32) = true then
 some (mk0 false)
 else
 if (fa != 0) = true then
 some (mk0 false)
 else
 bindO (Faf.m n (da, o)) fun r6 =>
 if (!r6) = true then
 some (mk0 false)
 else
 bindO (Fbr.m n (s, va)) fun r10 =>
 bindO (Faz.m n r10.1) fun r12 =>
 if r12.2 = true then
 some (mk0 (decide (r12.1 ≤ 128)))
 else
 some (mk0 false)
def Fag.m (n : Nat) (t : Ty22) : Option Bool := Fag.g (fun a0 => a0) n t.1 t.2.1 t.2.2.1 t.2.2.2.1 t.w.1 t.w.2.1 t.w.2.2.1 t.w.2.2.2.1 t.x
def Fag.pat : List AV → Blks → Option Ty22
 | [(.agg [(.int .u8 op), (.int .i64 dp), (.ints .u8 20 se), (.ints .u64 4 ar), (.ints .u64 4 va), (.rints .u8 da), (.int .u16 fa)]), (.rptr (.rints .u8 o)), (.rptr (.ints .u64 4 s))], [] => some (op, dp, se, ar, va, da, fa, o, s)
 | _, _ => none
def Fag.shape (t : Ty22) : List AV × Blks := ([(.agg [(.int .u8 t.1), (.int .i64 t.2.1), (.ints .u8 20 t.2.2.1), (.ints .u64 4 t.2.2.2.1), (.ints .u64 4 t.w.1), (.rints .u8 t.w.2.1), (.int .u16 t.w.2.2.1)]), (.rptr (.rints .u8 t.w.2.2.2.1)), (.rptr (.ints .u64 4 t.x))], [])
def Fag.res : Bool → AV × Blks
 | u => ((.bool u), [])
def Fag.c (n : Nat) : Abs.Callee := .mk' [] [(some (.agg [none, none, none, none, none, (some (.ints .u8)), none]))] Fag.pat (Fag.m n) (resKof Fag.res)
noncomputable def Fi.C (n : Nat) : Ctx := ⟨Tryd.prog, kecG, lookC [], fun _ => false⟩
noncomputable def Fi.A (n : Nat) : Ann := ⟨Tryd.f54.ntmps, 0, noNL, [], [none], fun k => match k with
 | _ => none, noNL, lookJ []⟩
def Fi.g {α : Type} (mk0 : Bool → α) (n : Nat) (vd vk : Int) (vc wv : LI) (wb ww : LI) (wa : Int) : Option α :=
 if (vd == 245) = true then
 some (mk0 (wa == 0))
 else
 some (mk0 false)
def Fi.m (n : Nat) (t : Ty25) : Option Bool := Fi.g (fun a0 => a0) n t.1 t.2.1 t.2.2.1 t.2.2.2.1 t.w.1 t.w.2.1 t.w.2.2
def Fi.pat : List AV → Blks → Option Ty25
 | [(.agg [(.int .u8 vd), (.int .i64 vk), (.ints .u8 20 vc), (.ints .u64 4 wv), (.ints .u64 4 wb), (.rints .u8 ww), (.int .u16 wa)])], [] => some (vd, vk, vc, wv, wb, ww, wa)
 | _, _ => none
def Fi.shape (t : Ty25) : List AV × Blks := ([(.agg [(.int .u8 t.1), (.int .i64 t.2.1), (.ints .u8 20 t.2.2.1), (.ints .u64 4 t.2.2.2.1), (.ints .u64 4 t.w.1), (.rints .u8 t.w.2.1), (.int .u16 t.w.2.2)])], [])
def Fi.res : Bool → AV × Blks
 | u => ((.bool u), [])
def Fi.c (n : Nat) : Abs.Callee := .mk' [] [(some (.agg [none, none, none, none, none, (some (.ints .u8)), none]))] Fi.pat (Fi.m n) (resKof Fi.res)
noncomputable def Fc.C (n : Nat) : Ctx := ⟨Tryd.prog, kecG, lookC [(54, Fi.c n), (76, Fag.c n)], fun _ => false⟩
def Fc.live : NL := fun k => match k with
 | 2 => ([8, 7, 1, 0], [4])
 | _ => ([], [])
def Fc.l2_0.r {α : Type} (mk0 : Int → α) (mk1 : α) (n : Nat) (rc : Int → Int → LA → Option α)  (x0 x1 : Int) (x2 : LA) : Option α :=
 if (decide (x0 < x1)) = true then
 if 0 ≤ x0 then
 if x0 < (x2.length : Int) then
 bindO (tkAgg 7 (List.getD x2 (Int.toNat x0) AV.any)) fun r10 =>
 bindO (tkInt .u8 (List.getD r10 0 AV.any)) fun r12 =>
 bindO (tkInt .i64 (List.getD r10 1 AV.any)) fun r14 =>
 bindO (tkInts .u8 20 (List.getD r10 2 AV.any)) fun r16 =>
 bindO (tkInts .u64 4 (List.getD r10 3 AV.any)) fun r18 =>
 bindO (tkInts .u64 4 (List.getD r10 4 AV.any)) fun r20 =>
 bindO (tkRints .u8 (List.getD r10 5 AV.any)) fun r22 =>
 bindO (tkInt .u16 (List.getD r10 6 AV.any)) fun r24 =>
 bindO (Fi.m n (r12, r14, r16, r18, r20, r22, r24)) fun r26 =>
 if r26 = true then
 some (mk0 x0)
 else
 rc (IntKind.wrap .i64 (x0 + 1)) x1 x2
 else
 none
 else
 none
 else
 some (mk1)
def Fc.l2_0.g {α : Type} (mk0 : Int → α) (mk1 : α) (n : Nat) : Nat → Int → Int → LA → Option α
 | 0, _, _, _ => none
 | m + 1, x0, x1, x2 => Fc.l2_0.r mk0 mk1 n (fun y0 y1 y2 => Fc.l2_0.g mk0 mk1 n m y0 y1 y2)  x0 x1 x2
def Fc.l2_0.m (n m : Nat) (t : (Int × (Int × LA))) : Option (Int ⊕ Unit) := Fc.l2_0.g (fun a0 => (.inl a0)) (.inr ()) n m t.1 t.2.1 t.2.2
def Fc.l2_0.pat : St → Option (Int × (Int × LA))
 | (St.mk [(.int .i64 x0), (.int .i64 x1), (.fn (.func 54) [] []), (.robjs 47 32 x2)] []) => some (x0, x1, x2)
 | _ => none
def Fc.l2_0.shape (t : (Int × (Int × LA))) : St := (St.mk [(.int .i64 t.1), (.int .i64 t.2.1), (.fn (.func 54) [] []), (.robjs 47 32 t.2.2)] [])
def Fc.l2_0.res : (Int ⊕ Unit) → Ex × St
 | (.inl u) => (.ret, (St.mk [(.int .i64 u)] []))
 | (.inr u) => ((.exit 0), (St.mk [.any] []))
def Fc.l2_0.resK {R : Type} (u : (Int ⊕ Unit)) (K : Ex → St → Option R) : Option R := match u with
 | (.inl u) => (fun p : Ex × St => K p.1 p.2) (.ret, (St.mk [(.int .i64 u)] []))
 | (.inr u) => (fun p : Ex × St => K p.1 p.2) ((.exit 0), (St.mk [.any] []))
noncomputable def Fc.A (n : Nat) : Ann := ⟨Tryd.f53.ntmps, 0, Fc.live, [(0, (.objs 47 32))], [none], fun k => match k with
 | 2 => some (.mk' Fc.l2_0.pat (Fc.l2_0.m n n) Fc.l2_0.resK)
 | _ => none, noNL, lookJ []⟩
noncomputable def Fc.b0 : Code := (loopsIn (Tryd.f53.body.getD .skip)).getD 0 .skip
def Fc.g {α : Type} (mk0 : Int → α) (n : Nat) (l : LA) : Option α :=
 bindO (Fc.l2_0.m n n (0, (l.length : Int), l)) fun r2 => match r2 with
  | (.inl r2) =>
   some (mk0 r2)
  | (.inr r2) =>
   some (mk0 (-1))
def Fc.m (n : Nat) (t : LA) : Option Int := Fc.g (fun a0 => a0) n t
def Fc.pat : List AV → Blks → Option LA
 | [(.robjs 47 32 l), (.fn (.func 54) [] [])], [] => some l
 | _, _ => none
def Fc.shape (t : LA) : List AV × Blks := ([(.robjs 47 32 t), (.fn (.func 54) [] [])], [])
def Fc.res : Int → AV × Blks
 | u => ((.int .i64 u), [])
def Fc.c (n : Nat) : Abs.Callee := .mk' [] [(some (.objs 47 32)), none] Fc.pat (Fc.m n) (resKof Fc.res)
noncomputable def Fd.C (n : Nat) : Ctx := ⟨Tryd.prog, kecG, lookC [(54, Fi.c n), (76, Fag.c n)], fun _ => false⟩
def Fd.live : NL := fun k => match k with
 | 2 => ([8, 7, 1, 0], [4])
 | _ => ([], [])
def Fd.l2_0.r {α : Type} (mk0 : Int → α) (mk1 : α) (n : Nat) (rc : Int → Int → LI → LI → LA → Option α)  (x0 x1 : Int) (x2 x3 : LI) (x4 : LA) : Option α :=
 if (decide (x0 < x1)) = true then
 if 0 ≤ x0 then
 if x0 < (x4.length : Int) then
 bindO (tkAgg 7 (List.getD x4 (Int.toNat x0) AV.any)) fun r10 =>
 bindO (tkInt .u8 (List.getD r10 0 AV.any)) fun r12 =>
 bindO (tkInt .i64 (List.getD r10 1 AV.any)) fun r14 =>
 bindO (tkInts .u8 20 (List.getD r10 2 AV.any)) fun r16 =>
 bindO (tkInts .u64 4 (List.getD r10 3 AV.any)) fun r18 =>
 bindO (tkInts .u64 4 (List.getD r10 4 AV.any)) fun r20 =>
 bindO (tkRints .u8 (List.getD r10 5 AV.any)) fun r22 =>
 bindO (tkInt .u16 (List.getD r10 6 AV.any)) fun r24 =>
 bindO (Fag.m n (r12, r14, r16, r18, r20, r22, r24, x2, x3)) fun r26 =>
 if r26 = true then
 some (mk0 x0)
 else
 rc (IntKind.wrap .i64 (x0 + 1)) x1 x2 x3 x4
 else
 none
 else
 none
 else
 some (mk1)
def Fd.l2_0.g {α : Type} (mk0 : Int → α) (mk1 : α) (n : Nat) : Nat → Int → Int → LI → LI → LA → Option α
 | 0, _, _, _, _, _ => none
 | m + 1, x0, x1, x2, x3, x4 => Fd.l2_0.r mk0 mk1 n (fun y0 y1 y2 y3 y4 => Fd.l2_0.g mk0 mk1 n m y0 y1 y2 y3 y4)  x0 x1 x2 x3 x4
def Fd.l2_0.m (n m : Nat) (t : (Int × (Int × (LI × (LI × LA))))) : Option (Int ⊕ Unit) := Fd.l2_0.g (fun a0 => (.inl a0)) (.inr ()) n m t.1 t.2.1 t.2.2.1 t.2.2.2.1 t.w
def Fd.l2_0.pat : St → Option (Int × (Int × (LI × (LI × LA))))
 | (St.mk [(.int .i64 x0), (.int .i64 x1), (.fn (.func 76) [] [(.rptr (.rints .u8 x2)), (.rptr (.ints .u64 4 x3))]), (.robjs 47 32 x4)] []) => some (x0, x1, x2, x3, x4)
 | _ => none
def Fd.l2_0.shape (t : (Int × (Int × (LI × (LI × LA))))) : St := (St.mk [(.int .i64 t.1), (.int .i64 t.2.1), (.fn (.func 76) [] [(.rptr (.rints .u8 t.2.2.1)), (.rptr (.ints .u64 4 t.2.2.2.1))]), (.robjs 47 32 t.w)] [])
def Fd.l2_0.res : (Int ⊕ Unit) → Ex × St
 | (.inl u) => (.ret, (St.mk [(.int .i64 u)] []))
 | (.inr u) => ((.exit 0), (St.mk [.any] []))
def Fd.l2_0.resK {R : Type} (u : (Int ⊕ Unit)) (K : Ex → St → Option R) : Option R := match u with
 | (.inl u) => (fun p : Ex × St => K p.1 p.2) (.ret, (St.mk [(.int .i64 u)] []))
 | (.inr u) => (fun p : Ex × St => K p.1 p.2) ((.exit 0), (St.mk [.any] []))
noncomputable def Fd.A (n : Nat) : Ann := ⟨Tryd.f53.ntmps, 0, Fd.live, [(0, (.objs 47 32))], [none], fun k => match k with
 | 2 => some (.mk' Fd.l2_0.pat (Fd.l2_0.m n n) Fd.l2_0.resK)
 | _ => none, noNL, lookJ []⟩
noncomputable def Fd.b0 : Code := (loopsIn (Tryd.f53.body.getD .skip)).getD 0 .skip
def Fd.g {α : Type} (mk0 : Int → α) (n : Nat) (l : LA) (o s : LI) : Option α :=
 bindO (Fd.l2_0.m n n (0, (l.length : Int), o, s, l)) fun r2 => match r2 with
  | (.inl r2) =>
   some (mk0 r2)
  | (.inr r2) =>
   some (mk0 (-1))
def Fd.m (n : Nat) (t : (LA × (LI × LI))) : Option Int := Fd.g (fun a0 => a0) n t.1 t.2.1 t.2.2
def Fd.pat : List AV → Blks → Option (LA × (LI × LI))
 | [(.robjs 47 32 l), (.fn (.func 76) [] [(.rptr (.rints .u8 o)), (.rptr (.ints .u64 4 s))])], [] => some (l, o, s)
 | _, _ => none
def Fd.shape (t : (LA × (LI × LI))) : List AV × Blks := ([(.robjs 47 32 t.1), (.fn (.func 76) [] [(.rptr (.rints .u8 t.2.1)), (.rptr (.ints .u64 4 t.2.2))])], [])
def Fd.res : Int → AV × Blks
 | u => ((.int .i64 u), [])
def Fd.c (n : Nat) : Abs.Callee := .mk' [] [(some (.objs 47 32)), none] Fd.pat (Fd.m n) (resKof Fd.res)
section
noncomputable section
def zslicesIndexFuncquaestorapiEventquaestorapiEvent.c (n : Nat) : Abs.Callee := .pick (fun args => match args with | [_, .fn (.func 54) _ _] => true | _ => false) (Fc.c n) (Fd.c n)
end
end
noncomputable def Fb.C (n : Nat) : Ctx := ⟨Tryd.prog, kecG, lookC [(53, zslicesIndexFuncquaestorapiEventquaestorapiEvent.c n), (76, Fag.c n)], fun _ => false⟩
noncomputable def Fb.A (n : Nat) : Ann := ⟨Tryd.f75.ntmps, 0, noNL, [], [none], fun k => match k with
 | _ => none, noNL, lookJ []⟩
def Fb.g {α : Type} (mk0 : Bool → α) (n : Nat) (l : LA) (o s : LI) : Option α :=
 bindO (Fd.m n (l, o, s)) fun r2 =>
 some (mk0 (decide (r2 ≥ 0)))
def Fb.m (n : Nat) (t : (LA × (LI × LI))) : Option Bool := Fb.g (fun a0 => a0) n t.1 t.2.1 t.2.2
def Fb.pat : List AV → Blks → Option (LA × (LI × LI))
 | [(.robjs 47 32 l), (.fn (.func 76) [] [(.rptr (.rints .u8 o)), (.rptr (.ints .u64 4 s))])], [] => some (l, o, s)
 | _, _ => none
def Fb.shape (t : (LA × (LI × LI))) : List AV × Blks := ([(.robjs 47 32 t.1), (.fn (.func 76) [] [(.rptr (.rints .u8 t.2.1)), (.rptr (.ints .u64 4 t.2.2))])], [])
def Fb.res : Bool → AV × Blks
 | u => ((.bool u), [])
def Fb.c (n : Nat) : Abs.Callee := .mk' [] [(some (.objs 47 32)), none] Fb.pat (Fb.m n) (resKof Fb.res)
noncomputable def Fak.C (n : Nat) : Ctx := ⟨Tryd.prog, kecG, lookC [(57, Fbh.c n), (73, Fay.c n), (76, Fag.c n), (75, Fb.c n)], fun t => t == 2000073⟩
noncomputable def Fak.A (n : Nat) : Ann := ⟨Tryd.f64.ntmps, 0, noNL, [], [none], fun k => match k with
 | _ => none, noNL, lookJ []⟩
def Fak.g {α : Type} (mk0 : Bool → α) (n : Nat) (a0 : LA) (a1 a2 : LI) : Option α :=
 bindO (Fbh.m n a1) fun r2 =>
 bindO (Fay.m n r2) fun r4 =>
 bindO (Fbh.m n a1) fun r6 =>
 if (a2 == r6) = true then
 some (mk0 true)
 else
 bindO (Fb.m n (a0, r4, a2)) fun r10 =>
 some (mk0 r10)
def Fak.m (n : Nat) (t : (LA × (LI × LI))) : Option Bool := Fak.g (fun a0 => a0) n t.1 t.2.1 t.2.2
def Fak.pat : List AV → Blks → Option (LA × (LI × LI))
 | [(.robjs 47 32 a0), (.ints .u8 20 a1), (.ints .u64 4 a2)], [] => some (a0, a1, a2)
 | _, _ => none
def Fak.shape (t : (LA × (LI × LI))) : List AV × Blks := ([(.robjs 47 32 t.1), (.ints .u8 20 t.2.1), (.ints .u64 4 t.2.2)], [])
def Fak.res : Bool → AV × Blks
 | u => ((.bool u), [])
def Fak.c (n : Nat) : Abs.Callee := .mk' [] [(some (.objs 47 32)), none, none] Fak.pat (Fak.m n) (resKof Fak.res)
noncomputable def Ff.C (n : Nat) : Ctx := ⟨Tryd.prog, kecG, lookC [], fun _ => false⟩
noncomputable def Ff.A (n : Nat) : Ann := ⟨Tryd.f35.ntmps, 2, noNL, [], [(some (.agg []))], fun k => match k with
 | _ => none, noNL, lookJ []⟩
def Ff.g {α : Type} (mk0 : LI → α) (n : Nat) (r : Int) (b : Bool) (l : LI) : Option α :=
 if b = true then
 if ((((List.length l) + 1) * 1) ≤ 70368744177664 ∧ ((List.length l) + 1) ≤ 9223372036854775807) then
 some (mk0 (l ++ [r]))
 else
 none
 else
 some (mk0 l)
def Ff.m (n : Nat) (t : (Int × (Bool × LI))) : Option LI := Ff.g (fun a0 => a0) n t.1 t.2.1 t.2.2
def Ff.pat : List AV → Blks → Option (Int × (Bool × LI))
 | [(.int .u8 r), (.bool b), (.ptr 0 [])], [(some (.var (.own 1 1))), (some (.ints .u8 l))] => some (r, b, l)
 | _, _ => none
def Ff.shape (t : (Int × (Bool × LI))) : List AV × Blks := ([(.int .u8 t.1), (.bool t.2.1), (.ptr 0 [])], [(some (.var (.own 1 1))), (some (.ints .u8 t.2.2))])
def Ff.res : LI → AV × Blks
 | u => ((.tup []), [(some (.var (.own 2 1))), none, (some (.ints .u8 u))])
def Ff.c (n : Nat) : Abs.Callee := .mk' [false, false, true] [none, none] Ff.pat (Ff.m n) (resKof Ff.res)
noncomputable def Fj.C (n : Nat) : Ctx := ⟨Tryd.prog, kecG, lookC [], fun _ => false⟩
noncomputable def Fj.A (n : Nat) : Ann := ⟨Tryd.f36.ntmps, 0, noNL, [], [none], fun k => match k with
 | _ => none, noNL, lookJ []⟩
def Fj.g {α : Type} (mk0 : Bool → α) (n : Nat) (vb v9 : Int) (vh vg : LI) (vl vm : LI) (vn : Int) (v5 v6 : LA) (v7 v8 : Int) (ve vo : LI) (vp : Bool) (vq vr vs : LI) (vt vu vv : Int) (vw vx : LI) (vy : Bool) (vz : LI) (v0 v1 : Int) (v2 v3 : LI) (vj : Int) (vi v4 : Bool) (vf : LA) (vc : Int) : Option α :=
 if (vb == 50) = true then
 some (mk0 true)
 else
 if (vb == 58) = true then
 some (mk0 true)
 else
 if (vb == 64) = true then
 some (mk0 true)
 else
 if (vb == 65) = true then
 some (mk0 true)
 else
 if (vb == 66) = true then
 some (mk0 true)
 else
 if (vb == 67) = true then
 some (mk0 true)
 else
 if (vb == 68) = true then
 some (mk0 true)
 else
 if (vb == 69) = true then
 some (mk0 true)
 else
 if (vb == 72) = true then
 some (mk0 true)
 else
 if (vb == 255) = true then
 some (mk0 true)
 else
 if (vb == 49) = true then
 some (mk0 (!vi))
 else
 if (vb == 71) = true then
 some (mk0 (!vi))
 else
 some (mk0 false)
def Fj.m (n : Nat) (t : Ty4) : Option Bool := Fj.g (fun a0 => a0) n t.1 t.2.1 t.2.2.1 t.2.2.2.1 t.w.1 t.w.2.1 t.w.2.2.1 t.w.2.2.2.1 t.x.1 t.x.2.1 t.x.2.2.1 t.x.2.2.2.1 t.x.w.1 t.x.w.2.1 t.x.w.2.2.1 t.x.w.2.2.2.1 t.y.1 t.y.2.1 t.y.2.2.1 t.y.2.2.2.1 t.y.w.1 t.y.w.2.1 t.y.w.2.2.1 t.y.w.2.2.2.1 t.y.x.1 t.y.x.2.1 t.y.x.2.2.1 t.y.x.2.2.2.1 t.y.x.w.1 t.y.x.w.2.1 t.y.x.w.2.2.1 t.y.x.w.2.2.2.1 t.y.y
def Fj.pat : List AV → Blks → Option Ty4
 | [(.agg [(.agg [(.int .u8 vb), (.int .i64 v9), (.ints .u8 20 vh), (.ints .u64 4 vg), (.ints .u64 4 vl), (.rints .u8 vm), (.int .u16 vn)]), (.rptr (.agg [(.rptr (.agg [(.rmap v5), (.rmap v6), (.rmap []), (.rmap []), (.rmap []), (.rmap []), (.int .i64 v7), .snil, .snil, .snil, (.int .i64 v8)])), (.agg [(.ints .u8 20 ve), (.ints .u64 4 vo), (.bool vp), (.ints .u8 20 vq), (.rints .u8 vr), (.rints .u8 vs), (.int .u64 vt), (.int .u64 vu), (.int .u64 vv), (.ints .u64 4 vw), (.ints .u64 4 vx), (.bool vy), (.ints .u8 20 vz), (.int .u64 v0), (.int .u64 v1), (.rints .u8 v2), (.rints .u8 v3)]), (.int .u8 vj), (.bool vi), (.bool v4), (.robjs 47 32 vf)])), (.int .i64 vc)])], [] => some (vb, v9, vh, vg, vl, vm, vn, v5, v6, v7, v8, ve, vo, vp, vq, vr, vs, vt, vu, vv, vw, vx, vy, vz, v0, v1, v2, v3, vj, vi, v4, vf, vc)
 | _, _ => none
def Fj.shape (t : Ty4) : List AV × Blks := ([(.agg [(.agg [(.int .u8 t.1), (.int .i64 t.2.1), (.ints .u8 20 t.2.2.1), (.ints .u64 4 t.2.2.2.1), (.ints .u64 4 t.w.1), (.rints .u8 t.w.2.1), (.int .u16 t.w.2.2.1)]), (.rptr (.agg [(.rptr (.agg [(.rmap t.w.2.2.2.1), (.rmap t.x.1), (.rmap []), (.rmap []), (.rmap []), (.rmap []), (.int .i64 t.x.2.1), .snil, .snil, .snil, (.int .i64 t.x.2.2.1)])), (.agg [(.ints .u8 20 t.x.2.2.2.1), (.ints .u64 4 t.x.w.1), (.bool t.x.w.2.1), (.ints .u8 20 t.x.w.2.2.1), (.rints .u8 t.x.w.2.2.2.1), (.rints .u8 t.y.1), (.int .u64 t.y.2.1), (.int .u64 t.y.2.2.1), (.int .u64 t.y.2.2.2.1), (.ints .u64 4 t.y.w.1), (.ints .u64 4 t.y.w.2.1), (.bool t.y.w.2.2.1), (.ints .u8 20 t.y.w.2.2.2.1), (.int .u64 t.y.x.1), (.int .u64 t.y.x.2.1), (.rints .u8 t.y.x.2.2.1), (.rints .u8 t.y.x.2.2.2.1)]), (.int .u8 t.y.x.w.1), (.bool t.y.x.w.2.1), (.bool t.y.x.w.2.2.1), (.robjs 47 32 t.y.x.w.2.2.2.1)])), (.int .i64 t.y.y)])], [])
def Fj.res : Bool → AV × Blks
 | u => ((.bool u), [])
def Fj.c (n : Nat) : Abs.Callee := .mk' [] [none] Fj.pat (Fj.m n) (resKof Fj.res)
noncomputable def Fk.C (n : Nat) : Ctx := ⟨Tryd.prog, kecG, lookC [], fun _ => false⟩
def Fk.live : NL := fun k => match k with
 | 2 => ([8, 7, 1, 0], [4])
 | _ => ([], [])
def Fk.l2_0.r {α : Type} (mk0 : Int → α) (mk1 : α) (n : Nat) (rc : Int → Int → Int → LI → Option α)  (x0 x1 x2 : Int) (x3 : LI) : Option α :=
 if (decide (x0 < x1)) = true then
 if 0 ≤ x0 then
 if x0 < (x3.length : Int) then
 if (x2 == (List.getD x3 (Int.toNat x0) 0)) = true then
 some (mk0 x0)
 else
 rc (IntKind.wrap .i64 (x0 + 1)) x1 x2 x3
 else
 none
 else
 none
 else
 some (mk1)
def Fk.l2_0.g {α : Type} (mk0 : Int → α) (mk1 : α) (n : Nat) : Nat → Int → Int → Int → LI → Option α
 | 0, _, _, _, _ => none
 | m + 1, x0, x1, x2, x3 => Fk.l2_0.r mk0 mk1 n (fun y0 y1 y2 y3 => Fk.l2_0.g mk0 mk1 n m y0 y1 y2 y3)  x0 x1 x2 x3
def Fk.l2_0.m (n m : Nat) (t : (Int × (Int × (Int × LI)))) : Option (Int ⊕ Unit) := Fk.l2_0.g (fun a0 => (.inl a0)) (.inr ()) n m t.1 t.2.1 t.2.2.1 t.2.2.2
def Fk.l2_0.pat : St → Option (Int × (Int × (Int × LI)))
 | (St.mk [(.int .i64 x0), (.int .i64 x1), (.int .i64 x2), (.rints .i64 x3)] []) => some (x0, x1, x2, x3)
 | _ => none
def Fk.l2_0.shape (t : (Int × (Int × (Int × LI)))) : St := (St.mk [(.int .i64 t.1), (.int .i64 t.2.1), (.int .i64 t.2.2.1), (.rints .i64 t.2.2.2)] [])
def Fk.l2_0.res : (Int ⊕ Unit) → Ex × St
 | (.inl u) => (.ret, (St.mk [(.int .i64 u)] []))
 | (.inr u) => ((.exit 0), (St.mk [.any] []))
def Fk.l2_0.resK {R : Type} (u : (Int ⊕ Unit)) (K : Ex → St → Option R) : Option R := match u with
 | (.inl u) => (fun p : Ex × St => K p.1 p.2) (.ret, (St.mk [(.int .i64 u)] []))
 | (.inr u) => (fun p : Ex × St => K p.1 p.2) ((.exit 0), (St.mk [.any] []))
noncomputable def Fk.A (n : Nat) : Ann := ⟨Tryd.f52.ntmps, 0, Fk.live, [(0, (.ints .i64))], [none], fun k => match k with
 | 2 => some (.mk' Fk.l2_0.pat (Fk.l2_0.m n n) Fk.l2_0.resK)
 | _ => none, noNL, lookJ []⟩
noncomputable def Fk.b0 : Code := (loopsIn (Tryd.f52.body.getD .skip)).getD 0 .skip
def Fk.g {α : Type} (mk0 : Int → α) (n : Nat) (a0 : LI) (a1 : Int) : Option α :=
 bindO (Fk.l2_0.m n n (0, (a0.length : Int), a1, a0)) fun r2 => match r2 with
  | (.inl r2) =>
   some (mk0 r2)
  | (.inr r2) =>
   some (mk0 (-1))
def Fk.m (n : Nat) (t : (LI × Int)) : Option Int := Fk.g (fun a0 => a0) n t.1 t.2
def Fk.pat : List AV → Blks → Option (LI × Int)
 | [(.rints .i64 a0), (.int .i64 a1)], [] => some (a0, a1)
 | _, _ => none
def Fk.shape (t : (LI × Int)) : List AV × Blks := ([(.rints .i64 t.1), (.int .i64 t.2)], [])
def Fk.res : Int → AV × Blks
 | u => ((.int .i64 u), [])
def Fk.c (n : Nat) : Abs.Callee := .mk' [] [(some (.ints .i64)), none] Fk.pat (Fk.m n) (resKof Fk.res)
noncomputable def Fe.C (n : Nat) : Ctx := ⟨Tryd.prog, kecG, lookC [(52, Fk.c n)], fun _ => false⟩
noncomputable def Fe.A (n : Nat) : Ann := ⟨Tryd.f37.ntmps, 0, noNL, [], [none], fun k => match k with
 | _ => none, noNL, lookJ []⟩
def Fe.g {α : Type} (mk0 : Bool → α) (n : Nat) (a0 : LI) (a1 : Int) : Option α :=
 bindO (Fk.m n (a0, a1)) fun r2 =>
 some (mk0 (decide (r2 ≥ 0)))
def Fe.m (n : Nat) (t : (LI × Int)) : Option Bool := Fe.g (fun a0 => a0) n t.1 t.2
def Fe.pat : List AV → Blks → Option (LI × Int)
 | [(.rints .i64 a0), (.int .i64 a1)], [] => some (a0, a1)
 | _, _ => none
def Fe.shape (t : (LI × Int)) : List AV × Blks := ([(.rints .i64 t.1), (.int .i64 t.2)], [])
def Fe.res : Bool → AV × Blks
 | u => ((.bool u), [])
def Fe.c (n : Nat) : Abs.Callee := .mk' [] [(some (.ints .i64)), none] Fe.pat (Fe.m n) (resKof Fe.res)
noncomputable def Ft.C (n : Nat) : Ctx := ⟨Tryd.prog, kecG, lookC [(71, Fbf.c n)], fun _ => false⟩
noncomputable def Ft.A (n : Nat) : Ann := ⟨Tryd.f55.ntmps, 0, noNL, [], [none], fun k => match k with
 | _ => none, noNL, lookJ []⟩
def Ft.g {α : Type} (mk0 : LI → α) (n : Nat) (vb v9 : Int) (vh vg : LI) (vl vm : LI) (vn : Int) (v5 v6 : LA) (v7 v8 : Int) (ve vo : LI) (vp : Bool) (vq vr vs : LI) (vt vu vv : Int) (vw vx : LI) (vy : Bool) (vz : LI) (v0 v1 : Int) (v2 v3 : LI) (vj : Int) (vi v4 : Bool) (vf : LA) (vc : Int) : Option α :=
 bindO (Fbf.m n vg) fun r2 =>
 some (mk0 r2)
def Ft.m (n : Nat) (t : Ty4) : Option LI := Ft.g (fun a0 => a0) n t.1 t.2.1 t.2.2.1 t.2.2.2.1 t.w.1 t.w.2.1 t.w.2.2.1 t.w.2.2.2.1 t.x.1 t.x.2.1 t.x.2.2.1 t.x.2.2.2.1 t.x.w.1 t.x.w.2.1 t.x.w.2.2.1 t.x.w.2.2.2.1 t.y.1 t.y.2.1 t.y.2.2.1 t.y.2.2.2.1 t.y.w.1 t.y.w.2.1 t.y.w.2.2.1 t.y.w.2.2.2.1 t.y.x.1 t.y.x.2.1 t.y.x.2.2.1 t.y.x.2.2.2.1 t.y.x.w.1 t.y.x.w.2.1 t.y.x.w.2.2.1 t.y.x.w.2.2.2.1 t.y.y
def Ft.pat : List AV → Blks → Option Ty4
 | [(.agg [(.agg [(.int .u8 vb), (.int .i64 v9), (.ints .u8 20 vh), (.ints .u64 4 vg), (.ints .u64 4 vl), (.rints .u8 vm), (.int .u16 vn)]), (.rptr (.agg [(.rptr (.agg [(.rmap v5), (.rmap v6), (.rmap []), (.rmap []), (.rmap []), (.rmap []), (.int .i64 v7), .snil, .snil, .snil, (.int .i64 v8)])), (.agg [(.ints .u8 20 ve), (.ints .u64 4 vo), (.bool vp), (.ints .u8 20 vq), (.rints .u8 vr), (.rints .u8 vs), (.int .u64 vt), (.int .u64 vu), (.int .u64 vv), (.ints .u64 4 vw), (.ints .u64 4 vx), (.bool vy), (.ints .u8 20 vz), (.int .u64 v0), (.int .u64 v1), (.rints .u8 v2), (.rints .u8 v3)]), (.int .u8 vj), (.bool vi), (.bool v4), (.robjs 47 32 vf)])), (.int .i64 vc)])], [] => some (vb, v9, vh, vg, vl, vm, vn, v5, v6, v7, v8, ve, vo, vp, vq, vr, vs, vt, vu, vv, vw, vx, vy, vz, v0, v1, v2, v3, vj, vi, v4, vf, vc)
 | _, _ => none
def Ft.shape (t : Ty4) : List AV × Blks := ([(.agg [(.agg [(.int .u8 t.1), (.int .i64 t.2.1), (.ints .u8 20 t.2.2.1), (.ints .u64 4 t.2.2.2.1), (.ints .u64 4 t.w.1), (.rints .u8 t.w.2.1), (.int .u16 t.w.2.2.1)]), (.rptr (.agg [(.rptr (.agg [(.rmap t.w.2.2.2.1), (.rmap t.x.1), (.rmap []), (.rmap []), (.rmap []), (.rmap []), (.int .i64 t.x.2.1), .snil, .snil, .snil, (.int .i64 t.x.2.2.1)])), (.agg [(.ints .u8 20 t.x.2.2.2.1), (.ints .u64 4 t.x.w.1), (.bool t.x.w.2.1), (.ints .u8 20 t.x.w.2.2.1), (.rints .u8 t.x.w.2.2.2.1), (.rints .u8 t.y.1), (.int .u64 t.y.2.1), (.int .u64 t.y.2.2.1), (.int .u64 t.y.2.2.2.1), (.ints .u64 4 t.y.w.1), (.ints .u64 4 t.y.w.2.1), (.bool t.y.w.2.2.1), (.ints .u8 20 t.y.w.2.2.2.1), (.int .u64 t.y.x.1), (.int .u64 t.y.x.2.1), (.rints .u8 t.y.x.2.2.1), (.rints .u8 t.y.x.2.2.2.1)]), (.int .u8 t.y.x.w.1), (.bool t.y.x.w.2.1), (.bool t.y.x.w.2.2.1), (.robjs 47 32 t.y.x.w.2.2.2.1)])), (.int .i64 t.y.y)])], [])
def Ft.res : LI → AV × Blks
 | u => ((.ints .u8 20 u), [])
def Ft.c (n : Nat) : Abs.Callee := .mk' [] [none] Ft.pat (Ft.m n) (resKof Ft.res)
noncomputable def Fu.C (n : Nat) : Ctx := ⟨Tryd.prog, kecG, lookC [(53, zslicesIndexFuncquaestorapiEventquaestorapiEvent.c n), (54, Fi.c n), (55, Ft.c n)], fun _ => false⟩
noncomputable def Fu.A (n : Nat) : Ann := ⟨Tryd.f38.ntmps, 0, noNL, [], [none], fun k => match k with
 | _ => none, noNL, lookJ []⟩
def Fu.g {α : Type} (mk0 : Bool → α) (n : Nat) (vb v9 : Int) (vh vg : LI) (vl vm : LI) (vn : Int) (v5 v6 : LA) (v7 v8 : Int) (ve vo : LI) (vp : Bool) (vq vr vs : LI) (vt vu vv : Int) (vw vx : LI) (vy : Bool) (vz : LI) (v0 v1 : Int) (v2 v3 : LI) (vj : Int) (vi v4 : Bool) (vf : LA) (vc : Int) : Option α :=
 if (vb != 240) = true then
 if (vb != 245) = true then
 some (mk0 false)
 else
 bindO (Fc.m n vf) fun r6 =>
 if (vj != 2) = true then
 some (mk0 true)
 else
 if (vc != r6) = true then
 some (mk0 true)
 else
 bindO (Ft.m n (vb, v9, vh, vg, vl, vm, vn, v5, v6, v7, v8, ve, vo, vp, vq, vr, vs, vt, vu, vv, vw, vx, vy, vz, v0, v1, v2, v3, vj, vi, v4, vf, vc)) fun r12 =>
 some (mk0 (!(r12 == ve)))
 else
 bindO (Fc.m n vf) fun r4 =>
 if (vj != 2) = true then
 some (mk0 true)
 else
 if (vc != r4) = true then
 some (mk0 true)
 else
 bindO (Ft.m n (vb, v9, vh, vg, vl, vm, vn, v5, v6, v7, v8, ve, vo, vp, vq, vr, vs, vt, vu, vv, vw, vx, vy, vz, v0, v1, v2, v3, vj, vi, v4, vf, vc)) fun r10 =>
 some (mk0 (!(r10 == ve)))
def Fu.m (n : Nat) (t : Ty4) : Option Bool := Fu.g (fun a0 => a0) n t.1 t.2.1 t.2.2.1 t.2.2.2.1 t.w.1 t.w.2.1 t.w.2.2.1 t.w.2.2.2.1 t.x.1 t.x.2.1 t.x.2.2.1 t.x.2.2.2.1 t.x.w.1 t.x.w.2.1 t.x.w.2.2.1 t.x.w.2.2.2.1 t.y.1 t.y.2.1 t.y.2.2.1 t.y.2.2.2.1 t.y.w.1 t.y.w.2.1 t.y.w.2.2.1 t.y.w.2.2.2.1 t.y.x.1 t.y.x.2.1 t.y.x.2.2.1 t.y.x.2.2.2.1 t.y.x.w.1 t.y.x.w.2.1 t.y.x.w.2.2.1 t.y.x.w.2.2.2.1 t.y.y
def Fu.pat : List AV → Blks → Option Ty4
 | [(.agg [(.agg [(.int .u8 vb), (.int .i64 v9), (.ints .u8 20 vh), (.ints .u64 4 vg), (.ints .u64 4 vl), (.rints .u8 vm), (.int .u16 vn)]), (.rptr (.agg [(.rptr (.agg [(.rmap v5), (.rmap v6), (.rmap []), (.rmap []), (.rmap []), (.rmap []), (.int .i64 v7), .snil, .snil, .snil, (.int .i64 v8)])), (.agg [(.ints .u8 20 ve), (.ints .u64 4 vo), (.bool vp), (.ints .u8 20 vq), (.rints .u8 vr), (.rints .u8 vs), (.int .u64 vt), (.int .u64 vu), (.int .u64 vv), (.ints .u64 4 vw), (.ints .u64 4 vx), (.bool vy), (.ints .u8 20 vz), (.int .u64 v0), (.int .u64 v1), (.rints .u8 v2), (.rints .u8 v3)]), (.int .u8 vj), (.bool vi), (.bool v4), (.robjs 47 32 vf)])), (.int .i64 vc)])], [] => some (vb, v9, vh, vg, vl, vm, vn, v5, v6, v7, v8, ve, vo, vp, vq, vr, vs, vt, vu, vv, vw, vx, vy, vz, v0, v1, v2, v3, vj, vi, v4, vf, vc)
 | _, _ => none
def Fu.shape (t : Ty4) : List AV × Blks := ([(.agg [(.agg [(.int .u8 t.1), (.int .i64 t.2.1), (.ints .u8 20 t.2.2.1), (.ints .u64 4 t.2.2.2.1), (.ints .u64 4 t.w.1), (.rints .u8 t.w.2.1), (.int .u16 t.w.2.2.1)]), (.rptr (.agg [(.rptr (.agg [(.rmap t.w.2.2.2.1), (.rmap t.x.1), (.rmap []), (.rmap []), (.rmap []), (.rmap []), (.int .i64 t.x.2.1), .snil, .snil, .snil, (.int .i64 t.x.2.2.1)])), (.agg [(.ints .u8 20 t.x.2.2.2.1), (.ints .u64 4 t.x.w.1), (.bool t.x.w.2.1), (.ints .u8 20 t.x.w.2.2.1), (.rints .u8 t.x.w.2.2.2.1), (.rints .u8 t.y.1), (.int .u64 t.y.2.1), (.int .u64 t.y.2.2.1), (.int .u64 t.y.2.2.2.1), (.ints .u64 4 t.y.w.1), (.ints .u64 4 t.y.w.2.1), (.bool t.y.w.2.2.1), (.ints .u8 20 t.y.w.2.2.2.1), (.int .u64 t.y.x.1), (.int .u64 t.y.x.2.1), (.rints .u8 t.y.x.2.2.1), (.rints .u8 t.y.x.2.2.2.1)]), (.int .u8 t.y.x.w.1), (.bool t.y.x.w.2.1), (.bool t.y.x.w.2.2.1), (.robjs 47 32 t.y.x.w.2.2.2.1)])), (.int .i64 t.y.y)])], [])
def Fu.res : Bool → AV × Blks
 | u => ((.bool u), [])
def Fu.c (n : Nat) : Abs.Callee := .mk' [] [none] Fu.pat (Fu.m n) (resKof Fu.res)
noncomputable def Fv.C (n : Nat) : Ctx := ⟨Tryd.prog, kecG, lookC [], fun _ => false⟩
noncomputable def Fv.A (n : Nat) : Ann := ⟨Tryd.f61.ntmps, 0, noNL, [], [none], fun k => match k with
 | _ => none, noNL, lookJ []⟩
def Fv.g {α : Type} (mk0 : Bool → α) (n : Nat) (vb v9 : Int) (vh vg : LI) (vl vm : LI) (vn : Int) (v5 v6 : LA) (v7 v8 : Int) (ve vo : LI) (vp : Bool) (vq vr vs : LI) (vt vu vv : Int) (vw vx : LI) (vy : Bool) (vz : LI) (v0 v1 : Int) (v2 v3 : LI) (vj : Int) (vi v4 : Bool) (vf : LA) (vc : Int) : Option α :=
 if (vb == 241) = true then
 some (mk0 true)
 else
 if (vb == 242) = true then
 some (mk0 true)
 else
 if (vb == 244) = true then
 some (mk0 true)
 else
 if (vb == 250) = true then
 some (mk0 true)
 else
 some (mk0 false)
def Fv.m (n : Nat) (t : Ty4) : Option Bool := Fv.g (fun a0 => a0) n t.1 t.2.1 t.2.2.1 t.2.2.2.1 t.w.1 t.w.2.1 t.w.2.2.1 t.w.2.2.2.1 t.x.1 t.x.2.1 t.x.2.2.1 t.x.2.2.2.1 t.x.w.1 t.x.w.2.1 t.x.w.2.2.1 t.x.w.2.2.2.1 t.y.1 t.y.2.1 t.y.2.2.1 t.y.2.2.2.1 t.y.w.1 t.y.w.2.1 t.y.w.2.2.1 t.y.w.2.2.2.1 t.y.x.1 t.y.x.2.1 t.y.x.2.2.1 t.y.x.2.2.2.1 t.y.x.w.1 t.y.x.w.2.1 t.y.x.w.2.2.1 t.y.x.w.2.2.2.1 t.y.y
def Fv.pat : List AV → Blks → Option Ty4
 | [(.agg [(.agg [(.int .u8 vb), (.int .i64 v9), (.ints .u8 20 vh), (.ints .u64 4 vg), (.ints .u64 4 vl), (.rints .u8 vm), (.int .u16 vn)]), (.rptr (.agg [(.rptr (.agg [(.rmap v5), (.rmap v6), (.rmap []), (.rmap []), (.rmap []), (.rmap []), (.int .i64 v7), .snil, .snil, .snil, (.int .i64 v8)])), (.agg [(.ints .u8 20 ve), (.ints .u64 4 vo), (.bool vp), (.ints .u8 20 vq), (.rints .u8 vr), (.rints .u8 vs), (.int .u64 vt), (.int .u64 vu), (.int .u64 vv), (.ints .u64 4 vw), (.ints .u64 4 vx), (.bool vy), (.ints .u8 20 vz), (.int .u64 v0), (.int .u64 v1), (.rints .u8 v2), (.rints .u8 v3)]), (.int .u8 vj), (.bool vi), (.bool v4), (.robjs 47 32 vf)])), (.int .i64 vc)])], [] => some (vb, v9, vh, vg, vl, vm, vn, v5, v6, v7, v8, ve, vo, vp, vq, vr, vs, vt, vu, vv, vw, vx, vy, vz, v0, v1, v2, v3, vj, vi, v4, vf, vc)
 | _, _ => none
def Fv.shape (t : Ty4) : List AV × Blks := ([(.agg [(.agg [(.int .u8 t.1), (.int .i64 t.2.1), (.ints .u8 20 t.2.2.1), (.ints .u64 4 t.2.2.2.1), (.ints .u64 4 t.w.1), (.rints .u8 t.w.2.1), (.int .u16 t.w.2.2.1)]), (.rptr (.agg [(.rptr (.agg [(.rmap t.w.2.2.2.1), (.rmap t.x.1), (.rmap []), (.rmap []), (.rmap []), (.rmap []), (.int .i64 t.x.2.1), .snil, .snil, .snil, (.int .i64 t.x.2.2.1)])), (.agg [(.ints .u8 20 t.x.2.2.2.1), (.ints .u64 4 t.x.w.1), (.bool t.x.w.2.1), (.ints .u8 20 t.x.w.2.2.1), (.rints .u8 t.x.w.2.2.2.1), (.rints .u8 t.y.1), (.int .u64 t.y.2.1), (.int .u64 t.y.2.2.1), (.int .u64 t.y.2.2.2.1), (.ints .u64 4 t.y.w.1), (.ints .u64 4 t.y.w.2.1), (.bool t.y.w.2.2.1), (.ints .u8 20 t.y.w.2.2.2.1), (.int .u64 t.y.x.1), (.int .u64 t.y.x.2.1), (.rints .u8 t.y.x.2.2.1), (.rints .u8 t.y.x.2.2.2.1)]), (.int .u8 t.y.x.w.1), (.bool t.y.x.w.2.1), (.bool t.y.x.w.2.2.1), (.robjs 47 32 t.y.x.w.2.2.2.1)])), (.int .i64 t.y.y)])], [])
def Fv.res : Bool → AV × Blks
 | u => ((.bool u), [])
def Fv.c (n : Nat) : Abs.Callee := .mk' [] [none] Fv.pat (Fv.m n) (resKof Fv.res)
noncomputable def Fw.C (n : Nat) : Ctx := ⟨Tryd.prog, kecG, lookC [(61, Fv.c n)], fun _ => false⟩
noncomputable def Fw.A (n : Nat) : Ann := ⟨Tryd.f58.ntmps, 0, noNL, [], [none], fun k => match k with
 | _ => none, noNL, lookJ []⟩
def Fw.g {α : Type} (mk0 : Bool → α) (n : Nat) (vb v9 : Int) (vh vg : LI) (vl vm : LI) (vn : Int) (v5 v6 : LA) (v7 v8 : Int) (ve vo : LI) (vp : Bool) (vq vr vs : LI) (vt vu vv : Int) (vw vx : LI) (vy : Bool) (vz : LI) (v0 v1 : Int) (v2 v3 : LI) (vj : Int) (vi v4 : Bool) (vf : LA) (vc : Int) : Option α :=
 if (vb == 59) = true then
 some (mk0 true)
 else
 if (vb == 60) = true then
 some (mk0 true)
 else
 if (vb == 63) = true then
 some (mk0 true)
 else
 bindO (Fv.m n (vb, v9, vh, vg, vl, vm, vn, v5, v6, v7, v8, ve, vo, vp, vq, vr, vs, vt, vu, vv, vw, vx, vy, vz, v0, v1, v2, v3, vj, vi, v4, vf, vc)) fun r8 =>
 some (mk0 r8)
def Fw.m (n : Nat) (t : Ty4) : Option Bool := Fw.g (fun a0 => a0) n t.1 t.2.1 t.2.2.1 t.2.2.2.1 t.w.1 t.w.2.1 t.w.2.2.1 t.w.2.2.2.1 t.x.1 t.x.2.1 t.x.2.2.1 t.x.2.2.2.1 t.x.w.1 t.x.w.2.1 t.x.w.2.2.1 t.x.w.2.2.2.1 t.y.1 t.y.2.1 t.y.2.2.1 t.y.2.2.2.1 t.y.w.1 t.y.w.2.1 t.y.w.2.2.1 t.y.w.2.2.2.1 t.y.x.1 t.y.x.2.1 t.y.x.2.2.1 t.y.x.2.2.2.1 t.y.x.w.1 t.y.x.w.2.1 t.y.x.w.2.2.1 t.y.x.w.2.2.2.1 t.y.y
def Fw.pat : List AV → Blks → Option Ty4
 | [(.agg [(.agg [(.int .u8 vb), (.int .i64 v9), (.ints .u8 20 vh), (.ints .u64 4 vg), (.ints .u64 4 vl), (.rints .u8 vm), (.int .u16 vn)]), (.rptr (.agg [(.rptr (.agg [(.rmap v5), (.rmap v6), (.rmap []), (.rmap []), (.rmap []), (.rmap []), (.int .i64 v7), .snil, .snil, .snil, (.int .i64 v8)])), (.agg [(.ints .u8 20 ve), (.ints .u64 4 vo), (.bool vp), (.ints .u8 20 vq), (.rints .u8 vr), (.rints .u8 vs), (.int .u64 vt), (.int .u64 vu), (.int .u64 vv), (.ints .u64 4 vw), (.ints .u64 4 vx), (.bool vy), (.ints .u8 20 vz), (.int .u64 v0), (.int .u64 v1), (.rints .u8 v2), (.rints .u8 v3)]), (.int .u8 vj), (.bool vi), (.bool v4), (.robjs 47 32 vf)])), (.int .i64 vc)])], [] => some (vb, v9, vh, vg, vl, vm, vn, v5, v6, v7, v8, ve, vo, vp, vq, vr, vs, vt, vu, vv, vw, vx, vy, vz, v0, v1, v2, v3, vj, vi, v4, vf, vc)
 | _, _ => none
def Fw.shape (t : Ty4) : List AV × Blks := ([(.agg [(.agg [(.int .u8 t.1), (.int .i64 t.2.1), (.ints .u8 20 t.2.2.1), (.ints .u64 4 t.2.2.2.1), (.ints .u64 4 t.w.1), (.rints .u8 t.w.2.1), (.int .u16 t.w.2.2.1)]), (.rptr (.agg [(.rptr (.agg [(.rmap t.w.2.2.2.1), (.rmap t.x.1), (.rmap []), (.rmap []), (.rmap []), (.rmap []), (.int .i64 t.x.2.1), .snil, .snil, .snil, (.int .i64 t.x.2.2.1)])), (.agg [(.ints .u8 20 t.x.2.2.2.1), (.ints .u64 4 t.x.w.1), (.bool t.x.w.2.1), (.ints .u8 20 t.x.w.2.2.1), (.rints .u8 t.x.w.2.2.2.1), (.rints .u8 t.y.1), (.int .u64 t.y.2.1), (.int .u64 t.y.2.2.1), (.int .u64 t.y.2.2.2.1), (.ints .u64 4 t.y.w.1), (.ints .u64 4 t.y.w.2.1), (.bool t.y.w.2.2.1), (.ints .u8 20 t.y.w.2.2.2.1), (.int .u64 t.y.x.1), (.int .u64 t.y.x.2.1), (.rints .u8 t.y.x.2.2.1), (.rints .u8 t.y.x.2.2.2.1)]), (.int .u8 t.y.x.w.1), (.bool t.y.x.w.2.1), (.bool t.y.x.w.2.2.1), (.robjs 47 32 t.y.x.w.2.2.2.1)])), (.int .i64 t.y.y)])], [])
def Fw.res : Bool → AV × Blks
 | u => ((.bool u), [])
def Fw.c (n : Nat) : Abs.Callee := .mk' [] [none] Fw.pat (Fw.m n) (resKof Fw.res)
noncomputable def Fbi.C (n : Nat) : Ctx := ⟨Tryd.prog, kecG, lookC [], fun _ => false⟩
noncomputable def Fbi.A (n : Nat) : Ann := ⟨Tryd.f44.ntmps, 0, noNL, [], [none], fun k => match k with
 | _ => none, noNL, lookJ []⟩
def Fbi.g {α : Type} (mk0 : LI → α) (n : Nat)  : Option α :=
 some (mk0 ([0, 0, 0, 0, 113, 114, 125, 226, 46, 94, 157, 139, 175, 14, 218, 198, 243, 125, 160, 50] : List Int))
def Fbi.m (n : Nat) (t : Unit) : Option LI := Fbi.g (fun a0 => a0) n 
def Fbi.pat : List AV → Blks → Option Unit
 | [], [] => some ()
 | _, _ => none
def Fbi.shape (t : Unit) : List AV × Blks := ([], [])
def Fbi.res : LI → AV × Blks
 | u => ((.ints .u8 20 u), [])
def Fbi.c (n : Nat) : Abs.Callee := .mk' [] [] Fbi.pat (Fbi.m n) (resKof Fbi.res)
noncomputable def Fl.C (n : Nat) : Ctx := ⟨Tryd.prog, kecG, lookC [(55, Ft.c n), (44, Fbi.c n)], fun _ => false⟩
noncomputable def Fl.A (n : Nat) : Ann := ⟨Tryd.f59.ntmps, 0, noNL, [], [none], fun k => match k with
 | _ => none, noNL, lookJ []⟩
def Fl.g {α : Type} (mk0 : Bool → α) (n : Nat) (vb v9 : Int) (vh vg : LI) (vl vm : LI) (vn : Int) (v5 v6 : LA) (v7 v8 : Int) (ve vo : LI) (vp : Bool) (vq vr vs : LI) (vt vu vv : Int) (vw vx : LI) (vy : Bool) (vz : LI) (v0 v1 : Int) (v2 v3 : LI) (vj : Int) (vi v4 : Bool) (vf : LA) (vc : Int) : Option α :=
 bindO (Ft.m n (vb, v9, vh, vg, vl, vm, vn, v5, v6, v7, v8, ve, vo, vp, vq, vr, vs, vt, vu, vv, vw, vx, vy, vz, v0, v1, v2, v3, vj, vi, v4, vf, vc)) fun r2 =>
 bindO (Fbi.m n Unit.unit) fun r4 =>
 some (mk0 (r2 == r4))
def Fl.m (n : Nat) (t : Ty4) : Option Bool := Fl.g (fun a0 => a0) n t.1 t.2.1 t.2.2.1 t.2.2.2.1 t.w.1 t.w.2.1 t.w.2.2.1 t.w.2.2.2.1 t.x.1 t.x.2.1 t.x.2.2.1 t.x.2.2.2.1 t.x.w.1 t.x.w.2.1 t.x.w.2.2.1 t.x.w.2.2.2.1 t.y.1 t.y.2.1 t.y.2.2.1 t.y.2.2.2.1 t.y.w.1 t.y.w.2.1 t.y.w.2.2.1 t.y.w.2.2.2.1 t.y.x.1 t.y.x.2.1 t.y.x.2.2.1 t.y.x.2.2.2.1 t.y.x.w.1 t.y.x.w.2.1 t.y.x.w.2.2.1 t.y.x.w.2.2.2.1 t.y.y
def Fl.pat : List AV → Blks → Option Ty4
 | [(.agg [(.agg [(.int .u8 vb), (.int .i64 v9), (.ints .u8 20 vh), (.ints .u64 4 vg), (.ints .u64 4 vl), (.rints .u8 vm), (.int .u16 vn)]), (.rptr (.agg [(.rptr (.agg [(.rmap v5), (.rmap v6), (.rmap []), (.rmap []), (.rmap []), (.rmap []), (.int .i64 v7), .snil, .snil, .snil, (.int .i64 v8)])), (.agg [(.ints .u8 20 ve), (.ints .u64 4 vo), (.bool vp), (.ints .u8 20 vq), (.rints .u8 vr), (.rints .u8 vs), (.int .u64 vt), (.int .u64 vu), (.int .u64 vv), (.ints .u64 4 vw), (.ints .u64 4 vx), (.bool vy), (.ints .u8 20 vz), (.int .u64 v0), (.int .u64 v1), (.rints .u8 v2), (.rints .u8 v3)]), (.int .u8 vj), (.bool vi), (.bool v4), (.robjs 47 32 vf)])), (.int .i64 vc)])], [] => some (vb, v9, vh, vg, vl, vm, vn, v5, v6, v7, v8, ve, vo, vp, vq, vr, vs, vt, vu, vv, vw, vx, vy, vz, v0, v1, v2, v3, vj, vi, v4, vf, vc)
 | _, _ => none
def Fl.shape (t : Ty4) : List AV × Blks := ([(.agg [(.agg [(.int .u8 t.1), (.int .i64 t.2.1), (.ints .u8 20 t.2.2.1), (.ints .u64 4 t.2.2.2.1), (.ints .u64 4 t.w.1), (.rints .u8 t.w.2.1), (.int .u16 t.w.2.2.1)]), (.rptr (.agg [(.rptr (.agg [(.rmap t.w.2.2.2.1), (.rmap t.x.1), (.rmap []), (.rmap []), (.rmap []), (.rmap []), (.int .i64 t.x.2.1), .snil, .snil, .snil, (.int .i64 t.x.2.2.1)])), (.agg [(.ints .u8 20 t.x.2.2.2.1), (.ints .u64 4 t.x.w.1), (.bool t.x.w.2.1), (.ints .u8 20 t.x.w.2.2.1), (.rints .u8 t.x.w.2.2.2.1), (.rints .u8 t.y.1), (.int .u64 t.y.2.1), (.int .u64 t.y.2.2.1), (.int .u64 t.y.2.2.2.1), (.ints .u64 4 t.y.w.1), (.ints .u64 4 t.y.w.2.1), (.bool t.y.w.2.2.1), (.ints .u8 20 t.y.w.2.2.2.1), (.int .u64 t.y.x.1), (.int .u64 t.y.x.2.1), (.rints .u8 t.y.x.2.2.1), (.rints .u8 t.y.x.2.2.2.1)]), (.int .u8 t.y.x.w.1), (.bool t.y.x.w.2.1), (.bool t.y.x.w.2.2.1), (.robjs 47 32 t.y.x.w.2.2.2.1)])), (.int .i64 t.y.y)])], [])
def Fl.res : Bool → AV × Blks
 | u => ((.bool u), [])
def Fl.c (n : Nat) : Abs.Callee := .mk' [] [none] Fl.pat (Fl.m n) (resKof Fl.res)
noncomputable def Fac.C (n : Nat) : Ctx := ⟨Tryd.prog, kecG, lookC [], fun _ => false⟩
noncomputable def Fac.A (n : Nat) : Ann := ⟨Tryd.f60.ntmps, 0, noNL, [], [(some (.ints .u8))], fun k => match k with
 | _ => none, noNL, lookJ []⟩
def Fac.g {α : Type} (mk0 : LI → α) (n : Nat) (vd vk : LA) (wa wc : Int) (a1 : LI) : Option α :=
 bindO (Go.Abs.mgetL (AV.ints .u8 20 a1) (AV.agg [(AV.int .u64 0), (AV.ints .u64 4 [0, 0, 0, 0]), (AV.str ByteArray.empty)]) vd) fun r2 =>
 bindO (tkAgg 3 r2.1) fun r4 =>
 bindO (tkInt .u64 (List.getD r4 0 AV.any)) fun r6 =>
 bindO (tkInts .u64 4 (List.getD r4 1 AV.any)) fun r8 =>
 bindO (tkStr (List.getD r4 2 AV.any)) fun r10 =>
 some (mk0 (Go.Abs.bytesOf r10))
def Fac.m (n : Nat) (t : (LA × (LA × (Int × (Int × LI))))) : Option LI := Fac.g (fun a0 => a0) n t.1 t.2.1 t.2.2.1 t.2.2.2.1 t.w
def Fac.pat : List AV → Blks → Option (LA × (LA × (Int × (Int × LI))))
 | [(.rptr (.agg [(.rmap vd), (.rmap vk), (.rmap []), (.rmap []), (.rmap []), (.rmap []), (.int .i64 wa), .snil, .snil, .snil, (.int .i64 wc)])), (.ints .u8 20 a1)], [] => some (vd, vk, wa, wc, a1)
 | _, _ => none
def Fac.shape (t : (LA × (LA × (Int × (Int × LI))))) : List AV × Blks := ([(.rptr (.agg [(.rmap t.1), (.rmap t.2.1), (.rmap []), (.rmap []), (.rmap []), (.rmap []), (.int .i64 t.2.2.1), .snil, .snil, .snil, (.int .i64 t.2.2.2.1)])), (.ints .u8 20 t.w)], [])
def Fac.res : LI → AV × Blks
 | u => ((.own 0 1), [(some (.ints .u8 u))])
def Fac.c (n : Nat) : Abs.Callee := .mk' [] [none, none] Fac.pat (Fac.m n) (resKof Fac.res)
