/- What the program's functions compute, as plain functions, each with its proof: the function does just that. Condition: the plain function has an answer. -/
import Derived.Test.YtkknbhapkdgcjaaGreatDoorAbsQ1
import Derived.Test.YtkknbhapkdgcjaaGreatDoorProg
import Derived.Test.YtkknbhapkdgcjaaGreatDoorAbsQ8
set_option linter.unusedVariables false
set_option linter.unusedSimpArgs false
set_option maxRecDepth 100000
open Go Go.Abs Go.Proofs
set_option autoImplicit true
set_option relaxedAutoImplicit true
noncomputable section
section
namespace Go.Abs
open Go
def kecKeys : List Int := [1, 32898, 9223372036854808714, 9223372039002292224, 32907, 2147483649, 9223372039002292353, 9223372036854808585, 138, 136, 2147516425, 2147483658, 2147516555, 9223372036854775947, 9223372036854808713, 9223372036854808579, 9223372036854808578, 9223372036854775936, 32778, 9223372039002259466, 9223372039002292353, 9223372036854808704, 2147483649, 9223372039002292232]
def kecTo : List Int := [10, 7, 11, 17, 18, 3, 5, 16, 8, 21, 24, 4, 15, 23, 19, 13, 12, 2, 20, 14, 22, 9, 6, 1]
def kecTurns : List Int := [1, 3, 6, 10, 15, 21, 28, 36, 45, 55, 2, 14, 27, 41, 56, 8, 25, 43, 62, 18, 39, 61, 20, 44]
def dskG : Nat → AV := fun g => match g with
 | 0 => .errv 124 201 0
 | 1 => .errv 124 201 1
 | 2 => .errv 124 201 2
 | 5 => .ints .u64 24 kecKeys
 | 6 => .ints .i64 24 kecTo
 | 7 => .ints .i64 24 kecTurns
 | _ => .any
end Go.Abs
abbrev HM : Prop := Go.Proofs.Tryz.prog.follows .mixedOrders = true
end
noncomputable def Fac.C (n : Nat) : Ctx := ⟨Tryz.prog, dskG, lookC [], fun _ => false⟩
noncomputable def Fac.A (n : Nat) : Ann := ⟨Tryz.f80.ntmps, 0, noNL, [], [none, none], fun k => match k with
 | _ => none, noNL, lookJ []⟩
def Fac.g {α : Type} (mk0 : Int → Bool → α) (n : Nat) (a0 : LI) : Option α :=
 if ((ibits BinOp.or .u64 (ibits BinOp.or .u64 (List.getD a0 1 0) (List.getD a0 2 0)) (List.getD a0 3 0)) != 0) = true then
 some (mk0 0 false)
 else
 some (mk0 (List.getD a0 0 0) true)
def Fac.m (n : Nat) (t : LI) : Option (Int × Bool) := Fac.g (fun a0 a1 => (a0, a1)) n t
def Fac.pat : List AV → Blks → Option LI
 | [(.ints .u64 4 a0)], [] => some a0
 | _, _ => none
def Fac.shape (t : LI) : List AV × Blks := ([(.ints .u64 4 t)], [])
def Fac.res : (Int × Bool) → AV × Blks
 | u => ((.tup [(.int .u64 u.1), (.bool u.2)]), [])
def Fac.c (n : Nat) : Abs.Callee := .mk' [] [none] Fac.pat (Fac.m n) (resKof Fac.res)
noncomputable def Fbb.C (n : Nat) : Ctx := ⟨Tryz.prog, dskG, lookC [(80, Fac.c n)], fun _ => false⟩
noncomputable def Fbb.A (n : Nat) : Ann := ⟨Tryz.f63.ntmps, 0, noNL, [], [none], fun k => match k with
 | _ => none, noNL, lookJ []⟩
def Fbb.g {α : Type} (mk0 : Int → α) (n : Nat) (a0 : LI) : Option α :=
 bindO (Fac.m n a0) fun r2 =>
 if (!r2.2) = true then
 some (mk0 256)
 else
 some (mk0 (if 256 < r2.1 then 256 else r2.1))
def Fbb.m (n : Nat) (t : LI) : Option Int := Fbb.g (fun a0 => a0) n t
def Fbb.pat : List AV → Blks → Option LI
 | [(.ints .u64 4 a0)], [] => some a0
 | _, _ => none
def Fbb.shape (t : LI) : List AV × Blks := ([(.ints .u64 4 t)], [])
def Fbb.res : Int → AV × Blks
 | u => ((.int .u64 u), [])
def Fbb.c (n : Nat) : Abs.Callee := .mk' [] [none] Fbb.pat (Fbb.m n) (resKof Fbb.res)
noncomputable def Fbc.C (n : Nat) : Ctx := ⟨Tryz.prog, dskG, lookC [(63, Fbb.c n)], fun _ => false⟩
def Fbc.live : NL := fun k => match k with
 | 4 => ([11, 5, 3, 6, 4], [6, 4])
 | _ => ([], [])
def Fbc.l4_0.r {α : Type} (mk0 : LI → LI → α) (n : Nat) (rc : Int → Int → LI → LI → LI → Option α)  (x0 x1 : Int) (x2 x3 x4 : LI) : Option α :=
 if (decide (x0 < 4)) = true then
 if (decide ((IntKind.wrap .i64 (x0 - (IntKind.wrap .i64 (IntKind.wrap .u64 (Int.tdiv x1 64))))) ≥ 0)) = true then
 if 0 ≤ (IntKind.wrap .i64 (x0 - (IntKind.wrap .i64 (IntKind.wrap .u64 (Int.tdiv x1 64))))) then
 if (IntKind.wrap .i64 (x0 - (IntKind.wrap .i64 (IntKind.wrap .u64 (Int.tdiv x1 64))))) < 4 then
 if 0 ≤ (Int.tmod x1 64) then
 if 0 ≤ x0 then
 if x0 < 4 then
 if (decide ((IntKind.wrap .i64 (x0 - (IntKind.wrap .i64 (IntKind.wrap .u64 (Int.tdiv x1 64))))) > 0)) = true then
 if ((Int.tmod x1 64) != 0) = true then
 if 0 ≤ x0 then
 if x0 < 4 then
 if 0 ≤ (IntKind.wrap .i64 ((IntKind.wrap .i64 (x0 - (IntKind.wrap .i64 (IntKind.wrap .u64 (Int.tdiv x1 64))))) - 1)) then
 if (IntKind.wrap .i64 ((IntKind.wrap .i64 (x0 - (IntKind.wrap .i64 (IntKind.wrap .u64 (Int.tdiv x1 64))))) - 1)) < 4 then
 if 0 ≤ (IntKind.wrap .u64 (64 - (Int.tmod x1 64))) then
 if 0 ≤ x0 then
 if x0 < 4 then
 rc (IntKind.wrap .i64 (x0 + 1)) x1 x2 (List.set (List.set x3 (Int.toNat x0) (ishl .u64 (List.getD x2 (Int.toNat (IntKind.wrap .i64 (x0 - (IntKind.wrap .i64 (IntKind.wrap .u64 (Int.tdiv x1 64)))))) 0) (Int.tmod x1 64))) (Int.toNat x0) (ibits BinOp.or .u64 (List.getD (List.set x3 (Int.toNat x0) (ishl .u64 (List.getD x2 (Int.toNat (IntKind.wrap .i64 (x0 - (IntKind.wrap .i64 (IntKind.wrap .u64 (Int.tdiv x1 64)))))) 0) (Int.tmod x1 64))) (Int.toNat x0) 0) (ishr .u64 (List.getD x2 (Int.toNat (IntKind.wrap .i64 ((IntKind.wrap .i64 (x0 - (IntKind.wrap .i64 (IntKind.wrap .u64 (Int.tdiv x1 64))))) - 1))) 0) (IntKind.wrap .u64 (64 - (Int.tmod x1 64)))))) x4
 else
 none
 else
 none
 else
 none
 else
 none
 else
 none
 else
 none
 else
 none
 else
 rc (IntKind.wrap .i64 (x0 + 1)) x1 x2 (List.set x3 (Int.toNat x0) (ishl .u64 (List.getD x2 (Int.toNat (IntKind.wrap .i64 (x0 - (IntKind.wrap .i64 (IntKind.wrap .u64 (Int.tdiv x1 64)))))) 0) (Int.tmod x1 64))) x4
 else
 rc (IntKind.wrap .i64 (x0 + 1)) x1 x2 (List.set x3 (Int.toNat x0) (ishl .u64 (List.getD x2 (Int.toNat (IntKind.wrap .i64 (x0 - (IntKind.wrap .i64 (IntKind.wrap .u64 (Int.tdiv x1 64)))))) 0) (Int.tmod x1 64))) x4
 else
 none
 else
 none
 else
 none
 else
 none
 else
 none
 else
 if (decide ((IntKind.wrap .i64 (x0 - (IntKind.wrap .i64 (IntKind.wrap .u64 (Int.tdiv x1 64))))) > 0)) = true then
 if ((Int.tmod x1 64) != 0) = true then
 if 0 ≤ x0 then
 if x0 < 4 then
 if 0 ≤ (IntKind.wrap .i64 ((IntKind.wrap .i64 (x0 - (IntKind.wrap .i64 (IntKind.wrap .u64 (Int.tdiv x1 64))))) - 1)) then
 if (IntKind.wrap .i64 ((IntKind.wrap .i64 (x0 - (IntKind.wrap .i64 (IntKind.wrap .u64 (Int.tdiv x1 64))))) - 1)) < 4 then
 if 0 ≤ (IntKind.wrap .u64 (64 - (Int.tmod x1 64))) then
 if 0 ≤ x0 then
 if x0 < 4 then
 rc (IntKind.wrap .i64 (x0 + 1)) x1 x2 (List.set x3 (Int.toNat x0) (ibits BinOp.or .u64 (List.getD x3 (Int.toNat x0) 0) (ishr .u64 (List.getD x2 (Int.toNat (IntKind.wrap .i64 ((IntKind.wrap .i64 (x0 - (IntKind.wrap .i64 (IntKind.wrap .u64 (Int.tdiv x1 64))))) - 1))) 0) (IntKind.wrap .u64 (64 - (Int.tmod x1 64)))))) x4
 else
 none
 else
 none
 else
 none
 else
 none
 else
 none
 else
 none
 else
 none
 else
 rc (IntKind.wrap .i64 (x0 + 1)) x1 x2 x3 x4
 else
 rc (IntKind.wrap .i64 (x0 + 1)) x1 x2 x3 x4
 else
 some (mk0 x3 x4)
def Fbc.l4_0.g {α : Type} (mk0 : LI → LI → α) (n : Nat) : Nat → Int → Int → LI → LI → LI → Option α
 | 0, _, _, _, _, _ => none
 | m + 1, x0, x1, x2, x3, x4 => Fbc.l4_0.r mk0 n (fun y0 y1 y2 y3 y4 => Fbc.l4_0.g mk0 n m y0 y1 y2 y3 y4)  x0 x1 x2 x3 x4
def Fbc.l4_0.m (n m : Nat) (t : (Int × (Int × (LI × (LI × LI))))) : Option (LI × LI) := Fbc.l4_0.g (fun a0 a1 => (a0, a1)) n m t.1 t.2.1 t.2.2.1 t.2.2.2.1 t.w
def Fbc.l4_0.pat : St → Option (Int × (Int × (LI × (LI × LI))))
 | (St.mk [(.int .i64 x0), (.int .u64 x1), (.ptr 0 []), (.ptr 1 []), (.ptr 2 [])] [(some (.var (.ints .u64 4 x2))), (some (.var (.ints .u64 4 x3))), (some (.var (.ints .u64 4 x4)))]) => some (x0, x1, x2, x3, x4)
 | _ => none
def Fbc.l4_0.shape (t : (Int × (Int × (LI × (LI × LI))))) : St := (St.mk [(.int .i64 t.1), (.int .u64 t.2.1), (.ptr 0 []), (.ptr 1 []), (.ptr 2 [])] [(some (.var (.ints .u64 4 t.2.2.1))), (some (.var (.ints .u64 4 t.2.2.2.1))), (some (.var (.ints .u64 4 t.w)))])
def Fbc.l4_0.res : (LI × LI) → Ex × St
 | u => ((.exit 0), (St.mk [(.ptr 0 []), (.ptr 1 [])] [(some (.var (.ints .u64 4 u.1))), (some (.var (.ints .u64 4 u.2)))]))
noncomputable def Fbc.A (n : Nat) : Ann := ⟨Tryz.f49.ntmps, 0, Fbc.live, [], [none], fun k => match k with
 | 4 => some (.mk' Fbc.l4_0.pat (Fbc.l4_0.m n n) (resKl Fbc.l4_0.res))
 | _ => none, noNL, lookJ []⟩
noncomputable def Fbc.b0 : Code := (loopsIn (Tryz.f49.body.getD .skip)).getD 0 .skip
def Fbc.g {α : Type} (mk0 : LI → α) (n : Nat) (a0 a1 : LI) : Option α :=
 bindO (Fbb.m n a0) fun r2 =>
 bindO (Fbc.l4_0.m n n (0, r2, a1, [0, 0, 0, 0], [0, 0, 0, 0])) fun r4 =>
 some (mk0 r4.1)
def Fbc.m (n : Nat) (t : (LI × LI)) : Option LI := Fbc.g (fun a0 => a0) n t.1 t.2
def Fbc.pat : List AV → Blks → Option (LI × LI)
 | [(.ints .u64 4 a0), (.ints .u64 4 a1)], [] => some (a0, a1)
 | _, _ => none
def Fbc.shape (t : (LI × LI)) : List AV × Blks := ([(.ints .u64 4 t.1), (.ints .u64 4 t.2)], [])
def Fbc.res : LI → AV × Blks
 | u => ((.ints .u64 4 u), [])
def Fbc.c (n : Nat) : Abs.Callee := .mk' [] [none, none] Fbc.pat (Fbc.m n) (resKof Fbc.res)
noncomputable def Fam.C (n : Nat) : Ctx := ⟨Tryz.prog, dskG, lookC [], fun _ => false⟩
def Fam.live : NL := fun k => match k with
 | 4 => ([13, 12, 3, 0, 2], [3, 2])
 | _ => ([], [])
def Fam.l4_0.r {α : Type} (mk0 : LI → LI → α) (n : Nat) (rc : Int → Int → LI → LI → LI → Option α)  (x0 x1 : Int) (x2 x3 x4 : LI) : Option α :=
 if (decide (x0 < x1)) = true then
 if 0 ≤ (IntKind.wrap .i64 (Int.tdiv x0 8)) then
 if (IntKind.wrap .i64 (Int.tdiv x0 8)) < 4 then
 if 0 ≤ (IntKind.wrap .i64 ((IntKind.wrap .i64 ((x2.length : Int) - 1)) - x0)) then
 if (IntKind.wrap .i64 ((IntKind.wrap .i64 ((x2.length : Int) - 1)) - x0)) < (x2.length : Int) then
 if 0 ≤ (IntKind.wrap .i64 ((Int.tmod x0 8) * 8)) then
 if 0 ≤ (IntKind.wrap .i64 (Int.tdiv x0 8)) then
 if (IntKind.wrap .i64 (Int.tdiv x0 8)) < 4 then
 rc (IntKind.wrap .i64 (x0 + 1)) x1 x2 (List.set x3 (Int.toNat (IntKind.wrap .i64 (Int.tdiv x0 8))) (ibits BinOp.or .u64 (List.getD x3 (Int.toNat (IntKind.wrap .i64 (Int.tdiv x0 8))) 0) (ishl .u64 (IntKind.wrap .u64 (List.getD x2 (Int.toNat (IntKind.wrap .i64 ((IntKind.wrap .i64 ((x2.length : Int) - 1)) - x0))) 0)) (IntKind.wrap .i64 ((Int.tmod x0 8) * 8))))) x4
 else
 none
 else
 none
 else
 none
 else
 none
 else
 none
 else
 none
 else
 none
 else
 some (mk0 x3 x4)
def Fam.l4_0.g {α : Type} (mk0 : LI → LI → α) (n : Nat) : Nat → Int → Int → LI → LI → LI → Option α
 | 0, _, _, _, _, _ => none
 | m + 1, x0, x1, x2, x3, x4 => Fam.l4_0.r mk0 n (fun y0 y1 y2 y3 y4 => Fam.l4_0.g mk0 n m y0 y1 y2 y3 y4)  x0 x1 x2 x3 x4
def Fam.l4_0.m (n m : Nat) (t : (Int × (Int × (LI × (LI × LI))))) : Option (LI × LI) := Fam.l4_0.g (fun a0 a1 => (a0, a1)) n m t.1 t.2.1 t.2.2.1 t.2.2.2.1 t.w
def Fam.l4_0.pat : St → Option (Int × (Int × (LI × (LI × LI))))
 | (St.mk [(.int .i64 x0), (.int .i64 x1), (.ptr 0 []), (.rints .u8 x2), (.ptr 1 [])] [(some (.var (.ints .u64 4 x3))), (some (.var (.ints .u64 4 x4)))]) => some (x0, x1, x2, x3, x4)
 | _ => none
def Fam.l4_0.shape (t : (Int × (Int × (LI × (LI × LI))))) : St := (St.mk [(.int .i64 t.1), (.int .i64 t.2.1), (.ptr 0 []), (.rints .u8 t.2.2.1), (.ptr 1 [])] [(some (.var (.ints .u64 4 t.2.2.2.1))), (some (.var (.ints .u64 4 t.w)))])
def Fam.l4_0.res : (LI × LI) → Ex × St
 | u => ((.exit 0), (St.mk [(.ptr 0 []), (.ptr 1 [])] [(some (.var (.ints .u64 4 u.1))), (some (.var (.ints .u64 4 u.2)))]))
noncomputable def Fam.A (n : Nat) : Ann := ⟨Tryz.f64.ntmps, 0, Fam.live, [(0, (.ints .u8))], [none], fun k => match k with
 | 4 => some (.mk' Fam.l4_0.pat (Fam.l4_0.m n n) (resKl Fam.l4_0.res))
 | _ => none, noNL, lookJ []⟩
noncomputable def Fam.b0 : Code := (loopsIn (Tryz.f64.body.getD .skip)).getD 0 .skip
def Fam.g {α : Type} (mk0 : LI → α) (n : Nat) (a0 : LI) : Option α :=
 if 0 ≤ (if 0 > (IntKind.wrap .i64 ((a0.length : Int) - 32)) then 0 else (IntKind.wrap .i64 ((a0.length : Int) - 32))) then
 if (if 0 > (IntKind.wrap .i64 ((a0.length : Int) - 32)) then 0 else (IntKind.wrap .i64 ((a0.length : Int) - 32))) ≤ (a0.length : Int) then
 bindO (Fam.l4_0.m n n (0, (((List.length (Go.Abs.cut a0 (Int.toNat (if 0 > (IntKind.wrap .i64 ((a0.length : Int) - 32)) then 0 else (IntKind.wrap .i64 ((a0.length : Int) - 32)))) (Option.none))) : Nat) : Int), (Go.Abs.cut a0 (Int.toNat (if 0 > (IntKind.wrap .i64 ((a0.length : Int) - 32)) then 0 else (IntKind.wrap .i64 ((a0.length : Int) - 32)))) (Option.none)), [0, 0, 0, 0], [0, 0, 0, 0])) fun r6 =>
 some (mk0 r6.1)
 else
 none
 else
 none
def Fam.m (n : Nat) (t : LI) : Option LI := Fam.g (fun a0 => a0) n t
def Fam.pat : List AV → Blks → Option LI
 | [(.rints .u8 a0)], [] => some a0
 | _, _ => none
def Fam.shape (t : LI) : List AV × Blks := ([(.rints .u8 t)], [])
def Fam.res : LI → AV × Blks
 | u => ((.ints .u64 4 u), [])
def Fam.c (n : Nat) : Abs.Callee := .mk' [] [(some (.ints .u8))] Fam.pat (Fam.m n) (resKof Fam.res)
noncomputable def Fan.C (n : Nat) : Ctx := ⟨Tryz.prog, dskG, lookC [(64, Fam.c n)], fun _ => false⟩
noncomputable def Fan.A (n : Nat) : Ann := ⟨Tryz.f50.ntmps, 0, noNL, [], [none], fun k => match k with
 | _ => none, noNL, lookJ []⟩
def Fan.g {α : Type} (mk0 : LI → α) (n : Nat) (a0 : LI) : Option α :=
 bindO (Fam.m n (List.take 20 (List.drop 0 a0))) fun r2 =>
 some (mk0 r2)
def Fan.m (n : Nat) (t : LI) : Option LI := Fan.g (fun a0 => a0) n t
def Fan.pat : List AV → Blks → Option LI
 | [(.ints .u8 20 a0)], [] => some a0
 | _, _ => none
def Fan.shape (t : LI) : List AV × Blks := ([(.ints .u8 20 t)], [])
def Fan.res : LI → AV × Blks
 | u => ((.ints .u64 4 u), [])
def Fan.c (n : Nat) : Abs.Callee := .mk' [] [none] Fan.pat (Fan.m n) (resKof Fan.res)
noncomputable def Fao.C (n : Nat) : Ctx := ⟨Tryz.prog, dskG, lookC [], fun _ => false⟩
noncomputable def Fao.A (n : Nat) : Ann := ⟨Tryz.f48.ntmps, 0, noNL, [], [none], fun k => match k with
 | _ => none, noNL, lookJ []⟩
def Fao.g {α : Type} (mk0 : LI → α) (n : Nat) (a0 : Int) : Option α :=
 some (mk0 [a0, 0, 0, 0])
def Fao.m (n : Nat) (t : Int) : Option LI := Fao.g (fun a0 => a0) n t
def Fao.pat : List AV → Blks → Option Int
 | [(.int .u64 a0)], [] => some a0
 | _, _ => none
def Fao.shape (t : Int) : List AV × Blks := ([(.int .u64 t)], [])
def Fao.res : LI → AV × Blks
 | u => ((.ints .u64 4 u), [])
def Fao.c (n : Nat) : Abs.Callee := .mk' [] [none] Fao.pat (Fao.m n) (resKof Fao.res)
noncomputable def Fap.C (n : Nat) : Ctx := ⟨Tryz.prog, dskG, lookC [(48, Fao.c n), (50, Fan.c n), (49, Fbc.c n)], fun _ => false⟩
noncomputable def Fap.A (n : Nat) : Ann := ⟨Tryz.f26.ntmps, 0, noNL, [], [none], fun k => match k with
 | _ => none, noNL, lookJ []⟩
def Fap.g {α : Type} (mk0 : LI → α) (n : Nat) (a0 : LI) (a1 a2 : Int) : Option α :=
 bindO (Fao.m n 96) fun r2 =>
 bindO (Fan.m n a0) fun r4 =>
 bindO (Fbc.m n (r2, r4)) fun r6 =>
 some (mk0 (List.set (List.set r6 0 a2) 1 (ibits BinOp.or .u64 (List.getD r6 1 0) a1)))
def Fap.m (n : Nat) (t : (LI × (Int × Int))) : Option LI := Fap.g (fun a0 => a0) n t.1 t.2.1 t.2.2
def Fap.pat : List AV → Blks → Option (LI × (Int × Int))
 | [(.ints .u8 20 a0), (.int .u64 a1), (.int .u64 a2)], [] => some (a0, a1, a2)
 | _, _ => none
def Fap.shape (t : (LI × (Int × Int))) : List AV × Blks := ([(.ints .u8 20 t.1), (.int .u64 t.2.1), (.int .u64 t.2.2)], [])
def Fap.res : LI → AV × Blks
 | u => ((.ints .u64 4 u), [])
def Fap.c (n : Nat) : Abs.Callee := .mk' [] [none, none, none] Fap.pat (Fap.m n) (resKof Fap.res)
noncomputable def Faq.C (n : Nat) : Ctx := ⟨Tryz.prog, dskG, lookC [], fun _ => false⟩
noncomputable def Faq.A (n : Nat) : Ann := ⟨Tryz.f10.ntmps, 0, noNL, [], [none], fun k => match k with
 | _ => none, noNL, lookJ []⟩
def Faq.g {α : Type} (mk0 : LI → α) (n : Nat)  : Option α :=
 some (mk0 ([0, 0, 0, 0, 113, 114, 125, 226, 46, 94, 157, 139, 175, 14, 218, 198, 243, 125, 160, 50] : List Int))
def Faq.m (n : Nat) (t : Unit) : Option LI := Faq.g (fun a0 => a0) n 
def Faq.pat : List AV → Blks → Option Unit
 | [], [] => some ()
 | _, _ => none
def Faq.shape (t : Unit) : List AV × Blks := ([], [])
def Faq.res : LI → AV × Blks
 | u => ((.ints .u8 20 u), [])
def Faq.c (n : Nat) : Abs.Callee := .mk' [] [] Faq.pat (Faq.m n) (resKof Faq.res)
noncomputable def Fn.C (n : Nat) : Ctx := ⟨Tryz.prog, dskG, lookC [], fun _ => false⟩
noncomputable def Fn.A (n : Nat) : Ann := ⟨Tryz.f25.ntmps, 5, noNL, [], [none], fun k => match k with
 | _ => none, noNL, lookJ []⟩
def Fn.g {α : Type} (mk0 : LI → Int → Int → LA → LA → LA → LA → α) (n : Nat) (a k : LI) (r x : Int) (p q : LA) (o j : LA) : Option α :=
 bindO (Go.Abs.mgetL (AV.agg [(AV.ints .u8 20 a), (AV.ints .u64 4 k)]) (AV.ints .u64 4 [0, 0, 0, 0]) q) fun r2 =>
 bindO (tkInts .u64 4 r2.1) fun r4 =>
 some (mk0 r4 r x p q o j)
def Fn.m (n : Nat) (t : Ty21) : Option Ty25 := Fn.g (fun a0 a1 a2 a3 a4 a5 a6 => (a0, a1, a2, a3, a4, a5, a6)) n t.1 t.2.1 t.2.2.1 t.2.2.2.1 t.w.1 t.w.2.1 t.w.2.2.1 t.w.2.2.2
def Fn.pat : List AV → Blks → Option Ty21
 | [(.ptr 0 []), (.ints .u8 20 a), (.ints .u64 4 k)], [(some (.var (.agg [(.own 1 0), (.own 2 0), (.rmap []), (.rmap []), (.own 3 0), (.rmap []), (.int .i64 r), .snil, (.own 4 36), .snil, (.int .i64 x)]))), (some (.mp p)), (some (.mp q)), (some (.mp o)), (some (.objs 104 36 j))] => some (a, k, r, x, p, q, o, j)
 | _, _ => none
def Fn.shape (t : Ty21) : List AV × Blks := ([(.ptr 0 []), (.ints .u8 20 t.1), (.ints .u64 4 t.2.1)], [(some (.var (.agg [(.own 1 0), (.own 2 0), (.rmap []), (.rmap []), (.own 3 0), (.rmap []), (.int .i64 t.2.2.1), .snil, (.own 4 36), .snil, (.int .i64 t.2.2.2.1)]))), (some (.mp t.w.1)), (some (.mp t.w.2.1)), (some (.mp t.w.2.2.1)), (some (.objs 104 36 t.w.2.2.2))])
def Fn.res : Ty25 → AV × Blks
 | u => ((.ints .u64 4 u.1), [(some (.var (.agg [(.own 1 0), (.own 2 0), (.rmap []), (.rmap []), (.own 3 0), (.rmap []), (.int .i64 u.2.1), .snil, (.own 4 36), .snil, (.int .i64 u.2.2.1)]))), (some (.mp u.2.2.2.1)), (some (.mp u.w.1)), (some (.mp u.w.2.1)), (some (.objs 104 36 u.w.2.2))])
def Fn.c (n : Nat) : Abs.Callee := .mk' [true, false, false] [none, none, none] Fn.pat (Fn.m n) (resKof Fn.res)
noncomputable def Fd.C (n : Nat) : Ctx := ⟨Tryz.prog, dskG, lookC [], fun _ => false⟩
noncomputable def Fd.A (n : Nat) : Ann := ⟨Tryz.f27.ntmps, 5, noNL, [], [], fun k => match k with
 | _ => none, noNL, lookJ []⟩
def Fd.g {α : Type} (mk0 : Int → Int → LA → LA → LA → LA → α) (n : Nat) (a k v : LI) (r x : Int) (p q : LA) (o j : LA) : Option α :=
 bindO (Go.Abs.mgetL (AV.agg [(AV.ints .u8 20 a), (AV.ints .u64 4 k)]) (AV.ints .u64 4 [0, 0, 0, 0]) q) fun r2 =>
 bindO (tkInts .u64 4 r2.1) fun r4 =>
 bindO (Go.Abs.mgetL (AV.agg [(AV.ints .u8 20 a), (AV.ints .u64 4 k)]) (AV.ints .u64 4 [0, 0, 0, 0]) o) fun r6 =>
 bindO (tkInts .u64 4 r6.1) fun r8 =>
 if (!r6.2) = true then
 bindO (Go.Abs.mputL (AV.agg [(AV.ints .u8 20 a), (AV.ints .u64 4 k)]) (AV.ints .u64 4 r4) o) fun r12 =>
 if ((((List.length j) + 1) * 160) ≤ 70368744177664 ∧ ((List.length j) + 1) ≤ 9223372036854775807) then
 bindO (Go.Abs.mputL (AV.agg [(AV.ints .u8 20 a), (AV.ints .u64 4 k)]) (AV.ints .u64 4 v) q) fun r16 =>
 some (mk0 r x p r16 r12 (j ++ [(AV.agg [(AV.int .i64 1), (AV.agg [(AV.ints .u8 20 a), (AV.ints .u64 4 k)]), (AV.agg [(AV.int .u64 0), (AV.ints .u64 4 [0, 0, 0, 0]), (AV.str ByteArray.empty)]), (AV.ints .u64 4 r4), (AV.int .i64 0)])]))
 else
 none
 else
 if ((((List.length j) + 1) * 160) ≤ 70368744177664 ∧ ((List.length j) + 1) ≤ 9223372036854775807) then
 bindO (Go.Abs.mputL (AV.agg [(AV.ints .u8 20 a), (AV.ints .u64 4 k)]) (AV.ints .u64 4 v) q) fun r14 =>
 some (mk0 r x p r14 o (j ++ [(AV.agg [(AV.int .i64 1), (AV.agg [(AV.ints .u8 20 a), (AV.ints .u64 4 k)]), (AV.agg [(AV.int .u64 0), (AV.ints .u64 4 [0, 0, 0, 0]), (AV.str ByteArray.empty)]), (AV.ints .u64 4 r4), (AV.int .i64 0)])]))
 else
 none
def Fd.m (n : Nat) (t : Ty18) : Option (Int × (Int × (LA × (LA × (LA × LA))))) := Fd.g (fun a0 a1 a2 a3 a4 a5 => (a0, a1, a2, a3, a4, a5)) n t.1 t.2.1 t.2.2.1 t.2.2.2.1 t.w.1 t.w.2.1 t.w.2.2.1 t.w.2.2.2.1 t.x
def Fd.pat : List AV → Blks → Option Ty18
 | [(.ptr 0 []), (.ints .u8 20 a), (.ints .u64 4 k), (.ints .u64 4 v)], [(some (.var (.agg [(.own 1 0), (.own 2 0), (.rmap []), (.rmap []), (.own 3 0), (.rmap []), (.int .i64 r), .snil, (.own 4 36), .snil, (.int .i64 x)]))), (some (.mp p)), (some (.mp q)), (some (.mp o)), (some (.objs 104 36 j))] => some (a, k, v, r, x, p, q, o, j)
 | _, _ => none
def Fd.shape (t : Ty18) : List AV × Blks := ([(.ptr 0 []), (.ints .u8 20 t.1), (.ints .u64 4 t.2.1), (.ints .u64 4 t.2.2.1)], [(some (.var (.agg [(.own 1 0), (.own 2 0), (.rmap []), (.rmap []), (.own 3 0), (.rmap []), (.int .i64 t.2.2.2.1), .snil, (.own 4 36), .snil, (.int .i64 t.w.1)]))), (some (.mp t.w.2.1)), (some (.mp t.w.2.2.1)), (some (.mp t.w.2.2.2.1)), (some (.objs 104 36 t.x))])
def Fd.res : (Int × (Int × (LA × (LA × (LA × LA))))) → AV × Blks
 | u => ((.tup []), [(some (.var (.agg [(.own 1 0), (.own 2 0), (.rmap []), (.rmap []), (.own 3 0), (.rmap []), (.int .i64 u.1), .snil, (.own 5 36), .snil, (.int .i64 u.2.1)]))), (some (.mp u.2.2.1)), (some (.mp u.2.2.2.1)), (some (.mp u.w.1)), none, (some (.objs 104 36 u.w.2))])
def Fd.c (n : Nat) : Abs.Callee := .mk' [true, false, false, false] [none, none, none, none] Fd.pat (Fd.m n) (resKof Fd.res)
noncomputable def Fbd.C (n : Nat) : Ctx := ⟨Tryz.prog, dskG, lookC [(26, Fap.c n), (10, Faq.c n), (25, Fn.c n), (27, Fd.c n)], fun _ => false⟩
noncomputable def Fbd.A (n : Nat) : Ann := ⟨Tryz.f8.ntmps, 5, noNL, [], [none, (some (.agg [(some (.ints .u8))]))], fun k => match k with
 | _ => none, noNL, lookJ []⟩
def Fbd.g {α : Type} (mk0 : Bool → Int → Int → LA → LA → LA → LA → α) (n : Nat) (a k : LI) (r x : Int) (p q : LA) (o j : LA) : Option α :=
 bindO (Fap.m n (a, 3, (List.getD k 1 0))) fun r2 =>
 bindO (Faq.m n Unit.unit) fun r4 =>
 bindO (Fn.m n (r4, r2, r, x, p, q, o, j)) fun r6 =>
 if ((ibits BinOp.or .u64 (List.getD k 2 0) (List.getD k 3 0)) != 0) = true then
 some (mk0 false r6.2.1 r6.2.2.1 r6.2.2.2.1 r6.w.1 r6.w.2.1 r6.w.2.2)
 else
 if ((List.getD r6.1 0 0) != (List.getD k 0 0)) = true then
 some (mk0 false r6.2.1 r6.2.2.1 r6.2.2.2.1 r6.w.1 r6.w.2.1 r6.w.2.2)
 else
 if ((IntKind.wrap .u64 ((List.getD r6.1 0 0) + 1)) == 0) = true then
 some (mk0 false r6.2.1 r6.2.2.1 r6.2.2.2.1 r6.w.1 r6.w.2.1 r6.w.2.2)
 else
 bindO (Faq.m n Unit.unit) fun r14 =>
 bindO (Fd.m n (r14, r2, (List.set r6.1 0 (IntKind.wrap .u64 ((List.getD r6.1 0 0) + 1))), r6.2.1, r6.2.2.1, r6.2.2.2.1, r6.w.1, r6.w.2.1, r6.w.2.2)) fun r16 =>
 some (mk0 true r16.1 r16.2.1 r16.2.2.1 r16.2.2.2.1 r16.w.1 r16.w.2)
def Fbd.m (n : Nat) (t : Ty21) : Option Ty22 := Fbd.g (fun a0 a1 a2 a3 a4 a5 a6 => (a0, a1, a2, a3, a4, a5, a6)) n t.1 t.2.1 t.2.2.1 t.2.2.2.1 t.w.1 t.w.2.1 t.w.2.2.1 t.w.2.2.2
def Fbd.pat : List AV → Blks → Option Ty21
 | [(.ptr 0 []), (.ints .u8 20 a), (.ints .u64 4 k)], [(some (.var (.agg [(.own 1 0), (.own 2 0), (.rmap []), (.rmap []), (.own 3 0), (.rmap []), (.int .i64 r), .snil, (.own 4 36), .snil, (.int .i64 x)]))), (some (.mp p)), (some (.mp q)), (some (.mp o)), (some (.objs 104 36 j))] => some (a, k, r, x, p, q, o, j)
 | _, _ => none
def Fbd.shape (t : Ty21) : List AV × Blks := ([(.ptr 0 []), (.ints .u8 20 t.1), (.ints .u64 4 t.2.1)], [(some (.var (.agg [(.own 1 0), (.own 2 0), (.rmap []), (.rmap []), (.own 3 0), (.rmap []), (.int .i64 t.2.2.1), .snil, (.own 4 36), .snil, (.int .i64 t.2.2.2.1)]))), (some (.mp t.w.1)), (some (.mp t.w.2.1)), (some (.mp t.w.2.2.1)), (some (.objs 104 36 t.w.2.2.2))])
def Fbd.res : Ty22 → AV × Blks
 | u => ((.bool u.1), [(some (.var (.agg [(.own 1 0), (.own 2 0), (.rmap []), (.rmap []), (.own 3 0), (.rmap []), (.int .i64 u.2.1), .snil, (.own 5 36), .snil, (.int .i64 u.2.2.1)]))), (some (.mp u.2.2.2.1)), (some (.mp u.w.1)), (some (.mp u.w.2.1)), none, (some (.objs 104 36 u.w.2.2))])
def Fbd.c (n : Nat) : Abs.Callee := .mk' [true, false, false] [none, none, none] Fbd.pat (Fbd.m n) (resKof Fbd.res)
noncomputable def Fw.C (n : Nat) : Ctx := ⟨Tryz.prog, dskG, lookC [], fun _ => false⟩
noncomputable def Fw.A (n : Nat) : Ann := ⟨Tryz.f79.ntmps, 0, noNL, [], [none], fun k => match k with
 | _ => none, noNL, lookJ []⟩
def Fw.g {α : Type} (mk0 : Int → α) (n : Nat) (i f : Int) (a : LI) : Option α :=
 if (decide (i > 3)) = true then
 some (mk0 f)
 else
 if 0 ≤ i then
 if i < 4 then
 some (mk0 (List.getD a (Int.toNat i) 0))
 else
 none
 else
 none
def Fw.m (n : Nat) (t : (Int × (Int × LI))) : Option Int := Fw.g (fun a0 => a0) n t.1 t.2.1 t.2.2
def Fw.pat : List AV → Blks → Option (Int × (Int × LI))
 | [(.int .i64 i), (.rptr (.int .u64 f)), (.rptr (.ints .u64 4 a))], [] => some (i, f, a)
 | _, _ => none
def Fw.shape (t : (Int × (Int × LI))) : List AV × Blks := ([(.int .i64 t.1), (.rptr (.int .u64 t.2.1)), (.rptr (.ints .u64 4 t.2.2))], [])
def Fw.res : Int → AV × Blks
 | u => ((.int .u64 u), [])
def Fw.c (n : Nat) : Abs.Callee := .mk' [] [none] Fw.pat (Fw.m n) (resKof Fw.res)
noncomputable def Fad.C (n : Nat) : Ctx := ⟨Tryz.prog, dskG, lookC [(79, Fw.c n)], fun _ => false⟩
def Fad.live : NL := fun k => match k with
 | 4 => ([12, 0, 7, 8, 6], [8, 6])
 | _ => ([], [])
def Fad.l4_0.r {α : Type} (mk0 : LI → LI → α) (n : Nat) (rc : Int → Int → Int → LI → LI → LI → Option α)  (x0 x1 x2 : Int) (x3 x4 x5 : LI) : Option α :=
 if (decide (x0 < 4)) = true then
 bindO (Fw.m n ((IntKind.wrap .i64 (x0 + (IntKind.wrap .i64 (IntKind.wrap .u64 (Int.tdiv x1 64))))), x2, x3)) fun r6 =>
 if 0 ≤ (Int.tmod x1 64) then
 if 0 ≤ x0 then
 if x0 < 4 then
 if ((Int.tmod x1 64) != 0) = true then
 if 0 ≤ x0 then
 if x0 < 4 then
 bindO (Fw.m n ((IntKind.wrap .i64 ((IntKind.wrap .i64 (x0 + (IntKind.wrap .i64 (IntKind.wrap .u64 (Int.tdiv x1 64))))) + 1)), x2, x3)) fun r20 =>
 if 0 ≤ (IntKind.wrap .u64 (64 - (Int.tmod x1 64))) then
 if 0 ≤ x0 then
 if x0 < 4 then
 rc (IntKind.wrap .i64 (x0 + 1)) x1 x2 x3 (List.set (List.set x4 (Int.toNat x0) (ishr .u64 r6 (Int.tmod x1 64))) (Int.toNat x0) (ibits BinOp.or .u64 (List.getD (List.set x4 (Int.toNat x0) (ishr .u64 r6 (Int.tmod x1 64))) (Int.toNat x0) 0) (ishl .u64 r20 (IntKind.wrap .u64 (64 - (Int.tmod x1 64)))))) x5
 else
 none
 else
 none
 else
 none
 else
 none
 else
 none
 else
 rc (IntKind.wrap .i64 (x0 + 1)) x1 x2 x3 (List.set x4 (Int.toNat x0) (ishr .u64 r6 (Int.tmod x1 64))) x5
 else
 none
 else
 none
 else
 none
 else
 some (mk0 x4 x5)
def Fad.l4_0.g {α : Type} (mk0 : LI → LI → α) (n : Nat) : Nat → Int → Int → Int → LI → LI → LI → Option α
 | 0, _, _, _, _, _, _ => none
 | m + 1, x0, x1, x2, x3, x4, x5 => Fad.l4_0.r mk0 n (fun y0 y1 y2 y3 y4 y5 => Fad.l4_0.g mk0 n m y0 y1 y2 y3 y4 y5)  x0 x1 x2 x3 x4 x5
def Fad.l4_0.m (n m : Nat) (t : (Int × (Int × (Int × (LI × (LI × LI)))))) : Option (LI × LI) := Fad.l4_0.g (fun a0 a1 => (a0, a1)) n m t.1 t.2.1 t.2.2.1 t.2.2.2.1 t.w.1 t.w.2
def Fad.l4_0.pat : St → Option (Int × (Int × (Int × (LI × (LI × LI)))))
 | (St.mk [(.int .i64 x0), (.int .u64 x1), (.fn (.func 79) [] [(.ptr 0 []), (.ptr 1 [])]), (.ptr 2 []), (.ptr 3 [])] [(some (.var (.int .u64 x2))), (some (.var (.ints .u64 4 x3))), (some (.var (.ints .u64 4 x4))), (some (.var (.ints .u64 4 x5)))]) => some (x0, x1, x2, x3, x4, x5)
 | _ => none
def Fad.l4_0.shape (t : (Int × (Int × (Int × (LI × (LI × LI)))))) : St := (St.mk [(.int .i64 t.1), (.int .u64 t.2.1), (.fn (.func 79) [] [(.ptr 0 []), (.ptr 1 [])]), (.ptr 2 []), (.ptr 3 [])] [(some (.var (.int .u64 t.2.2.1))), (some (.var (.ints .u64 4 t.2.2.2.1))), (some (.var (.ints .u64 4 t.w.1))), (some (.var (.ints .u64 4 t.w.2)))])
def Fad.l4_0.res : (LI × LI) → Ex × St
 | u => ((.exit 0), (St.mk [(.ptr 0 []), (.ptr 1 [])] [(some (.var (.ints .u64 4 u.1))), (some (.var (.ints .u64 4 u.2)))]))
noncomputable def Fad.A (n : Nat) : Ann := ⟨Tryz.f62.ntmps, 0, Fad.live, [], [none], fun k => match k with
 | 4 => some (.mk' Fad.l4_0.pat (Fad.l4_0.m n n) (resKl Fad.l4_0.res))
 | _ => none, noNL, lookJ []⟩
noncomputable def Fad.b0 : Code := (loopsIn (Tryz.f62.body.getD .skip)).getD 0 .skip
def Fad.g {α : Type} (mk0 : LI → α) (n : Nat) (a0 : Int) (a1 : LI) (a2 : Int) : Option α :=
 bindO (Fad.l4_0.m n n (0, a0, a2, a1, [0, 0, 0, 0], [0, 0, 0, 0])) fun r2 =>
 some (mk0 r2.1)
def Fad.m (n : Nat) (t : (Int × (LI × Int))) : Option LI := Fad.g (fun a0 => a0) n t.1 t.2.1 t.2.2
def Fad.pat : List AV → Blks → Option (Int × (LI × Int))
 | [(.int .u64 a0), (.ints .u64 4 a1), (.int .u64 a2)], [] => some (a0, a1, a2)
 | _, _ => none
def Fad.shape (t : (Int × (LI × Int))) : List AV × Blks := ([(.int .u64 t.1), (.ints .u64 4 t.2.1), (.int .u64 t.2.2)], [])
def Fad.res : LI → AV × Blks
 | u => ((.ints .u64 4 u), [])
def Fad.c (n : Nat) : Abs.Callee := .mk' [] [none, none, none] Fad.pat (Fad.m n) (resKof Fad.res)
noncomputable def Fbe.C (n : Nat) : Ctx := ⟨Tryz.prog, dskG, lookC [(63, Fbb.c n), (62, Fad.c n)], fun _ => false⟩
noncomputable def Fbe.A (n : Nat) : Ann := ⟨Tryz.f47.ntmps, 0, noNL, [], [none], fun k => match k with
 | _ => none, noNL, lookJ []⟩
def Fbe.g {α : Type} (mk0 : LI → α) (n : Nat) (a0 a1 : LI) : Option α :=
 bindO (Fbb.m n a0) fun r2 =>
 bindO (Fad.m n (r2, a1, 0)) fun r4 =>
 some (mk0 r4)
def Fbe.m (n : Nat) (t : (LI × LI)) : Option LI := Fbe.g (fun a0 => a0) n t.1 t.2
def Fbe.pat : List AV → Blks → Option (LI × LI)
 | [(.ints .u64 4 a0), (.ints .u64 4 a1)], [] => some (a0, a1)
 | _, _ => none
def Fbe.shape (t : (LI × LI)) : List AV × Blks := ([(.ints .u64 4 t.1), (.ints .u64 4 t.2)], [])
def Fbe.res : LI → AV × Blks
 | u => ((.ints .u64 4 u), [])
def Fbe.c (n : Nat) : Abs.Callee := .mk' [] [none, none] Fbe.pat (Fbe.m n) (resKof Fbe.res)
noncomputable def Faa.C (n : Nat) : Ctx := ⟨Tryz.prog, dskG, lookC [(48, Fao.c n), (47, Fbe.c n)], fun _ => false⟩
noncomputable def Faa.A (n : Nat) : Ann := ⟨Tryz.f24.ntmps, 0, noNL, [], [none], fun k => match k with
 | _ => none, noNL, lookJ []⟩
def Faa.g {α : Type} (mk0 : Bool → α) (n : Nat) (a0 : LI) (a1 : Int) : Option α :=
 bindO (Fao.m n a1) fun r2 =>
 bindO (Fbe.m n (r2, a0)) fun r4 =>
 some (mk0 (r4 == [0, 0, 0, 0]))
def Faa.m (n : Nat) (t : (LI × Int)) : Option Bool := Faa.g (fun a0 => a0) n t.1 t.2
def Faa.pat : List AV → Blks → Option (LI × Int)
 | [(.ints .u64 4 a0), (.int .u64 a1)], [] => some (a0, a1)
 | _, _ => none
def Faa.shape (t : (LI × Int)) : List AV × Blks := ([(.ints .u64 4 t.1), (.int .u64 t.2)], [])
def Faa.res : Bool → AV × Blks
 | u => ((.bool u), [])
def Faa.c (n : Nat) : Abs.Callee := .mk' [] [none, none] Faa.pat (Faa.m n) (resKof Faa.res)
noncomputable def Fae.C (n : Nat) : Ctx := ⟨Tryz.prog, dskG, lookC [(24, Faa.c n), (10, Faq.c n), (26, Fap.c n), (25, Fn.c n)], fun _ => false⟩
noncomputable def Fae.A (n : Nat) : Ann := ⟨Tryz.f7.ntmps, 5, noNL, [], [none], fun k => match k with
 | _ => none, noNL, lookJ []⟩
def Fae.g {α : Type} (mk0 : LI → Int → Int → LA → LA → LA → LA → α) (n : Nat) (a k : LI) (r x : Int) (p q : LA) (o j : LA) : Option α :=
 bindO (Faa.m n (k, 64)) fun r2 =>
 if (!r2) = true then
 some (mk0 [0, 0, 0, 0] r x p q o j)
 else
 bindO (Faq.m n Unit.unit) fun r6 =>
 bindO (Fap.m n (a, 3, (List.getD k 0 0))) fun r8 =>
 bindO (Fn.m n (r6, r8, r, x, p, q, o, j)) fun r10 =>
 some (mk0 [(List.getD r10.1 0 0), (List.getD k 0 0), 0, 0] r10.2.1 r10.2.2.1 r10.2.2.2.1 r10.w.1 r10.w.2.1 r10.w.2.2)
def Fae.m (n : Nat) (t : Ty21) : Option Ty25 := Fae.g (fun a0 a1 a2 a3 a4 a5 a6 => (a0, a1, a2, a3, a4, a5, a6)) n t.1 t.2.1 t.2.2.1 t.2.2.2.1 t.w.1 t.w.2.1 t.w.2.2.1 t.w.2.2.2
def Fae.pat : List AV → Blks → Option Ty21
 | [(.ptr 0 []), (.ints .u8 20 a), (.ints .u64 4 k)], [(some (.var (.agg [(.own 1 0), (.own 2 0), (.rmap []), (.rmap []), (.own 3 0), (.rmap []), (.int .i64 r), .snil, (.own 4 36), .snil, (.int .i64 x)]))), (some (.mp p)), (some (.mp q)), (some (.mp o)), (some (.objs 104 36 j))] => some (a, k, r, x, p, q, o, j)
 | _, _ => none
def Fae.shape (t : Ty21) : List AV × Blks := ([(.ptr 0 []), (.ints .u8 20 t.1), (.ints .u64 4 t.2.1)], [(some (.var (.agg [(.own 1 0), (.own 2 0), (.rmap []), (.rmap []), (.own 3 0), (.rmap []), (.int .i64 t.2.2.1), .snil, (.own 4 36), .snil, (.int .i64 t.2.2.2.1)]))), (some (.mp t.w.1)), (some (.mp t.w.2.1)), (some (.mp t.w.2.2.1)), (some (.objs 104 36 t.w.2.2.2))])
def Fae.res : Ty25 → AV × Blks
 | u => ((.ints .u64 4 u.1), [(some (.var (.agg [(.own 1 0), (.own 2 0), (.rmap []), (.rmap []), (.own 3 0), (.rmap []), (.int .i64 u.2.1), .snil, (.own 4 36), .snil, (.int .i64 u.2.2.1)]))), (some (.mp u.2.2.2.1)), (some (.mp u.w.1)), (some (.mp u.w.2.1)), (some (.objs 104 36 u.w.2.2))])
def Fae.c (n : Nat) : Abs.Callee := .mk' [true, false, false] [none, none, none] Fae.pat (Fae.m n) (resKof Fae.res)
noncomputable def Fc.C (n : Nat) : Ctx := ⟨Tryz.prog, dskG, lookC [], fun _ => false⟩
noncomputable def Fc.A (n : Nat) : Ann := ⟨Tryz.f46.ntmps, 0, noNL, [], [none], fun k => match k with
 | _ => none, noNL, lookJ []⟩
def Fc.g {α : Type} (mk0 : Bool → α) (n : Nat) (ad k : LI) (v o : LI) : Option α :=
 some (mk0 (ad == o))
def Fc.m (n : Nat) (t : (LI × (LI × (LI × LI)))) : Option Bool := Fc.g (fun a0 => a0) n t.1 t.2.1 t.2.2.1 t.2.2.2
def Fc.pat : List AV → Blks → Option (LI × (LI × (LI × LI)))
 | [(.agg [(.ints .u8 20 ad), (.ints .u64 4 k)]), (.ints .u64 4 v), (.rptr (.ints .u8 20 o))], [] => some (ad, k, v, o)
 | _, _ => none
def Fc.shape (t : (LI × (LI × (LI × LI)))) : List AV × Blks := ([(.agg [(.ints .u8 20 t.1), (.ints .u64 4 t.2.1)]), (.ints .u64 4 t.2.2.1), (.rptr (.ints .u8 20 t.2.2.2))], [])
def Fc.res : Bool → AV × Blks
 | u => ((.bool u), [])
def Fc.c (n : Nat) : Abs.Callee := .mk' [] [none, none] Fc.pat (Fc.m n) (resKof Fc.res)
def Fa.m (n : Nat) (t : LI × LA) : Option LA := match t.2 with
 | [] => some []
 | _ => none
def Fa.pat : List AV → Blks → Option (LI × LA)
 | [(.own 0 0), (.fn (.func 46) [] [(.rptr (.ints .u8 20 a))])], [(some (.mp l))] => some (a, l)
 | _, _ => none
def Fa.shape (t : LI × LA) : List AV × Blks := ([(.own 0 0), (.fn (.func 46) [] [(.rptr (.ints .u8 20 t.1))])], [(some (.mp t.2))])
def Fa.res : LA → AV × Blks
 | u => ((.tup []), [(some (.mp u))])
def Fa.c (n : Nat) : Abs.Callee := .mk' [true, false] [none, none] Fa.pat (Fa.m n) (resKof Fa.res)
noncomputable def Fh.C (n : Nat) : Ctx := ⟨Tryz.prog, dskG, lookC [(46, Fc.c n), (45, Fa.c n)], fun t => t == 23⟩
noncomputable def Fh.A (n : Nat) : Ann := ⟨Tryz.f22.ntmps, 3, noNL, [], [], fun k => match k with
 | _ => none, noNL, lookJ []⟩
def Fh.g {α : Type} (mk0 : Int → Int → LA → LA → α) (n : Nat) (a : LI) (r x : Int) (p q : LA) : Option α :=
 bindO (Go.Abs.mdelL (AV.ints .u8 20 a) p) fun r2 =>
 bindO (Fa.m n (a, q)) fun r4 =>
 some (mk0 r x r2 r4)
def Fh.m (n : Nat) (t : (LI × (Int × (Int × (LA × LA))))) : Option (Int × (Int × (LA × LA))) := Fh.g (fun a0 a1 a2 a3 => (a0, a1, a2, a3)) n t.1 t.2.1 t.2.2.1 t.2.2.2.1 t.w
def Fh.pat : List AV → Blks → Option (LI × (Int × (Int × (LA × LA))))
 | [(.ptr 0 []), (.ints .u8 20 a)], [(some (.var (.agg [(.own 1 0), (.own 2 0), (.raw (.map none)), (.raw (.map none)), (.raw (.map none)), (.raw (.map none)), (.int .i64 r), .snil, .snil, .snil, (.int .i64 x)]))), (some (.mp p)), (some (.mp q))] => some (a, r, x, p, q)
 | _, _ => none
def Fh.shape (t : (LI × (Int × (Int × (LA × LA))))) : List AV × Blks := ([(.ptr 0 []), (.ints .u8 20 t.1)], [(some (.var (.agg [(.own 1 0), (.own 2 0), (.raw (.map none)), (.raw (.map none)), (.raw (.map none)), (.raw (.map none)), (.int .i64 t.2.1), .snil, .snil, .snil, (.int .i64 t.2.2.1)]))), (some (.mp t.2.2.2.1)), (some (.mp t.w))])
def Fh.res : (Int × (Int × (LA × LA))) → AV × Blks
 | u => ((.tup []), [(some (.var (.agg [(.own 1 0), (.own 2 0), (.raw (.map none)), (.raw (.map none)), (.raw (.map none)), (.raw (.map none)), (.int .i64 u.1), .snil, .snil, .snil, (.int .i64 u.2.1)]))), (some (.mp u.2.2.1)), (some (.mp u.2.2.2))])
def Fh.c (n : Nat) : Abs.Callee := .mk' [true, false] [none, none] Fh.pat (Fh.m n) (resKof Fh.res)
noncomputable def Fj.C (n : Nat) : Ctx := ⟨Tryz.prog, dskG, lookC [], fun t => t == 7000062⟩
noncomputable def Fj.A (n : Nat) : Ann := ⟨Tryz.f23.ntmps, 3, noNL, [], [], fun k => match k with
 | _ => none, noNL, lookJ []⟩
def Fj.g {α : Type} (mk0 : Int → Int → LA → LA → LA → α) (n : Nat) (r x : Int) (p q : LA) : Option α :=
 some (mk0 0 0 p q [])
def Fj.m (n : Nat) (t : (Int × (Int × (LA × LA)))) : Option (Int × (Int × (LA × (LA × LA)))) := Fj.g (fun a0 a1 a2 a3 a4 => (a0, a1, a2, a3, a4)) n t.1 t.2.1 t.2.2.1 t.2.2.2
def Fj.pat : List AV → Blks → Option (Int × (Int × (LA × LA)))
 | [(.ptr 0 [])], [(some (.var (.agg [(.own 1 0), (.own 2 0), (.raw (.map none)), (.raw (.map none)), (.raw (.map none)), (.raw (.map none)), (.int .i64 r), .snil, .snil, .snil, (.int .i64 x)]))), (some (.mp p)), (some (.mp q))] => some (r, x, p, q)
 | _, _ => none
def Fj.shape (t : (Int × (Int × (LA × LA)))) : List AV × Blks := ([(.ptr 0 [])], [(some (.var (.agg [(.own 1 0), (.own 2 0), (.raw (.map none)), (.raw (.map none)), (.raw (.map none)), (.raw (.map none)), (.int .i64 t.1), .snil, .snil, .snil, (.int .i64 t.2.1)]))), (some (.mp t.2.2.1)), (some (.mp t.2.2.2))])
def Fj.res : (Int × (Int × (LA × (LA × LA)))) → AV × Blks
 | u => ((.tup []), [(some (.var (.agg [(.own 1 0), (.own 2 0), (.rmap []), (.rmap []), (.own 3 0), (.rmap []), (.int .i64 u.1), .snil, .snil, .snil, (.int .i64 u.2.1)]))), (some (.mp u.2.2.1)), (some (.mp u.2.2.2.1)), (some (.mp u.w))])
def Fj.c (n : Nat) : Abs.Callee := .mk' [true] [none] Fj.pat (Fj.m n) (resKof Fj.res)
noncomputable def Far.C (n : Nat) : Ctx := ⟨Tryz.prog, dskG, lookC [(22, Fh.c n), (23, Fj.c n)], fun t => t == 7000061 || t == 7000062⟩
def Far.live : NL := fun k => match k with
 | 3 => ([14, 13, 12, 3], [3])
 | 8 => ([43, 42, 41, 3, 5, 14, 13, 12], [14, 13, 12, 3])
 | _ => ([], [])
def Far.l8_0.r {α : Type} (mk0 : Int → Int → LA → Int → Int → LA → LA → α) (n : Nat) (rc : Int → Int → LA → Int → Int → LA → Int → Int → LI → Int → LI → LI → LA → LA → LA → Option α)  (x0 x1 : Int) (x2 : LA) (x3 x4 : Int) (x5 : LA) (x6 x7 : Int) (x8 : LI) (x9 : Int) (x10 x11 : LI) (x12 x13 x14 : LA) : Option α :=
 if (decide (x0 < x1)) = true then
 if 0 ≤ x0 then
 if x0 < (x2.length : Int) then
 bindO (tkAgg 2 (List.getD x2 (Int.toNat x0) AV.any)) fun r10 =>
 bindO (tkInts .u64 4 (List.getD r10 0 AV.any)) fun r12 =>
 bindO (tkInts .u64 4 (List.getD r10 1 AV.any)) fun r14 =>
 bindO (Go.Abs.mputL (AV.agg [(AV.ints .u8 20 x8), (AV.ints .u64 4 r12)]) (AV.ints .u64 4 r14) x14) fun r16 =>
 rc (IntKind.wrap .i64 (x0 + 1)) x1 x2 x3 x4 x5 x6 x7 x8 x9 x10 x11 x12 x13 r16
 else
 none
 else
 none
 else
 some (mk0 x3 x4 x5 x6 x7 x13 x14)
def Far.l8_0.g {α : Type} (mk0 : Int → Int → LA → Int → Int → LA → LA → α) (n : Nat) : Nat → Int → Int → LA → Int → Int → LA → Int → Int → LI → Int → LI → LI → LA → LA → LA → Option α
 | 0, _, _, _, _, _, _, _, _, _, _, _, _, _, _, _ => none
 | m + 1, x0, x1, x2, x3, x4, x5, x6, x7, x8, x9, x10, x11, x12, x13, x14 => Far.l8_0.r mk0 n (fun y0 y1 y2 y3 y4 y5 y6 y7 y8 y9 y10 y11 y12 y13 y14 => Far.l8_0.g mk0 n m y0 y1 y2 y3 y4 y5 y6 y7 y8 y9 y10 y11 y12 y13 y14)  x0 x1 x2 x3 x4 x5 x6 x7 x8 x9 x10 x11 x12 x13 x14
def Far.l8_0.m (n m : Nat) (t : Ty2) : Option Ty23 := Far.l8_0.g (fun a0 a1 a2 a3 a4 a5 a6 => (a0, a1, a2, a3, a4, a5, a6)) n m t.1 t.2.1 t.2.2.1 t.2.2.2.1 t.w.1 t.w.2.1 t.w.2.2.1 t.w.2.2.2.1 t.x.1 t.x.2.1 t.x.2.2.1 t.x.2.2.2.1 t.x.w.1 t.x.w.2.1 t.x.w.2.2
def Far.l8_0.pat : St → Option Ty2
 | (St.mk [(.int .i64 x0), (.int .i64 x1), (.robjs 74 8 x2), (.ptr 0 []), (.ptr 1 []), (.int .i64 x3), (.int .i64 x4), (.robjs 53 27 x5)] [(some (.var (.agg [(.own 2 0), (.own 3 0), (.raw (.map none)), (.raw (.map none)), (.raw (.map none)), (.raw (.map none)), (.int .i64 x6), .snil, .snil, .snil, (.int .i64 x7)]))), (some (.var (.agg [(.ints .u8 20 x8), (.agg [(.int .u64 x9), (.ints .u64 4 x10), (.rints .u8 x11), (.robjs 74 8 x12)])]))), (some (.mp x13)), (some (.mp x14))]) => some (x0, x1, x2, x3, x4, x5, x6, x7, x8, x9, x10, x11, x12, x13, x14)
 | _ => none
def Far.l8_0.shape (t : Ty2) : St := (St.mk [(.int .i64 t.1), (.int .i64 t.2.1), (.robjs 74 8 t.2.2.1), (.ptr 0 []), (.ptr 1 []), (.int .i64 t.2.2.2.1), (.int .i64 t.w.1), (.robjs 53 27 t.w.2.1)] [(some (.var (.agg [(.own 2 0), (.own 3 0), (.raw (.map none)), (.raw (.map none)), (.raw (.map none)), (.raw (.map none)), (.int .i64 t.w.2.2.1), .snil, .snil, .snil, (.int .i64 t.w.2.2.2.1)]))), (some (.var (.agg [(.ints .u8 20 t.x.1), (.agg [(.int .u64 t.x.2.1), (.ints .u64 4 t.x.2.2.1), (.rints .u8 t.x.2.2.2.1), (.robjs 74 8 t.x.w.1)])]))), (some (.mp t.x.w.2.1)), (some (.mp t.x.w.2.2))])
def Far.l8_0.res : Ty23 → Ex × St
 | u => ((.exit 2), (St.mk [(.int .i64 u.1), (.int .i64 u.2.1), (.robjs 53 27 u.2.2.1), (.ptr 0 [])] [(some (.var (.agg [(.own 1 0), (.own 2 0), (.raw (.map none)), (.raw (.map none)), (.raw (.map none)), (.raw (.map none)), (.int .i64 u.2.2.2.1), .snil, .snil, .snil, (.int .i64 u.w.1)]))), (some (.mp u.w.2.1)), (some (.mp u.w.2.2))]))
def Far.l3_0.r {α : Type} (mk0 : Int → Int → LA → LA → α) (n : Nat) (rc : Int → Int → LA → Int → Int → LA → LA → Option α)  (x0 x1 : Int) (x2 : LA) (x3 x4 : Int) (x5 x6 : LA) : Option α :=
 if (decide (x0 < x1)) = true then
 if 0 ≤ x0 then
 if x0 < (x2.length : Int) then
 bindO (tkAgg 2 (List.getD x2 (Int.toNat x0) AV.any)) fun r10 =>
 bindO (tkInts .u8 20 (List.getD r10 0 AV.any)) fun r12 =>
 bindO (tkAgg 4 (List.getD r10 1 AV.any)) fun r14 =>
 bindO (tkInt .u64 (List.getD r14 0 AV.any)) fun r16 =>
 bindO (tkInts .u64 4 (List.getD r14 1 AV.any)) fun r18 =>
 bindO (tkRints .u8 (List.getD r14 2 AV.any)) fun r20 =>
 bindO (tkRobjs 74 8 (List.getD r14 3 AV.any)) fun r22 =>
 bindO (Fh.m n (r12, x3, x4, x5, x6)) fun r24 =>
 bindO (Go.Abs.mputL (AV.ints .u8 20 r12) (AV.agg [(AV.int .u64 r16), (AV.ints .u64 4 r18), (AV.str (Go.Abs.strOf r20))]) r24.2.2.1) fun r26 =>
 bindO (Far.l8_0.m n n (0, (r22.length : Int), r22, x0, x1, x2, r24.1, r24.2.1, r12, r16, r18, r20, r22, r26, r24.2.2.2)) fun r28 =>
 rc (IntKind.wrap .i64 (r28.1 + 1)) r28.2.1 r28.2.2.1 r28.2.2.2.1 r28.w.1 r28.w.2.1 r28.w.2.2
 else
 none
 else
 none
 else
 some (mk0 x3 x4 x5 x6)
def Far.l3_0.g {α : Type} (mk0 : Int → Int → LA → LA → α) (n : Nat) : Nat → Int → Int → LA → Int → Int → LA → LA → Option α
 | 0, _, _, _, _, _, _, _ => none
 | m + 1, x0, x1, x2, x3, x4, x5, x6 => Far.l3_0.r mk0 n (fun y0 y1 y2 y3 y4 y5 y6 => Far.l3_0.g mk0 n m y0 y1 y2 y3 y4 y5 y6)  x0 x1 x2 x3 x4 x5 x6
def Far.l3_0.m (n m : Nat) (t : Ty23) : Option (Int × (Int × (LA × LA))) := Far.l3_0.g (fun a0 a1 a2 a3 => (a0, a1, a2, a3)) n m t.1 t.2.1 t.2.2.1 t.2.2.2.1 t.w.1 t.w.2.1 t.w.2.2
def Far.l3_0.pat : St → Option Ty23
 | (St.mk [(.int .i64 x0), (.int .i64 x1), (.robjs 53 27 x2), (.ptr 0 [])] [(some (.var (.agg [(.own 1 0), (.own 2 0), (.raw (.map none)), (.raw (.map none)), (.raw (.map none)), (.raw (.map none)), (.int .i64 x3), .snil, .snil, .snil, (.int .i64 x4)]))), (some (.mp x5)), (some (.mp x6))]) => some (x0, x1, x2, x3, x4, x5, x6)
 | _ => none
def Far.l3_0.shape (t : Ty23) : St := (St.mk [(.int .i64 t.1), (.int .i64 t.2.1), (.robjs 53 27 t.2.2.1), (.ptr 0 [])] [(some (.var (.agg [(.own 1 0), (.own 2 0), (.raw (.map none)), (.raw (.map none)), (.raw (.map none)), (.raw (.map none)), (.int .i64 t.2.2.2.1), .snil, .snil, .snil, (.int .i64 t.w.1)]))), (some (.mp t.w.2.1)), (some (.mp t.w.2.2))])
def Far.l3_0.res : (Int × (Int × (LA × LA))) → Ex × St
 | u => ((.exit 0), (St.mk [(.ptr 0 [])] [(some (.var (.agg [(.own 1 0), (.own 2 0), (.raw (.map none)), (.raw (.map none)), (.raw (.map none)), (.raw (.map none)), (.int .i64 u.1), .snil, .snil, .snil, (.int .i64 u.2.1)]))), (some (.mp u.2.2.1)), (some (.mp u.2.2.2))]))
noncomputable def Far.A (n : Nat) : Ann := ⟨Tryz.f6.ntmps, 0, Far.live, [(12, (.objs 53 27)), (41, (.objs 74 8))], [(some (.agg [none, none, none, none, none, none, none, none, (some (.objs 104 36))]))], fun k => match k with
 | 8 => some (.mk' Far.l8_0.pat (Far.l8_0.m n n) (resKl Far.l8_0.res))
 | 3 => some (.mk' Far.l3_0.pat (Far.l3_0.m n n) (resKl Far.l3_0.res))
 | _ => none, noNL, lookJ []⟩
noncomputable def Far.b0 : Code := (loopsIn (Tryz.f6.body.getD .skip)).getD 0 .skip
noncomputable def Far.b1 : Code := (loopsIn (Tryz.f6.body.getD .skip)).getD 1 .skip
def Far.g {α : Type} (mk0 : Int → Int → LA → LA → LA → LA → α) (n : Nat) (a0 : LA) : Option α :=
 bindO (Far.l3_0.m n n (0, (a0.length : Int), a0, 0, 0, [], [])) fun r2 =>
 bindO (Fj.m n (r2.1, r2.2.1, r2.2.2.1, r2.2.2.2)) fun r4 =>
 some (mk0 r4.1 r4.2.1 r4.2.2.1 r4.2.2.2.1 r4.w [])
def Far.m (n : Nat) (t : LA) : Option (Int × (Int × (LA × (LA × (LA × LA))))) := Far.g (fun a0 a1 a2 a3 a4 a5 => (a0, a1, a2, a3, a4, a5)) n t
def Far.pat : List AV → Blks → Option LA
 | [(.robjs 53 27 a0)], [] => some a0
 | _, _ => none
def Far.shape (t : LA) : List AV × Blks := ([(.robjs 53 27 t)], [])
def Far.res : (Int × (Int × (LA × (LA × (LA × LA))))) → AV × Blks
 | u => ((.ptr 0 []), [(some (.var (.agg [(.own 1 0), (.own 2 0), (.rmap []), (.rmap []), (.own 3 0), (.rmap []), (.int .i64 u.1), .snil, (.own 4 36), .snil, (.int .i64 u.2.1)]))), (some (.mp u.2.2.1)), (some (.mp u.2.2.2.1)), (some (.mp u.w.1)), (some (.objs 104 36 u.w.2))])
def Far.c (n : Nat) : Abs.Callee := .mk' [] [(some (.objs 53 27))] Far.pat (Far.m n) (resKof Far.res)
noncomputable def Fx.C (n : Nat) : Ctx := ⟨Tryz.prog, dskG, lookC [(10, Faq.c n), (26, Fap.c n), (25, Fn.c n)], fun _ => false⟩
noncomputable def Fx.A (n : Nat) : Ann := ⟨Tryz.f18.ntmps, 5, noNL, [], [none], fun k => match k with
 | _ => none, noNL, lookJ []⟩
def Fx.g {α : Type} (mk0 : LI → Int → Int → LA → LA → LA → LA → α) (n : Nat) (a : LI) (r x : Int) (p q : LA) (o j : LA) : Option α :=
 bindO (Faq.m n Unit.unit) fun r2 =>
 bindO (Fap.m n (a, 0, 0)) fun r4 =>
 bindO (Fn.m n (r2, r4, r, x, p, q, o, j)) fun r6 =>
 some (mk0 r6.1 r6.2.1 r6.2.2.1 r6.2.2.2.1 r6.w.1 r6.w.2.1 r6.w.2.2)
def Fx.m (n : Nat) (t : Ty25) : Option Ty25 := Fx.g (fun a0 a1 a2 a3 a4 a5 a6 => (a0, a1, a2, a3, a4, a5, a6)) n t.1 t.2.1 t.2.2.1 t.2.2.2.1 t.w.1 t.w.2.1 t.w.2.2
def Fx.pat : List AV → Blks → Option Ty25
 | [(.ptr 0 []), (.ints .u8 20 a)], [(some (.var (.agg [(.own 1 0), (.own 2 0), (.rmap []), (.rmap []), (.own 3 0), (.rmap []), (.int .i64 r), .snil, (.own 4 36), .snil, (.int .i64 x)]))), (some (.mp p)), (some (.mp q)), (some (.mp o)), (some (.objs 104 36 j))] => some (a, r, x, p, q, o, j)
 | _, _ => none
def Fx.shape (t : Ty25) : List AV × Blks := ([(.ptr 0 []), (.ints .u8 20 t.1)], [(some (.var (.agg [(.own 1 0), (.own 2 0), (.rmap []), (.rmap []), (.own 3 0), (.rmap []), (.int .i64 t.2.1), .snil, (.own 4 36), .snil, (.int .i64 t.2.2.1)]))), (some (.mp t.2.2.2.1)), (some (.mp t.w.1)), (some (.mp t.w.2.1)), (some (.objs 104 36 t.w.2.2))])
def Fx.res : Ty25 → AV × Blks
 | u => ((.ints .u64 4 u.1), [(some (.var (.agg [(.own 1 0), (.own 2 0), (.rmap []), (.rmap []), (.own 3 0), (.rmap []), (.int .i64 u.2.1), .snil, (.own 4 36), .snil, (.int .i64 u.2.2.1)]))), (some (.mp u.2.2.2.1)), (some (.mp u.w.1)), (some (.mp u.w.2.1)), (some (.objs 104 36 u.w.2.2))])
def Fx.c (n : Nat) : Abs.Callee := .mk' [true, false] [none, none] Fx.pat (Fx.m n) (resKof Fx.res)
def Faf.m (n : Nat) (t : (Int × (Int × Int))) : Option (Int × Int) := xAdd64 t
def Faf.pat : List AV → Blks → Option (Int × (Int × Int))
 | [(.int .u64 a0), (.int .u64 a1), (.int .u64 a2)], [] => some (a0, a1, a2)
 | _, _ => none
def Faf.shape (t : (Int × (Int × Int))) : List AV × Blks := ([(.int .u64 t.1), (.int .u64 t.2.1), (.int .u64 t.2.2)], [])
def Faf.res : (Int × Int) → AV × Blks
 | u => ((.tup [(.int .u64 u.1), (.int .u64 u.2)]), [])
def Faf.c (n : Nat) : Abs.Callee := .mk' [] [none, none, none] Faf.pat (Faf.m n) (resKof Faf.res)
noncomputable def Fbf.C (n : Nat) : Ctx := ⟨Tryz.prog, dskG, lookC [(65, Faf.c n)], fun _ => false⟩
def Fbf.live : NL := fun k => match k with
 | 4 => ([9, 2, 3, 7, 6, 4], [6, 7, 4])
 | _ => ([], [])
def Fbf.l4_0.r {α : Type} (mk0 : Int → LI → LI → α) (n : Nat) (rc : Int → Int → LI → LI → LI → LI → Option α)  (x0 x1 : Int) (x2 x3 : LI) (x4 x5 : LI) : Option α :=
 if (decide (x0 < 4)) = true then
 if 0 ≤ x0 then
 if x0 < 4 then
 if 0 ≤ x0 then
 if x0 < 4 then
 bindO (Faf.m n ((List.getD x2 (Int.toNat x0) 0), (List.getD x3 (Int.toNat x0) 0), x1)) fun r14 =>
 if 0 ≤ x0 then
 if x0 < 4 then
 rc (IntKind.wrap .i64 (x0 + 1)) r14.2 x2 x3 (List.set x4 (Int.toNat x0) r14.1) x5
 else
 none
 else
 none
 else
 none
 else
 none
 else
 none
 else
 none
 else
 some (mk0 x1 x4 x5)
def Fbf.l4_0.g {α : Type} (mk0 : Int → LI → LI → α) (n : Nat) : Nat → Int → Int → LI → LI → LI → LI → Option α
 | 0, _, _, _, _, _, _ => none
 | m + 1, x0, x1, x2, x3, x4, x5 => Fbf.l4_0.r mk0 n (fun y0 y1 y2 y3 y4 y5 => Fbf.l4_0.g mk0 n m y0 y1 y2 y3 y4 y5)  x0 x1 x2 x3 x4 x5
def Fbf.l4_0.m (n m : Nat) (t : (Int × (Int × (LI × (LI × (LI × LI)))))) : Option (Int × (LI × LI)) := Fbf.l4_0.g (fun a0 a1 a2 => (a0, a1, a2)) n m t.1 t.2.1 t.2.2.1 t.2.2.2.1 t.w.1 t.w.2
def Fbf.l4_0.pat : St → Option (Int × (Int × (LI × (LI × (LI × LI)))))
 | (St.mk [(.int .i64 x0), (.ptr 0 []), (.ptr 1 []), (.int .u64 x1), (.ptr 2 []), (.ptr 3 [])] [(some (.var (.ints .u64 4 x2))), (some (.var (.ints .u64 4 x3))), (some (.var (.ints .u64 4 x4))), (some (.var (.ints .u64 4 x5)))]) => some (x0, x1, x2, x3, x4, x5)
 | _ => none
def Fbf.l4_0.shape (t : (Int × (Int × (LI × (LI × (LI × LI)))))) : St := (St.mk [(.int .i64 t.1), (.ptr 0 []), (.ptr 1 []), (.int .u64 t.2.1), (.ptr 2 []), (.ptr 3 [])] [(some (.var (.ints .u64 4 t.2.2.1))), (some (.var (.ints .u64 4 t.2.2.2.1))), (some (.var (.ints .u64 4 t.w.1))), (some (.var (.ints .u64 4 t.w.2)))])
def Fbf.l4_0.res : (Int × (LI × LI)) → Ex × St
 | u => ((.exit 0), (St.mk [(.ptr 0 []), (.int .u64 u.1), (.ptr 1 [])] [(some (.var (.ints .u64 4 u.2.1))), (some (.var (.ints .u64 4 u.2.2)))]))
noncomputable def Fbf.A (n : Nat) : Ann := ⟨Tryz.f51.ntmps, 0, Fbf.live, [], [none, none], fun k => match k with
 | 4 => some (.mk' Fbf.l4_0.pat (Fbf.l4_0.m n n) (resKl Fbf.l4_0.res))
 | _ => none, noNL, lookJ []⟩
noncomputable def Fbf.b0 : Code := (loopsIn (Tryz.f51.body.getD .skip)).getD 0 .skip
def Fbf.g {α : Type} (mk0 : LI → Bool → α) (n : Nat) (a0 a1 : LI) : Option α :=
 bindO (Fbf.l4_0.m n n (0, 0, a0, a1, [0, 0, 0, 0], [0, 0, 0, 0])) fun r2 =>
 some (mk0 r2.2.1 (r2.1 != 0))
def Fbf.m (n : Nat) (t : (LI × LI)) : Option (LI × Bool) := Fbf.g (fun a0 a1 => (a0, a1)) n t.1 t.2
def Fbf.pat : List AV → Blks → Option (LI × LI)
 | [(.ints .u64 4 a0), (.ints .u64 4 a1)], [] => some (a0, a1)
 | _, _ => none
def Fbf.shape (t : (LI × LI)) : List AV × Blks := ([(.ints .u64 4 t.1), (.ints .u64 4 t.2)], [])
def Fbf.res : (LI × Bool) → AV × Blks
 | u => ((.tup [(.ints .u64 4 u.1), (.bool u.2)]), [])
def Fbf.c (n : Nat) : Abs.Callee := .mk' [] [none, none] Fbf.pat (Fbf.m n) (resKof Fbf.res)
noncomputable def Fab.C (n : Nat) : Ctx := ⟨Tryz.prog, dskG, lookC [(18, Fx.c n), (51, Fbf.c n), (10, Faq.c n), (26, Fap.c n), (27, Fd.c n)], fun _ => false⟩
noncomputable def Fab.A (n : Nat) : Ann := ⟨Tryz.f30.ntmps, 5, noNL, [], [], fun k => match k with
 | _ => none, noNL, lookJ []⟩
def Fab.g {α : Type} (mk0 : Int → Int → LA → LA → LA → LA → α) (n : Nat) (a v : LI) (r x : Int) (p q : LA) (o j : LA) : Option α :=
 bindO (Fx.m n (a, r, x, p, q, o, j)) fun r2 =>
 bindO (Fbf.m n (r2.1, v)) fun r4 =>
 bindO (Faq.m n Unit.unit) fun r6 =>
 bindO (Fap.m n (a, 0, 0)) fun r8 =>
 bindO (Fd.m n (r6, r8, r4.1, r2.2.1, r2.2.2.1, r2.2.2.2.1, r2.w.1, r2.w.2.1, r2.w.2.2)) fun r10 =>
 some (mk0 r10.1 r10.2.1 r10.2.2.1 r10.2.2.2.1 r10.w.1 r10.w.2)
def Fab.m (n : Nat) (t : Ty21) : Option (Int × (Int × (LA × (LA × (LA × LA))))) := Fab.g (fun a0 a1 a2 a3 a4 a5 => (a0, a1, a2, a3, a4, a5)) n t.1 t.2.1 t.2.2.1 t.2.2.2.1 t.w.1 t.w.2.1 t.w.2.2.1 t.w.2.2.2
def Fab.pat : List AV → Blks → Option Ty21
 | [(.ptr 0 []), (.ints .u8 20 a), (.ints .u64 4 v)], [(some (.var (.agg [(.own 1 0), (.own 2 0), (.rmap []), (.rmap []), (.own 3 0), (.rmap []), (.int .i64 r), .snil, (.own 4 36), .snil, (.int .i64 x)]))), (some (.mp p)), (some (.mp q)), (some (.mp o)), (some (.objs 104 36 j))] => some (a, v, r, x, p, q, o, j)
 | _, _ => none
def Fab.shape (t : Ty21) : List AV × Blks := ([(.ptr 0 []), (.ints .u8 20 t.1), (.ints .u64 4 t.2.1)], [(some (.var (.agg [(.own 1 0), (.own 2 0), (.rmap []), (.rmap []), (.own 3 0), (.rmap []), (.int .i64 t.2.2.1), .snil, (.own 4 36), .snil, (.int .i64 t.2.2.2.1)]))), (some (.mp t.w.1)), (some (.mp t.w.2.1)), (some (.mp t.w.2.2.1)), (some (.objs 104 36 t.w.2.2.2))])
def Fab.res : (Int × (Int × (LA × (LA × (LA × LA))))) → AV × Blks
 | u => ((.tup []), [(some (.var (.agg [(.own 1 0), (.own 2 0), (.rmap []), (.rmap []), (.own 3 0), (.rmap []), (.int .i64 u.1), .snil, (.own 5 36), .snil, (.int .i64 u.2.1)]))), (some (.mp u.2.2.1)), (some (.mp u.2.2.2.1)), (some (.mp u.w.1)), none, (some (.objs 104 36 u.w.2))])
def Fab.c (n : Nat) : Abs.Callee := .mk' [true, false, false] [none, none, none] Fab.pat (Fab.m n) (resKof Fab.res)
noncomputable def Fas.C (n : Nat) : Ctx := ⟨Tryz.prog, dskG, lookC [], fun _ => false⟩
noncomputable def Fas.A (n : Nat) : Ann := ⟨Tryz.f66.ntmps, 0, noNL, [], [(some (.objs 120 4))], fun k => match k with
 | _ => none, noNL, lookJ []⟩
def Fas.g {α : Type} (mk0 : LA → α) (n : Nat)  : Option α :=
 some (mk0 [(AV.agg [(AV.str (b8 [100, 101, 112, 111, 115, 105, 116, 84, 111, 40, 97, 100, 100, 114, 101, 115, 115, 41])), (AV.int .i64 1), (AV.bool false), (AV.bool true)]), (AV.agg [(AV.str (b8 [98, 97, 108, 97, 110, 99, 101, 79, 102, 40, 97, 100, 100, 114, 101, 115, 115, 41])), (AV.int .i64 1), (AV.bool true), (AV.bool false)]), (AV.agg [(AV.str (b8 [103, 101, 116, 78, 111, 110, 99, 101, 40, 97, 100, 100, 114, 101, 115, 115, 44, 117, 105, 110, 116, 49, 57, 50, 41])), (AV.int .i64 2), (AV.bool true), (AV.bool false)]), (AV.agg [(AV.str (b8 [105, 110, 99, 114, 101, 109, 101, 110, 116, 78, 111, 110, 99, 101, 40, 117, 105, 110, 116, 49, 57, 50, 41])), (AV.int .i64 1), (AV.bool false), (AV.bool false)]), (AV.agg [(AV.str (b8 [97, 100, 100, 83, 116, 97, 107, 101, 40, 117, 105, 110, 116, 51, 50, 41])), (AV.int .i64 1), (AV.bool false), (AV.bool true)]), (AV.agg [(AV.str (b8 [117, 110, 108, 111, 99, 107, 83, 116, 97, 107, 101, 40, 41])), (AV.int .i64 0), (AV.bool false), (AV.bool false)]), (AV.agg [(AV.str (b8 [119, 105, 116, 104, 100, 114, 97, 119, 83, 116, 97, 107, 101, 40, 97, 100, 100, 114, 101, 115, 115, 41])), (AV.int .i64 1), (AV.bool false), (AV.bool false)]), (AV.agg [(AV.str (b8 [119, 105, 116, 104, 100, 114, 97, 119, 84, 111, 40, 97, 100, 100, 114, 101, 115, 115, 44, 117, 105, 110, 116, 50, 53, 54, 41])), (AV.int .i64 2), (AV.bool false), (AV.bool false)])])
def Fas.m (n : Nat) (t : Unit) : Option LA := Fas.g (fun a0 => a0) n 
def Fas.pat : List AV → Blks → Option Unit
 | [], [] => some ()
 | _, _ => none
def Fas.shape (t : Unit) : List AV × Blks := ([], [])
def Fas.res : LA → AV × Blks
 | u => ((.robjs 120 4 u), [])
def Fas.c (n : Nat) : Abs.Callee := .mk' [] [] Fas.pat (Fas.m n) (resKof Fas.res)
noncomputable def Fk.C (n : Nat) : Ctx := ⟨Tryz.prog, dskG, lookC [], fun _ => false⟩
noncomputable def Fk.A (n : Nat) : Ann := ⟨Tryz.f102.ntmps, 0, noNL, [], [none], fun k => match k with
 | _ => none, noNL, lookJ []⟩
def Fk.g {α : Type} (mk0 : Int → α) (n : Nat) (a0 a1 : Int) : Option α :=
 if 0 ≤ (IntKind.wrap .u64 (64 - (ibits BinOp.and .u64 (IntKind.wrap .u64 a1) 63))) then
 some (mk0 (ibits BinOp.or .u64 (ishl .u64 a0 (ibits BinOp.and .u64 (IntKind.wrap .u64 a1) 63)) (ishr .u64 a0 (IntKind.wrap .u64 (64 - (ibits BinOp.and .u64 (IntKind.wrap .u64 a1) 63))))))
 else
 none
def Fk.m (n : Nat) (t : (Int × Int)) : Option Int := Fk.g (fun a0 => a0) n t.1 t.2
def Fk.pat : List AV → Blks → Option (Int × Int)
 | [(.int .u64 a0), (.int .i64 a1)], [] => some (a0, a1)
 | _, _ => none
def Fk.shape (t : (Int × Int)) : List AV × Blks := ([(.int .u64 t.1), (.int .i64 t.2)], [])
def Fk.res : Int → AV × Blks
 | u => ((.int .u64 u), [])
def Fk.c (n : Nat) : Abs.Callee := .mk' [] [none, none] Fk.pat (Fk.m n) (resKof Fk.res)
noncomputable def Fe.C (n : Nat) : Ctx := ⟨Tryz.prog, dskG, lookC [(102, Fk.c n)], fun _ => false⟩
def Fe.live : NL := fun k => match k with
 | 2 => ([7, 6, 2, 0], [0, 2])
 | 7 => ([21, 0, 2], [])
 | _ => ([], [])
def Fe.l2_0.r {α : Type} (mk0 : LI → LI → α) (n : Nat) (rc : Int → LI → LI → Option α)  (x0 : Int) (x1 x2 : LI) : Option α :=
 if (decide (x0 < 25)) = true then
 if 0 ≤ x0 then
 if x0 < 25 then
 if 0 ≤ (Int.tmod x0 5) then
 if (Int.tmod x0 5) < 5 then
 if 0 ≤ (Int.tmod x0 5) then
 if (Int.tmod x0 5) < 5 then
 rc (IntKind.wrap .i64 (x0 + 1)) x1 (List.set x2 (Int.toNat (Int.tmod x0 5)) (ibits BinOp.xor .u64 (List.getD x2 (Int.toNat (Int.tmod x0 5)) 0) (List.getD x1 (Int.toNat x0) 0)))
 else
 none
 else
 none
 else
 none
 else
 none
 else
 none
 else
 none
 else
 some (mk0 x1 x2)
def Fe.l2_0.g {α : Type} (mk0 : LI → LI → α) (n : Nat) : Nat → Int → LI → LI → Option α
 | 0, _, _, _ => none
 | m + 1, x0, x1, x2 => Fe.l2_0.r mk0 n (fun y0 y1 y2 => Fe.l2_0.g mk0 n m y0 y1 y2)  x0 x1 x2
def Fe.l2_0.m (n m : Nat) (t : (Int × (LI × LI))) : Option (LI × LI) := Fe.l2_0.g (fun a0 a1 => (a0, a1)) n m t.1 t.2.1 t.2.2
def Fe.l2_0.pat : St → Option (Int × (LI × LI))
 | (St.mk [(.int .i64 x0), (.ptr 0 []), (.ptr 1 []), (.ptr 0 [])] [(some (.var (.ints .u64 25 x1))), (some (.var (.ints .u64 5 x2)))]) => some (x0, x1, x2)
 | _ => none
def Fe.l2_0.shape (t : (Int × (LI × LI))) : St := (St.mk [(.int .i64 t.1), (.ptr 0 []), (.ptr 1 []), (.ptr 0 [])] [(some (.var (.ints .u64 25 t.2.1))), (some (.var (.ints .u64 5 t.2.2)))])
def Fe.l2_0.res : (LI × LI) → Ex × St
 | u => ((.exit 0), (St.mk [(.ptr 0 []), (.ptr 1 [])] [(some (.var (.ints .u64 25 u.1))), (some (.var (.ints .u64 5 u.2)))]))
def Fe.l7_0.r {α : Type} (mk0 : LI → α) (n : Nat) (rc : Int → LI → LI → Option α)  (x0 : Int) (x1 x2 : LI) : Option α :=
 if (decide (x0 < 25)) = true then
 if 0 ≤ x0 then
 if x0 < 25 then
 if 0 ≤ (Int.tmod (IntKind.wrap .i64 (x0 + 4)) 5) then
 if (Int.tmod (IntKind.wrap .i64 (x0 + 4)) 5) < 5 then
 if 0 ≤ (Int.tmod (IntKind.wrap .i64 (x0 + 1)) 5) then
 if (Int.tmod (IntKind.wrap .i64 (x0 + 1)) 5) < 5 then
 bindO (Fk.m n ((List.getD x2 (Int.toNat (Int.tmod (IntKind.wrap .i64 (x0 + 1)) 5)) 0), 1)) fun r18 =>
 if 0 ≤ x0 then
 if x0 < 25 then
 rc (IntKind.wrap .i64 (x0 + 1)) (List.set x1 (Int.toNat x0) (ibits BinOp.xor .u64 (List.getD x1 (Int.toNat x0) 0) (ibits BinOp.xor .u64 (List.getD x2 (Int.toNat (Int.tmod (IntKind.wrap .i64 (x0 + 4)) 5)) 0) r18))) x2
 else
 none
 else
 none
 else
 none
 else
 none
 else
 none
 else
 none
 else
 none
 else
 none
 else
 some (mk0 x1)
def Fe.l7_0.g {α : Type} (mk0 : LI → α) (n : Nat) : Nat → Int → LI → LI → Option α
 | 0, _, _, _ => none
 | m + 1, x0, x1, x2 => Fe.l7_0.r mk0 n (fun y0 y1 y2 => Fe.l7_0.g mk0 n m y0 y1 y2)  x0 x1 x2
def Fe.l7_0.m (n m : Nat) (t : (Int × (LI × LI))) : Option LI := Fe.l7_0.g (fun a0 => a0) n m t.1 t.2.1 t.2.2
def Fe.l7_0.pat : St → Option (Int × (LI × LI))
 | (St.mk [(.int .i64 x0), (.ptr 0 []), (.ptr 1 [])] [(some (.var (.ints .u64 25 x1))), (some (.var (.ints .u64 5 x2)))]) => some (x0, x1, x2)
 | _ => none
def Fe.l7_0.shape (t : (Int × (LI × LI))) : St := (St.mk [(.int .i64 t.1), (.ptr 0 []), (.ptr 1 [])] [(some (.var (.ints .u64 25 t.2.1))), (some (.var (.ints .u64 5 t.2.2)))])
def Fe.l7_0.res : LI → Ex × St
 | u => ((.exit 2), (St.mk [] [(some (.var (.ints .u64 25 u)))]))
noncomputable def Fe.A (n : Nat) : Ann := ⟨Tryz.f99.ntmps, 1, Fe.live, [], [], fun k => match k with
 | 2 => some (.mk' Fe.l2_0.pat (Fe.l2_0.m n n) (resKl Fe.l2_0.res))
 | 7 => some (.mk' Fe.l7_0.pat (Fe.l7_0.m n n) (resKl Fe.l7_0.res))
 | _ => none, noNL, lookJ []⟩
noncomputable def Fe.b0 : Code := (loopsIn (Tryz.f99.body.getD .skip)).getD 0 .skip
noncomputable def Fe.b1 : Code := (loopsIn (Tryz.f99.body.getD .skip)).getD 1 .skip
def Fe.g {α : Type} (mk0 : LI → α) (n : Nat) (s : LI) : Option α :=
 bindO (Fe.l2_0.m n n (0, s, [0, 0, 0, 0, 0])) fun r2 =>
 bindO (Fe.l7_0.m n n (0, r2.1, r2.2)) fun r4 =>
 some (mk0 r4)
def Fe.m (n : Nat) (t : LI) : Option LI := Fe.g (fun a0 => a0) n t
def Fe.pat : List AV → Blks → Option LI
 | [(.ptr 0 [])], [(some (.var (.ints .u64 25 s)))] => some s
 | _, _ => none
def Fe.shape (t : LI) : List AV × Blks := ([(.ptr 0 [])], [(some (.var (.ints .u64 25 t)))])
def Fe.res : LI → AV × Blks
 | u => ((.tup []), [(some (.var (.ints .u64 25 u)))])
def Fe.c (n : Nat) : Abs.Callee := .mk' [true] [none] Fe.pat (Fe.m n) (resKof Fe.res)
noncomputable def Fl.C (n : Nat) : Ctx := ⟨Tryz.prog, dskG, lookC [(102, Fk.c n)], fun _ => false⟩
def Fl.live : NL := fun k => match k with
 | 2 => ([9, 0, 2], [])
 | _ => ([], [])
def Fl.l2_0.r {α : Type} (mk0 : LI → α) (n : Nat) (rc : Int → Int → LI → Option α)  (x0 x1 : Int) (x2 : LI) : Option α :=
 if (decide (x0 < 24)) = true then
 if 0 ≤ x0 then
 if x0 < 24 then
 if 0 ≤ (List.getD ([10, 7, 11, 17, 18, 3, 5, 16, 8, 21, 24, 4, 15, 23, 19, 13, 12, 2, 20, 14, 22, 9, 6, 1] : List Int) (Int.toNat x0) 0) then
 if (List.getD ([10, 7, 11, 17, 18, 3, 5, 16, 8, 21, 24, 4, 15, 23, 19, 13, 12, 2, 20, 14, 22, 9, 6, 1] : List Int) (Int.toNat x0) 0) < 25 then
 if 0 ≤ x0 then
 if x0 < 24 then
 if 0 ≤ x0 then
 if x0 < 24 then
 bindO (Fk.m n (x1, (List.getD ([1, 3, 6, 10, 15, 21, 28, 36, 45, 55, 2, 14, 27, 41, 56, 8, 25, 43, 62, 18, 39, 61, 20, 44] : List Int) (Int.toNat x0) 0))) fun r22 =>
 if 0 ≤ (List.getD ([10, 7, 11, 17, 18, 3, 5, 16, 8, 21, 24, 4, 15, 23, 19, 13, 12, 2, 20, 14, 22, 9, 6, 1] : List Int) (Int.toNat x0) 0) then
 if (List.getD ([10, 7, 11, 17, 18, 3, 5, 16, 8, 21, 24, 4, 15, 23, 19, 13, 12, 2, 20, 14, 22, 9, 6, 1] : List Int) (Int.toNat x0) 0) < 25 then
 rc (IntKind.wrap .i64 (x0 + 1)) (List.getD x2 (Int.toNat (List.getD ([10, 7, 11, 17, 18, 3, 5, 16, 8, 21, 24, 4, 15, 23, 19, 13, 12, 2, 20, 14, 22, 9, 6, 1] : List Int) (Int.toNat x0) 0)) 0) (List.set x2 (Int.toNat (List.getD ([10, 7, 11, 17, 18, 3, 5, 16, 8, 21, 24, 4, 15, 23, 19, 13, 12, 2, 20, 14, 22, 9, 6, 1] : List Int) (Int.toNat x0) 0)) r22)
 else
 none
 else
 none
 else
 none
 else
 none
 else
 none
 else
 none
 else
 none
 else
 none
 else
 none
 else
 none
 else
 some (mk0 x2)
def Fl.l2_0.g {α : Type} (mk0 : LI → α) (n : Nat) : Nat → Int → Int → LI → Option α
 | 0, _, _, _ => none
 | m + 1, x0, x1, x2 => Fl.l2_0.r mk0 n (fun y0 y1 y2 => Fl.l2_0.g mk0 n m y0 y1 y2)  x0 x1 x2
def Fl.l2_0.m (n m : Nat) (t : (Int × (Int × LI))) : Option LI := Fl.l2_0.g (fun a0 => a0) n m t.1 t.2.1 t.2.2
def Fl.l2_0.pat : St → Option (Int × (Int × LI))
 | (St.mk [(.int .i64 x0), (.ptr 0 []), (.int .u64 x1)] [(some (.var (.ints .u64 25 x2)))]) => some (x0, x1, x2)
 | _ => none
def Fl.l2_0.shape (t : (Int × (Int × LI))) : St := (St.mk [(.int .i64 t.1), (.ptr 0 []), (.int .u64 t.2.1)] [(some (.var (.ints .u64 25 t.2.2)))])
def Fl.l2_0.res : LI → Ex × St
 | u => ((.exit 0), (St.mk [] [(some (.var (.ints .u64 25 u)))]))
noncomputable def Fl.A (n : Nat) : Ann := ⟨Tryz.f100.ntmps, 1, Fl.live, [], [], fun k => match k with
 | 2 => some (.mk' Fl.l2_0.pat (Fl.l2_0.m n n) (resKl Fl.l2_0.res))
 | _ => none, noNL, lookJ []⟩
noncomputable def Fl.b0 : Code := (loopsIn (Tryz.f100.body.getD .skip)).getD 0 .skip
def Fl.g {α : Type} (mk0 : LI → α) (n : Nat) (s : LI) : Option α :=
 bindO (Fl.l2_0.m n n (0, (List.getD s 1 0), s)) fun r2 =>
 some (mk0 r2)
def Fl.m (n : Nat) (t : LI) : Option LI := Fl.g (fun a0 => a0) n t
def Fl.pat : List AV → Blks → Option LI
 | [(.ptr 0 [])], [(some (.var (.ints .u64 25 s)))] => some s
 | _, _ => none
def Fl.shape (t : LI) : List AV × Blks := ([(.ptr 0 [])], [(some (.var (.ints .u64 25 t)))])
def Fl.res : LI → AV × Blks
 | u => ((.tup []), [(some (.var (.ints .u64 25 u)))])
def Fl.c (n : Nat) : Abs.Callee := .mk' [true] [none] Fl.pat (Fl.m n) (resKof Fl.res)
noncomputable def Fo.C (n : Nat) : Ctx := ⟨Tryz.prog, dskG, lookC [], fun _ => false⟩
def Fo.live : NL := fun k => match k with
 | 1 => ([2, 0], [])
 | 5 => ([17, 0, 2, 3], [2, 0])
 | _ => ([], [])
def Fo.l5_0.r {α : Type} (mk0 : Int → LI → α) (n : Nat) (rc : Int → Int → LI → LI → Option α)  (x0 x1 : Int) (x2 x3 : LI) : Option α :=
 if (decide (x0 < 5)) = true then
 if 0 ≤ x0 then
 if x0 < 5 then
 if 0 ≤ (Int.tmod (IntKind.wrap .i64 (x0 + 1)) 5) then
 if (Int.tmod (IntKind.wrap .i64 (x0 + 1)) 5) < 5 then
 if 0 ≤ (Int.tmod (IntKind.wrap .i64 (x0 + 2)) 5) then
 if (Int.tmod (IntKind.wrap .i64 (x0 + 2)) 5) < 5 then
 if 0 ≤ (IntKind.wrap .i64 (x1 + x0)) then
 if (IntKind.wrap .i64 (x1 + x0)) < 25 then
 rc (IntKind.wrap .i64 (x0 + 1)) x1 (List.set x2 (Int.toNat (IntKind.wrap .i64 (x1 + x0))) (ibits BinOp.xor .u64 (List.getD x3 (Int.toNat x0) 0) (ibits BinOp.and .u64 (ibits BinOp.xor .u64 (if false = true then (-1) else 18446744073709551615) (List.getD x3 (Int.toNat (Int.tmod (IntKind.wrap .i64 (x0 + 1)) 5)) 0)) (List.getD x3 (Int.toNat (Int.tmod (IntKind.wrap .i64 (x0 + 2)) 5)) 0)))) x3
 else
 none
 else
 none
 else
 none
 else
 none
 else
 none
 else
 none
 else
 none
 else
 none
 else
 some (mk0 x1 x2)
def Fo.l5_0.g {α : Type} (mk0 : Int → LI → α) (n : Nat) : Nat → Int → Int → LI → LI → Option α
 | 0, _, _, _, _ => none
 | m + 1, x0, x1, x2, x3 => Fo.l5_0.r mk0 n (fun y0 y1 y2 y3 => Fo.l5_0.g mk0 n m y0 y1 y2 y3)  x0 x1 x2 x3
def Fo.l5_0.m (n m : Nat) (t : (Int × (Int × (LI × LI)))) : Option (Int × LI) := Fo.l5_0.g (fun a0 a1 => (a0, a1)) n m t.1 t.2.1 t.2.2.1 t.2.2.2
def Fo.l5_0.pat : St → Option (Int × (Int × (LI × LI)))
 | (St.mk [(.int .i64 x0), (.ptr 0 []), (.int .i64 x1), (.ptr 1 [])] [(some (.var (.ints .u64 25 x2))), (some (.var (.ints .u64 5 x3)))]) => some (x0, x1, x2, x3)
 | _ => none
def Fo.l5_0.shape (t : (Int × (Int × (LI × LI)))) : St := (St.mk [(.int .i64 t.1), (.ptr 0 []), (.int .i64 t.2.1), (.ptr 1 [])] [(some (.var (.ints .u64 25 t.2.2.1))), (some (.var (.ints .u64 5 t.2.2.2)))])
def Fo.l5_0.res : (Int × LI) → Ex × St
 | u => ((.exit 2), (St.mk [(.int .i64 u.1), (.ptr 0 [])] [(some (.var (.ints .u64 25 u.2)))]))
def Fo.l1_0.r {α : Type} (mk0 : LI → α) (n : Nat) (rc : Int → LI → Option α)  (x0 : Int) (x1 : LI) : Option α :=
 if (decide (x0 < 25)) = true then
 if 0 ≤ (IntKind.wrap .i64 (x0 + 5)) then
 if (IntKind.wrap .i64 (x0 + 5)) ≤ 25 then
 if 0 ≤ x0 then
 if x0 ≤ (IntKind.wrap .i64 (x0 + 5)) then
 if 5 ≤ (Go.Abs.span 25 (Int.toNat x0) (Option.some (Int.toNat (IntKind.wrap .i64 (x0 + 5))))) then
 bindO (Fo.l5_0.m n n (0, x0, x1, (List.take 5 (List.drop (Int.toNat x0) x1)))) fun r16 =>
 rc (IntKind.wrap .i64 (r16.1 + 5)) r16.2
 else
 none
 else
 none
 else
 none
 else
 none
 else
 none
 else
 some (mk0 x1)
def Fo.l1_0.g {α : Type} (mk0 : LI → α) (n : Nat) : Nat → Int → LI → Option α
 | 0, _, _ => none
 | m + 1, x0, x1 => Fo.l1_0.r mk0 n (fun y0 y1 => Fo.l1_0.g mk0 n m y0 y1)  x0 x1
def Fo.l1_0.m (n m : Nat) (t : (Int × LI)) : Option LI := Fo.l1_0.g (fun a0 => a0) n m t.1 t.2
def Fo.l1_0.pat : St → Option (Int × LI)
 | (St.mk [(.int .i64 x0), (.ptr 0 [])] [(some (.var (.ints .u64 25 x1)))]) => some (x0, x1)
 | _ => none
def Fo.l1_0.shape (t : (Int × LI)) : St := (St.mk [(.int .i64 t.1), (.ptr 0 [])] [(some (.var (.ints .u64 25 t.2)))])
def Fo.l1_0.res : LI → Ex × St
 | u => ((.exit 0), (St.mk [] [(some (.var (.ints .u64 25 u)))]))
noncomputable def Fo.A (n : Nat) : Ann := ⟨Tryz.f101.ntmps, 1, Fo.live, [], [], fun k => match k with
 | 5 => some (.mk' Fo.l5_0.pat (Fo.l5_0.m n n) (resKl Fo.l5_0.res))
 | 1 => some (.mk' Fo.l1_0.pat (Fo.l1_0.m n n) (resKl Fo.l1_0.res))
 | _ => none, noNL, lookJ []⟩
noncomputable def Fo.b0 : Code := (loopsIn (Tryz.f101.body.getD .skip)).getD 0 .skip
noncomputable def Fo.b1 : Code := (loopsIn (Tryz.f101.body.getD .skip)).getD 1 .skip
def Fo.g {α : Type} (mk0 : LI → α) (n : Nat) (s : LI) : Option α :=
 bindO (Fo.l1_0.m n n (0, s)) fun r2 =>
 some (mk0 r2)
def Fo.m (n : Nat) (t : LI) : Option LI := Fo.g (fun a0 => a0) n t
def Fo.pat : List AV → Blks → Option LI
 | [(.ptr 0 [])], [(some (.var (.ints .u64 25 s)))] => some s
 | _, _ => none
def Fo.shape (t : LI) : List AV × Blks := ([(.ptr 0 [])], [(some (.var (.ints .u64 25 t)))])
def Fo.res : LI → AV × Blks
 | u => ((.tup []), [(some (.var (.ints .u64 25 u)))])
def Fo.c (n : Nat) : Abs.Callee := .mk' [true] [none] Fo.pat (Fo.m n) (resKof Fo.res)
noncomputable def Fp.C (n : Nat) : Ctx := ⟨Tryz.prog, dskG, lookC [(99, Fe.c n), (100, Fl.c n), (101, Fo.c n)], fun _ => false⟩
def Fp.live : NL := fun k => match k with
 | 1 => ([3, 0], [])
 | _ => ([], [])
def Fp.l1_0.r {α : Type} (mk0 : LI → α) (n : Nat) (rc : Int → LI → Option α)  (x0 : Int) (x1 : LI) : Option α :=
 if (decide (x0 < 24)) = true then
 bindO (Fe.m n x1) fun r6 =>
 bindO (Fl.m n r6) fun r8 =>
 bindO (Fo.m n r8) fun r10 =>
 if 0 ≤ x0 then
 if x0 < 24 then
 rc (IntKind.wrap .i64 (x0 + 1)) (List.set r10 0 (ibits BinOp.xor .u64 (List.getD r10 0 0) (List.getD ([1, 32898, 9223372036854808714, 9223372039002292224, 32907, 2147483649, 9223372039002292353, 9223372036854808585, 138, 136, 2147516425, 2147483658, 2147516555, 9223372036854775947, 9223372036854808713, 9223372036854808579, 9223372036854808578, 9223372036854775936, 32778, 9223372039002259466, 9223372039002292353, 9223372036854808704, 2147483649, 9223372039002292232] : List Int) (Int.toNat x0) 0)))
 else
 none
 else
 none
 else
 some (mk0 x1)
def Fp.l1_0.g {α : Type} (mk0 : LI → α) (n : Nat) : Nat → Int → LI → Option α
 | 0, _, _ => none
 | m + 1, x0, x1 => Fp.l1_0.r mk0 n (fun y0 y1 => Fp.l1_0.g mk0 n m y0 y1)  x0 x1
def Fp.l1_0.m (n m : Nat) (t : (Int × LI)) : Option LI := Fp.l1_0.g (fun a0 => a0) n m t.1 t.2
def Fp.l1_0.pat : St → Option (Int × LI)
 | (St.mk [(.int .i64 x0), (.ptr 0 [])] [(some (.var (.ints .u64 25 x1)))]) => some (x0, x1)
 | _ => none
def Fp.l1_0.shape (t : (Int × LI)) : St := (St.mk [(.int .i64 t.1), (.ptr 0 [])] [(some (.var (.ints .u64 25 t.2)))])
def Fp.l1_0.res : LI → Ex × St
 | u => ((.exit 0), (St.mk [] [(some (.var (.ints .u64 25 u)))]))
noncomputable def Fp.A (n : Nat) : Ann := ⟨Tryz.f97.ntmps, 1, Fp.live, [], [], fun k => match k with
 | 1 => some (.mk' Fp.l1_0.pat (Fp.l1_0.m n n) (resKl Fp.l1_0.res))
 | _ => none, noNL, lookJ []⟩
noncomputable def Fp.b0 : Code := (loopsIn (Tryz.f97.body.getD .skip)).getD 0 .skip
def Fp.g {α : Type} (mk0 : LI → α) (n : Nat) (s : LI) : Option α :=
 bindO (Fp.l1_0.m n n (0, s)) fun r2 =>
 some (mk0 r2)
def Fp.m (n : Nat) (t : LI) : Option LI := Fp.g (fun a0 => a0) n t
def Fp.pat : List AV → Blks → Option LI
 | [(.ptr 0 [])], [(some (.var (.ints .u64 25 s)))] => some s
 | _, _ => none
def Fp.shape (t : LI) : List AV × Blks := ([(.ptr 0 [])], [(some (.var (.ints .u64 25 t)))])
def Fp.res : LI → AV × Blks
 | u => ((.tup []), [(some (.var (.ints .u64 25 u)))])
def Fp.c (n : Nat) : Abs.Callee := .mk' [true] [none] Fp.pat (Fp.m n) (resKof Fp.res)
noncomputable def Fm.C (n : Nat) : Ctx := ⟨Tryz.prog, dskG, lookC [(97, Fp.c n)], fun _ => false⟩
def Fm.live : NL := fun k => match k with
 | 1 => ([8, 7, 6, 0], [0])
 | _ => ([], [])
def Fm.l1_0.r {α : Type} (mk0 : LI → α) (n : Nat) (rc : Int → Int → LI → LI → Option α)  (x0 x1 : Int) (x2 x3 : LI) : Option α :=
 if (decide (x0 < x1)) = true then
 if 0 ≤ x0 then
 if x0 < (x2.length : Int) then
 if 0 ≤ (IntKind.wrap .i64 (Int.tdiv x0 8)) then
 if (IntKind.wrap .i64 (Int.tdiv x0 8)) < 25 then
 if 0 ≤ (IntKind.wrap .i64 ((Int.tmod x0 8) * 8)) then
 if 0 ≤ (IntKind.wrap .i64 (Int.tdiv x0 8)) then
 if (IntKind.wrap .i64 (Int.tdiv x0 8)) < 25 then
 rc (IntKind.wrap .i64 (x0 + 1)) x1 x2 (List.set x3 (Int.toNat (IntKind.wrap .i64 (Int.tdiv x0 8))) (ibits BinOp.xor .u64 (List.getD x3 (Int.toNat (IntKind.wrap .i64 (Int.tdiv x0 8))) 0) (ishl .u64 (IntKind.wrap .u64 (List.getD x2 (Int.toNat x0) 0)) (IntKind.wrap .i64 ((Int.tmod x0 8) * 8)))))
 else
 none
 else
 none
 else
 none
 else
 none
 else
 none
 else
 none
 else
 none
 else
 some (mk0 x3)
def Fm.l1_0.g {α : Type} (mk0 : LI → α) (n : Nat) : Nat → Int → Int → LI → LI → Option α
 | 0, _, _, _, _ => none
 | m + 1, x0, x1, x2, x3 => Fm.l1_0.r mk0 n (fun y0 y1 y2 y3 => Fm.l1_0.g mk0 n m y0 y1 y2 y3)  x0 x1 x2 x3
def Fm.l1_0.m (n m : Nat) (t : (Int × (Int × (LI × LI)))) : Option LI := Fm.l1_0.g (fun a0 => a0) n m t.1 t.2.1 t.2.2.1 t.2.2.2
def Fm.l1_0.pat : St → Option (Int × (Int × (LI × LI)))
 | (St.mk [(.int .i64 x0), (.int .i64 x1), (.rints .u8 x2), (.ptr 0 [])] [(some (.var (.ints .u64 25 x3)))]) => some (x0, x1, x2, x3)
 | _ => none
def Fm.l1_0.shape (t : (Int × (Int × (LI × LI)))) : St := (St.mk [(.int .i64 t.1), (.int .i64 t.2.1), (.rints .u8 t.2.2.1), (.ptr 0 [])] [(some (.var (.ints .u64 25 t.2.2.2)))])
def Fm.l1_0.res : LI → Ex × St
 | u => ((.exit 0), (St.mk [(.ptr 0 [])] [(some (.var (.ints .u64 25 u)))]))
noncomputable def Fm.A (n : Nat) : Ann := ⟨Tryz.f92.ntmps, 1, Fm.live, [(6, (.ints .u8))], [], fun k => match k with
 | 1 => some (.mk' Fm.l1_0.pat (Fm.l1_0.m n n) (resKl Fm.l1_0.res))
 | _ => none, noNL, lookJ []⟩
noncomputable def Fm.b0 : Code := (loopsIn (Tryz.f92.body.getD .skip)).getD 0 .skip
def Fm.g {α : Type} (mk0 : LI → α) (n : Nat) (b s : LI) : Option α :=
 bindO (Fm.l1_0.m n n (0, (b.length : Int), b, s)) fun r2 =>
 bindO (Fp.m n r2) fun r4 =>
 some (mk0 r4)
def Fm.m (n : Nat) (t : (LI × LI)) : Option LI := Fm.g (fun a0 => a0) n t.1 t.2
def Fm.pat : List AV → Blks → Option (LI × LI)
 | [(.ptr 0 []), (.rints .u8 b)], [(some (.var (.ints .u64 25 s)))] => some (b, s)
 | _, _ => none
def Fm.shape (t : (LI × LI)) : List AV × Blks := ([(.ptr 0 []), (.rints .u8 t.1)], [(some (.var (.ints .u64 25 t.2)))])
def Fm.res : LI → AV × Blks
 | u => ((.tup []), [(some (.var (.ints .u64 25 u)))])
def Fm.c (n : Nat) : Abs.Callee := .mk' [true, false] [none, (some (.ints .u8))] Fm.pat (Fm.m n) (resKof Fm.res)
noncomputable def Fag.C (n : Nat) : Ctx := ⟨Tryz.prog, dskG, lookC [(92, Fm.c n), (64, Fam.c n)], fun _ => false⟩
def Fag.live : NL := fun k => match k with
 | 2 => ([0, 3, 2], [0, 3, 2])
 | 12 => ([30, 3, 5, 2], [5, 2])
 | _ => ([], [])
def Fag.l2_0.r {α : Type} (mk0 : LI → LI → LI → α) (n : Nat) (rc : LI → LI → LI → Option α)  (x0 x1 x2 : LI) : Option α :=
 if (decide ((x0.length : Int) ≥ 136)) = true then
 if 136 ≤ (x0.length : Int) then
 bindO (Fm.m n ((Go.Abs.cut x0 0 (Option.some 136)), x1)) fun r8 =>
 if 136 ≤ (x0.length : Int) then
 rc (Go.Abs.cut x0 136 (Option.none)) r8 x2
 else
 none
 else
 none
 else
 some (mk0 x0 x1 x2)
def Fag.l2_0.g {α : Type} (mk0 : LI → LI → LI → α) (n : Nat) : Nat → LI → LI → LI → Option α
 | 0, _, _, _ => none
 | m + 1, x0, x1, x2 => Fag.l2_0.r mk0 n (fun y0 y1 y2 => Fag.l2_0.g mk0 n m y0 y1 y2)  x0 x1 x2
def Fag.l2_0.m (n m : Nat) (t : (LI × (LI × LI))) : Option (LI × (LI × LI)) := Fag.l2_0.g (fun a0 a1 a2 => (a0, a1, a2)) n m t.1 t.2.1 t.2.2
def Fag.l2_0.pat : St → Option (LI × (LI × LI))
 | (St.mk [(.rints .u8 x0), (.ptr 0 []), (.ptr 1 [])] [(some (.var (.ints .u64 25 x1))), (some (.var (.ints .u64 4 x2)))]) => some (x0, x1, x2)
 | _ => none
def Fag.l2_0.shape (t : (LI × (LI × LI))) : St := (St.mk [(.rints .u8 t.1), (.ptr 0 []), (.ptr 1 [])] [(some (.var (.ints .u64 25 t.2.1))), (some (.var (.ints .u64 4 t.2.2)))])
def Fag.l2_0.res : (LI × (LI × LI)) → Ex × St
 | u => ((.exit 0), (St.mk [(.rints .u8 u.1), (.ptr 0 []), (.ptr 1 [])] [(some (.var (.ints .u64 25 u.2.1))), (some (.var (.ints .u64 4 u.2.2)))]))
def Fag.l12_0.r {α : Type} (mk0 : LI → LI → α) (n : Nat) (rc : Int → LI → LI → LI → Option α)  (x0 : Int) (x1 x2 x3 : LI) : Option α :=
 if (decide (x0 < 32)) = true then
 if 0 ≤ (IntKind.wrap .i64 (Int.tdiv x0 8)) then
 if (IntKind.wrap .i64 (Int.tdiv x0 8)) < 25 then
 if 0 ≤ (IntKind.wrap .i64 ((Int.tmod x0 8) * 8)) then
 if 0 ≤ x0 then
 if x0 < 32 then
 rc (IntKind.wrap .i64 (x0 + 1)) x1 (List.set x2 (Int.toNat x0) (IntKind.wrap .u8 (ishr .u64 (List.getD x1 (Int.toNat (IntKind.wrap .i64 (Int.tdiv x0 8))) 0) (IntKind.wrap .i64 ((Int.tmod x0 8) * 8))))) x3
 else
 none
 else
 none
 else
 none
 else
 none
 else
 none
 else
 some (mk0 x2 x3)
def Fag.l12_0.g {α : Type} (mk0 : LI → LI → α) (n : Nat) : Nat → Int → LI → LI → LI → Option α
 | 0, _, _, _, _ => none
 | m + 1, x0, x1, x2, x3 => Fag.l12_0.r mk0 n (fun y0 y1 y2 y3 => Fag.l12_0.g mk0 n m y0 y1 y2 y3)  x0 x1 x2 x3
def Fag.l12_0.m (n m : Nat) (t : (Int × (LI × (LI × LI)))) : Option (LI × LI) := Fag.l12_0.g (fun a0 a1 => (a0, a1)) n m t.1 t.2.1 t.2.2.1 t.2.2.2
def Fag.l12_0.pat : St → Option (Int × (LI × (LI × LI)))
 | (St.mk [(.int .i64 x0), (.ptr 0 []), (.ptr 1 []), (.ptr 2 [])] [(some (.var (.ints .u64 25 x1))), (some (.var (.ints .u8 32 x2))), (some (.var (.ints .u64 4 x3)))]) => some (x0, x1, x2, x3)
 | _ => none
def Fag.l12_0.shape (t : (Int × (LI × (LI × LI)))) : St := (St.mk [(.int .i64 t.1), (.ptr 0 []), (.ptr 1 []), (.ptr 2 [])] [(some (.var (.ints .u64 25 t.2.1))), (some (.var (.ints .u8 32 t.2.2.1))), (some (.var (.ints .u64 4 t.2.2.2)))])
def Fag.l12_0.res : (LI × LI) → Ex × St
 | u => ((.exit 2), (St.mk [(.ptr 0 []), (.ptr 1 [])] [(some (.var (.ints .u8 32 u.1))), (some (.var (.ints .u64 4 u.2)))]))
noncomputable def Fag.A (n : Nat) : Ann := ⟨Tryz.f81.ntmps, 0, Fag.live, [(0, (.ints .u8))], [none], fun k => match k with
 | 2 => some (.mk' Fag.l2_0.pat (Fag.l2_0.m n n) (resKl Fag.l2_0.res))
 | 12 => some (.mk' Fag.l12_0.pat (Fag.l12_0.m n n) (resKl Fag.l12_0.res))
 | _ => none, noNL, lookJ []⟩
noncomputable def Fag.b0 : Code := (loopsIn (Tryz.f81.body.getD .skip)).getD 0 .skip
noncomputable def Fag.b1 : Code := (loopsIn (Tryz.f81.body.getD .skip)).getD 1 .skip
def Fag.g {α : Type} (mk0 : LI → α) (n : Nat) (a0 : LI) : Option α :=
 bindO (Fag.l2_0.m n n (a0, ([0, 0, 0, 0, 0, 0, 0, 0, 0, 0, 0, 0, 0, 0, 0, 0, 0, 0, 0, 0, 0, 0, 0, 0, 0] : List Int), [0, 0, 0, 0])) fun r2 =>
 if (((List.length r2.1) : Nat) : Int) < 136 then
 if (((List.length r2.1) : Nat) : Int) < 136 then
 bindO (Fm.m n ((List.take 136 (List.drop 0 (List.set (List.set ([] ++ ((List.take 136 r2.1) ++ (List.drop (0 + (Min.min (List.length r2.1) 136)) ([0, 0, 0, 0, 0, 0, 0, 0, 0, 0, 0, 0, 0, 0, 0, 0, 0, 0, 0, 0, 0, 0, 0, 0, 0, 0, 0, 0, 0, 0, 0, 0, 0, 0, 0, 0, 0, 0, 0, 0, 0, 0, 0, 0, 0, 0, 0, 0, 0, 0, 0, 0, 0, 0, 0, 0, 0, 0, 0, 0, 0, 0, 0, 0, 0, 0, 0, 0, 0, 0, 0, 0, 0, 0, 0, 0, 0, 0, 0, 0, 0, 0, 0, 0, 0, 0, 0, 0, 0, 0, 0, 0, 0, 0, 0, 0, 0, 0, 0, 0, 0, 0, 0, 0, 0, 0, 0, 0, 0, 0, 0, 0, 0, 0, 0, 0, 0, 0, 0, 0, 0, 0, 0, 0, 0, 0, 0, 0, 0, 0, 0, 0, 0, 0, 0, 0] : List Int)))) (Int.toNat (((List.length r2.1) : Nat) : Int)) (ibits BinOp.xor .u8 (List.getD ([] ++ ((List.take 136 r2.1) ++ (List.drop (0 + (Min.min (List.length r2.1) 136)) ([0, 0, 0, 0, 0, 0, 0, 0, 0, 0, 0, 0, 0, 0, 0, 0, 0, 0, 0, 0, 0, 0, 0, 0, 0, 0, 0, 0, 0, 0, 0, 0, 0, 0, 0, 0, 0, 0, 0, 0, 0, 0, 0, 0, 0, 0, 0, 0, 0, 0, 0, 0, 0, 0, 0, 0, 0, 0, 0, 0, 0, 0, 0, 0, 0, 0, 0, 0, 0, 0, 0, 0, 0, 0, 0, 0, 0, 0, 0, 0, 0, 0, 0, 0, 0, 0, 0, 0, 0, 0, 0, 0, 0, 0, 0, 0, 0, 0, 0, 0, 0, 0, 0, 0, 0, 0, 0, 0, 0, 0, 0, 0, 0, 0, 0, 0, 0, 0, 0, 0, 0, 0, 0, 0, 0, 0, 0, 0, 0, 0, 0, 0, 0, 0, 0, 0] : List Int)))) (Int.toNat (((List.length r2.1) : Nat) : Int)) 0) 1)) 135 (ibits BinOp.xor .u8 (List.getD (List.set ([] ++ ((List.take 136 r2.1) ++ (List.drop (0 + (Min.min (List.length r2.1) 136)) ([0, 0, 0, 0, 0, 0, 0, 0, 0, 0, 0, 0, 0, 0, 0, 0, 0, 0, 0, 0, 0, 0, 0, 0, 0, 0, 0, 0, 0, 0, 0, 0, 0, 0, 0, 0, 0, 0, 0, 0, 0, 0, 0, 0, 0, 0, 0, 0, 0, 0, 0, 0, 0, 0, 0, 0, 0, 0, 0, 0, 0, 0, 0, 0, 0, 0, 0, 0, 0, 0, 0, 0, 0, 0, 0, 0, 0, 0, 0, 0, 0, 0, 0, 0, 0, 0, 0, 0, 0, 0, 0, 0, 0, 0, 0, 0, 0, 0, 0, 0, 0, 0, 0, 0, 0, 0, 0, 0, 0, 0, 0, 0, 0, 0, 0, 0, 0, 0, 0, 0, 0, 0, 0, 0, 0, 0, 0, 0, 0, 0, 0, 0, 0, 0, 0, 0] : List Int)))) (Int.toNat (((List.length r2.1) : Nat) : Int)) (ibits BinOp.xor .u8 (List.getD ([] ++ ((List.take 136 r2.1) ++ (List.drop (0 + (Min.min (List.length r2.1) 136)) ([0, 0, 0, 0, 0, 0, 0, 0, 0, 0, 0, 0, 0, 0, 0, 0, 0, 0, 0, 0, 0, 0, 0, 0, 0, 0, 0, 0, 0, 0, 0, 0, 0, 0, 0, 0, 0, 0, 0, 0, 0, 0, 0, 0, 0, 0, 0, 0, 0, 0, 0, 0, 0, 0, 0, 0, 0, 0, 0, 0, 0, 0, 0, 0, 0, 0, 0, 0, 0, 0, 0, 0, 0, 0, 0, 0, 0, 0, 0, 0, 0, 0, 0, 0, 0, 0, 0, 0, 0, 0, 0, 0, 0, 0, 0, 0, 0, 0, 0, 0, 0, 0, 0, 0, 0, 0, 0, 0, 0, 0, 0, 0, 0, 0, 0, 0, 0, 0, 0, 0, 0, 0, 0, 0, 0, 0, 0, 0, 0, 0, 0, 0, 0, 0, 0, 0] : List Int)))) (Int.toNat (((List.length r2.1) : Nat) : Int)) 0) 1)) 135 0) 128)))), r2.2.1)) fun r8 =>
 bindO (Fag.l12_0.m n n (0, r8, ([0, 0, 0, 0, 0, 0, 0, 0, 0, 0, 0, 0, 0, 0, 0, 0, 0, 0, 0, 0, 0, 0, 0, 0, 0, 0, 0, 0, 0, 0, 0, 0] : List Int), r2.2.2)) fun r10 =>
 bindO (Fam.m n (List.take 32 (List.drop 0 r10.1))) fun r12 =>
 some (mk0 r12)
 else
 none
 else
 none
def Fag.m (n : Nat) (t : LI) : Option LI := Fag.g (fun a0 => a0) n t
def Fag.pat : List AV → Blks → Option LI
 | [(.rints .u8 a0)], [] => some a0
 | _, _ => none
def Fag.shape (t : LI) : List AV × Blks := ([(.rints .u8 t)], [])
def Fag.res : LI → AV × Blks
 | u => ((.ints .u64 4 u), [])
def Fag.c (n : Nat) : Abs.Callee := .mk' [] [(some (.ints .u8))] Fag.pat (Fag.m n) (resKof Fag.res)
