/- What the program's functions compute, as plain functions, each with its proof: the function does just that. Condition: the plain function has an answer. -/
import Derived.Test.YtkknbhapkdgcjaaGreatDoorAbsC1
import Derived.Test.YtkknbhapkdgcjaaGreatDoorProg
import Derived.Test.YtkknbhapkdgcjaaGreatDoorAbsC8
set_option linter.unusedVariables false
set_option linter.unusedSimpArgs false
set_option maxRecDepth 100000
open Go Go.Abs Go.Proofs
set_option autoImplicit true
set_option relaxedAutoImplicit true
noncomputable section
section
namespace Go.Abs
open Go
def zKE : List Int := [1, 32898, 9223372036854808714, 9223372039002292224, 32907, 2147483649, 9223372039002292353, 9223372036854808585, 138, 136, 2147516425, 2147483658, 2147516555, 9223372036854775947, 9223372036854808713, 9223372036854808579, 9223372036854808578, 9223372036854775936, 32778, 9223372039002259466, 9223372039002292353, 9223372036854808704, 2147483649, 9223372039002292232]
def zNW : List Int := [10, 7, 11, 17, 18, 3, 5, 16, 8, 21, 24, 4, 15, 23, 19, 13, 12, 2, 20, 14, 22, 9, 6, 1]
def zJf : List Int := [1, 3, 6, 10, 15, 21, 28, 36, 45, 55, 2, 14, 27, 41, 56, 8, 25, 43, 62, 18, 39, 61, 20, 44]
def zI : Nat → AV := fun g => match g with
 | 0 => .errv 124 201 0
 | 1 => .errv 124 201 1
 | 2 => .errv 124 201 2
 | 5 => .ints .u64 24 zKE
 | 6 => .ints .i64 24 zNW
 | 7 => .ints .i64 24 zJf
 | _ => .any
end Go.Abs
abbrev HM : Prop := Go.Proofs.Tryz.prog.follows .mixedOrders = true
end
noncomputable def Fas.C (n : Nat) : Ctx := ⟨Tryz.prog, zI, zU [], fun _ => false⟩
noncomputable def Fas.A (n : Nat) : Ann := ⟨Tryz.f80.ntmps, 0, zV, [], [none, none], fun k => match k with
 | _ => none, zV, zW []⟩
def Fas.g {α : Type} (mk0 : Int → Bool → α) (n : Nat) (a0 : LI) : Option α :=
 if ((ibits BinOp.or .u64 (ibits BinOp.or .u64 (List.getD a0 1 0) (List.getD a0 2 0)) (List.getD a0 3 0)) != 0) = true then
 some (mk0 0 false)
 else
 some (mk0 (List.getD a0 0 0) true)
def Fas.m (n : Nat) (t : LI) : Option (Int × Bool) := Fas.g (fun a0 a1 => (a0, a1)) n t
def Fas.pat : List AV → zC → Option LI
 | [(.ints .u64 4 a0)], [] => some a0
 | _, _ => none
def Fas.shape (t : LI) : List AV × zC := ([(.ints .u64 4 t)], [])
def Fas.res : (Int × Bool) → AV × zC
 | u => ((.tup [(.int .u64 u.1), (.bool u.2)]), [])
def Fas.c (n : Nat) : Abs.Callee := .mk' [] [none] Fas.pat (Fas.m n) (zO Fas.res)
noncomputable def Fbv.C (n : Nat) : Ctx := ⟨Tryz.prog, zI, zU [(80, Fas.c n)], fun _ => false⟩
noncomputable def Fbv.A (n : Nat) : Ann := ⟨Tryz.f63.ntmps, 0, zV, [], [none], fun k => match k with
 | _ => none, zV, zW []⟩
def Fbv.g {α : Type} (mk0 : Int → α) (n : Nat) (a0 : LI) : Option α :=
 zD (Fas.m n a0) fun r2 =>
 if (!r2.2) = true then
 some (mk0 256)
 else
 some (mk0 (if 256 < r2.1 then 256 else r2.1))
def Fbv.m (n : Nat) (t : LI) : Option Int := Fbv.g (fun a0 => a0) n t
def Fbv.pat : List AV → zC → Option LI
 | [(.ints .u64 4 a0)], [] => some a0
 | _, _ => none
def Fbv.shape (t : LI) : List AV × zC := ([(.ints .u64 4 t)], [])
def Fbv.res : Int → AV × zC
 | u => ((.int .u64 u), [])
def Fbv.c (n : Nat) : Abs.Callee := .mk' [] [none] Fbv.pat (Fbv.m n) (zO Fbv.res)
noncomputable def Fbw.C (n : Nat) : Ctx := ⟨Tryz.prog, zI, zU [(63, Fbv.c n)], fun _ => false⟩
def Fbw.live : NL := fun k => match k with
 | 4 => ([11, 5, 3, 6, 4], [6, 4])
 | _ => ([], [])
def Fbw.l4.r {α : Type} (mk0 : LI → LI → α) (n : Nat) (rc : Int → Int → LI → LI → LI → Option α)  (x0 x1 : Int) (x2 x3 x4 : LI) : Option α :=
 if (decide (x0 < 4)) = true then
 if (decide ((IntKind.wrap .i64 (x0 - (IntKind.wrap .i64 (IntKind.wrap .u64 (Int.tdiv x1 64))))) ≥ 0)) = true then
 if 0 ≤ (IntKind.wrap .i64 (x0 - (IntKind.wrap .i64 (IntKind.wrap .u64 (Int.tdiv x1 64))))) then
 if (IntKind.wrap .i64 (x0 - (IntKind.wrap .i64 (IntKind.wrap .u64 (Int.tdiv x1 64))))) < 4 then
 if 0 ≤ (Int.tmod x1 64) then
 if 0 ≤ x0 then
 if x0 < 4 then
 if (decide ((IntKind.wrap .i64 (x0 - (IntKind.wrap .i64 (IntKind.wrap .u64 (Int.tdiv x1 64))))) > 0)) = true then
 if ((Int.tmod x1 64) != 0) = true then
 if 0 ≤ x0 then
 if x0 < 4 then
 if 0 ≤ (IntKind.wrap .i64 ((IntKind.wrap .i64 (x0 - (IntKind.wrap .i64 (IntKind.wrap .u64 (Int.tdiv x1 64))))) - 1)) then
 if (IntKind.wrap .i64 ((IntKind.wrap .i64 (x0 - (IntKind.wrap .i64 (IntKind.wrap .u64 (Int.tdiv x1 64))))) - 1)) < 4 then
 if 0 ≤ (IntKind.wrap .u64 (64 - (Int.tmod x1 64))) then
 if 0 ≤ x0 then
 if x0 < 4 then
 rc (IntKind.wrap .i64 (x0 + 1)) x1 x2 (List.set (List.set x3 (Int.toNat x0) (ishl .u64 (List.getD x2 (Int.toNat (IntKind.wrap .i64 (x0 - (IntKind.wrap .i64 (IntKind.wrap .u64 (Int.tdiv x1 64)))))) 0) (Int.tmod x1 64))) (Int.toNat x0) (ibits BinOp.or .u64 (List.getD (List.set x3 (Int.toNat x0) (ishl .u64 (List.getD x2 (Int.toNat (IntKind.wrap .i64 (x0 - (IntKind.wrap .i64 (IntKind.wrap .u64 (Int.tdiv x1 64)))))) 0) (Int.tmod x1 64))) (Int.toNat x0) 0) (ishr .u64 (List.getD x2 (Int.toNat (IntKind.wrap .i64 ((IntKind.wrap .i64 (x0 - (IntKind.wrap .i64 (IntKind.wrap .u64 (Int.tdiv x1 64))))) - 1))) 0) (IntKind.wrap .u64 (64 - (Int.tmod x1 64)))))) x4
 else
 none
 else
 none
 else
 none
 else
 none
 else
 none
 else
 none
 else
 none
 else
 rc (IntKind.wrap .i64 (x0 + 1)) x1 x2 (List.set x3 (Int.toNat x0) (ishl .u64 (List.getD x2 (Int.toNat (IntKind.wrap .i64 (x0 - (IntKind.wrap .i64 (IntKind.wrap .u64 (Int.tdiv x1 64)))))) 0) (Int.tmod x1 64))) x4
 else
 rc (IntKind.wrap .i64 (x0 + 1)) x1 x2 (List.set x3 (Int.toNat x0) (ishl .u64 (List.getD x2 (Int.toNat (IntKind.wrap .i64 (x0 - (IntKind.wrap .i64 (IntKind.wrap .u64 (Int.tdiv x1 64)))))) 0) (Int.tmod x1 64))) x4
 else
 none
 else
 none
 else
 none
 else
 none
 else
 none
 else
 if (decide ((IntKind.wrap .i64 (x0 - (IntKind.wrap .i64 (IntKind.wrap .u64 (Int.tdiv x1 64))))) > 0)) = true then
 if ((Int.tmod x1 64) != 0) = true then
 if 0 ≤ x0 then
 if x0 < 4 then
 if 0 ≤ (IntKind.wrap .i64 ((IntKind.wrap .i64 (x0 - (IntKind.wrap .i64 (IntKind.wrap .u64 (Int.tdiv x1 64))))) - 1)) then
 if (IntKind.wrap .i64 ((IntKind.wrap .i64 (x0 - (IntKind.wrap .i64 (IntKind.wrap .u64 (Int.tdiv x1 64))))) - 1)) < 4 then
 if 0 ≤ (IntKind.wrap .u64 (64 - (Int.tmod x1 64))) then
 if 0 ≤ x0 then
 if x0 < 4 then
 rc (IntKind.wrap .i64 (x0 + 1)) x1 x2 (List.set x3 (Int.toNat x0) (ibits BinOp.or .u64 (List.getD x3 (Int.toNat x0) 0) (ishr .u64 (List.getD x2 (Int.toNat (IntKind.wrap .i64 ((IntKind.wrap .i64 (x0 - (IntKind.wrap .i64 (IntKind.wrap .u64 (Int.tdiv x1 64))))) - 1))) 0) (IntKind.wrap .u64 (64 - (Int.tmod x1 64)))))) x4
 else
 none
 else
 none
 else
 none
 else
 none
 else
 none
 else
 none
 else
 none
 else
 rc (IntKind.wrap .i64 (x0 + 1)) x1 x2 x3 x4
 else
 rc (IntKind.wrap .i64 (x0 + 1)) x1 x2 x3 x4
 else
 some (mk0 x3 x4)
def Fbw.l4.g {α : Type} (mk0 : LI → LI → α) (n : Nat) : Nat → Int → Int → LI → LI → LI → Option α
 | 0, _, _, _, _, _ => none
 | m + 1, x0, x1, x2, x3, x4 => Fbw.l4.r mk0 n (fun y0 y1 y2 y3 y4 => Fbw.l4.g mk0 n m y0 y1 y2 y3 y4)  x0 x1 x2 x3 x4
def Fbw.l4.m (n m : Nat) (t : (Int × (Int × (LI × (LI × LI))))) : Option (LI × LI) := Fbw.l4.g (fun a0 a1 => (a0, a1)) n m t.1 t.2.1 t.2.2.1 t.2.2.2.1 t.w
def Fbw.l4.pat : St → Option (Int × (Int × (LI × (LI × LI))))
 | (St.mk [(.int .i64 x0), (.int .u64 x1), (.ptr 0 []), (.ptr 1 []), (.ptr 2 [])] [(some (.var (.ints .u64 4 x2))), (some (.var (.ints .u64 4 x3))), (some (.var (.ints .u64 4 x4)))]) => some (x0, x1, x2, x3, x4)
 | _ => none
def Fbw.l4.shape (t : (Int × (Int × (LI × (LI × LI))))) : St := (St.mk [(.int .i64 t.1), (.int .u64 t.2.1), (.ptr 0 []), (.ptr 1 []), (.ptr 2 [])] [(some (.var (.ints .u64 4 t.2.2.1))), (some (.var (.ints .u64 4 t.2.2.2.1))), (some (.var (.ints .u64 4 t.w)))])
def Fbw.l4.res : (LI × LI) → Ex × St
 | u => ((.exit 0), (St.mk [(.ptr 0 []), (.ptr 1 [])] [(some (.var (.ints .u64 4 u.1))), (some (.var (.ints .u64 4 u.2)))]))
noncomputable def Fbw.A (n : Nat) : Ann := ⟨Tryz.f49.ntmps, 0, Fbw.live, [], [none], fun k => match k with
 | 4 => some (.mk' Fbw.l4.pat (Fbw.l4.m n n) (zQ Fbw.l4.res))
 | _ => none, zV, zW []⟩
noncomputable def Fbw.b0 : Code := (zK (Tryz.f49.body.getD .skip)).getD 0 .skip
def Fbw.g {α : Type} (mk0 : LI → α) (n : Nat) (a0 a1 : LI) : Option α :=
 zD (Fbv.m n a0) fun r2 =>
 zD (Fbw.l4.m n n (0, r2, a1, [0, 0, 0, 0], [0, 0, 0, 0])) fun r4 =>
 some (mk0 r4.1)
def Fbw.m (n : Nat) (t : (LI × LI)) : Option LI := Fbw.g (fun a0 => a0) n t.1 t.2
def Fbw.pat : List AV → zC → Option (LI × LI)
 | [(.ints .u64 4 a0), (.ints .u64 4 a1)], [] => some (a0, a1)
 | _, _ => none
def Fbw.shape (t : (LI × LI)) : List AV × zC := ([(.ints .u64 4 t.1), (.ints .u64 4 t.2)], [])
def Fbw.res : LI → AV × zC
 | u => ((.ints .u64 4 u), [])
def Fbw.c (n : Nat) : Abs.Callee := .mk' [] [none, none] Fbw.pat (Fbw.m n) (zO Fbw.res)
noncomputable def Fat.C (n : Nat) : Ctx := ⟨Tryz.prog, zI, zU [], fun _ => false⟩
def Fat.live : NL := fun k => match k with
 | 3 => ([6, 3, 1], [3])
 | _ => ([], [])
def Fat.l3.r {α : Type} (mk0 : LI → α) (n : Nat) (rc : Int → LI → LI → Option α)  (x0 : Int) (x1 x2 : LI) : Option α :=
 if (decide (x0 < 32)) = true then
 if 0 ≤ (IntKind.wrap .i64 (Int.tdiv x0 8)) then
 if (IntKind.wrap .i64 (Int.tdiv x0 8)) < 4 then
 if 0 ≤ (IntKind.wrap .i64 ((Int.tmod x0 8) * 8)) then
 if 0 ≤ (IntKind.wrap .i64 (31 - x0)) then
 if (IntKind.wrap .i64 (31 - x0)) < (x1.length : Int) then
 rc (IntKind.wrap .i64 (x0 + 1)) (List.set x1 (Int.toNat (IntKind.wrap .i64 (31 - x0))) (IntKind.wrap .u8 (ishr .u64 (List.getD x2 (Int.toNat (IntKind.wrap .i64 (Int.tdiv x0 8))) 0) (IntKind.wrap .i64 ((Int.tmod x0 8) * 8))))) x2
 else
 none
 else
 none
 else
 none
 else
 none
 else
 none
 else
 some (mk0 x1)
def Fat.l3.g {α : Type} (mk0 : LI → α) (n : Nat) : Nat → Int → LI → LI → Option α
 | 0, _, _, _ => none
 | m + 1, x0, x1, x2 => Fat.l3.r mk0 n (fun y0 y1 y2 => Fat.l3.g mk0 n m y0 y1 y2)  x0 x1 x2
def Fat.l3.m (n m : Nat) (t : (Int × (LI × LI))) : Option LI := Fat.l3.g (fun a0 => a0) n m t.1 t.2.1 t.2.2
def Fat.l3.pat : St → Option (Int × (LI × LI))
 | (St.mk [(.int .i64 x0), (.own 0 1), (.ptr 1 [])] [(some (.ints .u8 x1)), (some (.var (.ints .u64 4 x2)))]) => some (x0, x1, x2)
 | _ => none
def Fat.l3.shape (t : (Int × (LI × LI))) : St := (St.mk [(.int .i64 t.1), (.own 0 1), (.ptr 1 [])] [(some (.ints .u8 t.2.1)), (some (.var (.ints .u64 4 t.2.2)))])
def Fat.l3.res : LI → Ex × St
 | u => ((.exit 0), (St.mk [(.own 0 1)] [(some (.ints .u8 u))]))
noncomputable def Fat.A (n : Nat) : Ann := ⟨Tryz.f71.ntmps, 0, Fat.live, [(3, (.ints .u8))], [(some (.ints .u8))], fun k => match k with
 | 3 => some (.mk' Fat.l3.pat (Fat.l3.m n n) (zQ Fat.l3.res))
 | _ => none, zV, zW []⟩
noncomputable def Fat.b0 : Code := (zK (Tryz.f71.body.getD .skip)).getD 0 .skip
def Fat.g {α : Type} (mk0 : LI → α) (n : Nat) (a0 : LI) : Option α :=
 zD (Fat.l3.m n n (0, ([0, 0, 0, 0, 0, 0, 0, 0, 0, 0, 0, 0, 0, 0, 0, 0, 0, 0, 0, 0, 0, 0, 0, 0, 0, 0, 0, 0, 0, 0, 0, 0] : List Int), a0)) fun r2 =>
 some (mk0 r2)
def Fat.m (n : Nat) (t : LI) : Option LI := Fat.g (fun a0 => a0) n t
def Fat.pat : List AV → zC → Option LI
 | [(.ints .u64 4 a0)], [] => some a0
 | _, _ => none
def Fat.shape (t : LI) : List AV × zC := ([(.ints .u64 4 t)], [])
def Fat.res : LI → AV × zC
 | u => ((.own 0 1), [(some (.ints .u8 u))])
def Fat.c (n : Nat) : Abs.Callee := .mk' [] [none] Fat.pat (Fat.m n) (zO Fat.res)
noncomputable def Fbd.C (n : Nat) : Ctx := ⟨Tryz.prog, zI, zU [], fun _ => false⟩
def Fbd.live : NL := fun k => match k with
 | 4 => ([13, 12, 3, 0, 2], [3, 2])
 | _ => ([], [])
def Fbd.l4.r {α : Type} (mk0 : LI → LI → α) (n : Nat) (rc : Int → Int → LI → LI → LI → Option α)  (x0 x1 : Int) (x2 x3 x4 : LI) : Option α :=
 if (decide (x0 < x1)) = true then
 if 0 ≤ (IntKind.wrap .i64 (Int.tdiv x0 8)) then
 if (IntKind.wrap .i64 (Int.tdiv x0 8)) < 4 then
 if 0 ≤ (IntKind.wrap .i64 ((IntKind.wrap .i64 ((x2.length : Int) - 1)) - x0)) then
 if (IntKind.wrap .i64 ((IntKind.wrap .i64 ((x2.length : Int) - 1)) - x0)) < (x2.length : Int) then
 if 0 ≤ (IntKind.wrap .i64 ((Int.tmod x0 8) * 8)) then
 if 0 ≤ (IntKind.wrap .i64 (Int.tdiv x0 8)) then
 if (IntKind.wrap .i64 (Int.tdiv x0 8)) < 4 then
 rc (IntKind.wrap .i64 (x0 + 1)) x1 x2 (List.set x3 (Int.toNat (IntKind.wrap .i64 (Int.tdiv x0 8))) (ibits BinOp.or .u64 (List.getD x3 (Int.toNat (IntKind.wrap .i64 (Int.tdiv x0 8))) 0) (ishl .u64 (IntKind.wrap .u64 (List.getD x2 (Int.toNat (IntKind.wrap .i64 ((IntKind.wrap .i64 ((x2.length : Int) - 1)) - x0))) 0)) (IntKind.wrap .i64 ((Int.tmod x0 8) * 8))))) x4
 else
 none
 else
 none
 else
 none
 else
 none
 else
 none
 else
 none
 else
 none
 else
 some (mk0 x3 x4)
def Fbd.l4.g {α : Type} (mk0 : LI → LI → α) (n : Nat) : Nat → Int → Int → LI → LI → LI → Option α
 | 0, _, _, _, _, _ => none
 | m + 1, x0, x1, x2, x3, x4 => Fbd.l4.r mk0 n (fun y0 y1 y2 y3 y4 => Fbd.l4.g mk0 n m y0 y1 y2 y3 y4)  x0 x1 x2 x3 x4
def Fbd.l4.m (n m : Nat) (t : (Int × (Int × (LI × (LI × LI))))) : Option (LI × LI) := Fbd.l4.g (fun a0 a1 => (a0, a1)) n m t.1 t.2.1 t.2.2.1 t.2.2.2.1 t.w
def Fbd.l4.pat : St → Option (Int × (Int × (LI × (LI × LI))))
 | (St.mk [(.int .i64 x0), (.int .i64 x1), (.ptr 0 []), (.rints .u8 x2), (.ptr 1 [])] [(some (.var (.ints .u64 4 x3))), (some (.var (.ints .u64 4 x4)))]) => some (x0, x1, x2, x3, x4)
 | _ => none
def Fbd.l4.shape (t : (Int × (Int × (LI × (LI × LI))))) : St := (St.mk [(.int .i64 t.1), (.int .i64 t.2.1), (.ptr 0 []), (.rints .u8 t.2.2.1), (.ptr 1 [])] [(some (.var (.ints .u64 4 t.2.2.2.1))), (some (.var (.ints .u64 4 t.w)))])
def Fbd.l4.res : (LI × LI) → Ex × St
 | u => ((.exit 0), (St.mk [(.ptr 0 []), (.ptr 1 [])] [(some (.var (.ints .u64 4 u.1))), (some (.var (.ints .u64 4 u.2)))]))
noncomputable def Fbd.A (n : Nat) : Ann := ⟨Tryz.f64.ntmps, 0, Fbd.live, [(0, (.ints .u8))], [none], fun k => match k with
 | 4 => some (.mk' Fbd.l4.pat (Fbd.l4.m n n) (zQ Fbd.l4.res))
 | _ => none, zV, zW []⟩
noncomputable def Fbd.b0 : Code := (zK (Tryz.f64.body.getD .skip)).getD 0 .skip
def Fbd.g {α : Type} (mk0 : LI → α) (n : Nat) (a0 : LI) : Option α :=
 if 0 ≤ (if 0 > (IntKind.wrap .i64 ((a0.length : Int) - 32)) then 0 else (IntKind.wrap .i64 ((a0.length : Int) - 32))) then
 if (if 0 > (IntKind.wrap .i64 ((a0.length : Int) - 32)) then 0 else (IntKind.wrap .i64 ((a0.length : Int) - 32))) ≤ (a0.length : Int) then
 zD (Fbd.l4.m n n (0, (((List.length (Go.Abs.cut a0 (Int.toNat (if 0 > (IntKind.wrap .i64 ((a0.length : Int) - 32)) then 0 else (IntKind.wrap .i64 ((a0.length : Int) - 32)))) (Option.none))) : Nat) : Int), (Go.Abs.cut a0 (Int.toNat (if 0 > (IntKind.wrap .i64 ((a0.length : Int) - 32)) then 0 else (IntKind.wrap .i64 ((a0.length : Int) - 32)))) (Option.none)), [0, 0, 0, 0], [0, 0, 0, 0])) fun r6 =>
 some (mk0 r6.1)
 else
 none
 else
 none
def Fbd.m (n : Nat) (t : LI) : Option LI := Fbd.g (fun a0 => a0) n t
def Fbd.pat : List AV → zC → Option LI
 | [(.rints .u8 a0)], [] => some a0
 | _, _ => none
def Fbd.shape (t : LI) : List AV × zC := ([(.rints .u8 t)], [])
def Fbd.res : LI → AV × zC
 | u => ((.ints .u64 4 u), [])
def Fbd.c (n : Nat) : Abs.Callee := .mk' [] [(some (.ints .u8))] Fbd.pat (Fbd.m n) (zO Fbd.res)
noncomputable def Fbe.C (n : Nat) : Ctx := ⟨Tryz.prog, zI, zU [(71, Fat.c n)], fun _ => false⟩
noncomputable def Fbe.A (n : Nat) : Ann := ⟨Tryz.f88.ntmps, 0, zV, [], [none], fun k => match k with
 | _ => none, zV, zW []⟩
def Fbe.g {α : Type} (mk0 : LI → α) (n : Nat) (a0 : LI) : Option α :=
 zD (Fat.m n a0) fun r2 =>
 if 12 ≤ (r2.length : Int) then
 if 20 ≤ (Go.Abs.span (List.length r2) 12 (Option.none)) then
 some (mk0 (List.take 20 (List.drop 12 r2)))
 else
 none
 else
 none
def Fbe.m (n : Nat) (t : LI) : Option LI := Fbe.g (fun a0 => a0) n t
def Fbe.pat : List AV → zC → Option LI
 | [(.ints .u64 4 a0)], [] => some a0
 | _, _ => none
def Fbe.shape (t : LI) : List AV × zC := ([(.ints .u64 4 t)], [])
def Fbe.res : LI → AV × zC
 | u => ((.ints .u8 20 u), [])
def Fbe.c (n : Nat) : Abs.Callee := .mk' [] [none] Fbe.pat (Fbe.m n) (zO Fbe.res)
noncomputable def Fbf.C (n : Nat) : Ctx := ⟨Tryz.prog, zI, zU [(64, Fbd.c n)], fun _ => false⟩
noncomputable def Fbf.A (n : Nat) : Ann := ⟨Tryz.f50.ntmps, 0, zV, [], [none], fun k => match k with
 | _ => none, zV, zW []⟩
def Fbf.g {α : Type} (mk0 : LI → α) (n : Nat) (a0 : LI) : Option α :=
 zD (Fbd.m n (List.take 20 (List.drop 0 a0))) fun r2 =>
 some (mk0 r2)
def Fbf.m (n : Nat) (t : LI) : Option LI := Fbf.g (fun a0 => a0) n t
def Fbf.pat : List AV → zC → Option LI
 | [(.ints .u8 20 a0)], [] => some a0
 | _, _ => none
def Fbf.shape (t : LI) : List AV × zC := ([(.ints .u8 20 t)], [])
def Fbf.res : LI → AV × zC
 | u => ((.ints .u64 4 u), [])
def Fbf.c (n : Nat) : Abs.Callee := .mk' [] [none] Fbf.pat (Fbf.m n) (zO Fbf.res)
noncomputable def Fbg.C (n : Nat) : Ctx := ⟨Tryz.prog, zI, zU [], fun _ => false⟩
def Fbg.live : NL := fun k => match k with
 | 3 => ([4, 3, 1], [3])
 | _ => ([], [])
def Fbg.l3.r {α : Type} (mk0 : LI → α) (n : Nat) (rc : Int → LI → LI → Option α)  (x0 : Int) (x1 x2 : LI) : Option α :=
 if (decide (x0 < 32)) = true then
 if 0 ≤ (IntKind.wrap .i64 (Int.tdiv (IntKind.wrap .i64 (31 - x0)) 8)) then
 if (IntKind.wrap .i64 (Int.tdiv (IntKind.wrap .i64 (31 - x0)) 8)) < 4 then
 if 0 ≤ (IntKind.wrap .u64 (IntKind.wrap .i64 ((Int.tmod (IntKind.wrap .i64 (31 - x0)) 8) * 8))) then
 if ((((List.length x1) + 1) * 1) ≤ 70368744177664 ∧ ((List.length x1) + 1) ≤ 9223372036854775807) then
 rc (IntKind.wrap .i64 (x0 + 1)) (x1 ++ [(IntKind.wrap .u8 (ishr .u64 (List.getD x2 (Int.toNat (IntKind.wrap .i64 (Int.tdiv (IntKind.wrap .i64 (31 - x0)) 8))) 0) (IntKind.wrap .u64 (IntKind.wrap .i64 ((Int.tmod (IntKind.wrap .i64 (31 - x0)) 8) * 8)))))]) x2
 else
 none
 else
 none
 else
 none
 else
 none
 else
 some (mk0 x1)
def Fbg.l3.g {α : Type} (mk0 : LI → α) (n : Nat) : Nat → Int → LI → LI → Option α
 | 0, _, _, _ => none
 | m + 1, x0, x1, x2 => Fbg.l3.r mk0 n (fun y0 y1 y2 => Fbg.l3.g mk0 n m y0 y1 y2)  x0 x1 x2
def Fbg.l3.m (n m : Nat) (t : (Int × (LI × LI))) : Option LI := Fbg.l3.g (fun a0 => a0) n m t.1 t.2.1 t.2.2
def Fbg.l3.pat : St → Option (Int × (LI × LI))
 | (St.mk [(.int .i64 x0), (.own 0 1), (.ptr 1 [])] [(some (.ints .u8 x1)), (some (.var (.ints .u64 4 x2)))]) => some (x0, x1, x2)
 | _ => none
def Fbg.l3.shape (t : (Int × (LI × LI))) : St := (St.mk [(.int .i64 t.1), (.own 0 1), (.ptr 1 [])] [(some (.ints .u8 t.2.1)), (some (.var (.ints .u64 4 t.2.2)))])
def Fbg.l3.res : LI → Ex × St
 | u => ((.exit 0), (St.mk [(.own 0 1)] [(some (.ints .u8 u))]))
noncomputable def Fbg.A (n : Nat) : Ann := ⟨Tryz.f42.ntmps, 0, Fbg.live, [(3, (.ints .u8))], [(some (.ints .u8))], fun k => match k with
 | 3 => some (.mk' Fbg.l3.pat (Fbg.l3.m n n) (zQ Fbg.l3.res))
 | _ => none, zV, zW []⟩
noncomputable def Fbg.b0 : Code := (zK (Tryz.f42.body.getD .skip)).getD 0 .skip
def Fbg.g {α : Type} (mk0 : LI → α) (n : Nat) (a0 : LI) : Option α :=
 zD (Fbg.l3.m n n (0, [], a0)) fun r2 =>
 some (mk0 r2)
def Fbg.m (n : Nat) (t : LI) : Option LI := Fbg.g (fun a0 => a0) n t
def Fbg.pat : List AV → zC → Option LI
 | [(.ints .u64 4 a0)], [] => some a0
 | _, _ => none
def Fbg.shape (t : LI) : List AV × zC := ([(.ints .u64 4 t)], [])
def Fbg.res : LI → AV × zC
 | u => ((.own 0 1), [(some (.ints .u8 u))])
def Fbg.c (n : Nat) : Abs.Callee := .mk' [] [none] Fbg.pat (Fbg.m n) (zO Fbg.res)
noncomputable def Fbh.C (n : Nat) : Ctx := ⟨Tryz.prog, zI, zU [], fun _ => false⟩
noncomputable def Fbh.A (n : Nat) : Ann := ⟨Tryz.f48.ntmps, 0, zV, [], [none], fun k => match k with
 | _ => none, zV, zW []⟩
def Fbh.g {α : Type} (mk0 : LI → α) (n : Nat) (a0 : Int) : Option α :=
 some (mk0 [a0, 0, 0, 0])
def Fbh.m (n : Nat) (t : Int) : Option LI := Fbh.g (fun a0 => a0) n t
def Fbh.pat : List AV → zC → Option Int
 | [(.int .u64 a0)], [] => some a0
 | _, _ => none
def Fbh.shape (t : Int) : List AV × zC := ([(.int .u64 t)], [])
def Fbh.res : LI → AV × zC
 | u => ((.ints .u64 4 u), [])
def Fbh.c (n : Nat) : Abs.Callee := .mk' [] [none] Fbh.pat (Fbh.m n) (zO Fbh.res)
noncomputable def Fbi.C (n : Nat) : Ctx := ⟨Tryz.prog, zI, zU [(48, Fbh.c n), (50, Fbf.c n), (49, Fbw.c n)], fun _ => false⟩
noncomputable def Fbi.A (n : Nat) : Ann := ⟨Tryz.f26.ntmps, 0, zV, [], [none], fun k => match k with
 | _ => none, zV, zW []⟩
def Fbi.g {α : Type} (mk0 : LI → α) (n : Nat) (a0 : LI) (a1 a2 : Int) : Option α :=
 zD (Fbh.m n 96) fun r2 =>
 zD (Fbf.m n a0) fun r4 =>
 zD (Fbw.m n (r2, r4)) fun r6 =>
 some (mk0 (List.set (List.set r6 0 a2) 1 (ibits BinOp.or .u64 (List.getD r6 1 0) a1)))
def Fbi.m (n : Nat) (t : (LI × (Int × Int))) : Option LI := Fbi.g (fun a0 => a0) n t.1 t.2.1 t.2.2
def Fbi.pat : List AV → zC → Option (LI × (Int × Int))
 | [(.ints .u8 20 a0), (.int .u64 a1), (.int .u64 a2)], [] => some (a0, a1, a2)
 | _, _ => none
def Fbi.shape (t : (LI × (Int × Int))) : List AV × zC := ([(.ints .u8 20 t.1), (.int .u64 t.2.1), (.int .u64 t.2.2)], [])
def Fbi.res : LI → AV × zC
 | u => ((.ints .u64 4 u), [])
def Fbi.c (n : Nat) : Abs.Callee := .mk' [] [none, none, none] Fbi.pat (Fbi.m n) (zO Fbi.res)
noncomputable def Fbj.C (n : Nat) : Ctx := ⟨Tryz.prog, zI, zU [], fun _ => false⟩
noncomputable def Fbj.A (n : Nat) : Ann := ⟨Tryz.f10.ntmps, 0, zV, [], [none], fun k => match k with
 | _ => none, zV, zW []⟩
def Fbj.g {α : Type} (mk0 : LI → α) (n : Nat)  : Option α :=
 some (mk0 ([0, 0, 0, 0, 113, 114, 125, 226, 46, 94, 157, 139, 175, 14, 218, 198, 243, 125, 160, 50] : List Int))
def Fbj.m (n : Nat) (t : Unit) : Option LI := Fbj.g (fun a0 => a0) n 
def Fbj.pat : List AV → zC → Option Unit
 | [], [] => some ()
 | _, _ => none
def Fbj.shape (t : Unit) : List AV × zC := ([], [])
def Fbj.res : LI → AV × zC
 | u => ((.ints .u8 20 u), [])
def Fbj.c (n : Nat) : Abs.Callee := .mk' [] [] Fbj.pat (Fbj.m n) (zO Fbj.res)
noncomputable def Fv.C (n : Nat) : Ctx := ⟨Tryz.prog, zI, zU [], fun _ => false⟩
noncomputable def Fv.A (n : Nat) : Ann := ⟨Tryz.f25.ntmps, 6, zV, [], [none], fun k => match k with
 | _ => none, zV, zW []⟩
def Fv.g {α : Type} (mk0 : LI → Int → Int → LA → LA → LA → LA → LA → α) (n : Nat) (a k : LI) (r x : Int) (p q : LA) (o j z : LA) : Option α :=
 zD (Go.Abs.mgetL (AV.agg [(AV.ints .u8 20 a), (AV.ints .u64 4 k)]) (AV.ints .u64 4 [0, 0, 0, 0]) q) fun r2 =>
 zD (tkInts .u64 4 r2.1) fun r4 =>
 some (mk0 r4 r x p q o j z)
def Fv.m (n : Nat) (t : zCi) : Option zCR := Fv.g (fun a0 a1 a2 a3 a4 a5 a6 a7 => (a0, a1, a2, a3, a4, a5, a6, a7)) n t.1 t.2.1 t.2.2.1 t.2.2.2.1 t.w.1 t.w.2.1 t.w.2.2.1 t.w.2.2.2.1 t.x
def Fv.pat : List AV → zC → Option zCi
 | [(.ptr 0 []), (.ints .u8 20 a), (.ints .u64 4 k)], [(some (.var (.agg [(.own 1 0), (.own 2 0), (.rmap []), (.rmap []), (.own 3 0), (.rmap []), (.int .i64 r), .snil, (.own 4 36), (.own 5 2), (.int .i64 x)]))), (some (.mp p)), (some (.mp q)), (some (.mp o)), (some (.objs 104 36 j)), (some (.objs 83 2 z))] => some (a, k, r, x, p, q, o, j, z)
 | _, _ => none
def Fv.shape (t : zCi) : List AV × zC := ([(.ptr 0 []), (.ints .u8 20 t.1), (.ints .u64 4 t.2.1)], [(some (.var (.agg [(.own 1 0), (.own 2 0), (.rmap []), (.rmap []), (.own 3 0), (.rmap []), (.int .i64 t.2.2.1), .snil, (.own 4 36), (.own 5 2), (.int .i64 t.2.2.2.1)]))), (some (.mp t.w.1)), (some (.mp t.w.2.1)), (some (.mp t.w.2.2.1)), (some (.objs 104 36 t.w.2.2.2.1)), (some (.objs 83 2 t.x))])
def Fv.res : zCR → AV × zC
 | u => ((.ints .u64 4 u.1), [(some (.var (.agg [(.own 1 0), (.own 2 0), (.rmap []), (.rmap []), (.own 3 0), (.rmap []), (.int .i64 u.2.1), .snil, (.own 4 36), (.own 5 2), (.int .i64 u.2.2.1)]))), (some (.mp u.2.2.2.1)), (some (.mp u.w.1)), (some (.mp u.w.2.1)), (some (.objs 104 36 u.w.2.2.1)), (some (.objs 83 2 u.w.2.2.2))])
def Fv.c (n : Nat) : Abs.Callee := .mk' [true, false, false] [none, none, none] Fv.pat (Fv.m n) (zO Fv.res)
noncomputable def Fh.C (n : Nat) : Ctx := ⟨Tryz.prog, zI, zU [], fun _ => false⟩
noncomputable def Fh.A (n : Nat) : Ann := ⟨Tryz.f27.ntmps, 6, zV, [], [], fun k => match k with
 | _ => none, zV, zW []⟩
def Fh.g {α : Type} (mk0 : Int → Int → LA → LA → LA → LA → LA → α) (n : Nat) (a k v : LI) (r x : Int) (p q : LA) (o j z : LA) : Option α :=
 zD (Go.Abs.mgetL (AV.agg [(AV.ints .u8 20 a), (AV.ints .u64 4 k)]) (AV.ints .u64 4 [0, 0, 0, 0]) q) fun r2 =>
 zD (tkInts .u64 4 r2.1) fun r4 =>
 zD (Go.Abs.mgetL (AV.agg [(AV.ints .u8 20 a), (AV.ints .u64 4 k)]) (AV.ints .u64 4 [0, 0, 0, 0]) o) fun r6 =>
 zD (tkInts .u64 4 r6.1) fun r8 =>
 if (!r6.2) = true then
 zD (Go.Abs.mputL (AV.agg [(AV.ints .u8 20 a), (AV.ints .u64 4 k)]) (AV.ints .u64 4 r4) o) fun r12 =>
 if ((((List.length j) + 1) * 160) ≤ 70368744177664 ∧ ((List.length j) + 1) ≤ 9223372036854775807) then
 zD (Go.Abs.mputL (AV.agg [(AV.ints .u8 20 a), (AV.ints .u64 4 k)]) (AV.ints .u64 4 v) q) fun r16 =>
 some (mk0 r x p r16 r12 z (j ++ [(AV.agg [(AV.int .i64 1), (AV.agg [(AV.ints .u8 20 a), (AV.ints .u64 4 k)]), (AV.agg [(AV.int .u64 0), (AV.ints .u64 4 [0, 0, 0, 0]), (AV.str ByteArray.empty)]), (AV.ints .u64 4 r4), (AV.int .i64 0)])]))
 else
 none
 else
 if ((((List.length j) + 1) * 160) ≤ 70368744177664 ∧ ((List.length j) + 1) ≤ 9223372036854775807) then
 zD (Go.Abs.mputL (AV.agg [(AV.ints .u8 20 a), (AV.ints .u64 4 k)]) (AV.ints .u64 4 v) q) fun r14 =>
 some (mk0 r x p r14 o z (j ++ [(AV.agg [(AV.int .i64 1), (AV.agg [(AV.ints .u8 20 a), (AV.ints .u64 4 k)]), (AV.agg [(AV.int .u64 0), (AV.ints .u64 4 [0, 0, 0, 0]), (AV.str ByteArray.empty)]), (AV.ints .u64 4 r4), (AV.int .i64 0)])]))
 else
 none
def Fh.m (n : Nat) (t : zLO) : Option zBk := Fh.g (fun a0 a1 a2 a3 a4 a5 a6 => (a0, a1, a2, a3, a4, a5, a6)) n t.1 t.2.1 t.2.2.1 t.2.2.2.1 t.w.1 t.w.2.1 t.w.2.2.1 t.w.2.2.2.1 t.x.1 t.x.2
def Fh.pat : List AV → zC → Option zLO
 | [(.ptr 0 []), (.ints .u8 20 a), (.ints .u64 4 k), (.ints .u64 4 v)], [(some (.var (.agg [(.own 1 0), (.own 2 0), (.rmap []), (.rmap []), (.own 3 0), (.rmap []), (.int .i64 r), .snil, (.own 4 36), (.own 5 2), (.int .i64 x)]))), (some (.mp p)), (some (.mp q)), (some (.mp o)), (some (.objs 104 36 j)), (some (.objs 83 2 z))] => some (a, k, v, r, x, p, q, o, j, z)
 | _, _ => none
def Fh.shape (t : zLO) : List AV × zC := ([(.ptr 0 []), (.ints .u8 20 t.1), (.ints .u64 4 t.2.1), (.ints .u64 4 t.2.2.1)], [(some (.var (.agg [(.own 1 0), (.own 2 0), (.rmap []), (.rmap []), (.own 3 0), (.rmap []), (.int .i64 t.2.2.2.1), .snil, (.own 4 36), (.own 5 2), (.int .i64 t.w.1)]))), (some (.mp t.w.2.1)), (some (.mp t.w.2.2.1)), (some (.mp t.w.2.2.2.1)), (some (.objs 104 36 t.x.1)), (some (.objs 83 2 t.x.2))])
def Fh.res : zBk → AV × zC
 | u => ((.tup []), [(some (.var (.agg [(.own 1 0), (.own 2 0), (.rmap []), (.rmap []), (.own 3 0), (.rmap []), (.int .i64 u.1), .snil, (.own 6 36), (.own 5 2), (.int .i64 u.2.1)]))), (some (.mp u.2.2.1)), (some (.mp u.2.2.2.1)), (some (.mp u.w.1)), none, (some (.objs 83 2 u.w.2.1)), (some (.objs 104 36 u.w.2.2))])
def Fh.c (n : Nat) : Abs.Callee := .mk' [true, false, false, false] [none, none, none, none] Fh.pat (Fh.m n) (zO Fh.res)
noncomputable def Fbx.C (n : Nat) : Ctx := ⟨Tryz.prog, zI, zU [(26, Fbi.c n), (10, Fbj.c n), (25, Fv.c n), (27, Fh.c n)], fun _ => false⟩
noncomputable def Fbx.A (n : Nat) : Ann := ⟨Tryz.f8.ntmps, 6, zV, [], [none, (some (.agg [(some (.ints .u8))]))], fun k => match k with
 | _ => none, zV, zW []⟩
def Fbx.g {α : Type} (mk0 : Bool → Int → Int → LA → LA → LA → LA → LA → α) (n : Nat) (a k : LI) (r x : Int) (p q : LA) (o j z : LA) : Option α :=
 zD (Fbi.m n (a, 3, (List.getD k 1 0))) fun r2 =>
 zD (Fbj.m n Unit.unit) fun r4 =>
 zD (Fv.m n (r4, r2, r, x, p, q, o, j, z)) fun r6 =>
 if ((ibits BinOp.or .u64 (List.getD k 2 0) (List.getD k 3 0)) != 0) = true then
 some (mk0 false r6.2.1 r6.2.2.1 r6.2.2.2.1 r6.w.1 r6.w.2.1 r6.w.2.2.2 r6.w.2.2.1)
 else
 if ((List.getD r6.1 0 0) != (List.getD k 0 0)) = true then
 some (mk0 false r6.2.1 r6.2.2.1 r6.2.2.2.1 r6.w.1 r6.w.2.1 r6.w.2.2.2 r6.w.2.2.1)
 else
 if ((IntKind.wrap .u64 ((List.getD r6.1 0 0) + 1)) == 0) = true then
 some (mk0 false r6.2.1 r6.2.2.1 r6.2.2.2.1 r6.w.1 r6.w.2.1 r6.w.2.2.2 r6.w.2.2.1)
 else
 zD (Fbj.m n Unit.unit) fun r14 =>
 zD (Fh.m n (r14, r2, (List.set r6.1 0 (IntKind.wrap .u64 ((List.getD r6.1 0 0) + 1))), r6.2.1, r6.2.2.1, r6.2.2.2.1, r6.w.1, r6.w.2.1, r6.w.2.2.1, r6.w.2.2.2)) fun r16 =>
 some (mk0 true r16.1 r16.2.1 r16.2.2.1 r16.2.2.2.1 r16.w.1 r16.w.2.1 r16.w.2.2)
def Fbx.m (n : Nat) (t : zCi) : Option zLK := Fbx.g (fun a0 a1 a2 a3 a4 a5 a6 a7 => (a0, a1, a2, a3, a4, a5, a6, a7)) n t.1 t.2.1 t.2.2.1 t.2.2.2.1 t.w.1 t.w.2.1 t.w.2.2.1 t.w.2.2.2.1 t.x
def Fbx.pat : List AV → zC → Option zCi
 | [(.ptr 0 []), (.ints .u8 20 a), (.ints .u64 4 k)], [(some (.var (.agg [(.own 1 0), (.own 2 0), (.rmap []), (.rmap []), (.own 3 0), (.rmap []), (.int .i64 r), .snil, (.own 4 36), (.own 5 2), (.int .i64 x)]))), (some (.mp p)), (some (.mp q)), (some (.mp o)), (some (.objs 104 36 j)), (some (.objs 83 2 z))] => some (a, k, r, x, p, q, o, j, z)
 | _, _ => none
def Fbx.shape (t : zCi) : List AV × zC := ([(.ptr 0 []), (.ints .u8 20 t.1), (.ints .u64 4 t.2.1)], [(some (.var (.agg [(.own 1 0), (.own 2 0), (.rmap []), (.rmap []), (.own 3 0), (.rmap []), (.int .i64 t.2.2.1), .snil, (.own 4 36), (.own 5 2), (.int .i64 t.2.2.2.1)]))), (some (.mp t.w.1)), (some (.mp t.w.2.1)), (some (.mp t.w.2.2.1)), (some (.objs 104 36 t.w.2.2.2.1)), (some (.objs 83 2 t.x))])
def Fbx.res : zLK → AV × zC
 | u => ((.bool u.1), [(some (.var (.agg [(.own 1 0), (.own 2 0), (.rmap []), (.rmap []), (.own 3 0), (.rmap []), (.int .i64 u.2.1), .snil, (.own 6 36), (.own 5 2), (.int .i64 u.2.2.1)]))), (some (.mp u.2.2.2.1)), (some (.mp u.w.1)), (some (.mp u.w.2.1)), none, (some (.objs 83 2 u.w.2.2.1)), (some (.objs 104 36 u.w.2.2.2))])
def Fbx.c (n : Nat) : Abs.Callee := .mk' [true, false, false] [none, none, none] Fbx.pat (Fbx.m n) (zO Fbx.res)
noncomputable def Faj.C (n : Nat) : Ctx := ⟨Tryz.prog, zI, zU [], fun _ => false⟩
noncomputable def Faj.A (n : Nat) : Ann := ⟨Tryz.f79.ntmps, 0, zV, [], [none], fun k => match k with
 | _ => none, zV, zW []⟩
def Faj.g {α : Type} (mk0 : Int → α) (n : Nat) (i f : Int) (a : LI) : Option α :=
 if (decide (i > 3)) = true then
 some (mk0 f)
 else
 if 0 ≤ i then
 if i < 4 then
 some (mk0 (List.getD a (Int.toNat i) 0))
 else
 none
 else
 none
def Faj.m (n : Nat) (t : (Int × (Int × LI))) : Option Int := Faj.g (fun a0 => a0) n t.1 t.2.1 t.2.2
def Faj.pat : List AV → zC → Option (Int × (Int × LI))
 | [(.int .i64 i), (.rptr (.int .u64 f)), (.rptr (.ints .u64 4 a))], [] => some (i, f, a)
 | _, _ => none
def Faj.shape (t : (Int × (Int × LI))) : List AV × zC := ([(.int .i64 t.1), (.rptr (.int .u64 t.2.1)), (.rptr (.ints .u64 4 t.2.2))], [])
def Faj.res : Int → AV × zC
 | u => ((.int .u64 u), [])
def Faj.c (n : Nat) : Abs.Callee := .mk' [] [none] Faj.pat (Faj.m n) (zO Faj.res)
noncomputable def Fau.C (n : Nat) : Ctx := ⟨Tryz.prog, zI, zU [(79, Faj.c n)], fun _ => false⟩
def Fau.live : NL := fun k => match k with
 | 4 => ([12, 0, 7, 8, 6], [8, 6])
 | _ => ([], [])
def Fau.l4.r {α : Type} (mk0 : LI → LI → α) (n : Nat) (rc : Int → Int → Int → LI → LI → LI → Option α)  (x0 x1 x2 : Int) (x3 x4 x5 : LI) : Option α :=
 if (decide (x0 < 4)) = true then
 zD (Faj.m n ((IntKind.wrap .i64 (x0 + (IntKind.wrap .i64 (IntKind.wrap .u64 (Int.tdiv x1 64))))), x2, x3)) fun r6 =>
 if 0 ≤ (Int.tmod x1 64) then
 if 0 ≤ x0 then
 if x0 < 4 then
 if ((Int.tmod x1 64) != 0) = true then
 if 0 ≤ x0 then
 if x0 < 4 then
 zD (Faj.m n ((IntKind.wrap .i64 ((IntKind.wrap .i64 (x0 + (IntKind.wrap .i64 (IntKind.wrap .u64 (Int.tdiv x1 64))))) + 1)), x2, x3)) fun r20 =>
 if 0 ≤ (IntKind.wrap .u64 (64 - (Int.tmod x1 64))) then
 if 0 ≤ x0 then
 if x0 < 4 then
 rc (IntKind.wrap .i64 (x0 + 1)) x1 x2 x3 (List.set (List.set x4 (Int.toNat x0) (ishr .u64 r6 (Int.tmod x1 64))) (Int.toNat x0) (ibits BinOp.or .u64 (List.getD (List.set x4 (Int.toNat x0) (ishr .u64 r6 (Int.tmod x1 64))) (Int.toNat x0) 0) (ishl .u64 r20 (IntKind.wrap .u64 (64 - (Int.tmod x1 64)))))) x5
 else
 none
 else
 none
 else
 none
 else
 none
 else
 none
 else
 rc (IntKind.wrap .i64 (x0 + 1)) x1 x2 x3 (List.set x4 (Int.toNat x0) (ishr .u64 r6 (Int.tmod x1 64))) x5
 else
 none
 else
 none
 else
 none
 else
 some (mk0 x4 x5)
def Fau.l4.g {α : Type} (mk0 : LI → LI → α) (n : Nat) : Nat → Int → Int → Int → LI → LI → LI → Option α
 | 0, _, _, _, _, _, _ => none
 | m + 1, x0, x1, x2, x3, x4, x5 => Fau.l4.r mk0 n (fun y0 y1 y2 y3 y4 y5 => Fau.l4.g mk0 n m y0 y1 y2 y3 y4 y5)  x0 x1 x2 x3 x4 x5
def Fau.l4.m (n m : Nat) (t : (Int × (Int × (Int × (LI × (LI × LI)))))) : Option (LI × LI) := Fau.l4.g (fun a0 a1 => (a0, a1)) n m t.1 t.2.1 t.2.2.1 t.2.2.2.1 t.w.1 t.w.2
def Fau.l4.pat : St → Option (Int × (Int × (Int × (LI × (LI × LI)))))
 | (St.mk [(.int .i64 x0), (.int .u64 x1), (.fn (.func 79) [] [(.ptr 0 []), (.ptr 1 [])]), (.ptr 2 []), (.ptr 3 [])] [(some (.var (.int .u64 x2))), (some (.var (.ints .u64 4 x3))), (some (.var (.ints .u64 4 x4))), (some (.var (.ints .u64 4 x5)))]) => some (x0, x1, x2, x3, x4, x5)
 | _ => none
def Fau.l4.shape (t : (Int × (Int × (Int × (LI × (LI × LI)))))) : St := (St.mk [(.int .i64 t.1), (.int .u64 t.2.1), (.fn (.func 79) [] [(.ptr 0 []), (.ptr 1 [])]), (.ptr 2 []), (.ptr 3 [])] [(some (.var (.int .u64 t.2.2.1))), (some (.var (.ints .u64 4 t.2.2.2.1))), (some (.var (.ints .u64 4 t.w.1))), (some (.var (.ints .u64 4 t.w.2)))])
def Fau.l4.res : (LI × LI) → Ex × St
 | u => ((.exit 0), (St.mk [(.ptr 0 []), (.ptr 1 [])] [(some (.var (.ints .u64 4 u.1))), (some (.var (.ints .u64 4 u.2)))]))
noncomputable def Fau.A (n : Nat) : Ann := ⟨Tryz.f62.ntmps, 0, Fau.live, [], [none], fun k => match k with
 | 4 => some (.mk' Fau.l4.pat (Fau.l4.m n n) (zQ Fau.l4.res))
 | _ => none, zV, zW []⟩
noncomputable def Fau.b0 : Code := (zK (Tryz.f62.body.getD .skip)).getD 0 .skip
def Fau.g {α : Type} (mk0 : LI → α) (n : Nat) (a0 : Int) (a1 : LI) (a2 : Int) : Option α :=
 zD (Fau.l4.m n n (0, a0, a2, a1, [0, 0, 0, 0], [0, 0, 0, 0])) fun r2 =>
 some (mk0 r2.1)
def Fau.m (n : Nat) (t : (Int × (LI × Int))) : Option LI := Fau.g (fun a0 => a0) n t.1 t.2.1 t.2.2
def Fau.pat : List AV → zC → Option (Int × (LI × Int))
 | [(.int .u64 a0), (.ints .u64 4 a1), (.int .u64 a2)], [] => some (a0, a1, a2)
 | _, _ => none
def Fau.shape (t : (Int × (LI × Int))) : List AV × zC := ([(.int .u64 t.1), (.ints .u64 4 t.2.1), (.int .u64 t.2.2)], [])
def Fau.res : LI → AV × zC
 | u => ((.ints .u64 4 u), [])
def Fau.c (n : Nat) : Abs.Callee := .mk' [] [none, none, none] Fau.pat (Fau.m n) (zO Fau.res)
noncomputable def Fby.C (n : Nat) : Ctx := ⟨Tryz.prog, zI, zU [(63, Fbv.c n), (62, Fau.c n)], fun _ => false⟩
noncomputable def Fby.A (n : Nat) : Ann := ⟨Tryz.f47.ntmps, 0, zV, [], [none], fun k => match k with
 | _ => none, zV, zW []⟩
def Fby.g {α : Type} (mk0 : LI → α) (n : Nat) (a0 a1 : LI) : Option α :=
 zD (Fbv.m n a0) fun r2 =>
 zD (Fau.m n (r2, a1, 0)) fun r4 =>
 some (mk0 r4)
def Fby.m (n : Nat) (t : (LI × LI)) : Option LI := Fby.g (fun a0 => a0) n t.1 t.2
def Fby.pat : List AV → zC → Option (LI × LI)
 | [(.ints .u64 4 a0), (.ints .u64 4 a1)], [] => some (a0, a1)
 | _, _ => none
def Fby.shape (t : (LI × LI)) : List AV × zC := ([(.ints .u64 4 t.1), (.ints .u64 4 t.2)], [])
def Fby.res : LI → AV × zC
 | u => ((.ints .u64 4 u), [])
def Fby.c (n : Nat) : Abs.Callee := .mk' [] [none, none] Fby.pat (Fby.m n) (zO Fby.res)
noncomputable def Fao.C (n : Nat) : Ctx := ⟨Tryz.prog, zI, zU [(48, Fbh.c n), (47, Fby.c n)], fun _ => false⟩
noncomputable def Fao.A (n : Nat) : Ann := ⟨Tryz.f24.ntmps, 0, zV, [], [none], fun k => match k with
 | _ => none, zV, zW []⟩
def Fao.g {α : Type} (mk0 : Bool → α) (n : Nat) (a0 : LI) (a1 : Int) : Option α :=
 zD (Fbh.m n a1) fun r2 =>
 zD (Fby.m n (r2, a0)) fun r4 =>
 some (mk0 (r4 == [0, 0, 0, 0]))
def Fao.m (n : Nat) (t : (LI × Int)) : Option Bool := Fao.g (fun a0 => a0) n t.1 t.2
def Fao.pat : List AV → zC → Option (LI × Int)
 | [(.ints .u64 4 a0), (.int .u64 a1)], [] => some (a0, a1)
 | _, _ => none
def Fao.shape (t : (LI × Int)) : List AV × zC := ([(.ints .u64 4 t.1), (.int .u64 t.2)], [])
def Fao.res : Bool → AV × zC
 | u => ((.bool u), [])
def Fao.c (n : Nat) : Abs.Callee := .mk' [] [none, none] Fao.pat (Fao.m n) (zO Fao.res)
noncomputable def Fav.C (n : Nat) : Ctx := ⟨Tryz.prog, zI, zU [(24, Fao.c n), (10, Fbj.c n), (26, Fbi.c n), (25, Fv.c n)], fun _ => false⟩
noncomputable def Fav.A (n : Nat) : Ann := ⟨Tryz.f7.ntmps, 6, zV, [], [none], fun k => match k with
 | _ => none, zV, zW []⟩
def Fav.g {α : Type} (mk0 : LI → Int → Int → LA → LA → LA → LA → LA → α) (n : Nat) (a k : LI) (r x : Int) (p q : LA) (o j z : LA) : Option α :=
 zD (Fao.m n (k, 64)) fun r2 =>
 if (!r2) = true then
 some (mk0 [0, 0, 0, 0] r x p q o j z)
 else
 zD (Fbj.m n Unit.unit) fun r6 =>
 zD (Fbi.m n (a, 3, (List.getD k 0 0))) fun r8 =>
 zD (Fv.m n (r6, r8, r, x, p, q, o, j, z)) fun r10 =>
 some (mk0 [(List.getD r10.1 0 0), (List.getD k 0 0), 0, 0] r10.2.1 r10.2.2.1 r10.2.2.2.1 r10.w.1 r10.w.2.1 r10.w.2.2.1 r10.w.2.2.2)
def Fav.m (n : Nat) (t : zCi) : Option zCR := Fav.g (fun a0 a1 a2 a3 a4 a5 a6 a7 => (a0, a1, a2, a3, a4, a5, a6, a7)) n t.1 t.2.1 t.2.2.1 t.2.2.2.1 t.w.1 t.w.2.1 t.w.2.2.1 t.w.2.2.2.1 t.x
def Fav.pat : List AV → zC → Option zCi
 | [(.ptr 0 []), (.ints .u8 20 a), (.ints .u64 4 k)], [(some (.var (.agg [(.own 1 0), (.own 2 0), (.rmap []), (.rmap []), (.own 3 0), (.rmap []), (.int .i64 r), .snil, (.own 4 36), (.own 5 2), (.int .i64 x)]))), (some (.mp p)), (some (.mp q)), (some (.mp o)), (some (.objs 104 36 j)), (some (.objs 83 2 z))] => some (a, k, r, x, p, q, o, j, z)
 | _, _ => none
def Fav.shape (t : zCi) : List AV × zC := ([(.ptr 0 []), (.ints .u8 20 t.1), (.ints .u64 4 t.2.1)], [(some (.var (.agg [(.own 1 0), (.own 2 0), (.rmap []), (.rmap []), (.own 3 0), (.rmap []), (.int .i64 t.2.2.1), .snil, (.own 4 36), (.own 5 2), (.int .i64 t.2.2.2.1)]))), (some (.mp t.w.1)), (some (.mp t.w.2.1)), (some (.mp t.w.2.2.1)), (some (.objs 104 36 t.w.2.2.2.1)), (some (.objs 83 2 t.x))])
def Fav.res : zCR → AV × zC
 | u => ((.ints .u64 4 u.1), [(some (.var (.agg [(.own 1 0), (.own 2 0), (.rmap []), (.rmap []), (.own 3 0), (.rmap []), (.int .i64 u.2.1), .snil, (.own 4 36), (.own 5 2), (.int .i64 u.2.2.1)]))), (some (.mp u.2.2.2.1)), (some (.mp u.w.1)), (some (.mp u.w.2.1)), (some (.objs 104 36 u.w.2.2.1)), (some (.objs 83 2 u.w.2.2.2))])
def Fav.c (n : Nat) : Abs.Callee := .mk' [true, false, false] [none, none, none] Fav.pat (Fav.m n) (zO Fav.res)
noncomputable def Fbz.C (n : Nat) : Ctx := ⟨Tryz.prog, zI, zU [], fun _ => false⟩
def Fbz.live : NL := fun k => match k with
 | 4 => ([8, 2, 3, 7, 6, 4], [6, 7, 4])
 | _ => ([], [])
def Fbz.l4.r {α : Type} (mk0 : Int → LI → LI → α) (n : Nat) (rc : Int → Int → LI → LI → LI → LI → Option α)  (x0 x1 : Int) (x2 x3 : LI) (x4 x5 : LI) : Option α :=
 if (decide (x0 < 4)) = true then
 if 0 ≤ x0 then
 if x0 < 4 then
 if 0 ≤ x0 then
 if x0 < 4 then
 if 0 ≤ x0 then
 if x0 < 4 then
 if 0 ≤ x0 then
 if x0 < 4 then
 if (decide ((List.getD x2 (Int.toNat x0) 0) < (List.getD x3 (Int.toNat x0) 0))) = true then
 if (decide ((IntKind.wrap .u64 ((List.getD x2 (Int.toNat x0) 0) - (List.getD x3 (Int.toNat x0) 0))) < x1)) = true then
 if 0 ≤ x0 then
 if x0 < 4 then
 rc (IntKind.wrap .i64 (x0 + 1)) 1 x2 x3 (List.set x4 (Int.toNat x0) (IntKind.wrap .u64 ((IntKind.wrap .u64 ((List.getD x2 (Int.toNat x0) 0) - (List.getD x3 (Int.toNat x0) 0))) - x1))) x5
 else
 none
 else
 none
 else
 if 0 ≤ x0 then
 if x0 < 4 then
 rc (IntKind.wrap .i64 (x0 + 1)) 1 x2 x3 (List.set x4 (Int.toNat x0) (IntKind.wrap .u64 ((IntKind.wrap .u64 ((List.getD x2 (Int.toNat x0) 0) - (List.getD x3 (Int.toNat x0) 0))) - x1))) x5
 else
 none
 else
 none
 else
 if (decide ((IntKind.wrap .u64 ((List.getD x2 (Int.toNat x0) 0) - (List.getD x3 (Int.toNat x0) 0))) < x1)) = true then
 if 0 ≤ x0 then
 if x0 < 4 then
 rc (IntKind.wrap .i64 (x0 + 1)) 1 x2 x3 (List.set x4 (Int.toNat x0) (IntKind.wrap .u64 ((IntKind.wrap .u64 ((List.getD x2 (Int.toNat x0) 0) - (List.getD x3 (Int.toNat x0) 0))) - x1))) x5
 else
 none
 else
 none
 else
 if 0 ≤ x0 then
 if x0 < 4 then
 rc (IntKind.wrap .i64 (x0 + 1)) 0 x2 x3 (List.set x4 (Int.toNat x0) (IntKind.wrap .u64 ((IntKind.wrap .u64 ((List.getD x2 (Int.toNat x0) 0) - (List.getD x3 (Int.toNat x0) 0))) - x1))) x5
 else
 none
 else
 none
 else
 none
 else
 none
 else
 none
 else
 none
 else
 none
 else
 none
 else
 none
 else
 none
 else
 some (mk0 x1 x4 x5)
def Fbz.l4.g {α : Type} (mk0 : Int → LI → LI → α) (n : Nat) : Nat → Int → Int → LI → LI → LI → LI → Option α
 | 0, _, _, _, _, _, _ => none
 | m + 1, x0, x1, x2, x3, x4, x5 => Fbz.l4.r mk0 n (fun y0 y1 y2 y3 y4 y5 => Fbz.l4.g mk0 n m y0 y1 y2 y3 y4 y5)  x0 x1 x2 x3 x4 x5
def Fbz.l4.m (n m : Nat) (t : (Int × (Int × (LI × (LI × (LI × LI)))))) : Option (Int × (LI × LI)) := Fbz.l4.g (fun a0 a1 a2 => (a0, a1, a2)) n m t.1 t.2.1 t.2.2.1 t.2.2.2.1 t.w.1 t.w.2
def Fbz.l4.pat : St → Option (Int × (Int × (LI × (LI × (LI × LI)))))
 | (St.mk [(.int .i64 x0), (.ptr 0 []), (.ptr 1 []), (.int .u64 x1), (.ptr 2 []), (.ptr 3 [])] [(some (.var (.ints .u64 4 x2))), (some (.var (.ints .u64 4 x3))), (some (.var (.ints .u64 4 x4))), (some (.var (.ints .u64 4 x5)))]) => some (x0, x1, x2, x3, x4, x5)
 | _ => none
def Fbz.l4.shape (t : (Int × (Int × (LI × (LI × (LI × LI)))))) : St := (St.mk [(.int .i64 t.1), (.ptr 0 []), (.ptr 1 []), (.int .u64 t.2.1), (.ptr 2 []), (.ptr 3 [])] [(some (.var (.ints .u64 4 t.2.2.1))), (some (.var (.ints .u64 4 t.2.2.2.1))), (some (.var (.ints .u64 4 t.w.1))), (some (.var (.ints .u64 4 t.w.2)))])
def Fbz.l4.res : (Int × (LI × LI)) → Ex × St
 | u => ((.exit 0), (St.mk [(.ptr 0 []), (.int .u64 u.1), (.ptr 1 [])] [(some (.var (.ints .u64 4 u.2.1))), (some (.var (.ints .u64 4 u.2.2)))]))
noncomputable def Fbz.A (n : Nat) : Ann := ⟨Tryz.f41.ntmps, 0, Fbz.live, [], [none, none], fun k => match k with
 | 4 => some (.mk' Fbz.l4.pat (Fbz.l4.m n n) (zQ Fbz.l4.res))
 | _ => none, zV, zW []⟩
noncomputable def Fbz.b0 : Code := (zK (Tryz.f41.body.getD .skip)).getD 0 .skip
def Fbz.g {α : Type} (mk0 : LI → Bool → α) (n : Nat) (a0 a1 : LI) : Option α :=
 zD (Fbz.l4.m n n (0, 0, a0, a1, [0, 0, 0, 0], [0, 0, 0, 0])) fun r2 =>
 some (mk0 r2.2.1 (r2.1 == 0))
def Fbz.m (n : Nat) (t : (LI × LI)) : Option (LI × Bool) := Fbz.g (fun a0 a1 => (a0, a1)) n t.1 t.2
def Fbz.pat : List AV → zC → Option (LI × LI)
 | [(.ints .u64 4 a0), (.ints .u64 4 a1)], [] => some (a0, a1)
 | _, _ => none
def Fbz.shape (t : (LI × LI)) : List AV × zC := ([(.ints .u64 4 t.1), (.ints .u64 4 t.2)], [])
def Fbz.res : (LI × Bool) → AV × zC
 | u => ((.tup [(.ints .u64 4 u.1), (.bool u.2)]), [])
def Fbz.c (n : Nat) : Abs.Callee := .mk' [] [none, none] Fbz.pat (Fbz.m n) (zO Fbz.res)
def Faw.m (n : Nat) (t : (Int × (Int × Int))) : Option (Int × Int) := zBF t
def Faw.pat : List AV → zC → Option (Int × (Int × Int))
 | [(.int .u64 a0), (.int .u64 a1), (.int .u64 a2)], [] => some (a0, a1, a2)
 | _, _ => none
def Faw.shape (t : (Int × (Int × Int))) : List AV × zC := ([(.int .u64 t.1), (.int .u64 t.2.1), (.int .u64 t.2.2)], [])
def Faw.res : (Int × Int) → AV × zC
 | u => ((.tup [(.int .u64 u.1), (.int .u64 u.2)]), [])
def Faw.c (n : Nat) : Abs.Callee := .mk' [] [none, none, none] Faw.pat (Faw.m n) (zO Faw.res)
noncomputable def Fca.C (n : Nat) : Ctx := ⟨Tryz.prog, zI, zU [(65, Faw.c n)], fun _ => false⟩
def Fca.live : NL := fun k => match k with
 | 4 => ([9, 2, 3, 7, 6, 4], [6, 7, 4])
 | _ => ([], [])
def Fca.l4.r {α : Type} (mk0 : Int → LI → LI → α) (n : Nat) (rc : Int → Int → LI → LI → LI → LI → Option α)  (x0 x1 : Int) (x2 x3 : LI) (x4 x5 : LI) : Option α :=
 if (decide (x0 < 4)) = true then
 if 0 ≤ x0 then
 if x0 < 4 then
 if 0 ≤ x0 then
 if x0 < 4 then
 zD (Faw.m n ((List.getD x2 (Int.toNat x0) 0), (List.getD x3 (Int.toNat x0) 0), x1)) fun r14 =>
 if 0 ≤ x0 then
 if x0 < 4 then
 rc (IntKind.wrap .i64 (x0 + 1)) r14.2 x2 x3 (List.set x4 (Int.toNat x0) r14.1) x5
 else
 none
 else
 none
 else
 none
 else
 none
 else
 none
 else
 none
 else
 some (mk0 x1 x4 x5)
def Fca.l4.g {α : Type} (mk0 : Int → LI → LI → α) (n : Nat) : Nat → Int → Int → LI → LI → LI → LI → Option α
 | 0, _, _, _, _, _, _ => none
 | m + 1, x0, x1, x2, x3, x4, x5 => Fca.l4.r mk0 n (fun y0 y1 y2 y3 y4 y5 => Fca.l4.g mk0 n m y0 y1 y2 y3 y4 y5)  x0 x1 x2 x3 x4 x5
def Fca.l4.m (n m : Nat) (t : (Int × (Int × (LI × (LI × (LI × LI)))))) : Option (Int × (LI × LI)) := Fca.l4.g (fun a0 a1 a2 => (a0, a1, a2)) n m t.1 t.2.1 t.2.2.1 t.2.2.2.1 t.w.1 t.w.2
def Fca.l4.pat : St → Option (Int × (Int × (LI × (LI × (LI × LI)))))
 | (St.mk [(.int .i64 x0), (.ptr 0 []), (.ptr 1 []), (.int .u64 x1), (.ptr 2 []), (.ptr 3 [])] [(some (.var (.ints .u64 4 x2))), (some (.var (.ints .u64 4 x3))), (some (.var (.ints .u64 4 x4))), (some (.var (.ints .u64 4 x5)))]) => some (x0, x1, x2, x3, x4, x5)
 | _ => none
def Fca.l4.shape (t : (Int × (Int × (LI × (LI × (LI × LI)))))) : St := (St.mk [(.int .i64 t.1), (.ptr 0 []), (.ptr 1 []), (.int .u64 t.2.1), (.ptr 2 []), (.ptr 3 [])] [(some (.var (.ints .u64 4 t.2.2.1))), (some (.var (.ints .u64 4 t.2.2.2.1))), (some (.var (.ints .u64 4 t.w.1))), (some (.var (.ints .u64 4 t.w.2)))])
def Fca.l4.res : (Int × (LI × LI)) → Ex × St
 | u => ((.exit 0), (St.mk [(.ptr 0 []), (.int .u64 u.1), (.ptr 1 [])] [(some (.var (.ints .u64 4 u.2.1))), (some (.var (.ints .u64 4 u.2.2)))]))
noncomputable def Fca.A (n : Nat) : Ann := ⟨Tryz.f51.ntmps, 0, Fca.live, [], [none, none], fun k => match k with
 | 4 => some (.mk' Fca.l4.pat (Fca.l4.m n n) (zQ Fca.l4.res))
 | _ => none, zV, zW []⟩
noncomputable def Fca.b0 : Code := (zK (Tryz.f51.body.getD .skip)).getD 0 .skip
def Fca.g {α : Type} (mk0 : LI → Bool → α) (n : Nat) (a0 a1 : LI) : Option α :=
 zD (Fca.l4.m n n (0, 0, a0, a1, [0, 0, 0, 0], [0, 0, 0, 0])) fun r2 =>
 some (mk0 r2.2.1 (r2.1 != 0))
def Fca.m (n : Nat) (t : (LI × LI)) : Option (LI × Bool) := Fca.g (fun a0 a1 => (a0, a1)) n t.1 t.2
def Fca.pat : List AV → zC → Option (LI × LI)
 | [(.ints .u64 4 a0), (.ints .u64 4 a1)], [] => some (a0, a1)
 | _, _ => none
def Fca.shape (t : (LI × LI)) : List AV × zC := ([(.ints .u64 4 t.1), (.ints .u64 4 t.2)], [])
def Fca.res : (LI × Bool) → AV × zC
 | u => ((.tup [(.ints .u64 4 u.1), (.bool u.2)]), [])
def Fca.c (n : Nat) : Abs.Callee := .mk' [] [none, none] Fca.pat (Fca.m n) (zO Fca.res)
def Fax.m (n : Nat) (t : (Int × (Int × Int))) : Option (Int × Int) := zBE t
def Fax.pat : List AV → zC → Option (Int × (Int × Int))
 | [(.int .u64 a0), (.int .u64 a1), (.int .u64 a2)], [] => some (a0, a1, a2)
 | _, _ => none
def Fax.shape (t : (Int × (Int × Int))) : List AV × zC := ([(.int .u64 t.1), (.int .u64 t.2.1), (.int .u64 t.2.2)], [])
def Fax.res : (Int × Int) → AV × zC
 | u => ((.tup [(.int .u64 u.1), (.int .u64 u.2)]), [])
def Fax.c (n : Nat) : Abs.Callee := .mk' [] [none, none, none] Fax.pat (Fax.m n) (zO Fax.res)
noncomputable def Fcb.C (n : Nat) : Ctx := ⟨Tryz.prog, zI, zU [(98, Fax.c n)], fun _ => false⟩
def Fcb.live : NL := fun k => match k with
 | 4 => ([9, 2, 3, 7, 6, 4], [6, 7, 4])
 | _ => ([], [])
def Fcb.l4.r {α : Type} (mk0 : Int → LI → LI → α) (n : Nat) (rc : Int → Int → LI → LI → LI → LI → Option α)  (x0 x1 : Int) (x2 x3 : LI) (x4 x5 : LI) : Option α :=
 if (decide (x0 < 4)) = true then
 if 0 ≤ x0 then
 if x0 < 4 then
 if 0 ≤ x0 then
 if x0 < 4 then
 zD (Fax.m n ((List.getD x2 (Int.toNat x0) 0), (List.getD x3 (Int.toNat x0) 0), x1)) fun r14 =>
 if 0 ≤ x0 then
 if x0 < 4 then
 rc (IntKind.wrap .i64 (x0 + 1)) r14.2 x2 x3 (List.set x4 (Int.toNat x0) r14.1) x5
 else
 none
 else
 none
 else
 none
 else
 none
 else
 none
 else
 none
 else
 some (mk0 x1 x4 x5)
def Fcb.l4.g {α : Type} (mk0 : Int → LI → LI → α) (n : Nat) : Nat → Int → Int → LI → LI → LI → LI → Option α
 | 0, _, _, _, _, _, _ => none
 | m + 1, x0, x1, x2, x3, x4, x5 => Fcb.l4.r mk0 n (fun y0 y1 y2 y3 y4 y5 => Fcb.l4.g mk0 n m y0 y1 y2 y3 y4 y5)  x0 x1 x2 x3 x4 x5
def Fcb.l4.m (n m : Nat) (t : (Int × (Int × (LI × (LI × (LI × LI)))))) : Option (Int × (LI × LI)) := Fcb.l4.g (fun a0 a1 a2 => (a0, a1, a2)) n m t.1 t.2.1 t.2.2.1 t.2.2.2.1 t.w.1 t.w.2
def Fcb.l4.pat : St → Option (Int × (Int × (LI × (LI × (LI × LI)))))
 | (St.mk [(.int .i64 x0), (.ptr 0 []), (.ptr 1 []), (.int .u64 x1), (.ptr 2 []), (.ptr 3 [])] [(some (.var (.ints .u64 4 x2))), (some (.var (.ints .u64 4 x3))), (some (.var (.ints .u64 4 x4))), (some (.var (.ints .u64 4 x5)))]) => some (x0, x1, x2, x3, x4, x5)
 | _ => none
def Fcb.l4.shape (t : (Int × (Int × (LI × (LI × (LI × LI)))))) : St := (St.mk [(.int .i64 t.1), (.ptr 0 []), (.ptr 1 []), (.int .u64 t.2.1), (.ptr 2 []), (.ptr 3 [])] [(some (.var (.ints .u64 4 t.2.2.1))), (some (.var (.ints .u64 4 t.2.2.2.1))), (some (.var (.ints .u64 4 t.w.1))), (some (.var (.ints .u64 4 t.w.2)))])
def Fcb.l4.res : (Int × (LI × LI)) → Ex × St
 | u => ((.exit 0), (St.mk [(.ptr 0 []), (.int .u64 u.1), (.ptr 1 [])] [(some (.var (.ints .u64 4 u.2.1))), (some (.var (.ints .u64 4 u.2.2)))]))
noncomputable def Fcb.A (n : Nat) : Ann := ⟨Tryz.f96.ntmps, 0, Fcb.live, [], [none, none], fun k => match k with
 | 4 => some (.mk' Fcb.l4.pat (Fcb.l4.m n n) (zQ Fcb.l4.res))
 | _ => none, zV, zW []⟩
noncomputable def Fcb.b0 : Code := (zK (Tryz.f96.body.getD .skip)).getD 0 .skip
def Fcb.g {α : Type} (mk0 : LI → Bool → α) (n : Nat) (a0 a1 : LI) : Option α :=
 zD (Fcb.l4.m n n (0, 0, a0, a1, [0, 0, 0, 0], [0, 0, 0, 0])) fun r2 =>
 some (mk0 r2.2.1 (r2.1 != 0))
def Fcb.m (n : Nat) (t : (LI × LI)) : Option (LI × Bool) := Fcb.g (fun a0 a1 => (a0, a1)) n t.1 t.2
def Fcb.pat : List AV → zC → Option (LI × LI)
 | [(.ints .u64 4 a0), (.ints .u64 4 a1)], [] => some (a0, a1)
 | _, _ => none
def Fcb.shape (t : (LI × LI)) : List AV × zC := ([(.ints .u64 4 t.1), (.ints .u64 4 t.2)], [])
def Fcb.res : (LI × Bool) → AV × zC
 | u => ((.tup [(.ints .u64 4 u.1), (.bool u.2)]), [])
def Fcb.c (n : Nat) : Abs.Callee := .mk' [] [none, none] Fcb.pat (Fcb.m n) (zO Fcb.res)
noncomputable def Fak.C (n : Nat) : Ctx := ⟨Tryz.prog, zI, zU [(10, Fbj.c n), (26, Fbi.c n), (25, Fv.c n)], fun _ => false⟩
noncomputable def Fak.A (n : Nat) : Ann := ⟨Tryz.f18.ntmps, 6, zV, [], [none], fun k => match k with
 | _ => none, zV, zW []⟩
def Fak.g {α : Type} (mk0 : LI → Int → Int → LA → LA → LA → LA → LA → α) (n : Nat) (a : LI) (r x : Int) (p q : LA) (o j z : LA) : Option α :=
 zD (Fbj.m n Unit.unit) fun r2 =>
 zD (Fbi.m n (a, 0, 0)) fun r4 =>
 zD (Fv.m n (r2, r4, r, x, p, q, o, j, z)) fun r6 =>
 some (mk0 r6.1 r6.2.1 r6.2.2.1 r6.2.2.2.1 r6.w.1 r6.w.2.1 r6.w.2.2.1 r6.w.2.2.2)
def Fak.m (n : Nat) (t : zCR) : Option zCR := Fak.g (fun a0 a1 a2 a3 a4 a5 a6 a7 => (a0, a1, a2, a3, a4, a5, a6, a7)) n t.1 t.2.1 t.2.2.1 t.2.2.2.1 t.w.1 t.w.2.1 t.w.2.2.1 t.w.2.2.2
def Fak.pat : List AV → zC → Option zCR
 | [(.ptr 0 []), (.ints .u8 20 a)], [(some (.var (.agg [(.own 1 0), (.own 2 0), (.rmap []), (.rmap []), (.own 3 0), (.rmap []), (.int .i64 r), .snil, (.own 4 36), (.own 5 2), (.int .i64 x)]))), (some (.mp p)), (some (.mp q)), (some (.mp o)), (some (.objs 104 36 j)), (some (.objs 83 2 z))] => some (a, r, x, p, q, o, j, z)
 | _, _ => none
def Fak.shape (t : zCR) : List AV × zC := ([(.ptr 0 []), (.ints .u8 20 t.1)], [(some (.var (.agg [(.own 1 0), (.own 2 0), (.rmap []), (.rmap []), (.own 3 0), (.rmap []), (.int .i64 t.2.1), .snil, (.own 4 36), (.own 5 2), (.int .i64 t.2.2.1)]))), (some (.mp t.2.2.2.1)), (some (.mp t.w.1)), (some (.mp t.w.2.1)), (some (.objs 104 36 t.w.2.2.1)), (some (.objs 83 2 t.w.2.2.2))])
def Fak.res : zCR → AV × zC
 | u => ((.ints .u64 4 u.1), [(some (.var (.agg [(.own 1 0), (.own 2 0), (.rmap []), (.rmap []), (.own 3 0), (.rmap []), (.int .i64 u.2.1), .snil, (.own 4 36), (.own 5 2), (.int .i64 u.2.2.1)]))), (some (.mp u.2.2.2.1)), (some (.mp u.w.1)), (some (.mp u.w.2.1)), (some (.objs 104 36 u.w.2.2.1)), (some (.objs 83 2 u.w.2.2.2))])
def Fak.c (n : Nat) : Abs.Callee := .mk' [true, false] [none, none] Fak.pat (Fak.m n) (zO Fak.res)
noncomputable def Fap.C (n : Nat) : Ctx := ⟨Tryz.prog, zI, zU [(18, Fak.c n), (51, Fca.c n), (10, Fbj.c n), (26, Fbi.c n), (27, Fh.c n)], fun _ => false⟩
noncomputable def Fap.A (n : Nat) : Ann := ⟨Tryz.f30.ntmps, 6, zV, [], [], fun k => match k with
 | _ => none, zV, zW []⟩
def Fap.g {α : Type} (mk0 : Int → Int → LA → LA → LA → LA → LA → α) (n : Nat) (a v : LI) (r x : Int) (p q : LA) (o j z : LA) : Option α :=
 zD (Fak.m n (a, r, x, p, q, o, j, z)) fun r2 =>
 zD (Fca.m n (r2.1, v)) fun r4 =>
 zD (Fbj.m n Unit.unit) fun r6 =>
 zD (Fbi.m n (a, 0, 0)) fun r8 =>
 zD (Fh.m n (r6, r8, r4.1, r2.2.1, r2.2.2.1, r2.2.2.2.1, r2.w.1, r2.w.2.1, r2.w.2.2.1, r2.w.2.2.2)) fun r10 =>
 some (mk0 r10.1 r10.2.1 r10.2.2.1 r10.2.2.2.1 r10.w.1 r10.w.2.1 r10.w.2.2)
def Fap.m (n : Nat) (t : zCi) : Option zBk := Fap.g (fun a0 a1 a2 a3 a4 a5 a6 => (a0, a1, a2, a3, a4, a5, a6)) n t.1 t.2.1 t.2.2.1 t.2.2.2.1 t.w.1 t.w.2.1 t.w.2.2.1 t.w.2.2.2.1 t.x
def Fap.pat : List AV → zC → Option zCi
 | [(.ptr 0 []), (.ints .u8 20 a), (.ints .u64 4 v)], [(some (.var (.agg [(.own 1 0), (.own 2 0), (.rmap []), (.rmap []), (.own 3 0), (.rmap []), (.int .i64 r), .snil, (.own 4 36), (.own 5 2), (.int .i64 x)]))), (some (.mp p)), (some (.mp q)), (some (.mp o)), (some (.objs 104 36 j)), (some (.objs 83 2 z))] => some (a, v, r, x, p, q, o, j, z)
 | _, _ => none
def Fap.shape (t : zCi) : List AV × zC := ([(.ptr 0 []), (.ints .u8 20 t.1), (.ints .u64 4 t.2.1)], [(some (.var (.agg [(.own 1 0), (.own 2 0), (.rmap []), (.rmap []), (.own 3 0), (.rmap []), (.int .i64 t.2.2.1), .snil, (.own 4 36), (.own 5 2), (.int .i64 t.2.2.2.1)]))), (some (.mp t.w.1)), (some (.mp t.w.2.1)), (some (.mp t.w.2.2.1)), (some (.objs 104 36 t.w.2.2.2.1)), (some (.objs 83 2 t.x))])
def Fap.res : zBk → AV × zC
 | u => ((.tup []), [(some (.var (.agg [(.own 1 0), (.own 2 0), (.rmap []), (.rmap []), (.own 3 0), (.rmap []), (.int .i64 u.1), .snil, (.own 6 36), (.own 5 2), (.int .i64 u.2.1)]))), (some (.mp u.2.2.1)), (some (.mp u.2.2.2.1)), (some (.mp u.w.1)), none, (some (.objs 83 2 u.w.2.1)), (some (.objs 104 36 u.w.2.2))])
def Fap.c (n : Nat) : Abs.Callee := .mk' [true, false, false] [none, none, none] Fap.pat (Fap.m n) (zO Fap.res)
noncomputable def Fay.C (n : Nat) : Ctx := ⟨Tryz.prog, zI, zU [(18, Fak.c n), (96, Fcb.c n), (10, Fbj.c n), (26, Fbi.c n), (27, Fh.c n)], fun _ => false⟩
noncomputable def Fay.A (n : Nat) : Ann := ⟨Tryz.f91.ntmps, 6, zV, [], [none, (some (.agg [(some (.ints .u8))]))], fun k => match k with
 | _ => none, zV, zW []⟩
def Fay.g {α : Type} (mk0 : Bool → Int → Int → LA → LA → LA → LA → LA → α) (n : Nat) (a v : LI) (r x : Int) (p q : LA) (o j z : LA) : Option α :=
 zD (Fak.m n (a, r, x, p, q, o, j, z)) fun r2 =>
 zD (Fcb.m n (r2.1, v)) fun r4 =>
 if (!r4.2) = true then
 zD (Fbj.m n Unit.unit) fun r8 =>
 zD (Fbi.m n (a, 0, 0)) fun r10 =>
 zD (Fh.m n (r8, r10, r4.1, r2.2.1, r2.2.2.1, r2.2.2.2.1, r2.w.1, r2.w.2.1, r2.w.2.2.1, r2.w.2.2.2)) fun r12 =>
 some (mk0 (!r4.2) r12.1 r12.2.1 r12.2.2.1 r12.2.2.2.1 r12.w.1 r12.w.2.1 r12.w.2.2)
 else
 some (mk0 (!r4.2) r2.2.1 r2.2.2.1 r2.2.2.2.1 r2.w.1 r2.w.2.1 r2.w.2.2.2 r2.w.2.2.1)
def Fay.m (n : Nat) (t : zCi) : Option zLK := Fay.g (fun a0 a1 a2 a3 a4 a5 a6 a7 => (a0, a1, a2, a3, a4, a5, a6, a7)) n t.1 t.2.1 t.2.2.1 t.2.2.2.1 t.w.1 t.w.2.1 t.w.2.2.1 t.w.2.2.2.1 t.x
def Fay.pat : List AV → zC → Option zCi
 | [(.ptr 0 []), (.ints .u8 20 a), (.ints .u64 4 v)], [(some (.var (.agg [(.own 1 0), (.own 2 0), (.rmap []), (.rmap []), (.own 3 0), (.rmap []), (.int .i64 r), .snil, (.own 4 36), (.own 5 2), (.int .i64 x)]))), (some (.mp p)), (some (.mp q)), (some (.mp o)), (some (.objs 104 36 j)), (some (.objs 83 2 z))] => some (a, v, r, x, p, q, o, j, z)
 | _, _ => none
def Fay.shape (t : zCi) : List AV × zC := ([(.ptr 0 []), (.ints .u8 20 t.1), (.ints .u64 4 t.2.1)], [(some (.var (.agg [(.own 1 0), (.own 2 0), (.rmap []), (.rmap []), (.own 3 0), (.rmap []), (.int .i64 t.2.2.1), .snil, (.own 4 36), (.own 5 2), (.int .i64 t.2.2.2.1)]))), (some (.mp t.w.1)), (some (.mp t.w.2.1)), (some (.mp t.w.2.2.1)), (some (.objs 104 36 t.w.2.2.2.1)), (some (.objs 83 2 t.x))])
def Fay.res : zLK → AV × zC
 | u => ((.bool u.1), [(some (.var (.agg [(.own 1 0), (.own 2 0), (.rmap []), (.rmap []), (.own 3 0), (.rmap []), (.int .i64 u.2.1), .snil, (.own 6 36), (.own 5 2), (.int .i64 u.2.2.1)]))), (some (.mp u.2.2.2.1)), (some (.mp u.w.1)), (some (.mp u.w.2.1)), none, (some (.objs 83 2 u.w.2.2.1)), (some (.objs 104 36 u.w.2.2.2))])
def Fay.c (n : Nat) : Abs.Callee := .mk' [true, false, false] [none, none, none] Fay.pat (Fay.m n) (zO Fay.res)
noncomputable def Fal.C (n : Nat) : Ctx := ⟨Tryz.prog, zI, zU [(10, Fbj.c n), (26, Fbi.c n), (25, Fv.c n)], fun _ => false⟩
noncomputable def Fal.A (n : Nat) : Ann := ⟨Tryz.f40.ntmps, 6, zV, [], [none], fun k => match k with
 | _ => none, zV, zW []⟩
def Fal.g {α : Type} (mk0 : LI → Int → Int → Int → Int → LA → LA → LA → LA → LA → α) (n : Nat) (a : LI) (r x : Int) (p q : LA) (o j z : LA) : Option α :=
 zD (Fbj.m n Unit.unit) fun r2 =>
 zD (Fbi.m n (a, 2, 0)) fun r4 =>
 zD (Fv.m n (r2, r4, r, x, p, q, o, j, z)) fun r6 =>
 zD (Fbj.m n Unit.unit) fun r8 =>
 zD (Fbi.m n (a, 1, 0)) fun r10 =>
 zD (Fv.m n (r8, r10, r6.2.1, r6.2.2.1, r6.2.2.2.1, r6.w.1, r6.w.2.1, r6.w.2.2.1, r6.w.2.2.2)) fun r12 =>
 some (mk0 r12.1 (List.getD r6.1 1 0) (List.getD r6.1 0 0) r12.2.1 r12.2.2.1 r12.2.2.2.1 r12.w.1 r12.w.2.1 r12.w.2.2.1 r12.w.2.2.2)
def Fal.m (n : Nat) (t : zCR) : Option Ty20 := Fal.g (fun a0 a1 a2 a3 a4 a5 a6 a7 a8 a9 => (a0, a1, a2, a3, a4, a5, a6, a7, a8, a9)) n t.1 t.2.1 t.2.2.1 t.2.2.2.1 t.w.1 t.w.2.1 t.w.2.2.1 t.w.2.2.2
def Fal.pat : List AV → zC → Option zCR
 | [(.ptr 0 []), (.ints .u8 20 a)], [(some (.var (.agg [(.own 1 0), (.own 2 0), (.rmap []), (.rmap []), (.own 3 0), (.rmap []), (.int .i64 r), .snil, (.own 4 36), (.own 5 2), (.int .i64 x)]))), (some (.mp p)), (some (.mp q)), (some (.mp o)), (some (.objs 104 36 j)), (some (.objs 83 2 z))] => some (a, r, x, p, q, o, j, z)
 | _, _ => none
def Fal.shape (t : zCR) : List AV × zC := ([(.ptr 0 []), (.ints .u8 20 t.1)], [(some (.var (.agg [(.own 1 0), (.own 2 0), (.rmap []), (.rmap []), (.own 3 0), (.rmap []), (.int .i64 t.2.1), .snil, (.own 4 36), (.own 5 2), (.int .i64 t.2.2.1)]))), (some (.mp t.2.2.2.1)), (some (.mp t.w.1)), (some (.mp t.w.2.1)), (some (.objs 104 36 t.w.2.2.1)), (some (.objs 83 2 t.w.2.2.2))])
def Fal.res : Ty20 → AV × zC
 | u => ((.agg [(.ints .u64 4 u.1), (.int .u64 u.2.1), (.int .u64 u.2.2.1)]), [(some (.var (.agg [(.own 1 0), (.own 2 0), (.rmap []), (.rmap []), (.own 3 0), (.rmap []), (.int .i64 u.2.2.2.1), .snil, (.own 4 36), (.own 5 2), (.int .i64 u.w.1)]))), (some (.mp u.w.2.1)), (some (.mp u.w.2.2.1)), (some (.mp u.w.2.2.2.1)), (some (.objs 104 36 u.x.1)), (some (.objs 83 2 u.x.2))])
def Fal.c (n : Nat) : Abs.Callee := .mk' [true, false] [none, none] Fal.pat (Fal.m n) (zO Fal.res)
noncomputable def Fah.C (n : Nat) : Ctx := ⟨Tryz.prog, zI, zU [(10, Fbj.c n), (26, Fbi.c n), (27, Fh.c n)], fun _ => false⟩
noncomputable def Fah.A (n : Nat) : Ann := ⟨Tryz.f89.ntmps, 6, zV, [], [], fun k => match k with
 | _ => none, zV, zW []⟩
def Fah.g {α : Type} (mk0 : Int → Int → LA → LA → LA → LA → LA → α) (n : Nat) (a m : LI) (d u : Int) (r x : Int) (p q : LA) (o j z : LA) : Option α :=
 zD (Fbj.m n Unit.unit) fun r2 =>
 zD (Fbi.m n (a, 1, 0)) fun r4 =>
 zD (Fh.m n (r2, r4, m, r, x, p, q, o, j, z)) fun r6 =>
 zD (Fbj.m n Unit.unit) fun r8 =>
 zD (Fbi.m n (a, 2, 0)) fun r10 =>
 zD (Fh.m n (r8, r10, [u, d, 0, 0], r6.1, r6.2.1, r6.2.2.1, r6.2.2.2.1, r6.w.1, r6.w.2.2, r6.w.2.1)) fun r12 =>
 some (mk0 r12.1 r12.2.1 r12.2.2.1 r12.2.2.2.1 r12.w.1 r12.w.2.1 r12.w.2.2)
def Fah.m (n : Nat) (t : Ty15) : Option zBk := Fah.g (fun a0 a1 a2 a3 a4 a5 a6 => (a0, a1, a2, a3, a4, a5, a6)) n t.1 t.2.1 t.2.2.1 t.2.2.2.1 t.w.1 t.w.2.1 t.w.2.2.1 t.w.2.2.2.1 t.x.1 t.x.2.1 t.x.2.2
def Fah.pat : List AV → zC → Option Ty15
 | [(.ptr 0 []), (.ints .u8 20 a), (.agg [(.ints .u64 4 m), (.int .u64 d), (.int .u64 u)])], [(some (.var (.agg [(.own 1 0), (.own 2 0), (.rmap []), (.rmap []), (.own 3 0), (.rmap []), (.int .i64 r), .snil, (.own 4 36), (.own 5 2), (.int .i64 x)]))), (some (.mp p)), (some (.mp q)), (some (.mp o)), (some (.objs 104 36 j)), (some (.objs 83 2 z))] => some (a, m, d, u, r, x, p, q, o, j, z)
 | _, _ => none
def Fah.shape (t : Ty15) : List AV × zC := ([(.ptr 0 []), (.ints .u8 20 t.1), (.agg [(.ints .u64 4 t.2.1), (.int .u64 t.2.2.1), (.int .u64 t.2.2.2.1)])], [(some (.var (.agg [(.own 1 0), (.own 2 0), (.rmap []), (.rmap []), (.own 3 0), (.rmap []), (.int .i64 t.w.1), .snil, (.own 4 36), (.own 5 2), (.int .i64 t.w.2.1)]))), (some (.mp t.w.2.2.1)), (some (.mp t.w.2.2.2.1)), (some (.mp t.x.1)), (some (.objs 104 36 t.x.2.1)), (some (.objs 83 2 t.x.2.2))])
def Fah.res : zBk → AV × zC
 | u => ((.tup []), [(some (.var (.agg [(.own 1 0), (.own 2 0), (.rmap []), (.rmap []), (.own 3 0), (.rmap []), (.int .i64 u.1), .snil, (.own 6 36), (.own 5 2), (.int .i64 u.2.1)]))), (some (.mp u.2.2.1)), (some (.mp u.2.2.2.1)), (some (.mp u.w.1)), none, (some (.objs 83 2 u.w.2.1)), (some (.objs 104 36 u.w.2.2))])
def Fah.c (n : Nat) : Abs.Callee := .mk' [true, false, false] [none, none, none] Fah.pat (Fah.m n) (zO Fah.res)
noncomputable def Fi.C (n : Nat) : Ctx := ⟨Tryz.prog, zI, zU [], fun _ => false⟩
noncomputable def Fi.A (n : Nat) : Ann := ⟨Tryz.f12.ntmps, 6, zV, [], [none], fun k => match k with
 | _ => none, zV, zW []⟩
def Fi.g {α : Type} (mk0 : LI → Int → Int → LA → LA → LA → LA → LA → α) (n : Nat) (a : LI) (r x : Int) (p q : LA) (o j z : LA) : Option α :=
 zD (Go.Abs.mgetL (AV.ints .u8 20 a) (AV.agg [(AV.int .u64 0), (AV.ints .u64 4 [0, 0, 0, 0]), (AV.str ByteArray.empty)]) p) fun r2 =>
 zD (tkAgg 3 r2.1) fun r4 =>
 zD (tkInt .u64 (List.getD r4 0 AV.any)) fun r6 =>
 zD (tkInts .u64 4 (List.getD r4 1 AV.any)) fun r8 =>
 zD (tkStr (List.getD r4 2 AV.any)) fun r10 =>
 some (mk0 r8 r x p q o j z)
def Fi.m (n : Nat) (t : zCR) : Option zCR := Fi.g (fun a0 a1 a2 a3 a4 a5 a6 a7 => (a0, a1, a2, a3, a4, a5, a6, a7)) n t.1 t.2.1 t.2.2.1 t.2.2.2.1 t.w.1 t.w.2.1 t.w.2.2.1 t.w.2.2.2
def Fi.pat : List AV → zC → Option zCR
 | [(.ptr 0 []), (.ints .u8 20 a)], [(some (.var (.agg [(.own 1 0), (.own 2 0), (.rmap []), (.rmap []), (.own 3 0), (.rmap []), (.int .i64 r), .snil, (.own 4 36), (.own 5 2), (.int .i64 x)]))), (some (.mp p)), (some (.mp q)), (some (.mp o)), (some (.objs 104 36 j)), (some (.objs 83 2 z))] => some (a, r, x, p, q, o, j, z)
 | _, _ => none
def Fi.shape (t : zCR) : List AV × zC := ([(.ptr 0 []), (.ints .u8 20 t.1)], [(some (.var (.agg [(.own 1 0), (.own 2 0), (.rmap []), (.rmap []), (.own 3 0), (.rmap []), (.int .i64 t.2.1), .snil, (.own 4 36), (.own 5 2), (.int .i64 t.2.2.1)]))), (some (.mp t.2.2.2.1)), (some (.mp t.w.1)), (some (.mp t.w.2.1)), (some (.objs 104 36 t.w.2.2.1)), (some (.objs 83 2 t.w.2.2.2))])
def Fi.res : zCR → AV × zC
 | u => ((.ints .u64 4 u.1), [(some (.var (.agg [(.own 1 0), (.own 2 0), (.rmap []), (.rmap []), (.own 3 0), (.rmap []), (.int .i64 u.2.1), .snil, (.own 4 36), (.own 5 2), (.int .i64 u.2.2.1)]))), (some (.mp u.2.2.2.1)), (some (.mp u.w.1)), (some (.mp u.w.2.1)), (some (.objs 104 36 u.w.2.2.1)), (some (.objs 83 2 u.w.2.2.2))])
def Fi.c (n : Nat) : Abs.Callee := .mk' [true, false] [none, none] Fi.pat (Fi.m n) (zO Fi.res)
noncomputable def Fac.C (n : Nat) : Ctx := ⟨Tryz.prog, zI, zU [], fun _ => false⟩
noncomputable def Fac.A (n : Nat) : Ann := ⟨Tryz.f29.ntmps, 6, zV, [], [], fun k => match k with
 | _ => none, zV, zW []⟩
def Fac.g {α : Type} (mk0 : Int → Int → LA → LA → LA → LA → LA → α) (n : Nat) (a : LI) (nn : Int) (b : LI) (c : ByteArray) (r x : Int) (p q : LA) (o j z : LA) : Option α :=
 zD (Go.Abs.mgetL (AV.ints .u8 20 a) (AV.agg [(AV.int .u64 0), (AV.ints .u64 4 [0, 0, 0, 0]), (AV.str ByteArray.empty)]) p) fun r2 =>
 zD (tkAgg 3 r2.1) fun r4 =>
 zD (tkInt .u64 (List.getD r4 0 AV.any)) fun r6 =>
 zD (tkInts .u64 4 (List.getD r4 1 AV.any)) fun r8 =>
 zD (tkStr (List.getD r4 2 AV.any)) fun r10 =>
 if ((((List.length j) + 1) * 160) ≤ 70368744177664 ∧ ((List.length j) + 1) ≤ 9223372036854775807) then
 zD (Go.Abs.mputL (AV.ints .u8 20 a) (AV.agg [(AV.int .u64 nn), (AV.ints .u64 4 b), (AV.str c)]) p) fun r14 =>
 some (mk0 r x r14 q o z (j ++ [(AV.agg [(AV.int .i64 0), (AV.agg [(AV.ints .u8 20 a), (AV.ints .u64 4 [0, 0, 0, 0])]), (AV.agg [(AV.int .u64 r6), (AV.ints .u64 4 r8), (AV.str r10)]), (AV.ints .u64 4 [0, 0, 0, 0]), (AV.int .i64 0)])]))
 else
 none
def Fac.m (n : Nat) (t : Ty8) : Option zBk := Fac.g (fun a0 a1 a2 a3 a4 a5 a6 => (a0, a1, a2, a3, a4, a5, a6)) n t.1 t.2.1 t.2.2.1 t.2.2.2.1 t.w.1 t.w.2.1 t.w.2.2.1 t.w.2.2.2.1 t.x.1 t.x.2.1 t.x.2.2
def Fac.pat : List AV → zC → Option Ty8
 | [(.ptr 0 []), (.ints .u8 20 a), (.agg [(.int .u64 nn), (.ints .u64 4 b), (.str c)])], [(some (.var (.agg [(.own 1 0), (.own 2 0), (.rmap []), (.rmap []), (.own 3 0), (.rmap []), (.int .i64 r), .snil, (.own 4 36), (.own 5 2), (.int .i64 x)]))), (some (.mp p)), (some (.mp q)), (some (.mp o)), (some (.objs 104 36 j)), (some (.objs 83 2 z))] => some (a, nn, b, c, r, x, p, q, o, j, z)
 | _, _ => none
def Fac.shape (t : Ty8) : List AV × zC := ([(.ptr 0 []), (.ints .u8 20 t.1), (.agg [(.int .u64 t.2.1), (.ints .u64 4 t.2.2.1), (.str t.2.2.2.1)])], [(some (.var (.agg [(.own 1 0), (.own 2 0), (.rmap []), (.rmap []), (.own 3 0), (.rmap []), (.int .i64 t.w.1), .snil, (.own 4 36), (.own 5 2), (.int .i64 t.w.2.1)]))), (some (.mp t.w.2.2.1)), (some (.mp t.w.2.2.2.1)), (some (.mp t.x.1)), (some (.objs 104 36 t.x.2.1)), (some (.objs 83 2 t.x.2.2))])
def Fac.res : zBk → AV × zC
 | u => ((.tup []), [(some (.var (.agg [(.own 1 0), (.own 2 0), (.rmap []), (.rmap []), (.own 3 0), (.rmap []), (.int .i64 u.1), .snil, (.own 6 36), (.own 5 2), (.int .i64 u.2.1)]))), (some (.mp u.2.2.1)), (some (.mp u.2.2.2.1)), (some (.mp u.w.1)), none, (some (.objs 83 2 u.w.2.1)), (some (.objs 104 36 u.w.2.2))])
def Fac.c (n : Nat) : Abs.Callee := .mk' [true, false, false] [none, none, none] Fac.pat (Fac.m n) (zO Fac.res)
noncomputable def Ff.C (n : Nat) : Ctx := ⟨Tryz.prog, zI, zU [(29, Fac.c n)], fun _ => false⟩
noncomputable def Ff.A (n : Nat) : Ann := ⟨Tryz.f13.ntmps, 6, zV, [], [], fun k => match k with
 | _ => none, zV, zW []⟩
def Ff.g {α : Type} (mk0 : Int → Int → LA → LA → LA → LA → LA → α) (n : Nat) (a v : LI) (r x : Int) (p q : LA) (o j z : LA) : Option α :=
 zD (Go.Abs.mgetL (AV.ints .u8 20 a) (AV.agg [(AV.int .u64 0), (AV.ints .u64 4 [0, 0, 0, 0]), (AV.str ByteArray.empty)]) p) fun r2 =>
 zD (tkAgg 3 r2.1) fun r4 =>
 zD (tkInt .u64 (List.getD r4 0 AV.any)) fun r6 =>
 zD (tkInts .u64 4 (List.getD r4 1 AV.any)) fun r8 =>
 zD (tkStr (List.getD r4 2 AV.any)) fun r10 =>
 zD (Fac.m n (a, r6, v, r10, r, x, p, q, o, j, z)) fun r12 =>
 some (mk0 r12.1 r12.2.1 r12.2.2.1 r12.2.2.2.1 r12.w.1 r12.w.2.1 r12.w.2.2)
def Ff.m (n : Nat) (t : zCi) : Option zBk := Ff.g (fun a0 a1 a2 a3 a4 a5 a6 => (a0, a1, a2, a3, a4, a5, a6)) n t.1 t.2.1 t.2.2.1 t.2.2.2.1 t.w.1 t.w.2.1 t.w.2.2.1 t.w.2.2.2.1 t.x
def Ff.pat : List AV → zC → Option zCi
 | [(.ptr 0 []), (.ints .u8 20 a), (.ints .u64 4 v)], [(some (.var (.agg [(.own 1 0), (.own 2 0), (.rmap []), (.rmap []), (.own 3 0), (.rmap []), (.int .i64 r), .snil, (.own 4 36), (.own 5 2), (.int .i64 x)]))), (some (.mp p)), (some (.mp q)), (some (.mp o)), (some (.objs 104 36 j)), (some (.objs 83 2 z))] => some (a, v, r, x, p, q, o, j, z)
 | _, _ => none
def Ff.shape (t : zCi) : List AV × zC := ([(.ptr 0 []), (.ints .u8 20 t.1), (.ints .u64 4 t.2.1)], [(some (.var (.agg [(.own 1 0), (.own 2 0), (.rmap []), (.rmap []), (.own 3 0), (.rmap []), (.int .i64 t.2.2.1), .snil, (.own 4 36), (.own 5 2), (.int .i64 t.2.2.2.1)]))), (some (.mp t.w.1)), (some (.mp t.w.2.1)), (some (.mp t.w.2.2.1)), (some (.objs 104 36 t.w.2.2.2.1)), (some (.objs 83 2 t.x))])
def Ff.res : zBk → AV × zC
 | u => ((.tup []), [(some (.var (.agg [(.own 1 0), (.own 2 0), (.rmap []), (.rmap []), (.own 3 0), (.rmap []), (.int .i64 u.1), .snil, (.own 6 36), (.own 5 2), (.int .i64 u.2.1)]))), (some (.mp u.2.2.1)), (some (.mp u.2.2.2.1)), (some (.mp u.w.1)), none, (some (.objs 83 2 u.w.2.1)), (some (.objs 104 36 u.w.2.2))])
def Ff.c (n : Nat) : Abs.Callee := .mk' [true, false, false] [none, none, none] Ff.pat (Ff.m n) (zO Ff.res)
noncomputable def Fad.C (n : Nat) : Ctx := ⟨Tryz.prog, zI, zU [(12, Fi.c n), (96, Fcb.c n), (13, Ff.c n), (51, Fca.c n)], fun _ => false⟩
noncomputable def Fad.A (n : Nat) : Ann := ⟨Tryz.f95.ntmps, 6, zV, [], [none, (some (.agg [(some (.ints .u8))]))], fun k => match k with
 | _ => none, zV, zW []⟩
def Fad.g {α : Type} (mk0 : Bool → Int → Int → LA → LA → LA → LA → LA → α) (n : Nat) (a b v : LI) (r x : Int) (p q : LA) (o j z : LA) : Option α :=
 zD (Fi.m n (a, r, x, p, q, o, j, z)) fun r2 =>
 zD (Fcb.m n (r2.1, v)) fun r4 =>
 if r4.2 = true then
 some (mk0 false r2.2.1 r2.2.2.1 r2.2.2.2.1 r2.w.1 r2.w.2.1 r2.w.2.2.2 r2.w.2.2.1)
 else
 zD (Ff.m n (a, r4.1, r2.2.1, r2.2.2.1, r2.2.2.2.1, r2.w.1, r2.w.2.1, r2.w.2.2.1, r2.w.2.2.2)) fun r8 =>
 zD (Fi.m n (b, r8.1, r8.2.1, r8.2.2.1, r8.2.2.2.1, r8.w.1, r8.w.2.2, r8.w.2.1)) fun r10 =>
 zD (Fca.m n (r10.1, v)) fun r12 =>
 zD (Ff.m n (b, r12.1, r10.2.1, r10.2.2.1, r10.2.2.2.1, r10.w.1, r10.w.2.1, r10.w.2.2.1, r10.w.2.2.2)) fun r14 =>
 some (mk0 true r14.1 r14.2.1 r14.2.2.1 r14.2.2.2.1 r14.w.1 r14.w.2.1 r14.w.2.2)
def Fad.m (n : Nat) (t : zLO) : Option zLK := Fad.g (fun a0 a1 a2 a3 a4 a5 a6 a7 => (a0, a1, a2, a3, a4, a5, a6, a7)) n t.1 t.2.1 t.2.2.1 t.2.2.2.1 t.w.1 t.w.2.1 t.w.2.2.1 t.w.2.2.2.1 t.x.1 t.x.2
def Fad.pat : List AV → zC → Option zLO
 | [(.ptr 0 []), (.ints .u8 20 a), (.ints .u8 20 b), (.ints .u64 4 v)], [(some (.var (.agg [(.own 1 0), (.own 2 0), (.rmap []), (.rmap []), (.own 3 0), (.rmap []), (.int .i64 r), .snil, (.own 4 36), (.own 5 2), (.int .i64 x)]))), (some (.mp p)), (some (.mp q)), (some (.mp o)), (some (.objs 104 36 j)), (some (.objs 83 2 z))] => some (a, b, v, r, x, p, q, o, j, z)
 | _, _ => none
def Fad.shape (t : zLO) : List AV × zC := ([(.ptr 0 []), (.ints .u8 20 t.1), (.ints .u8 20 t.2.1), (.ints .u64 4 t.2.2.1)], [(some (.var (.agg [(.own 1 0), (.own 2 0), (.rmap []), (.rmap []), (.own 3 0), (.rmap []), (.int .i64 t.2.2.2.1), .snil, (.own 4 36), (.own 5 2), (.int .i64 t.w.1)]))), (some (.mp t.w.2.1)), (some (.mp t.w.2.2.1)), (some (.mp t.w.2.2.2.1)), (some (.objs 104 36 t.x.1)), (some (.objs 83 2 t.x.2))])
def Fad.res : zLK → AV × zC
 | u => ((.bool u.1), [(some (.var (.agg [(.own 1 0), (.own 2 0), (.rmap []), (.rmap []), (.own 3 0), (.rmap []), (.int .i64 u.2.1), .snil, (.own 6 36), (.own 5 2), (.int .i64 u.2.2.1)]))), (some (.mp u.2.2.2.1)), (some (.mp u.w.1)), (some (.mp u.w.2.1)), none, (some (.objs 83 2 u.w.2.2.1)), (some (.objs 104 36 u.w.2.2.2))])
def Fad.c (n : Nat) : Abs.Callee := .mk' [true, false, false, false] [none, none, none, none] Fad.pat (Fad.m n) (zO Fad.res)
noncomputable def Fq.C (n : Nat) : Ctx := ⟨Tryz.prog, zI, zU [], fun _ => false⟩
noncomputable def Fq.A (n : Nat) : Ann := ⟨Tryz.f102.ntmps, 0, zV, [], [none], fun k => match k with
 | _ => none, zV, zW []⟩
def Fq.g {α : Type} (mk0 : Int → α) (n : Nat) (a0 a1 : Int) : Option α :=
 if 0 ≤ (IntKind.wrap .u64 (64 - (ibits BinOp.and .u64 (IntKind.wrap .u64 a1) 63))) then
 some (mk0 (ibits BinOp.or .u64 (ishl .u64 a0 (ibits BinOp.and .u64 (IntKind.wrap .u64 a1) 63)) (ishr .u64 a0 (IntKind.wrap .u64 (64 - (ibits BinOp.and .u64 (IntKind.wrap .u64 a1) 63))))))
 else
 none
def Fq.m (n : Nat) (t : (Int × Int)) : Option Int := Fq.g (fun a0 => a0) n t.1 t.2
def Fq.pat : List AV → zC → Option (Int × Int)
 | [(.int .u64 a0), (.int .i64 a1)], [] => some (a0, a1)
 | _, _ => none
def Fq.shape (t : (Int × Int)) : List AV × zC := ([(.int .u64 t.1), (.int .i64 t.2)], [])
def Fq.res : Int → AV × zC
 | u => ((.int .u64 u), [])
def Fq.c (n : Nat) : Abs.Callee := .mk' [] [none, none] Fq.pat (Fq.m n) (zO Fq.res)
noncomputable def Fj.C (n : Nat) : Ctx := ⟨Tryz.prog, zI, zU [(102, Fq.c n)], fun _ => false⟩
def Fj.live : NL := fun k => match k with
 | 2 => ([7, 6, 2, 0], [0, 2])
 | 7 => ([21, 0, 2], [])
 | _ => ([], [])
def Fj.l2.r {α : Type} (mk0 : LI → LI → α) (n : Nat) (rc : Int → LI → LI → Option α)  (x0 : Int) (x1 x2 : LI) : Option α :=
 if (decide (x0 < 25)) = true then
 if 0 ≤ x0 then
 if x0 < 25 then
 if 0 ≤ (Int.tmod x0 5) then
 if (Int.tmod x0 5) < 5 then
 if 0 ≤ (Int.tmod x0 5) then
 if (Int.tmod x0 5) < 5 then
 rc (IntKind.wrap .i64 (x0 + 1)) x1 (List.set x2 (Int.toNat (Int.tmod x0 5)) (ibits BinOp.xor .u64 (List.getD x2 (Int.toNat (Int.tmod x0 5)) 0) (List.getD x1 (Int.toNat x0) 0)))
 else
 none
 else
 none
 else
 none
 else
 none
 else
 none
 else
 none
 else
 some (mk0 x1 x2)
def Fj.l2.g {α : Type} (mk0 : LI → LI → α) (n : Nat) : Nat → Int → LI → LI → Option α
 | 0, _, _, _ => none
 | m + 1, x0, x1, x2 => Fj.l2.r mk0 n (fun y0 y1 y2 => Fj.l2.g mk0 n m y0 y1 y2)  x0 x1 x2
def Fj.l2.m (n m : Nat) (t : (Int × (LI × LI))) : Option (LI × LI) := Fj.l2.g (fun a0 a1 => (a0, a1)) n m t.1 t.2.1 t.2.2
def Fj.l2.pat : St → Option (Int × (LI × LI))
 | (St.mk [(.int .i64 x0), (.ptr 0 []), (.ptr 1 []), (.ptr 0 [])] [(some (.var (.ints .u64 25 x1))), (some (.var (.ints .u64 5 x2)))]) => some (x0, x1, x2)
 | _ => none
def Fj.l2.shape (t : (Int × (LI × LI))) : St := (St.mk [(.int .i64 t.1), (.ptr 0 []), (.ptr 1 []), (.ptr 0 [])] [(some (.var (.ints .u64 25 t.2.1))), (some (.var (.ints .u64 5 t.2.2)))])
def Fj.l2.res : (LI × LI) → Ex × St
 | u => ((.exit 0), (St.mk [(.ptr 0 []), (.ptr 1 [])] [(some (.var (.ints .u64 25 u.1))), (some (.var (.ints .u64 5 u.2)))]))
def Fj.l7.r {α : Type} (mk0 : LI → α) (n : Nat) (rc : Int → LI → LI → Option α)  (x0 : Int) (x1 x2 : LI) : Option α :=
 if (decide (x0 < 25)) = true then
 if 0 ≤ x0 then
 if x0 < 25 then
 if 0 ≤ (Int.tmod (IntKind.wrap .i64 (x0 + 4)) 5) then
 if (Int.tmod (IntKind.wrap .i64 (x0 + 4)) 5) < 5 then
 if 0 ≤ (Int.tmod (IntKind.wrap .i64 (x0 + 1)) 5) then
 if (Int.tmod (IntKind.wrap .i64 (x0 + 1)) 5) < 5 then
 zD (Fq.m n ((List.getD x2 (Int.toNat (Int.tmod (IntKind.wrap .i64 (x0 + 1)) 5)) 0), 1)) fun r18 =>
 if 0 ≤ x0 then
 if x0 < 25 then
 rc (IntKind.wrap .i64 (x0 + 1)) (List.set x1 (Int.toNat x0) (ibits BinOp.xor .u64 (List.getD x1 (Int.toNat x0) 0) (ibits BinOp.xor .u64 (List.getD x2 (Int.toNat (Int.tmod (IntKind.wrap .i64 (x0 + 4)) 5)) 0) r18))) x2
 else
 none
 else
 none
 else
 none
 else
 none
 else
 none
 else
 none
 else
 none
 else
 none
 else
 some (mk0 x1)
def Fj.l7.g {α : Type} (mk0 : LI → α) (n : Nat) : Nat → Int → LI → LI → Option α
 | 0, _, _, _ => none
 | m + 1, x0, x1, x2 => Fj.l7.r mk0 n (fun y0 y1 y2 => Fj.l7.g mk0 n m y0 y1 y2)  x0 x1 x2
def Fj.l7.m (n m : Nat) (t : (Int × (LI × LI))) : Option LI := Fj.l7.g (fun a0 => a0) n m t.1 t.2.1 t.2.2
def Fj.l7.pat : St → Option (Int × (LI × LI))
 | (St.mk [(.int .i64 x0), (.ptr 0 []), (.ptr 1 [])] [(some (.var (.ints .u64 25 x1))), (some (.var (.ints .u64 5 x2)))]) => some (x0, x1, x2)
 | _ => none
def Fj.l7.shape (t : (Int × (LI × LI))) : St := (St.mk [(.int .i64 t.1), (.ptr 0 []), (.ptr 1 [])] [(some (.var (.ints .u64 25 t.2.1))), (some (.var (.ints .u64 5 t.2.2)))])
def Fj.l7.res : LI → Ex × St
 | u => ((.exit 2), (St.mk [] [(some (.var (.ints .u64 25 u)))]))
noncomputable def Fj.A (n : Nat) : Ann := ⟨Tryz.f99.ntmps, 1, Fj.live, [], [], fun k => match k with
 | 2 => some (.mk' Fj.l2.pat (Fj.l2.m n n) (zQ Fj.l2.res))
 | 7 => some (.mk' Fj.l7.pat (Fj.l7.m n n) (zQ Fj.l7.res))
 | _ => none, zV, zW []⟩
noncomputable def Fj.b0 : Code := (zK (Tryz.f99.body.getD .skip)).getD 0 .skip
noncomputable def Fj.b1 : Code := (zK (Tryz.f99.body.getD .skip)).getD 1 .skip
def Fj.g {α : Type} (mk0 : LI → α) (n : Nat) (s : LI) : Option α :=
 zD (Fj.l2.m n n (0, s, [0, 0, 0, 0, 0])) fun r2 =>
 zD (Fj.l7.m n n (0, r2.1, r2.2)) fun r4 =>
 some (mk0 r4)
def Fj.m (n : Nat) (t : LI) : Option LI := Fj.g (fun a0 => a0) n t
def Fj.pat : List AV → zC → Option LI
 | [(.ptr 0 [])], [(some (.var (.ints .u64 25 s)))] => some s
 | _, _ => none
def Fj.shape (t : LI) : List AV × zC := ([(.ptr 0 [])], [(some (.var (.ints .u64 25 t)))])
def Fj.res : LI → AV × zC
 | u => ((.tup []), [(some (.var (.ints .u64 25 u)))])
def Fj.c (n : Nat) : Abs.Callee := .mk' [true] [none] Fj.pat (Fj.m n) (zO Fj.res)
noncomputable def Fr.C (n : Nat) : Ctx := ⟨Tryz.prog, zI, zU [(102, Fq.c n)], fun _ => false⟩
def Fr.live : NL := fun k => match k with
 | 2 => ([9, 0, 2], [])
 | _ => ([], [])
def Fr.l2.r {α : Type} (mk0 : LI → α) (n : Nat) (rc : Int → Int → LI → Option α)  (x0 x1 : Int) (x2 : LI) : Option α :=
 if (decide (x0 < 24)) = true then
 if 0 ≤ x0 then
 if x0 < 24 then
 if 0 ≤ (List.getD ([10, 7, 11, 17, 18, 3, 5, 16, 8, 21, 24, 4, 15, 23, 19, 13, 12, 2, 20, 14, 22, 9, 6, 1] : List Int) (Int.toNat x0) 0) then
 if (List.getD ([10, 7, 11, 17, 18, 3, 5, 16, 8, 21, 24, 4, 15, 23, 19, 13, 12, 2, 20, 14, 22, 9, 6, 1] : List Int) (Int.toNat x0) 0) < 25 then
 if 0 ≤ x0 then
 if x0 < 24 then
 if 0 ≤ x0 then
 if x0 < 24 then
 zD (Fq.m n (x1, (List.getD ([1, 3, 6, 10, 15, 21, 28, 36, 45, 55, 2, 14, 27, 41, 56, 8, 25, 43, 62, 18, 39, 61, 20, 44] : List Int) (Int.toNat x0) 0))) fun r22 =>
 if 0 ≤ (List.getD ([10, 7, 11, 17, 18, 3, 5, 16, 8, 21, 24, 4, 15, 23, 19, 13, 12, 2, 20, 14, 22, 9, 6, 1] : List Int) (Int.toNat x0) 0) then
 if (List.getD ([10, 7, 11, 17, 18, 3, 5, 16, 8, 21, 24, 4, 15, 23, 19, 13, 12, 2, 20, 14, 22, 9, 6, 1] : List Int) (Int.toNat x0) 0) < 25 then
 rc (IntKind.wrap .i64 (x0 + 1)) (List.getD x2 (Int.toNat (List.getD ([10, 7, 11, 17, 18, 3, 5, 16, 8, 21, 24, 4, 15, 23, 19, 13, 12, 2, 20, 14, 22, 9, 6, 1] : List Int) (Int.toNat x0) 0)) 0) (List.set x2 (Int.toNat (List.getD ([10, 7, 11, 17, 18, 3, 5, 16, 8, 21, 24, 4, 15, 23, 19, 13, 12, 2, 20, 14, 22, 9, 6, 1] : List Int) (Int.toNat x0) 0)) r22)
 else
 none
 else
 none
 else
 none
 else
 none
 else
 none
 else
 none
 else
 none
 else
 none
 else
 none
 else
 none
 else
 some (mk0 x2)
def Fr.l2.g {α : Type} (mk0 : LI → α) (n : Nat) : Nat → Int → Int → LI → Option α
 | 0, _, _, _ => none
 | m + 1, x0, x1, x2 => Fr.l2.r mk0 n (fun y0 y1 y2 => Fr.l2.g mk0 n m y0 y1 y2)  x0 x1 x2
def Fr.l2.m (n m : Nat) (t : (Int × (Int × LI))) : Option LI := Fr.l2.g (fun a0 => a0) n m t.1 t.2.1 t.2.2
def Fr.l2.pat : St → Option (Int × (Int × LI))
 | (St.mk [(.int .i64 x0), (.ptr 0 []), (.int .u64 x1)] [(some (.var (.ints .u64 25 x2)))]) => some (x0, x1, x2)
 | _ => none
def Fr.l2.shape (t : (Int × (Int × LI))) : St := (St.mk [(.int .i64 t.1), (.ptr 0 []), (.int .u64 t.2.1)] [(some (.var (.ints .u64 25 t.2.2)))])
def Fr.l2.res : LI → Ex × St
 | u => ((.exit 0), (St.mk [] [(some (.var (.ints .u64 25 u)))]))
noncomputable def Fr.A (n : Nat) : Ann := ⟨Tryz.f100.ntmps, 1, Fr.live, [], [], fun k => match k with
 | 2 => some (.mk' Fr.l2.pat (Fr.l2.m n n) (zQ Fr.l2.res))
 | _ => none, zV, zW []⟩
noncomputable def Fr.b0 : Code := (zK (Tryz.f100.body.getD .skip)).getD 0 .skip
def Fr.g {α : Type} (mk0 : LI → α) (n : Nat) (s : LI) : Option α :=
 zD (Fr.l2.m n n (0, (List.getD s 1 0), s)) fun r2 =>
 some (mk0 r2)
def Fr.m (n : Nat) (t : LI) : Option LI := Fr.g (fun a0 => a0) n t
def Fr.pat : List AV → zC → Option LI
 | [(.ptr 0 [])], [(some (.var (.ints .u64 25 s)))] => some s
 | _, _ => none
def Fr.shape (t : LI) : List AV × zC := ([(.ptr 0 [])], [(some (.var (.ints .u64 25 t)))])
def Fr.res : LI → AV × zC
 | u => ((.tup []), [(some (.var (.ints .u64 25 u)))])
def Fr.c (n : Nat) : Abs.Callee := .mk' [true] [none] Fr.pat (Fr.m n) (zO Fr.res)
