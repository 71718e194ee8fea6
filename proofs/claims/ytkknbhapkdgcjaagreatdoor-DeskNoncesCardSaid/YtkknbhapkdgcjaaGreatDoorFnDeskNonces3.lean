/- What the program's functions compute, as plain functions, each with its proof: the function does just that. Condition: the plain function has an answer. -/
import Derived.Test.YtkknbhapkdgcjaaGreatDoorAbsQ8
import Derived.Test.YtkknbhapkdgcjaaGreatDoorProg
import Derived.Test.YtkknbhapkdgcjaaGreatDoorFnDeskNonces1
import Derived.Test.YtkknbhapkdgcjaaGreatDoorFnDeskNonces2
import Derived.WalkKit
import Derived.Test.YtkknbhapkdgcjaaGreatDoorAbsQ9
set_option linter.unusedVariables false
set_option linter.unusedSimpArgs false
set_option maxRecDepth 100000
open Go Go.Abs Go.Proofs
set_option autoImplicit true
set_option relaxedAutoImplicit true
noncomputable section
noncomputable def Fbm.C (n : Nat) : Ctx := ⟨Tryz.prog, dskG, lookC [(78, Fbl.c n)], fun _ => false⟩
def Fbm.live : NL := fun k => match k with
 | 2 => ([7, 0, 1, 2], [0])
 | 6 => ([9, 8, 0, 1, 2, 7], [8, 0, 1, 2, 7])
 | 11 => ([11, 8, 10, 0, 1, 2, 7], [10, 2, 7, 1])
 | 15 => ([13, 10, 11, 0, 12, 1, 8, 2, 7], [11, 8, 10, 0, 1, 2, 7])
 | 20 => ([15, 14, 10, 2, 7, 1], [14, 2, 7, 1])
 | 23 => ([16, 14, 10, 15, 2, 7, 1], [15, 14, 10, 2, 7, 1])
 | _ => ([], [])
def Fbm.l6_0.r {α : Type} (mk0 : LI → LI → LI → Int → LI → α) (n : Nat) (rc : Int → LI → LI → LI → Int → LI → Option α)  (x0 : Int) (x1 x2 x3 : LI) (x4 : Int) (x5 : LI) : Option α :=
 if (decide (x0 < 5)) = true then
 if 0 ≤ x0 then
 if x0 < (x1.length : Int) then
 if 0 ≤ (IntKind.wrap .i64 (5 + x0)) then
 if (IntKind.wrap .i64 (5 + x0)) < (x1.length : Int) then
 if 0 ≤ (IntKind.wrap .i64 (10 + x0)) then
 if (IntKind.wrap .i64 (10 + x0)) < (x1.length : Int) then
 if 0 ≤ (IntKind.wrap .i64 (15 + x0)) then
 if (IntKind.wrap .i64 (15 + x0)) < (x1.length : Int) then
 if 0 ≤ (IntKind.wrap .i64 (20 + x0)) then
 if (IntKind.wrap .i64 (20 + x0)) < (x1.length : Int) then
 if ((((List.length x5) + 1) * 8) ≤ 70368744177664 ∧ ((List.length x5) + 1) ≤ 9223372036854775807) then
 rc (IntKind.wrap .i64 (x0 + 1)) x1 x2 x3 x4 (x5 ++ [(ibits BinOp.xor .u64 (ibits BinOp.xor .u64 (ibits BinOp.xor .u64 (ibits BinOp.xor .u64 (List.getD x1 (Int.toNat x0) 0) (List.getD x1 (Int.toNat (IntKind.wrap .i64 (5 + x0))) 0)) (List.getD x1 (Int.toNat (IntKind.wrap .i64 (10 + x0))) 0)) (List.getD x1 (Int.toNat (IntKind.wrap .i64 (15 + x0))) 0)) (List.getD x1 (Int.toNat (IntKind.wrap .i64 (20 + x0))) 0))])
 else
 none
 else
 none
 else
 none
 else
 none
 else
 none
 else
 none
 else
 none
 else
 none
 else
 none
 else
 none
 else
 none
 else
 some (mk0 x1 x2 x3 x4 x5)
def Fbm.l6_0.g {α : Type} (mk0 : LI → LI → LI → Int → LI → α) (n : Nat) : Nat → Int → LI → LI → LI → Int → LI → Option α
 | 0, _, _, _, _, _, _ => none
 | m + 1, x0, x1, x2, x3, x4, x5 => Fbm.l6_0.r mk0 n (fun y0 y1 y2 y3 y4 y5 => Fbm.l6_0.g mk0 n m y0 y1 y2 y3 y4 y5)  x0 x1 x2 x3 x4 x5
def Fbm.l6_0.m (n m : Nat) (t : (Int × (LI × (LI × (LI × (Int × LI)))))) : Option (LI × (LI × (LI × (Int × LI)))) := Fbm.l6_0.g (fun a0 a1 a2 a3 a4 => (a0, a1, a2, a3, a4)) n m t.1 t.2.1 t.2.2.1 t.2.2.2.1 t.w.1 t.w.2
def Fbm.l6_0.pat : St → Option (Int × (LI × (LI × (LI × (Int × LI)))))
 | (St.mk [(.int .i64 x0), (.own 0 1), (.rints .u64 x1), (.rints .i64 x2), (.rints .u64 x3), (.int .i64 x4)] [(some (.ints .u64 x5))]) => some (x0, x1, x2, x3, x4, x5)
 | _ => none
def Fbm.l6_0.shape (t : (Int × (LI × (LI × (LI × (Int × LI)))))) : St := (St.mk [(.int .i64 t.1), (.own 0 1), (.rints .u64 t.2.1), (.rints .i64 t.2.2.1), (.rints .u64 t.2.2.2.1), (.int .i64 t.w.1)] [(some (.ints .u64 t.w.2))])
def Fbm.l6_0.res : (LI × (LI × (LI × (Int × LI)))) → Ex × St
 | u => ((.exit 2), (St.mk [(.own 0 1), (.rints .u64 u.1), (.rints .i64 u.2.1), (.rints .u64 u.2.2.1), (.int .i64 u.2.2.2.1)] [(some (.ints .u64 u.w))]))
def Fbm.l15_0.r {α : Type} (mk0 : Int → LI → LI → LI → Int → LI → LI → α) (n : Nat) (rc : Int → Int → LI → Int → LI → LI → Int → LI → LI → Option α)  (x0 x1 : Int) (x2 : LI) (x3 : Int) (x4 x5 : LI) (x6 : Int) (x7 x8 : LI) : Option α :=
 if (decide (x0 < 5)) = true then
 if 0 ≤ (IntKind.wrap .i64 ((IntKind.wrap .i64 (5 * x0)) + x1)) then
 if (IntKind.wrap .i64 ((IntKind.wrap .i64 (5 * x0)) + x1)) < (x2.length : Int) then
 if 0 ≤ (IntKind.wrap .i64 ((IntKind.wrap .i64 (5 * x0)) + x1)) then
 if (IntKind.wrap .i64 ((IntKind.wrap .i64 (5 * x0)) + x1)) < (x4.length : Int) then
 bindO (Fbl.m n ((ibits BinOp.xor .u64 (List.getD x2 (Int.toNat (IntKind.wrap .i64 ((IntKind.wrap .i64 (5 * x0)) + x1))) 0) x3), (List.getD x4 (Int.toNat (IntKind.wrap .i64 ((IntKind.wrap .i64 (5 * x0)) + x1))) 0))) fun r14 =>
 if 0 ≤ (IntKind.wrap .i64 ((IntKind.wrap .i64 (5 * (Int.tmod (IntKind.wrap .i64 ((IntKind.wrap .i64 (2 * x1)) + (IntKind.wrap .i64 (3 * x0)))) 5))) + x0)) then
 if (IntKind.wrap .i64 ((IntKind.wrap .i64 (5 * (Int.tmod (IntKind.wrap .i64 ((IntKind.wrap .i64 (2 * x1)) + (IntKind.wrap .i64 (3 * x0)))) 5))) + x0)) < (x7.length : Int) then
 rc (IntKind.wrap .i64 (x0 + 1)) x1 x2 x3 x4 x5 x6 (List.set x7 (Int.toNat (IntKind.wrap .i64 ((IntKind.wrap .i64 (5 * (Int.tmod (IntKind.wrap .i64 ((IntKind.wrap .i64 (2 * x1)) + (IntKind.wrap .i64 (3 * x0)))) 5))) + x0))) r14) x8
 else
 none
 else
 none
 else
 none
 else
 none
 else
 none
 else
 none
 else
 some (mk0 x1 x2 x4 x5 x6 x8 x7)
def Fbm.l15_0.g {α : Type} (mk0 : Int → LI → LI → LI → Int → LI → LI → α) (n : Nat) : Nat → Int → Int → LI → Int → LI → LI → Int → LI → LI → Option α
 | 0, _, _, _, _, _, _, _, _, _ => none
 | m + 1, x0, x1, x2, x3, x4, x5, x6, x7, x8 => Fbm.l15_0.r mk0 n (fun y0 y1 y2 y3 y4 y5 y6 y7 y8 => Fbm.l15_0.g mk0 n m y0 y1 y2 y3 y4 y5 y6 y7 y8)  x0 x1 x2 x3 x4 x5 x6 x7 x8
def Fbm.l15_0.m (n m : Nat) (t : Ty16) : Option Ty26 := Fbm.l15_0.g (fun a0 a1 a2 a3 a4 a5 a6 => (a0, a1, a2, a3, a4, a5, a6)) n m t.1 t.2.1 t.2.2.1 t.2.2.2.1 t.w.1 t.w.2.1 t.w.2.2.1 t.w.2.2.2.1 t.x
def Fbm.l15_0.pat : St → Option Ty16
 | (St.mk [(.int .i64 x0), (.own 0 1), (.int .i64 x1), (.rints .u64 x2), (.int .u64 x3), (.rints .i64 x4), (.own 1 1), (.rints .u64 x5), (.int .i64 x6)] [(some (.ints .u64 x7)), (some (.ints .u64 x8))]) => some (x0, x1, x2, x3, x4, x5, x6, x7, x8)
 | _ => none
def Fbm.l15_0.shape (t : Ty16) : St := (St.mk [(.int .i64 t.1), (.own 0 1), (.int .i64 t.2.1), (.rints .u64 t.2.2.1), (.int .u64 t.2.2.2.1), (.rints .i64 t.w.1), (.own 1 1), (.rints .u64 t.w.2.1), (.int .i64 t.w.2.2.1)] [(some (.ints .u64 t.w.2.2.2.1)), (some (.ints .u64 t.x))])
def Fbm.l15_0.res : Ty26 → Ex × St
 | u => ((.exit 6), (St.mk [(.int .i64 u.1), (.own 0 1), (.own 1 1), (.rints .u64 u.2.1), (.rints .i64 u.2.2.1), (.rints .u64 u.2.2.2.1), (.int .i64 u.w.1)] [(some (.ints .u64 u.w.2.1)), (some (.ints .u64 u.w.2.2))]))
def Fbm.l11_0.r {α : Type} (mk0 : LI → Int → LI → LI → α) (n : Nat) (rc : Int → LI → LI → LI → Int → LI → LI → Option α)  (x0 : Int) (x1 x2 x3 : LI) (x4 : Int) (x5 x6 : LI) : Option α :=
 if (decide (x0 < 5)) = true then
 if 0 ≤ (Int.tmod (IntKind.wrap .i64 (x0 + 4)) 5) then
 if (Int.tmod (IntKind.wrap .i64 (x0 + 4)) 5) < (x5.length : Int) then
 if 0 ≤ (Int.tmod (IntKind.wrap .i64 (x0 + 1)) 5) then
 if (Int.tmod (IntKind.wrap .i64 (x0 + 1)) 5) < (x5.length : Int) then
 bindO (Fbl.m n ((List.getD x5 (Int.toNat (Int.tmod (IntKind.wrap .i64 (x0 + 1)) 5)) 0), 1)) fun r14 =>
 bindO (Fbm.l15_0.m n n (0, x0, x1, (ibits BinOp.xor .u64 (List.getD x5 (Int.toNat (Int.tmod (IntKind.wrap .i64 (x0 + 4)) 5)) 0) r14), x2, x3, x4, x6, x5)) fun r16 =>
 rc (IntKind.wrap .i64 (r16.1 + 1)) r16.2.1 r16.2.2.1 r16.2.2.2.1 r16.w.1 r16.w.2.1 r16.w.2.2
 else
 none
 else
 none
 else
 none
 else
 none
 else
 some (mk0 x3 x4 x2 x6)
def Fbm.l11_0.g {α : Type} (mk0 : LI → Int → LI → LI → α) (n : Nat) : Nat → Int → LI → LI → LI → Int → LI → LI → Option α
 | 0, _, _, _, _, _, _, _ => none
 | m + 1, x0, x1, x2, x3, x4, x5, x6 => Fbm.l11_0.r mk0 n (fun y0 y1 y2 y3 y4 y5 y6 => Fbm.l11_0.g mk0 n m y0 y1 y2 y3 y4 y5 y6)  x0 x1 x2 x3 x4 x5 x6
def Fbm.l11_0.m (n m : Nat) (t : Ty26) : Option (LI × (Int × (LI × LI))) := Fbm.l11_0.g (fun a0 a1 a2 a3 => (a0, a1, a2, a3)) n m t.1 t.2.1 t.2.2.1 t.2.2.2.1 t.w.1 t.w.2.1 t.w.2.2
def Fbm.l11_0.pat : St → Option Ty26
 | (St.mk [(.int .i64 x0), (.own 0 1), (.own 1 1), (.rints .u64 x1), (.rints .i64 x2), (.rints .u64 x3), (.int .i64 x4)] [(some (.ints .u64 x5)), (some (.ints .u64 x6))]) => some (x0, x1, x2, x3, x4, x5, x6)
 | _ => none
def Fbm.l11_0.shape (t : Ty26) : St := (St.mk [(.int .i64 t.1), (.own 0 1), (.own 1 1), (.rints .u64 t.2.1), (.rints .i64 t.2.2.1), (.rints .u64 t.2.2.2.1), (.int .i64 t.w.1)] [(some (.ints .u64 t.w.2.1)), (some (.ints .u64 t.w.2.2))])
def Fbm.l11_0.res : (LI × (Int × (LI × LI))) → Ex × St
 | u => ((.exit 4), (St.mk [(.own 0 1), (.rints .u64 u.1), (.int .i64 u.2.1), (.rints .i64 u.2.2.1)] [(some (.ints .u64 u.2.2.2))]))
def Fbm.l23_0.r {α : Type} (mk0 : Int → LI → Int → LI → LI → LI → α) (n : Nat) (rc : Int → Int → LI → Int → LI → LI → LI → Option α)  (x0 x1 : Int) (x2 : LI) (x3 : Int) (x4 x5 x6 : LI) : Option α :=
 if (decide (x0 < 5)) = true then
 if 0 ≤ (IntKind.wrap .i64 ((IntKind.wrap .i64 (5 * x1)) + x0)) then
 if (IntKind.wrap .i64 ((IntKind.wrap .i64 (5 * x1)) + x0)) < (x6.length : Int) then
 if 0 ≤ (IntKind.wrap .i64 ((IntKind.wrap .i64 (5 * x1)) + (Int.tmod (IntKind.wrap .i64 (x0 + 1)) 5))) then
 if (IntKind.wrap .i64 ((IntKind.wrap .i64 (5 * x1)) + (Int.tmod (IntKind.wrap .i64 (x0 + 1)) 5))) < (x6.length : Int) then
 if 0 ≤ (IntKind.wrap .i64 ((IntKind.wrap .i64 (5 * x1)) + (Int.tmod (IntKind.wrap .i64 (x0 + 2)) 5))) then
 if (IntKind.wrap .i64 ((IntKind.wrap .i64 (5 * x1)) + (Int.tmod (IntKind.wrap .i64 (x0 + 2)) 5))) < (x6.length : Int) then
 if ((((List.length x5) + 1) * 8) ≤ 70368744177664 ∧ ((List.length x5) + 1) ≤ 9223372036854775807) then
 rc (IntKind.wrap .i64 (x0 + 1)) x1 x2 x3 x4 (x5 ++ [(ibits BinOp.xor .u64 (List.getD x6 (Int.toNat (IntKind.wrap .i64 ((IntKind.wrap .i64 (5 * x1)) + x0))) 0) (ibits BinOp.and .u64 (ibits BinOp.xor .u64 (if false = true then (-1) else 18446744073709551615) (List.getD x6 (Int.toNat (IntKind.wrap .i64 ((IntKind.wrap .i64 (5 * x1)) + (Int.tmod (IntKind.wrap .i64 (x0 + 1)) 5)))) 0)) (List.getD x6 (Int.toNat (IntKind.wrap .i64 ((IntKind.wrap .i64 (5 * x1)) + (Int.tmod (IntKind.wrap .i64 (x0 + 2)) 5)))) 0)))]) x6
 else
 none
 else
 none
 else
 none
 else
 none
 else
 none
 else
 none
 else
 none
 else
 some (mk0 x1 x2 x3 x4 x5 x6)
def Fbm.l23_0.g {α : Type} (mk0 : Int → LI → Int → LI → LI → LI → α) (n : Nat) : Nat → Int → Int → LI → Int → LI → LI → LI → Option α
 | 0, _, _, _, _, _, _, _ => none
 | m + 1, x0, x1, x2, x3, x4, x5, x6 => Fbm.l23_0.r mk0 n (fun y0 y1 y2 y3 y4 y5 y6 => Fbm.l23_0.g mk0 n m y0 y1 y2 y3 y4 y5 y6)  x0 x1 x2 x3 x4 x5 x6
def Fbm.l23_0.m (n m : Nat) (t : Ty24) : Option (Int × (LI × (Int × (LI × (LI × LI))))) := Fbm.l23_0.g (fun a0 a1 a2 a3 a4 a5 => (a0, a1, a2, a3, a4, a5)) n m t.1 t.2.1 t.2.2.1 t.2.2.2.1 t.w.1 t.w.2.1 t.w.2.2
def Fbm.l23_0.pat : St → Option Ty24
 | (St.mk [(.int .i64 x0), (.own 0 1), (.own 1 1), (.int .i64 x1), (.rints .u64 x2), (.int .i64 x3), (.rints .i64 x4)] [(some (.ints .u64 x5)), (some (.ints .u64 x6))]) => some (x0, x1, x2, x3, x4, x5, x6)
 | _ => none
def Fbm.l23_0.shape (t : Ty24) : St := (St.mk [(.int .i64 t.1), (.own 0 1), (.own 1 1), (.int .i64 t.2.1), (.rints .u64 t.2.2.1), (.int .i64 t.2.2.2.1), (.rints .i64 t.w.1)] [(some (.ints .u64 t.w.2.1)), (some (.ints .u64 t.w.2.2))])
def Fbm.l23_0.res : (Int × (LI × (Int × (LI × (LI × LI))))) → Ex × St
 | u => ((.exit 10), (St.mk [(.int .i64 u.1), (.own 0 1), (.own 1 1), (.rints .u64 u.2.1), (.int .i64 u.2.2.1), (.rints .i64 u.2.2.2.1)] [(some (.ints .u64 u.w.1)), (some (.ints .u64 u.w.2))]))
def Fbm.l20_0.r {α : Type} (mk0 : LI → Int → LI → LI → α) (n : Nat) (rc : Int → LI → Int → LI → LI → LI → Option α)  (x0 : Int) (x1 : LI) (x2 : Int) (x3 x4 x5 : LI) : Option α :=
 if (decide (x0 < 5)) = true then
 bindO (Fbm.l23_0.m n n (0, x0, x1, x2, x3, x4, x5)) fun r6 =>
 rc (IntKind.wrap .i64 (r6.1 + 1)) r6.2.1 r6.2.2.1 r6.2.2.2.1 r6.w.1 r6.w.2
 else
 some (mk0 x1 x2 x3 x4)
def Fbm.l20_0.g {α : Type} (mk0 : LI → Int → LI → LI → α) (n : Nat) : Nat → Int → LI → Int → LI → LI → LI → Option α
 | 0, _, _, _, _, _, _ => none
 | m + 1, x0, x1, x2, x3, x4, x5 => Fbm.l20_0.r mk0 n (fun y0 y1 y2 y3 y4 y5 => Fbm.l20_0.g mk0 n m y0 y1 y2 y3 y4 y5)  x0 x1 x2 x3 x4 x5
def Fbm.l20_0.m (n m : Nat) (t : (Int × (LI × (Int × (LI × (LI × LI)))))) : Option (LI × (Int × (LI × LI))) := Fbm.l20_0.g (fun a0 a1 a2 a3 => (a0, a1, a2, a3)) n m t.1 t.2.1 t.2.2.1 t.2.2.2.1 t.w.1 t.w.2
def Fbm.l20_0.pat : St → Option (Int × (LI × (Int × (LI × (LI × LI)))))
 | (St.mk [(.int .i64 x0), (.own 0 1), (.own 1 1), (.rints .u64 x1), (.int .i64 x2), (.rints .i64 x3)] [(some (.ints .u64 x4)), (some (.ints .u64 x5))]) => some (x0, x1, x2, x3, x4, x5)
 | _ => none
def Fbm.l20_0.shape (t : (Int × (LI × (Int × (LI × (LI × LI)))))) : St := (St.mk [(.int .i64 t.1), (.own 0 1), (.own 1 1), (.rints .u64 t.2.1), (.int .i64 t.2.2.1), (.rints .i64 t.2.2.2.1)] [(some (.ints .u64 t.w.1)), (some (.ints .u64 t.w.2))])
def Fbm.l20_0.res : (LI × (Int × (LI × LI))) → Ex × St
 | u => ((.exit 8), (St.mk [(.own 0 1), (.rints .u64 u.1), (.int .i64 u.2.1), (.rints .i64 u.2.2.1)] [(some (.ints .u64 u.2.2.2))]))
def Fbm.l6v1_0.r {α : Type} (mk0 : LI → LI → Int → LI → LI → α) (n : Nat) (rc : Int → LI → LI → Int → LI → LI → Option α)  (x0 : Int) (x1 x2 : LI) (x3 : Int) (x4 x5 : LI) : Option α :=
 if (decide (x0 < 5)) = true then
 if 0 ≤ x0 then
 if x0 < (x5.length : Int) then
 if 0 ≤ (IntKind.wrap .i64 (5 + x0)) then
 if (IntKind.wrap .i64 (5 + x0)) < (x5.length : Int) then
 if 0 ≤ (IntKind.wrap .i64 (10 + x0)) then
 if (IntKind.wrap .i64 (10 + x0)) < (x5.length : Int) then
 if 0 ≤ (IntKind.wrap .i64 (15 + x0)) then
 if (IntKind.wrap .i64 (15 + x0)) < (x5.length : Int) then
 if 0 ≤ (IntKind.wrap .i64 (20 + x0)) then
 if (IntKind.wrap .i64 (20 + x0)) < (x5.length : Int) then
 if ((((List.length x4) + 1) * 8) ≤ 70368744177664 ∧ ((List.length x4) + 1) ≤ 9223372036854775807) then
 rc (IntKind.wrap .i64 (x0 + 1)) x1 x2 x3 (x4 ++ [(ibits BinOp.xor .u64 (ibits BinOp.xor .u64 (ibits BinOp.xor .u64 (ibits BinOp.xor .u64 (List.getD x5 (Int.toNat x0) 0) (List.getD x5 (Int.toNat (IntKind.wrap .i64 (5 + x0))) 0)) (List.getD x5 (Int.toNat (IntKind.wrap .i64 (10 + x0))) 0)) (List.getD x5 (Int.toNat (IntKind.wrap .i64 (15 + x0))) 0)) (List.getD x5 (Int.toNat (IntKind.wrap .i64 (20 + x0))) 0))]) x5
 else
 none
 else
 none
 else
 none
 else
 none
 else
 none
 else
 none
 else
 none
 else
 none
 else
 none
 else
 none
 else
 none
 else
 some (mk0 x1 x2 x3 x4 x5)
def Fbm.l6v1_0.g {α : Type} (mk0 : LI → LI → Int → LI → LI → α) (n : Nat) : Nat → Int → LI → LI → Int → LI → LI → Option α
 | 0, _, _, _, _, _, _ => none
 | m + 1, x0, x1, x2, x3, x4, x5 => Fbm.l6v1_0.r mk0 n (fun y0 y1 y2 y3 y4 y5 => Fbm.l6v1_0.g mk0 n m y0 y1 y2 y3 y4 y5)  x0 x1 x2 x3 x4 x5
def Fbm.l6v1_0.m (n m : Nat) (t : (Int × (LI × (LI × (Int × (LI × LI)))))) : Option (LI × (LI × (Int × (LI × LI)))) := Fbm.l6v1_0.g (fun a0 a1 a2 a3 a4 => (a0, a1, a2, a3, a4)) n m t.1 t.2.1 t.2.2.1 t.2.2.2.1 t.w.1 t.w.2
def Fbm.l6v1_0.pat : St → Option (Int × (LI × (LI × (Int × (LI × LI)))))
 | (St.mk [(.int .i64 x0), (.own 0 1), (.own 1 1), (.rints .i64 x1), (.rints .u64 x2), (.int .i64 x3)] [(some (.ints .u64 x4)), (some (.ints .u64 x5))]) => some (x0, x1, x2, x3, x4, x5)
 | _ => none
def Fbm.l6v1_0.shape (t : (Int × (LI × (LI × (Int × (LI × LI)))))) : St := (St.mk [(.int .i64 t.1), (.own 0 1), (.own 1 1), (.rints .i64 t.2.1), (.rints .u64 t.2.2.1), (.int .i64 t.2.2.2.1)] [(some (.ints .u64 t.w.1)), (some (.ints .u64 t.w.2))])
def Fbm.l6v1_0.res : (LI × (LI × (Int × (LI × LI)))) → Ex × St
 | u => ((.exit 2), (St.mk [(.own 0 1), (.own 1 1), (.rints .i64 u.1), (.rints .u64 u.2.1), (.int .i64 u.2.2.1)] [(some (.ints .u64 u.2.2.2.1)), (some (.ints .u64 u.w))]))
def Fbm.l15v1_0.r {α : Type} (mk0 : Int → LI → LI → Int → LI → LI → LI → α) (n : Nat) (rc : Int → Int → Int → LI → LI → Int → LI → LI → LI → Option α)  (x0 x1 x2 : Int) (x3 x4 : LI) (x5 : Int) (x6 x7 x8 : LI) : Option α :=
 if (decide (x0 < 5)) = true then
 if 0 ≤ (IntKind.wrap .i64 ((IntKind.wrap .i64 (5 * x0)) + x1)) then
 if (IntKind.wrap .i64 ((IntKind.wrap .i64 (5 * x0)) + x1)) < (x7.length : Int) then
 if 0 ≤ (IntKind.wrap .i64 ((IntKind.wrap .i64 (5 * x0)) + x1)) then
 if (IntKind.wrap .i64 ((IntKind.wrap .i64 (5 * x0)) + x1)) < (x3.length : Int) then
 bindO (Fbl.m n ((ibits BinOp.xor .u64 (List.getD x7 (Int.toNat (IntKind.wrap .i64 ((IntKind.wrap .i64 (5 * x0)) + x1))) 0) x2), (List.getD x3 (Int.toNat (IntKind.wrap .i64 ((IntKind.wrap .i64 (5 * x0)) + x1))) 0))) fun r14 =>
 if 0 ≤ (IntKind.wrap .i64 ((IntKind.wrap .i64 (5 * (Int.tmod (IntKind.wrap .i64 ((IntKind.wrap .i64 (2 * x1)) + (IntKind.wrap .i64 (3 * x0)))) 5))) + x0)) then
 if (IntKind.wrap .i64 ((IntKind.wrap .i64 (5 * (Int.tmod (IntKind.wrap .i64 ((IntKind.wrap .i64 (2 * x1)) + (IntKind.wrap .i64 (3 * x0)))) 5))) + x0)) < (x6.length : Int) then
 rc (IntKind.wrap .i64 (x0 + 1)) x1 x2 x3 x4 x5 (List.set x6 (Int.toNat (IntKind.wrap .i64 ((IntKind.wrap .i64 (5 * (Int.tmod (IntKind.wrap .i64 ((IntKind.wrap .i64 (2 * x1)) + (IntKind.wrap .i64 (3 * x0)))) 5))) + x0))) r14) x7 x8
 else
 none
 else
 none
 else
 none
 else
 none
 else
 none
 else
 none
 else
 some (mk0 x1 x3 x4 x5 x8 x6 x7)
def Fbm.l15v1_0.g {α : Type} (mk0 : Int → LI → LI → Int → LI → LI → LI → α) (n : Nat) : Nat → Int → Int → Int → LI → LI → Int → LI → LI → LI → Option α
 | 0, _, _, _, _, _, _, _, _, _ => none
 | m + 1, x0, x1, x2, x3, x4, x5, x6, x7, x8 => Fbm.l15v1_0.r mk0 n (fun y0 y1 y2 y3 y4 y5 y6 y7 y8 => Fbm.l15v1_0.g mk0 n m y0 y1 y2 y3 y4 y5 y6 y7 y8)  x0 x1 x2 x3 x4 x5 x6 x7 x8
def Fbm.l15v1_0.m (n m : Nat) (t : Ty17) : Option Ty27 := Fbm.l15v1_0.g (fun a0 a1 a2 a3 a4 a5 a6 => (a0, a1, a2, a3, a4, a5, a6)) n m t.1 t.2.1 t.2.2.1 t.2.2.2.1 t.w.1 t.w.2.1 t.w.2.2.1 t.w.2.2.2.1 t.x
def Fbm.l15v1_0.pat : St → Option Ty17
 | (St.mk [(.int .i64 x0), (.own 0 1), (.int .i64 x1), (.own 1 1), (.int .u64 x2), (.rints .i64 x3), (.own 2 1), (.rints .u64 x4), (.int .i64 x5)] [(some (.ints .u64 x6)), (some (.ints .u64 x7)), (some (.ints .u64 x8))]) => some (x0, x1, x2, x3, x4, x5, x6, x7, x8)
 | _ => none
def Fbm.l15v1_0.shape (t : Ty17) : St := (St.mk [(.int .i64 t.1), (.own 0 1), (.int .i64 t.2.1), (.own 1 1), (.int .u64 t.2.2.1), (.rints .i64 t.2.2.2.1), (.own 2 1), (.rints .u64 t.w.1), (.int .i64 t.w.2.1)] [(some (.ints .u64 t.w.2.2.1)), (some (.ints .u64 t.w.2.2.2.1)), (some (.ints .u64 t.x))])
def Fbm.l15v1_0.res : Ty27 → Ex × St
 | u => ((.exit 6), (St.mk [(.int .i64 u.1), (.own 0 1), (.own 1 1), (.own 2 1), (.rints .i64 u.2.1), (.rints .u64 u.2.2.1), (.int .i64 u.2.2.2.1)] [(some (.ints .u64 u.w.1)), (some (.ints .u64 u.w.2.1)), (some (.ints .u64 u.w.2.2))]))
def Fbm.l11v1_0.r {α : Type} (mk0 : LI → Int → LI → LI → α) (n : Nat) (rc : Int → LI → LI → Int → LI → LI → LI → Option α)  (x0 : Int) (x1 x2 : LI) (x3 : Int) (x4 x5 x6 : LI) : Option α :=
 if (decide (x0 < 5)) = true then
 if 0 ≤ (Int.tmod (IntKind.wrap .i64 (x0 + 4)) 5) then
 if (Int.tmod (IntKind.wrap .i64 (x0 + 4)) 5) < (x4.length : Int) then
 if 0 ≤ (Int.tmod (IntKind.wrap .i64 (x0 + 1)) 5) then
 if (Int.tmod (IntKind.wrap .i64 (x0 + 1)) 5) < (x4.length : Int) then
 bindO (Fbl.m n ((List.getD x4 (Int.toNat (Int.tmod (IntKind.wrap .i64 (x0 + 1)) 5)) 0), 1)) fun r14 =>
 bindO (Fbm.l15v1_0.m n n (0, x0, (ibits BinOp.xor .u64 (List.getD x4 (Int.toNat (Int.tmod (IntKind.wrap .i64 (x0 + 4)) 5)) 0) r14), x1, x2, x3, x5, x6, x4)) fun r16 =>
 rc (IntKind.wrap .i64 (r16.1 + 1)) r16.2.1 r16.2.2.1 r16.2.2.2.1 r16.w.1 r16.w.2.1 r16.w.2.2
 else
 none
 else
 none
 else
 none
 else
 none
 else
 some (mk0 x2 x3 x1 x5)
def Fbm.l11v1_0.g {α : Type} (mk0 : LI → Int → LI → LI → α) (n : Nat) : Nat → Int → LI → LI → Int → LI → LI → LI → Option α
 | 0, _, _, _, _, _, _, _ => none
 | m + 1, x0, x1, x2, x3, x4, x5, x6 => Fbm.l11v1_0.r mk0 n (fun y0 y1 y2 y3 y4 y5 y6 => Fbm.l11v1_0.g mk0 n m y0 y1 y2 y3 y4 y5 y6)  x0 x1 x2 x3 x4 x5 x6
def Fbm.l11v1_0.m (n m : Nat) (t : Ty27) : Option (LI × (Int × (LI × LI))) := Fbm.l11v1_0.g (fun a0 a1 a2 a3 => (a0, a1, a2, a3)) n m t.1 t.2.1 t.2.2.1 t.2.2.2.1 t.w.1 t.w.2.1 t.w.2.2
def Fbm.l11v1_0.pat : St → Option Ty27
 | (St.mk [(.int .i64 x0), (.own 0 1), (.own 1 1), (.own 2 1), (.rints .i64 x1), (.rints .u64 x2), (.int .i64 x3)] [(some (.ints .u64 x4)), (some (.ints .u64 x5)), (some (.ints .u64 x6))]) => some (x0, x1, x2, x3, x4, x5, x6)
 | _ => none
def Fbm.l11v1_0.shape (t : Ty27) : St := (St.mk [(.int .i64 t.1), (.own 0 1), (.own 1 1), (.own 2 1), (.rints .i64 t.2.1), (.rints .u64 t.2.2.1), (.int .i64 t.2.2.2.1)] [(some (.ints .u64 t.w.1)), (some (.ints .u64 t.w.2.1)), (some (.ints .u64 t.w.2.2))])
def Fbm.l11v1_0.res : (LI × (Int × (LI × LI))) → Ex × St
 | u => ((.exit 4), (St.mk [(.own 0 1), (.rints .u64 u.1), (.int .i64 u.2.1), (.rints .i64 u.2.2.1)] [(some (.ints .u64 u.2.2.2))]))
def Fbm.l2_1.r {α : Type} (mk0 : LI → α) (mk1 : LI → α) (n : Nat) (rc : Int → LI → LI → LI → Option α)  (x0 : Int) (x1 x2 x3 : LI) : Option α :=
 if (decide (x0 < 24)) = true then
 bindO (Fbm.l6v1_0.m n n (0, x1, x2, x0, [], x3)) fun r6 =>
 bindO (Fbm.l11v1_0.m n n (0, r6.1, r6.2.1, r6.2.2.1, r6.2.2.2.1, ([0, 0, 0, 0, 0, 0, 0, 0, 0, 0, 0, 0, 0, 0, 0, 0, 0, 0, 0, 0, 0, 0, 0, 0, 0] : List Int), r6.w)) fun r8 =>
 bindO (Fbm.l20_0.m n n (0, r8.1, r8.2.1, r8.2.2.1, [], r8.2.2.2)) fun r10 =>
 if 0 < (((List.length r10.2.2.2) : Nat) : Int) then
 if 0 ≤ r10.2.1 then
 if r10.2.1 < (((List.length r10.1) : Nat) : Int) then
 if 0 < (((List.length r10.2.2.2) : Nat) : Int) then
 rc (IntKind.wrap .i64 (r10.2.1 + 1)) r10.2.2.1 r10.1 (List.set r10.2.2.2 0 (ibits BinOp.xor .u64 (List.getD r10.2.2.2 0 0) (List.getD r10.1 (Int.toNat r10.2.1) 0)))
 else
 none
 else
 none
 else
 none
 else
 none
 else
 some (mk0 x3)
def Fbm.l2_1.g {α : Type} (mk0 : LI → α) (mk1 : LI → α) (n : Nat) : Nat → Int → LI → LI → LI → Option α
 | 0, _, _, _, _ => none
 | m + 1, x0, x1, x2, x3 => Fbm.l2_1.r mk0 mk1 n (fun y0 y1 y2 y3 => Fbm.l2_1.g mk0 mk1 n m y0 y1 y2 y3)  x0 x1 x2 x3
def Fbm.l2_1.shape (t : (Int × (LI × (LI × LI)))) : St := (St.mk [(.int .i64 t.1), (.own 0 1), (.rints .i64 t.2.1), (.rints .u64 t.2.2.1)] [(some (.ints .u64 t.2.2.2))])
def Fbm.l2_0.r {α : Type} (mk0 : LI → α) (mk1 : LI → α) (n : Nat) (rc : Int → LI → LI → LI → Option α) (rc0 : Int → LI → LI → LI → Option α) (x0 : Int) (x1 x2 x3 : LI) : Option α :=
 if (decide (x0 < 24)) = true then
 bindO (Fbm.l6_0.m n n (0, x1, x2, x3, x0, [])) fun r6 =>
 bindO (Fbm.l11_0.m n n (0, r6.1, r6.2.1, r6.2.2.1, r6.2.2.2.1, r6.w, ([0, 0, 0, 0, 0, 0, 0, 0, 0, 0, 0, 0, 0, 0, 0, 0, 0, 0, 0, 0, 0, 0, 0, 0, 0] : List Int))) fun r8 =>
 bindO (Fbm.l20_0.m n n (0, r8.1, r8.2.1, r8.2.2.1, [], r8.2.2.2)) fun r10 =>
 if 0 < (((List.length r10.2.2.2) : Nat) : Int) then
 if 0 ≤ r10.2.1 then
 if r10.2.1 < (((List.length r10.1) : Nat) : Int) then
 if 0 < (((List.length r10.2.2.2) : Nat) : Int) then
 rc0 (IntKind.wrap .i64 (r10.2.1 + 1)) r10.2.2.1 r10.1 (List.set r10.2.2.2 0 (ibits BinOp.xor .u64 (List.getD r10.2.2.2 0 0) (List.getD r10.1 (Int.toNat r10.2.1) 0)))
 else
 none
 else
 none
 else
 none
 else
 none
 else
 some (mk1 x1)
def Fbm.l2_0.g {α : Type} (mk0 : LI → α) (mk1 : LI → α) (n : Nat) : Nat → Int → LI → LI → LI → Option α
 | 0, _, _, _, _ => none
 | m + 1, x0, x1, x2, x3 => Fbm.l2_0.r mk0 mk1 n (fun y0 y1 y2 y3 => Fbm.l2_0.g mk0 mk1 n m y0 y1 y2 y3) (fun y0 y1 y2 y3 => Fbm.l2_1.g mk0 mk1 n m y0 y1 y2 y3) x0 x1 x2 x3
def Fbm.l2_0.m (n m : Nat) (t : (Int × (LI × (LI × LI)))) : Option (LI ⊕ LI) := Fbm.l2_0.g (fun a0 => (.inl a0)) (fun a0 => (.inr a0)) n m t.1 t.2.1 t.2.2.1 t.2.2.2
def Fbm.l2_0.pat : St → Option (Int × (LI × (LI × LI)))
 | (St.mk [(.int .i64 x0), (.rints .u64 x1), (.rints .i64 x2), (.rints .u64 x3)] []) => some (x0, x1, x2, x3)
 | _ => none
def Fbm.l2_0.shape (t : (Int × (LI × (LI × LI)))) : St := (St.mk [(.int .i64 t.1), (.rints .u64 t.2.1), (.rints .i64 t.2.2.1), (.rints .u64 t.2.2.2)] [])
def Fbm.l2_0.res : (LI ⊕ LI) → Ex × St
 | (.inl u) => ((.exit 0), (St.mk [(.own 0 1)] [(some (.ints .u64 u))]))
 | (.inr u) => ((.exit 0), (St.mk [(.rints .u64 u)] []))
def Fbm.l2_0.resK {R : Type} (u : (LI ⊕ LI)) (K : Ex → St → Option R) : Option R := match u with
 | (.inl u) => (fun p : Ex × St => K p.1 p.2) ((.exit 0), (St.mk [(.own 0 1)] [(some (.ints .u64 u))]))
 | (.inr u) => (fun p : Ex × St => K p.1 p.2) ((.exit 0), (St.mk [(.rints .u64 u)] []))
noncomputable def Fbm.A (n : Nat) : Ann := ⟨Tryz.f60.ntmps, 0, Fbm.live, [(0, (.ints .u64)), (1, (.ints .i64)), (2, (.ints .u64)), (8, (.ints .u64)), (10, (.ints .u64)), (14, (.ints .u64))], [(some (.ints .u64))], fun k => match k with
 | 6 => some (.alt Fbm.l6_0.pat (.mk' Fbm.l6_0.pat (Fbm.l6_0.m n n) (resKl Fbm.l6_0.res)) (.mk' Fbm.l6v1_0.pat (Fbm.l6v1_0.m n n) (resKl Fbm.l6v1_0.res)))
 | 15 => some (.alt Fbm.l15_0.pat (.mk' Fbm.l15_0.pat (Fbm.l15_0.m n n) (resKl Fbm.l15_0.res)) (.mk' Fbm.l15v1_0.pat (Fbm.l15v1_0.m n n) (resKl Fbm.l15v1_0.res)))
 | 11 => some (.alt Fbm.l11_0.pat (.mk' Fbm.l11_0.pat (Fbm.l11_0.m n n) (resKl Fbm.l11_0.res)) (.mk' Fbm.l11v1_0.pat (Fbm.l11v1_0.m n n) (resKl Fbm.l11v1_0.res)))
 | 23 => some (.mk' Fbm.l23_0.pat (Fbm.l23_0.m n n) (resKl Fbm.l23_0.res))
 | 20 => some (.mk' Fbm.l20_0.pat (Fbm.l20_0.m n n) (resKl Fbm.l20_0.res))
 | 2 => some (.mk' Fbm.l2_0.pat (Fbm.l2_0.m n n) Fbm.l2_0.resK)
 | _ => none, noNL, lookJ []⟩
noncomputable def Fbm.b0 : Code := (loopsIn (Tryz.f60.body.getD .skip)).getD 0 .skip
noncomputable def Fbm.b1 : Code := (loopsIn (Tryz.f60.body.getD .skip)).getD 1 .skip
noncomputable def Fbm.b2 : Code := (loopsIn (Tryz.f60.body.getD .skip)).getD 2 .skip
noncomputable def Fbm.b3 : Code := (loopsIn (Tryz.f60.body.getD .skip)).getD 3 .skip
noncomputable def Fbm.b4 : Code := (loopsIn (Tryz.f60.body.getD .skip)).getD 4 .skip
noncomputable def Fbm.b5 : Code := (loopsIn (Tryz.f60.body.getD .skip)).getD 5 .skip
def Fbm.g {α : Type} (mk0 : LI → α) (mk1 : LI → α) (n : Nat) (a0 a1 a2 : LI) : Option α :=
 bindO (Fbm.l2_0.m n n (0, a0, a1, a2)) fun r2 => match r2 with
  | (.inl r2) =>
   some (mk0 r2)
  | (.inr r2) =>
   some (mk1 r2)
def Fbm.m (n : Nat) (t : (LI × (LI × LI))) : Option (LI ⊕ LI) := Fbm.g (fun a0 => (.inl a0)) (fun a0 => (.inr a0)) n t.1 t.2.1 t.2.2
def Fbm.pat : List AV → Blks → Option (LI × (LI × LI))
 | [(.rints .u64 a0), (.rints .i64 a1), (.rints .u64 a2)], [] => some (a0, a1, a2)
 | _, _ => none
def Fbm.shape (t : (LI × (LI × LI))) : List AV × Blks := ([(.rints .u64 t.1), (.rints .i64 t.2.1), (.rints .u64 t.2.2)], [])
def Fbm.res : (LI ⊕ LI) → AV × Blks
 | (.inl u) => ((.own 0 1), [(some (.ints .u64 u))])
 | (.inr u) => ((.rints .u64 u), [])
def Fbm.resK {R : Type} (u : (LI ⊕ LI)) (K : AV → Blks → Option R) : Option R := match u with
 | (.inl u) => (fun p : AV × Blks => K p.1 p.2) ((.own 0 1), [(some (.ints .u64 u))])
 | (.inr u) => (fun p : AV × Blks => K p.1 p.2) ((.rints .u64 u), [])
def Fbm.c (n : Nat) : Abs.Callee := .mk' [] [(some (.ints .u64)), (some (.ints .i64)), (some (.ints .u64))] Fbm.pat (Fbm.m n) Fbm.resK
noncomputable def Fbi.C (n : Nat) : Ctx := ⟨Tryz.prog, dskG, lookC [], fun _ => false⟩
def Fbi.live : NL := fun k => match k with
 | 4 => ([5, 4, 3, 0, 2], [3, 2])
 | _ => ([], [])
def Fbi.l4_0.r {α : Type} (mk0 : LI → LI → α) (n : Nat) (rc : Int → Int → LI → LI → LI → Option α)  (x0 x1 : Int) (x2 x3 x4 : LI) : Option α :=
 if (decide (x0 < 32)) = true then
 if (decide (x0 < x1)) = true then
 if 0 ≤ (IntKind.wrap .i64 (Int.tdiv x0 8)) then
 if (IntKind.wrap .i64 (Int.tdiv x0 8)) < 4 then
 if 0 ≤ (IntKind.wrap .i64 ((IntKind.wrap .i64 (x1 - 1)) - x0)) then
 if (IntKind.wrap .i64 ((IntKind.wrap .i64 (x1 - 1)) - x0)) < (x2.length : Int) then
 if 0 ≤ (IntKind.wrap .u64 (IntKind.wrap .i64 ((Int.tmod x0 8) * 8))) then
 if 0 ≤ (IntKind.wrap .i64 (Int.tdiv x0 8)) then
 if (IntKind.wrap .i64 (Int.tdiv x0 8)) < 4 then
 rc (IntKind.wrap .i64 (x0 + 1)) x1 x2 (List.set x3 (Int.toNat (IntKind.wrap .i64 (Int.tdiv x0 8))) (ibits BinOp.or .u64 (List.getD x3 (Int.toNat (IntKind.wrap .i64 (Int.tdiv x0 8))) 0) (ishl .u64 (IntKind.wrap .u64 (List.getD x2 (Int.toNat (IntKind.wrap .i64 ((IntKind.wrap .i64 (x1 - 1)) - x0))) 0)) (IntKind.wrap .u64 (IntKind.wrap .i64 ((Int.tmod x0 8) * 8)))))) x4
 else
 none
 else
 none
 else
 none
 else
 none
 else
 none
 else
 none
 else
 none
 else
 some (mk0 x3 x4)
 else
 some (mk0 x3 x4)
def Fbi.l4_0.g {α : Type} (mk0 : LI → LI → α) (n : Nat) : Nat → Int → Int → LI → LI → LI → Option α
 | 0, _, _, _, _, _ => none
 | m + 1, x0, x1, x2, x3, x4 => Fbi.l4_0.r mk0 n (fun y0 y1 y2 y3 y4 => Fbi.l4_0.g mk0 n m y0 y1 y2 y3 y4)  x0 x1 x2 x3 x4
def Fbi.l4_0.m (n m : Nat) (t : (Int × (Int × (LI × (LI × LI))))) : Option (LI × LI) := Fbi.l4_0.g (fun a0 a1 => (a0, a1)) n m t.1 t.2.1 t.2.2.1 t.2.2.2.1 t.w
def Fbi.l4_0.pat : St → Option (Int × (Int × (LI × (LI × LI))))
 | (St.mk [(.int .i64 x0), (.int .i64 x1), (.ptr 0 []), (.rints .u8 x2), (.ptr 1 [])] [(some (.var (.ints .u64 4 x3))), (some (.var (.ints .u64 4 x4)))]) => some (x0, x1, x2, x3, x4)
 | _ => none
def Fbi.l4_0.shape (t : (Int × (Int × (LI × (LI × LI))))) : St := (St.mk [(.int .i64 t.1), (.int .i64 t.2.1), (.ptr 0 []), (.rints .u8 t.2.2.1), (.ptr 1 [])] [(some (.var (.ints .u64 4 t.2.2.2.1))), (some (.var (.ints .u64 4 t.w)))])
def Fbi.l4_0.res : (LI × LI) → Ex × St
 | u => ((.exit 0), (St.mk [(.ptr 0 []), (.ptr 1 [])] [(some (.var (.ints .u64 4 u.1))), (some (.var (.ints .u64 4 u.2)))]))
noncomputable def Fbi.A (n : Nat) : Ann := ⟨Tryz.f61.ntmps, 0, Fbi.live, [(0, (.ints .u8))], [none], fun k => match k with
 | 4 => some (.mk' Fbi.l4_0.pat (Fbi.l4_0.m n n) (resKl Fbi.l4_0.res))
 | _ => none, noNL, lookJ []⟩
noncomputable def Fbi.b0 : Code := (loopsIn (Tryz.f61.body.getD .skip)).getD 0 .skip
def Fbi.g {α : Type} (mk0 : LI → α) (n : Nat) (a0 : LI) : Option α :=
 bindO (Fbi.l4_0.m n n (0, (a0.length : Int), a0, [0, 0, 0, 0], [0, 0, 0, 0])) fun r2 =>
 some (mk0 r2.1)
def Fbi.m (n : Nat) (t : LI) : Option LI := Fbi.g (fun a0 => a0) n t
def Fbi.pat : List AV → Blks → Option LI
 | [(.rints .u8 a0)], [] => some a0
 | _, _ => none
def Fbi.shape (t : LI) : List AV × Blks := ([(.rints .u8 t)], [])
def Fbi.res : LI → AV × Blks
 | u => ((.ints .u64 4 u), [])
def Fbi.c (n : Nat) : Abs.Callee := .mk' [] [(some (.ints .u8))] Fbi.pat (Fbi.m n) (resKof Fbi.res)
noncomputable def Fbn.C (n : Nat) : Ctx := ⟨Tryz.prog, dskG, lookC [(58, Fay.c n), (59, Fbh.c n), (60, Fbm.c n), (61, Fbi.c n)], fun _ => false⟩
def Fbn.live : NL := fun k => match k with
 | 4 => ([3, 2], [3, 2])
 | 11 => ([7, 3, 6, 4, 5, 2], [6, 2])
 | 14 => ([8, 6, 3, 7, 4, 5, 2], [6, 4, 5, 7, 3, 2])
 | 17 => ([9, 6, 8, 3, 7, 4, 5, 2], [8, 6, 3, 7, 4, 5, 2])
 | 23 => ([11, 10, 6, 2], [10, 2])
 | 26 => ([12, 10, 6, 11, 2], [11, 10, 6, 2])
 | _ => ([], [])
def Fbn.l4_0.r {α : Type} (mk0 : LI → LI → α) (n : Nat) (rc : LI → LI → Option α)  (x0 x1 : LI) : Option α :=
 if ((Int.tmod (x0.length : Int) 136) != 0) = true then
 if ((((List.length x0) + 1) * 1) ≤ 70368744177664 ∧ ((List.length x0) + 1) ≤ 9223372036854775807) then
 rc (x0 ++ [0]) x1
 else
 none
 else
 some (mk0 x0 x1)
def Fbn.l4_0.g {α : Type} (mk0 : LI → LI → α) (n : Nat) : Nat → LI → LI → Option α
 | 0, _, _ => none
 | m + 1, x0, x1 => Fbn.l4_0.r mk0 n (fun y0 y1 => Fbn.l4_0.g mk0 n m y0 y1)  x0 x1
def Fbn.l4_0.m (n m : Nat) (t : (LI × LI)) : Option (LI × LI) := Fbn.l4_0.g (fun a0 a1 => (a0, a1)) n m t.1 t.2
def Fbn.l4_0.pat : St → Option (LI × LI)
 | (St.mk [(.own 0 1), (.ptr 1 [])] [(some (.ints .u8 x0)), (some (.var (.ints .u64 4 x1)))]) => some (x0, x1)
 | _ => none
def Fbn.l4_0.shape (t : (LI × LI)) : St := (St.mk [(.own 0 1), (.ptr 1 [])] [(some (.ints .u8 t.1)), (some (.var (.ints .u64 4 t.2)))])
def Fbn.l4_0.res : (LI × LI) → Ex × St
 | u => ((.exit 0), (St.mk [(.own 0 1), (.ptr 1 [])] [(some (.ints .u8 u.1)), (some (.var (.ints .u64 4 u.2)))]))
def Fbn.l17_0.r {α : Type} (mk0 : Int → Int → LI → LI → LI → LI → LI → α) (n : Nat) (rc : Int → Int → Int → LI → LI → LI → LI → LI → Option α)  (x0 x1 x2 : Int) (x3 x4 : LI) (x5 x6 x7 : LI) : Option α :=
 if (decide (x0 < 8)) = true then
 if 0 ≤ x1 then
 if x1 < (x3.length : Int) then
 if 0 ≤ (IntKind.wrap .i64 ((IntKind.wrap .i64 (x2 + (IntKind.wrap .i64 (8 * x1)))) + x0)) then
 if (IntKind.wrap .i64 ((IntKind.wrap .i64 (x2 + (IntKind.wrap .i64 (8 * x1)))) + x0)) < (x4.length : Int) then
 if 0 ≤ (IntKind.wrap .u64 (IntKind.wrap .i64 (8 * x0))) then
 if 0 ≤ x1 then
 if x1 < (x3.length : Int) then
 rc (IntKind.wrap .i64 (x0 + 1)) x1 x2 (List.set x3 (Int.toNat x1) (ibits BinOp.xor .u64 (List.getD x3 (Int.toNat x1) 0) (ishl .u64 (IntKind.wrap .u64 (List.getD x4 (Int.toNat (IntKind.wrap .i64 ((IntKind.wrap .i64 (x2 + (IntKind.wrap .i64 (8 * x1)))) + x0))) 0)) (IntKind.wrap .u64 (IntKind.wrap .i64 (8 * x0)))))) x4 x5 x6 x7
 else
 none
 else
 none
 else
 none
 else
 none
 else
 none
 else
 none
 else
 none
 else
 some (mk0 x1 x2 x3 x4 x5 x6 x7)
def Fbn.l17_0.g {α : Type} (mk0 : Int → Int → LI → LI → LI → LI → LI → α) (n : Nat) : Nat → Int → Int → Int → LI → LI → LI → LI → LI → Option α
 | 0, _, _, _, _, _, _, _, _ => none
 | m + 1, x0, x1, x2, x3, x4, x5, x6, x7 => Fbn.l17_0.r mk0 n (fun y0 y1 y2 y3 y4 y5 y6 y7 => Fbn.l17_0.g mk0 n m y0 y1 y2 y3 y4 y5 y6 y7)  x0 x1 x2 x3 x4 x5 x6 x7
def Fbn.l17_0.m (n m : Nat) (t : Ty20) : Option Ty28 := Fbn.l17_0.g (fun a0 a1 a2 a3 a4 a5 a6 => (a0, a1, a2, a3, a4, a5, a6)) n m t.1 t.2.1 t.2.2.1 t.2.2.2.1 t.w.1 t.w.2.1 t.w.2.2.1 t.w.2.2.2
def Fbn.l17_0.pat : St → Option Ty20
 | (St.mk [(.int .i64 x0), (.own 0 1), (.int .i64 x1), (.own 1 1), (.int .i64 x2), (.own 2 1), (.own 3 1), (.ptr 4 [])] [(some (.ints .u64 x3)), (some (.ints .u8 x4)), (some (.ints .i64 x5)), (some (.ints .u64 x6)), (some (.var (.ints .u64 4 x7)))]) => some (x0, x1, x2, x3, x4, x5, x6, x7)
 | _ => none
def Fbn.l17_0.shape (t : Ty20) : St := (St.mk [(.int .i64 t.1), (.own 0 1), (.int .i64 t.2.1), (.own 1 1), (.int .i64 t.2.2.1), (.own 2 1), (.own 3 1), (.ptr 4 [])] [(some (.ints .u64 t.2.2.2.1)), (some (.ints .u8 t.w.1)), (some (.ints .i64 t.w.2.1)), (some (.ints .u64 t.w.2.2.1)), (some (.var (.ints .u64 4 t.w.2.2.2)))])
def Fbn.l17_0.res : Ty28 → Ex × St
 | u => ((.exit 6), (St.mk [(.int .i64 u.1), (.own 0 1), (.own 1 1), (.int .i64 u.2.1), (.own 2 1), (.own 3 1), (.ptr 4 [])] [(some (.ints .u64 u.2.2.1)), (some (.ints .u8 u.2.2.2.1)), (some (.ints .i64 u.w.1)), (some (.ints .u64 u.w.2.1)), (some (.var (.ints .u64 4 u.w.2.2)))]))
def Fbn.l14_0.r {α : Type} (mk0 : Int → LI → LI → LI → LI → LI → α) (n : Nat) (rc : Int → Int → LI → LI → LI → LI → LI → Option α)  (x0 x1 : Int) (x2 x3 : LI) (x4 x5 x6 : LI) : Option α :=
 if (decide (x0 < 17)) = true then
 bindO (Fbn.l17_0.m n n (0, x0, x1, x2, x3, x4, x5, x6)) fun r6 =>
 rc (IntKind.wrap .i64 (r6.1 + 1)) r6.2.1 r6.2.2.1 r6.2.2.2.1 r6.w.1 r6.w.2.1 r6.w.2.2
 else
 some (mk0 x1 x2 x4 x5 x3 x6)
def Fbn.l14_0.g {α : Type} (mk0 : Int → LI → LI → LI → LI → LI → α) (n : Nat) : Nat → Int → Int → LI → LI → LI → LI → LI → Option α
 | 0, _, _, _, _, _, _, _ => none
 | m + 1, x0, x1, x2, x3, x4, x5, x6 => Fbn.l14_0.r mk0 n (fun y0 y1 y2 y3 y4 y5 y6 => Fbn.l14_0.g mk0 n m y0 y1 y2 y3 y4 y5 y6)  x0 x1 x2 x3 x4 x5 x6
def Fbn.l14_0.m (n m : Nat) (t : Ty28) : Option (Int × (LI × (LI × (LI × (LI × LI))))) := Fbn.l14_0.g (fun a0 a1 a2 a3 a4 a5 => (a0, a1, a2, a3, a4, a5)) n m t.1 t.2.1 t.2.2.1 t.2.2.2.1 t.w.1 t.w.2.1 t.w.2.2
def Fbn.l14_0.pat : St → Option Ty28
 | (St.mk [(.int .i64 x0), (.own 0 1), (.own 1 1), (.int .i64 x1), (.own 2 1), (.own 3 1), (.ptr 4 [])] [(some (.ints .u64 x2)), (some (.ints .u8 x3)), (some (.ints .i64 x4)), (some (.ints .u64 x5)), (some (.var (.ints .u64 4 x6)))]) => some (x0, x1, x2, x3, x4, x5, x6)
 | _ => none
def Fbn.l14_0.shape (t : Ty28) : St := (St.mk [(.int .i64 t.1), (.own 0 1), (.own 1 1), (.int .i64 t.2.1), (.own 2 1), (.own 3 1), (.ptr 4 [])] [(some (.ints .u64 t.2.2.1)), (some (.ints .u8 t.2.2.2.1)), (some (.ints .i64 t.w.1)), (some (.ints .u64 t.w.2.1)), (some (.var (.ints .u64 4 t.w.2.2)))])
def Fbn.l14_0.res : (Int × (LI × (LI × (LI × (LI × LI))))) → Ex × St
 | u => ((.exit 4), (St.mk [(.own 0 1), (.own 1 1), (.own 2 1), (.int .i64 u.1), (.own 3 1), (.ptr 4 [])] [(some (.ints .u64 u.2.1)), (some (.ints .i64 u.2.2.1)), (some (.ints .u64 u.2.2.2.1)), (some (.ints .u8 u.w.1)), (some (.var (.ints .u64 4 u.w.2)))]))
def Fbn.l11_0.r {α : Type} (mk0 : LI → LI → α) (n : Nat) (rc : Int → LI → LI → LI → LI → LI → Option α)  (x0 : Int) (x1 x2 : LI) (x3 x4 x5 : LI) : Option α :=
  if (decide (x0 < (x1.length : Int))) = true then
   bindO (Fbn.l14_0.m n n (0, x0, x2, x1, x3, x4, x5)) fun r6 =>
    bindO (Fbm.m n (r6.2.1, r6.2.2.1, r6.2.2.2.1)) fun r8 => match r8 with
     | (.inl r8) =>
      rc (IntKind.wrap .i64 (r6.1 + 136)) r6.w.1 r8 r6.2.2.1 r6.2.2.2.1 r6.w.2
     | (.inr r8) =>
      none
  else
   some (mk0 x2 x5)
def Fbn.l11_0.g {α : Type} (mk0 : LI → LI → α) (n : Nat) : Nat → Int → LI → LI → LI → LI → LI → Option α
 | 0, _, _, _, _, _, _ => none
 | m + 1, x0, x1, x2, x3, x4, x5 => Fbn.l11_0.r mk0 n (fun y0 y1 y2 y3 y4 y5 => Fbn.l11_0.g mk0 n m y0 y1 y2 y3 y4 y5)  x0 x1 x2 x3 x4 x5
def Fbn.l11_0.m (n m : Nat) (t : (Int × (LI × (LI × (LI × (LI × LI)))))) : Option (LI × LI) := Fbn.l11_0.g (fun a0 a1 => (a0, a1)) n m t.1 t.2.1 t.2.2.1 t.2.2.2.1 t.w.1 t.w.2
def Fbn.l11_0.pat : St → Option (Int × (LI × (LI × (LI × (LI × LI)))))
 | (St.mk [(.int .i64 x0), (.own 0 1), (.own 1 1), (.own 2 1), (.own 3 1), (.ptr 4 [])] [(some (.ints .u8 x1)), (some (.ints .u64 x2)), (some (.ints .i64 x3)), (some (.ints .u64 x4)), (some (.var (.ints .u64 4 x5)))]) => some (x0, x1, x2, x3, x4, x5)
 | _ => none
def Fbn.l11_0.shape (t : (Int × (LI × (LI × (LI × (LI × LI)))))) : St := (St.mk [(.int .i64 t.1), (.own 0 1), (.own 1 1), (.own 2 1), (.own 3 1), (.ptr 4 [])] [(some (.ints .u8 t.2.1)), (some (.ints .u64 t.2.2.1)), (some (.ints .i64 t.2.2.2.1)), (some (.ints .u64 t.w.1)), (some (.var (.ints .u64 4 t.w.2)))])
def Fbn.l11_0.res : (LI × LI) → Ex × St
 | u => ((.exit 2), (St.mk [(.own 0 1), (.ptr 1 [])] [(some (.ints .u64 u.1)), (some (.var (.ints .u64 4 u.2)))]))
def Fbn.l26_0.r {α : Type} (mk0 : Int → LI → LI → LI → α) (n : Nat) (rc : Int → Int → LI → LI → LI → Option α)  (x0 x1 : Int) (x2 x3 x4 : LI) : Option α :=
 if (decide (x0 < 8)) = true then
 if 0 ≤ x1 then
 if x1 < (x3.length : Int) then
 if 0 ≤ (IntKind.wrap .u64 (IntKind.wrap .i64 (8 * x0))) then
 if ((((List.length x2) + 1) * 1) ≤ 70368744177664 ∧ ((List.length x2) + 1) ≤ 9223372036854775807) then
 rc (IntKind.wrap .i64 (x0 + 1)) x1 (x2 ++ [(IntKind.wrap .u8 (ishr .u64 (List.getD x3 (Int.toNat x1) 0) (IntKind.wrap .u64 (IntKind.wrap .i64 (8 * x0)))))]) x3 x4
 else
 none
 else
 none
 else
 none
 else
 none
 else
 some (mk0 x1 x2 x3 x4)
def Fbn.l26_0.g {α : Type} (mk0 : Int → LI → LI → LI → α) (n : Nat) : Nat → Int → Int → LI → LI → LI → Option α
 | 0, _, _, _, _, _ => none
 | m + 1, x0, x1, x2, x3, x4 => Fbn.l26_0.r mk0 n (fun y0 y1 y2 y3 y4 => Fbn.l26_0.g mk0 n m y0 y1 y2 y3 y4)  x0 x1 x2 x3 x4
def Fbn.l26_0.m (n m : Nat) (t : (Int × (Int × (LI × (LI × LI))))) : Option (Int × (LI × (LI × LI))) := Fbn.l26_0.g (fun a0 a1 a2 a3 => (a0, a1, a2, a3)) n m t.1 t.2.1 t.2.2.1 t.2.2.2.1 t.w
def Fbn.l26_0.pat : St → Option (Int × (Int × (LI × (LI × LI))))
 | (St.mk [(.int .i64 x0), (.own 0 1), (.own 1 1), (.int .i64 x1), (.ptr 2 [])] [(some (.ints .u8 x2)), (some (.ints .u64 x3)), (some (.var (.ints .u64 4 x4)))]) => some (x0, x1, x2, x3, x4)
 | _ => none
def Fbn.l26_0.shape (t : (Int × (Int × (LI × (LI × LI))))) : St := (St.mk [(.int .i64 t.1), (.own 0 1), (.own 1 1), (.int .i64 t.2.1), (.ptr 2 [])] [(some (.ints .u8 t.2.2.1)), (some (.ints .u64 t.2.2.2.1)), (some (.var (.ints .u64 4 t.w)))])
def Fbn.l26_0.res : (Int × (LI × (LI × LI))) → Ex × St
 | u => ((.exit 10), (St.mk [(.int .i64 u.1), (.own 0 1), (.own 1 1), (.ptr 2 [])] [(some (.ints .u8 u.2.1)), (some (.ints .u64 u.2.2.1)), (some (.var (.ints .u64 4 u.2.2.2)))]))
def Fbn.l23_0.r {α : Type} (mk0 : LI → LI → α) (n : Nat) (rc : Int → LI → LI → LI → Option α)  (x0 : Int) (x1 x2 x3 : LI) : Option α :=
 if (decide (x0 < 4)) = true then
 bindO (Fbn.l26_0.m n n (0, x0, x1, x2, x3)) fun r6 =>
 rc (IntKind.wrap .i64 (r6.1 + 1)) r6.2.1 r6.2.2.1 r6.2.2.2
 else
 some (mk0 x1 x3)
def Fbn.l23_0.g {α : Type} (mk0 : LI → LI → α) (n : Nat) : Nat → Int → LI → LI → LI → Option α
 | 0, _, _, _, _ => none
 | m + 1, x0, x1, x2, x3 => Fbn.l23_0.r mk0 n (fun y0 y1 y2 y3 => Fbn.l23_0.g mk0 n m y0 y1 y2 y3)  x0 x1 x2 x3
def Fbn.l23_0.m (n m : Nat) (t : (Int × (LI × (LI × LI)))) : Option (LI × LI) := Fbn.l23_0.g (fun a0 a1 => (a0, a1)) n m t.1 t.2.1 t.2.2.1 t.2.2.2
def Fbn.l23_0.pat : St → Option (Int × (LI × (LI × LI)))
 | (St.mk [(.int .i64 x0), (.own 0 1), (.own 1 1), (.ptr 2 [])] [(some (.ints .u8 x1)), (some (.ints .u64 x2)), (some (.var (.ints .u64 4 x3)))]) => some (x0, x1, x2, x3)
 | _ => none
def Fbn.l23_0.shape (t : (Int × (LI × (LI × LI)))) : St := (St.mk [(.int .i64 t.1), (.own 0 1), (.own 1 1), (.ptr 2 [])] [(some (.ints .u8 t.2.1)), (some (.ints .u64 t.2.2.1)), (some (.var (.ints .u64 4 t.2.2.2)))])
def Fbn.l23_0.res : (LI × LI) → Ex × St
 | u => ((.exit 8), (St.mk [(.own 0 1), (.ptr 1 [])] [(some (.ints .u8 u.1)), (some (.var (.ints .u64 4 u.2)))]))
noncomputable def Fbn.A (n : Nat) : Ann := ⟨Tryz.f43.ntmps, 0, Fbn.live, [(3, (.ints .u8)), (4, (.ints .i64)), (5, (.ints .u64)), (6, (.ints .u64)), (10, (.ints .u8))], [none], fun k => match k with
 | 4 => some (.mk' Fbn.l4_0.pat (Fbn.l4_0.m n n) (resKl Fbn.l4_0.res))
 | 17 => some (.mk' Fbn.l17_0.pat (Fbn.l17_0.m n n) (resKl Fbn.l17_0.res))
 | 14 => some (.mk' Fbn.l14_0.pat (Fbn.l14_0.m n n) (resKl Fbn.l14_0.res))
 | 11 => some (.mk' Fbn.l11_0.pat (Fbn.l11_0.m n n) (resKl Fbn.l11_0.res))
 | 26 => some (.mk' Fbn.l26_0.pat (Fbn.l26_0.m n n) (resKl Fbn.l26_0.res))
 | 23 => some (.mk' Fbn.l23_0.pat (Fbn.l23_0.m n n) (resKl Fbn.l23_0.res))
 | _ => none, noNL, lookJ []⟩
noncomputable def Fbn.b0 : Code := (loopsIn (Tryz.f43.body.getD .skip)).getD 0 .skip
noncomputable def Fbn.b1 : Code := (loopsIn (Tryz.f43.body.getD .skip)).getD 1 .skip
noncomputable def Fbn.b2 : Code := (loopsIn (Tryz.f43.body.getD .skip)).getD 2 .skip
noncomputable def Fbn.b3 : Code := (loopsIn (Tryz.f43.body.getD .skip)).getD 3 .skip
noncomputable def Fbn.b4 : Code := (loopsIn (Tryz.f43.body.getD .skip)).getD 4 .skip
noncomputable def Fbn.b5 : Code := (loopsIn (Tryz.f43.body.getD .skip)).getD 5 .skip
def Fbn.g {α : Type} (mk0 : LI → α) (n : Nat) (a0 : LI) : Option α :=
 if (((List.length a0) * 1) ≤ 70368744177664 ∧ (List.length a0) ≤ 9223372036854775807) then
 if ((((List.length a0) + 1) * 1) ≤ 70368744177664 ∧ ((List.length a0) + 1) ≤ 9223372036854775807) then
 bindO (Fbn.l4_0.m n n ((a0 ++ [1]), [0, 0, 0, 0])) fun r6 =>
 if 0 ≤ (IntKind.wrap .i64 ((((List.length r6.1) : Nat) : Int) - 1)) then
 if (IntKind.wrap .i64 ((((List.length r6.1) : Nat) : Int) - 1)) < (((List.length r6.1) : Nat) : Int) then
 if 0 ≤ (IntKind.wrap .i64 ((((List.length r6.1) : Nat) : Int) - 1)) then
 if (IntKind.wrap .i64 ((((List.length r6.1) : Nat) : Int) - 1)) < (((List.length r6.1) : Nat) : Int) then
 bindO (Fay.m n Unit.unit) fun r16 =>
 bindO (Fbh.m n Unit.unit) fun r18 =>
 bindO (Fbn.l11_0.m n n (0, (List.set r6.1 (Int.toNat (IntKind.wrap .i64 ((((List.length r6.1) : Nat) : Int) - 1))) (ibits BinOp.xor .u8 (List.getD r6.1 (Int.toNat (IntKind.wrap .i64 ((((List.length r6.1) : Nat) : Int) - 1))) 0) 128)), ([0, 0, 0, 0, 0, 0, 0, 0, 0, 0, 0, 0, 0, 0, 0, 0, 0, 0, 0, 0, 0, 0, 0, 0, 0] : List Int), r16, r18, r6.2)) fun r20 =>
 bindO (Fbn.l23_0.m n n (0, [], r20.1, r20.2)) fun r22 =>
 bindO (Fbi.m n r22.1) fun r24 =>
 some (mk0 r24)
 else
 none
 else
 none
 else
 none
 else
 none
 else
 none
 else
 none
def Fbn.m (n : Nat) (t : LI) : Option LI := Fbn.g (fun a0 => a0) n t
def Fbn.pat : List AV → Blks → Option LI
 | [(.rints .u8 a0)], [] => some a0
 | _, _ => none
def Fbn.shape (t : LI) : List AV × Blks := ([(.rints .u8 t)], [])
def Fbn.res : LI → AV × Blks
 | u => ((.ints .u64 4 u), [])
def Fbn.c (n : Nat) : Abs.Callee := .mk' [] [(some (.ints .u8))] Fbn.pat (Fbn.m n) (resKof Fbn.res)
noncomputable def Faz.C (n : Nat) : Ctx := ⟨Tryz.prog, dskG, lookC [], fun _ => false⟩
def Faz.live : NL := fun k => match k with
 | 3 => ([4, 3, 1], [3])
 | _ => ([], [])
def Faz.l3_0.r {α : Type} (mk0 : LI → α) (n : Nat) (rc : Int → LI → LI → Option α)  (x0 : Int) (x1 x2 : LI) : Option α :=
 if (decide (x0 < 32)) = true then
 if 0 ≤ (IntKind.wrap .i64 (Int.tdiv (IntKind.wrap .i64 (31 - x0)) 8)) then
 if (IntKind.wrap .i64 (Int.tdiv (IntKind.wrap .i64 (31 - x0)) 8)) < 4 then
 if 0 ≤ (IntKind.wrap .u64 (IntKind.wrap .i64 ((Int.tmod (IntKind.wrap .i64 (31 - x0)) 8) * 8))) then
 if ((((List.length x1) + 1) * 1) ≤ 70368744177664 ∧ ((List.length x1) + 1) ≤ 9223372036854775807) then
 rc (IntKind.wrap .i64 (x0 + 1)) (x1 ++ [(IntKind.wrap .u8 (ishr .u64 (List.getD x2 (Int.toNat (IntKind.wrap .i64 (Int.tdiv (IntKind.wrap .i64 (31 - x0)) 8))) 0) (IntKind.wrap .u64 (IntKind.wrap .i64 ((Int.tmod (IntKind.wrap .i64 (31 - x0)) 8) * 8)))))]) x2
 else
 none
 else
 none
 else
 none
 else
 none
 else
 some (mk0 x1)
def Faz.l3_0.g {α : Type} (mk0 : LI → α) (n : Nat) : Nat → Int → LI → LI → Option α
 | 0, _, _, _ => none
 | m + 1, x0, x1, x2 => Faz.l3_0.r mk0 n (fun y0 y1 y2 => Faz.l3_0.g mk0 n m y0 y1 y2)  x0 x1 x2
def Faz.l3_0.m (n m : Nat) (t : (Int × (LI × LI))) : Option LI := Faz.l3_0.g (fun a0 => a0) n m t.1 t.2.1 t.2.2
def Faz.l3_0.pat : St → Option (Int × (LI × LI))
 | (St.mk [(.int .i64 x0), (.own 0 1), (.ptr 1 [])] [(some (.ints .u8 x1)), (some (.var (.ints .u64 4 x2)))]) => some (x0, x1, x2)
 | _ => none
def Faz.l3_0.shape (t : (Int × (LI × LI))) : St := (St.mk [(.int .i64 t.1), (.own 0 1), (.ptr 1 [])] [(some (.ints .u8 t.2.1)), (some (.var (.ints .u64 4 t.2.2)))])
def Faz.l3_0.res : LI → Ex × St
 | u => ((.exit 0), (St.mk [(.own 0 1)] [(some (.ints .u8 u))]))
noncomputable def Faz.A (n : Nat) : Ann := ⟨Tryz.f42.ntmps, 0, Faz.live, [(3, (.ints .u8))], [(some (.ints .u8))], fun k => match k with
 | 3 => some (.mk' Faz.l3_0.pat (Faz.l3_0.m n n) (resKl Faz.l3_0.res))
 | _ => none, noNL, lookJ []⟩
noncomputable def Faz.b0 : Code := (loopsIn (Tryz.f42.body.getD .skip)).getD 0 .skip
def Faz.g {α : Type} (mk0 : LI → α) (n : Nat) (a0 : LI) : Option α :=
 bindO (Faz.l3_0.m n n (0, [], a0)) fun r2 =>
 some (mk0 r2)
def Faz.m (n : Nat) (t : LI) : Option LI := Faz.g (fun a0 => a0) n t
def Faz.pat : List AV → Blks → Option LI
 | [(.ints .u64 4 a0)], [] => some a0
 | _, _ => none
def Faz.shape (t : LI) : List AV × Blks := ([(.ints .u64 4 t)], [])
def Faz.res : LI → AV × Blks
 | u => ((.own 0 1), [(some (.ints .u8 u))])
def Faz.c (n : Nat) : Abs.Callee := .mk' [] [none] Faz.pat (Faz.m n) (resKof Faz.res)
noncomputable def Fz.C (n : Nat) : Ctx := ⟨Tryz.prog, dskG, lookC [(43, Fbn.c n), (42, Faz.c n)], fun _ => false⟩
noncomputable def Fz.A (n : Nat) : Ann := ⟨Tryz.f19.ntmps, 0, noNL, [], [(some (.ints .u8))], fun k => match k with
 | _ => none, noNL, lookJ []⟩
def Fz.g {α : Type} (mk0 : LI → α) (n : Nat) (a0 : ByteArray) : Option α :=
 bindO (Fbn.m n (Go.Abs.bytesOf a0)) fun r2 =>
 bindO (Faz.m n r2) fun r4 =>
 if 4 ≤ (r4.length : Int) then
 some (mk0 (Go.Abs.partL r4 0 (Go.Abs.span (List.length r4) 0 (Option.some 4))))
 else
 none
def Fz.m (n : Nat) (t : ByteArray) : Option LI := Fz.g (fun a0 => a0) n t
def Fz.pat : List AV → Blks → Option ByteArray
 | [(.str a0)], [] => some a0
 | _, _ => none
def Fz.shape (t : ByteArray) : List AV × Blks := ([(.str t)], [])
def Fz.res : LI → AV × Blks
 | u => ((.own 0 1), [(some (.ints .u8 u))])
def Fz.c (n : Nat) : Abs.Callee := .mk' [] [none] Fz.pat (Fz.m n) (resKof Fz.res)
noncomputable def Fbj.C (n : Nat) : Ctx := ⟨Tryz.prog, dskG, lookC [], fun _ => false⟩
def Fbj.live : NL := fun k => match k with
 | 3 => ([4, 3, 1, 2], [3, 2])
 | _ => ([], [])
def Fbj.l3_0.r {α : Type} (mk0 : LI → LI → α) (n : Nat) (rc : Int → LI → LI → LI → Option α)  (x0 : Int) (x1 x2 x3 : LI) : Option α :=
 if (decide (x0 < 20)) = true then
 if 0 ≤ (IntKind.wrap .i64 (Int.tdiv (IntKind.wrap .i64 (19 - x0)) 8)) then
 if (IntKind.wrap .i64 (Int.tdiv (IntKind.wrap .i64 (19 - x0)) 8)) < 4 then
 if 0 ≤ x0 then
 if x0 < 20 then
 if 0 ≤ (IntKind.wrap .u64 (IntKind.wrap .i64 ((Int.tmod (IntKind.wrap .i64 (19 - x0)) 8) * 8))) then
 if 0 ≤ (IntKind.wrap .i64 (Int.tdiv (IntKind.wrap .i64 (19 - x0)) 8)) then
 if (IntKind.wrap .i64 (Int.tdiv (IntKind.wrap .i64 (19 - x0)) 8)) < 4 then
 rc (IntKind.wrap .i64 (x0 + 1)) (List.set x1 (Int.toNat (IntKind.wrap .i64 (Int.tdiv (IntKind.wrap .i64 (19 - x0)) 8))) (ibits BinOp.or .u64 (List.getD x1 (Int.toNat (IntKind.wrap .i64 (Int.tdiv (IntKind.wrap .i64 (19 - x0)) 8))) 0) (ishl .u64 (IntKind.wrap .u64 (List.getD x2 (Int.toNat x0) 0)) (IntKind.wrap .u64 (IntKind.wrap .i64 ((Int.tmod (IntKind.wrap .i64 (19 - x0)) 8) * 8)))))) x2 x3
 else
 none
 else
 none
 else
 none
 else
 none
 else
 none
 else
 none
 else
 none
 else
 some (mk0 x1 x3)
def Fbj.l3_0.g {α : Type} (mk0 : LI → LI → α) (n : Nat) : Nat → Int → LI → LI → LI → Option α
 | 0, _, _, _, _ => none
 | m + 1, x0, x1, x2, x3 => Fbj.l3_0.r mk0 n (fun y0 y1 y2 y3 => Fbj.l3_0.g mk0 n m y0 y1 y2 y3)  x0 x1 x2 x3
def Fbj.l3_0.m (n m : Nat) (t : (Int × (LI × (LI × LI)))) : Option (LI × LI) := Fbj.l3_0.g (fun a0 a1 => (a0, a1)) n m t.1 t.2.1 t.2.2.1 t.2.2.2
def Fbj.l3_0.pat : St → Option (Int × (LI × (LI × LI)))
 | (St.mk [(.int .i64 x0), (.ptr 0 []), (.ptr 1 []), (.ptr 2 [])] [(some (.var (.ints .u64 4 x1))), (some (.var (.ints .u8 20 x2))), (some (.var (.ints .u64 4 x3)))]) => some (x0, x1, x2, x3)
 | _ => none
def Fbj.l3_0.shape (t : (Int × (LI × (LI × LI)))) : St := (St.mk [(.int .i64 t.1), (.ptr 0 []), (.ptr 1 []), (.ptr 2 [])] [(some (.var (.ints .u64 4 t.2.1))), (some (.var (.ints .u8 20 t.2.2.1))), (some (.var (.ints .u64 4 t.2.2.2)))])
def Fbj.l3_0.res : (LI × LI) → Ex × St
 | u => ((.exit 0), (St.mk [(.ptr 0 []), (.ptr 1 [])] [(some (.var (.ints .u64 4 u.1))), (some (.var (.ints .u64 4 u.2)))]))
noncomputable def Fbj.A (n : Nat) : Ann := ⟨Tryz.f21.ntmps, 0, Fbj.live, [], [none], fun k => match k with
 | 3 => some (.mk' Fbj.l3_0.pat (Fbj.l3_0.m n n) (resKl Fbj.l3_0.res))
 | _ => none, noNL, lookJ []⟩
noncomputable def Fbj.b0 : Code := (loopsIn (Tryz.f21.body.getD .skip)).getD 0 .skip
def Fbj.g {α : Type} (mk0 : LI → α) (n : Nat) (a0 : LI) : Option α :=
 bindO (Fbj.l3_0.m n n (0, [0, 0, 0, 0], a0, [0, 0, 0, 0])) fun r2 =>
 some (mk0 r2.1)
def Fbj.m (n : Nat) (t : LI) : Option LI := Fbj.g (fun a0 => a0) n t
def Fbj.pat : List AV → Blks → Option LI
 | [(.ints .u8 20 a0)], [] => some a0
 | _, _ => none
def Fbj.shape (t : LI) : List AV × Blks := ([(.ints .u8 20 t)], [])
def Fbj.res : LI → AV × Blks
 | u => ((.ints .u64 4 u), [])
def Fbj.c (n : Nat) : Abs.Callee := .mk' [] [none] Fbj.pat (Fbj.m n) (resKof Fbj.res)
noncomputable def Fbk.C (n : Nat) : Ctx := ⟨Tryz.prog, dskG, lookC [], fun _ => false⟩
noncomputable def Fbk.A (n : Nat) : Ann := ⟨Tryz.f44.ntmps, 0, noNL, [], [none], fun k => match k with
 | _ => none, noNL, lookJ []⟩
def Fbk.g {α : Type} (mk0 : LI → α) (n : Nat) (a0 : Int) : Option α :=
 some (mk0 [a0, 0, 0, 0])
def Fbk.m (n : Nat) (t : Int) : Option LI := Fbk.g (fun a0 => a0) n t
def Fbk.pat : List AV → Blks → Option Int
 | [(.int .u64 a0)], [] => some a0
 | _, _ => none
def Fbk.shape (t : Int) : List AV × Blks := ([(.int .u64 t)], [])
def Fbk.res : LI → AV × Blks
 | u => ((.ints .u64 4 u), [])
def Fbk.c (n : Nat) : Abs.Callee := .mk' [] [none] Fbk.pat (Fbk.m n) (resKof Fbk.res)
noncomputable def Fal.C (n : Nat) : Ctx := ⟨Tryz.prog, dskG, lookC [(42, Faz.c n), (44, Fbk.c n)], fun _ => false⟩
def Fal.live : NL := fun k => match k with
 | 3 => ([5, 0, 3, 4], [3, 4])
 | 11 => ([4, 5, 0, 3], [5, 0, 3, 4])
 | _ => ([], [])
def Fal.l11_0.r {α : Type} (mk0 : Int → LA → LI → LI → α) (n : Nat) (rc : Int → LA → LI → LI → Option α)  (x0 : Int) (x1 : LA) (x2 x3 : LI) : Option α :=
 if ((Int.tmod (x2.length : Int) 32) != 0) = true then
 if ((((List.length x2) + 1) * 1) ≤ 70368744177664 ∧ ((List.length x2) + 1) ≤ 9223372036854775807) then
 rc x0 x1 (x2 ++ [0]) x3
 else
 none
 else
 some (mk0 x0 x1 x3 x2)
def Fal.l11_0.g {α : Type} (mk0 : Int → LA → LI → LI → α) (n : Nat) : Nat → Int → LA → LI → LI → Option α
 | 0, _, _, _, _ => none
 | m + 1, x0, x1, x2, x3 => Fal.l11_0.r mk0 n (fun y0 y1 y2 y3 => Fal.l11_0.g mk0 n m y0 y1 y2 y3)  x0 x1 x2 x3
def Fal.l11_0.m (n m : Nat) (t : (Int × (LA × (LI × LI)))) : Option (Int × (LA × (LI × LI))) := Fal.l11_0.g (fun a0 a1 a2 a3 => (a0, a1, a2, a3)) n m t.1 t.2.1 t.2.2.1 t.2.2.2
def Fal.l11_0.pat : St → Option (Int × (LA × (LI × LI)))
 | (St.mk [(.own 0 1), (.int .i64 x0), (.robjs 59 6 x1), (.own 1 1)] [(some (.ints .u8 x2)), (some (.ints .u8 x3))]) => some (x0, x1, x2, x3)
 | _ => none
def Fal.l11_0.shape (t : (Int × (LA × (LI × LI)))) : St := (St.mk [(.own 0 1), (.int .i64 t.1), (.robjs 59 6 t.2.1), (.own 1 1)] [(some (.ints .u8 t.2.2.1)), (some (.ints .u8 t.2.2.2))])
def Fal.l11_0.res : (Int × (LA × (LI × LI))) → Ex × St
 | u => ((.exit 2), (St.mk [(.int .i64 u.1), (.robjs 59 6 u.2.1), (.own 0 1), (.own 1 1)] [(some (.ints .u8 u.2.2.1)), (some (.ints .u8 u.2.2.2))]))
def Fal.l3_0.r {α : Type} (mk0 : LI → LI → α) (n : Nat) (rc : Int → LA → LI → LI → Option α)  (x0 : Int) (x1 : LA) (x2 x3 : LI) : Option α :=
 if (decide (x0 < (x1.length : Int))) = true then
 if 0 ≤ x0 then
 if x0 < (x1.length : Int) then
 bindO (tkAgg 3 (List.getD x1 (Int.toNat x0) AV.any)) fun r10 =>
 bindO (tkBool (List.getD r10 0 AV.any)) fun r12 =>
 bindO (tkInts .u64 4 (List.getD r10 1 AV.any)) fun r14 =>
 bindO (tkRints .u8 (List.getD r10 2 AV.any)) fun r16 =>
 if (!r12) = true then
 if 0 ≤ x0 then
 if x0 < (x1.length : Int) then
 bindO (tkAgg 3 (List.getD x1 (Int.toNat x0) AV.any)) fun r24 =>
 bindO (tkBool (List.getD r24 0 AV.any)) fun r26 =>
 bindO (tkInts .u64 4 (List.getD r24 1 AV.any)) fun r28 =>
 bindO (tkRints .u8 (List.getD r24 2 AV.any)) fun r30 =>
 bindO (Faz.m n r28) fun r32 =>
 if ((((List.length x2) + (List.length r32)) * 1) ≤ 70368744177664 ∧ ((List.length x2) + (List.length r32)) ≤ 9223372036854775807) then
 rc (IntKind.wrap .i64 (x0 + 1)) x1 (x2 ++ r32) x3
 else
 none
 else
 none
 else
 none
 else
 bindO (Fbk.m n (IntKind.wrap .u64 (IntKind.wrap .i64 ((IntKind.wrap .i64 (32 * (x1.length : Int))) + (x3.length : Int))))) fun r20 =>
 bindO (Faz.m n r20) fun r22 =>
 if ((((List.length x2) + (List.length r22)) * 1) ≤ 70368744177664 ∧ ((List.length x2) + (List.length r22)) ≤ 9223372036854775807) then
 if 0 ≤ x0 then
 if x0 < (x1.length : Int) then
 bindO (tkAgg 3 (List.getD x1 (Int.toNat x0) AV.any)) fun r30 =>
 bindO (tkBool (List.getD r30 0 AV.any)) fun r32 =>
 bindO (tkInts .u64 4 (List.getD r30 1 AV.any)) fun r34 =>
 bindO (tkRints .u8 (List.getD r30 2 AV.any)) fun r36 =>
 bindO (Fbk.m n (IntKind.wrap .u64 (r36.length : Int))) fun r38 =>
 bindO (Faz.m n r38) fun r40 =>
 if ((((List.length x3) + (List.length r40)) * 1) ≤ 70368744177664 ∧ ((List.length x3) + (List.length r40)) ≤ 9223372036854775807) then
 if 0 ≤ x0 then
 if x0 < (x1.length : Int) then
 bindO (tkAgg 3 (List.getD x1 (Int.toNat x0) AV.any)) fun r48 =>
 bindO (tkBool (List.getD r48 0 AV.any)) fun r50 =>
 bindO (tkInts .u64 4 (List.getD r48 1 AV.any)) fun r52 =>
 bindO (tkRints .u8 (List.getD r48 2 AV.any)) fun r54 =>
 if ((((List.length (x3 ++ r40)) + (List.length r54)) * 1) ≤ 70368744177664 ∧ ((List.length (x3 ++ r40)) + (List.length r54)) ≤ 9223372036854775807) then
 bindO (Fal.l11_0.m n n (x0, x1, ((x3 ++ r40) ++ r54), (x2 ++ r22))) fun r58 =>
 rc (IntKind.wrap .i64 (r58.1 + 1)) r58.2.1 r58.2.2.1 r58.2.2.2
 else
 none
 else
 none
 else
 none
 else
 none
 else
 none
 else
 none
 else
 none
 else
 none
 else
 none
 else
 some (mk0 x2 x3)
def Fal.l3_0.g {α : Type} (mk0 : LI → LI → α) (n : Nat) : Nat → Int → LA → LI → LI → Option α
 | 0, _, _, _, _ => none
 | m + 1, x0, x1, x2, x3 => Fal.l3_0.r mk0 n (fun y0 y1 y2 y3 => Fal.l3_0.g mk0 n m y0 y1 y2 y3)  x0 x1 x2 x3
def Fal.l3_0.m (n m : Nat) (t : (Int × (LA × (LI × LI)))) : Option (LI × LI) := Fal.l3_0.g (fun a0 a1 => (a0, a1)) n m t.1 t.2.1 t.2.2.1 t.2.2.2
def Fal.l3_0.pat : St → Option (Int × (LA × (LI × LI)))
 | (St.mk [(.int .i64 x0), (.robjs 59 6 x1), (.own 0 1), (.own 1 1)] [(some (.ints .u8 x2)), (some (.ints .u8 x3))]) => some (x0, x1, x2, x3)
 | _ => none
def Fal.l3_0.shape (t : (Int × (LA × (LI × LI)))) : St := (St.mk [(.int .i64 t.1), (.robjs 59 6 t.2.1), (.own 0 1), (.own 1 1)] [(some (.ints .u8 t.2.2.1)), (some (.ints .u8 t.2.2.2))])
def Fal.l3_0.res : (LI × LI) → Ex × St
 | u => ((.exit 0), (St.mk [(.own 0 1), (.own 1 1)] [(some (.ints .u8 u.1)), (some (.ints .u8 u.2))]))
noncomputable def Fal.A (n : Nat) : Ann := ⟨Tryz.f20.ntmps, 0, Fal.live, [(0, (.objs 59 6)), (3, (.ints .u8)), (4, (.ints .u8))], [(some (.ints .u8))], fun k => match k with
 | 11 => some (.mk' Fal.l11_0.pat (Fal.l11_0.m n n) (resKl Fal.l11_0.res))
 | 3 => some (.mk' Fal.l3_0.pat (Fal.l3_0.m n n) (resKl Fal.l3_0.res))
 | _ => none, noNL, lookJ []⟩
noncomputable def Fal.b0 : Code := (loopsIn (Tryz.f20.body.getD .skip)).getD 0 .skip
noncomputable def Fal.b1 : Code := (loopsIn (Tryz.f20.body.getD .skip)).getD 1 .skip
def Fal.g {α : Type} (mk0 : LI → α) (n : Nat) (a0 : LA) : Option α :=
 bindO (Fal.l3_0.m n n (0, a0, [], [])) fun r2 =>
 if ((((List.length r2.1) + (List.length r2.2)) * 1) ≤ 70368744177664 ∧ ((List.length r2.1) + (List.length r2.2)) ≤ 9223372036854775807) then
 some (mk0 (r2.1 ++ r2.2))
 else
 none
def Fal.m (n : Nat) (t : LA) : Option LI := Fal.g (fun a0 => a0) n t
def Fal.pat : List AV → Blks → Option LA
 | [(.robjs 59 6 a0)], [] => some a0
 | _, _ => none
def Fal.shape (t : LA) : List AV × Blks := ([(.robjs 59 6 t)], [])
def Fal.res : LI → AV × Blks
 | u => ((.own 0 1), [(some (.ints .u8 u))])
def Fal.c (n : Nat) : Abs.Callee := .mk' [] [(some (.objs 59 6))] Fal.pat (Fal.m n) (resKof Fal.res)
noncomputable def Fba.C (n : Nat) : Ctx := ⟨Tryz.prog, dskG, lookC [(10, Faq.c n), (6, Far.c n), (14, Fax.c n), (18, Fx.c n), (19, Fz.c n), (21, Fbj.c n), (20, Fal.c n), (8, Fbd.c n), (12, Ff.c n), (7, Fae.c n)], fun t => t == 3008000 || t == 3008008⟩
noncomputable def Fba.A (n : Nat) : Ann := ⟨Tryz.f5.ntmps, 0, noNL, [], [none], fun k => match k with
 | _ => none, noNL, lookJ []⟩
def Fba.g {α : Type} (mk0 : Bool → α) (n : Nat)  : Option α :=
 bindO (Faq.m n Unit.unit) fun r2 =>
 bindO (Far.m n [(AV.agg [(AV.ints .u8 20 r2), (AV.agg [(AV.int .u64 0), (AV.ints .u64 4 [5, 0, 0, 0]), AV.snil, AV.snil])])]) fun r4 =>
 bindO (Fax.m n (0, ([1, 0, 0, 0, 0, 0, 0, 0, 0, 0, 0, 0, 0, 0, 0, 0, 0, 0, 0, 0] : List Int), [5, 0, 0, 0], [], false, r4.1, r4.2.1, r4.2.2.1, r4.2.2.2.1, r4.w.1, r4.w.2)) fun r6 =>
 bindO (Fx.m n (([1, 0, 0, 0, 0, 0, 0, 0, 0, 0, 0, 0, 0, 0, 0, 0, 0, 0, 0, 0] : List Int), r6.2.1, r6.2.2.1, r6.2.2.2.1, r6.w.1, r6.w.2.1, r6.w.2.2.2)) fun r8 =>
 bindO (Fz.m n (b8 [119, 105, 116, 104, 100, 114, 97, 119, 84, 111, 40, 97, 100, 100, 114, 101, 115, 115, 44, 117, 105, 110, 116, 50, 53, 54, 41])) fun r10 =>
 bindO (Fbj.m n ([2, 0, 0, 0, 0, 0, 0, 0, 0, 0, 0, 0, 0, 0, 0, 0, 0, 0, 0, 0] : List Int)) fun r12 =>
 bindO (Fal.m n [(AV.agg [(AV.bool false), (AV.ints .u64 4 r12), AV.snil]), (AV.agg [(AV.bool false), (AV.ints .u64 4 [3, 0, 0, 0]), AV.snil])]) fun r14 =>
 if ((((List.length r10) + (List.length r14)) * 1) ≤ 70368744177664 ∧ ((List.length r10) + (List.length r14)) ≤ 9223372036854775807) then
 bindO (Fax.m n (0, ([1, 0, 0, 0, 0, 0, 0, 0, 0, 0, 0, 0, 0, 0, 0, 0, 0, 0, 0, 0] : List Int), [0, 0, 0, 0], (r10 ++ r14), false, r8.2.1, r8.2.2.1, r8.2.2.2.1, r8.w.1, r8.w.2.1, r8.w.2.2)) fun r18 =>
 bindO (Fbd.m n (([1, 0, 0, 0, 0, 0, 0, 0, 0, 0, 0, 0, 0, 0, 0, 0, 0, 0, 0, 0] : List Int), [0, 0, 0, 0], r18.2.1, r18.2.2.1, r18.2.2.2.1, r18.w.1, r18.w.2.1, r18.w.2.2.2)) fun r20 =>
 bindO (Fbd.m n (([1, 0, 0, 0, 0, 0, 0, 0, 0, 0, 0, 0, 0, 0, 0, 0, 0, 0, 0, 0] : List Int), [0, 0, 0, 0], r20.2.1, r20.2.2.1, r20.2.2.2.1, r20.w.1, r20.w.2.1, r20.w.2.2)) fun r22 =>
 if r6.1 = true then
 if r18.1 = true then
 if r20.1 = true then
 if (!r22.1) = true then
 if (r8.1 == [5, 0, 0, 0]) = true then
 bindO (Fx.m n (([1, 0, 0, 0, 0, 0, 0, 0, 0, 0, 0, 0, 0, 0, 0, 0, 0, 0, 0, 0] : List Int), r22.2.1, r22.2.2.1, r22.2.2.2.1, r22.w.1, r22.w.2.1, r22.w.2.2)) fun r34 =>
 if (r34.1 == [2, 0, 0, 0]) = true then
 bindO (Ff.m n (([2, 0, 0, 0, 0, 0, 0, 0, 0, 0, 0, 0, 0, 0, 0, 0, 0, 0, 0, 0] : List Int), r34.2.1, r34.2.2.1, r34.2.2.2.1, r34.w.1, r34.w.2.1, r34.w.2.2)) fun r38 =>
 if (r38.1 == [3, 0, 0, 0]) = true then
 bindO (Fae.m n (([1, 0, 0, 0, 0, 0, 0, 0, 0, 0, 0, 0, 0, 0, 0, 0, 0, 0, 0, 0] : List Int), [0, 0, 0, 0], r38.2.1, r38.2.2.1, r38.2.2.2.1, r38.w.1, r38.w.2.1, r38.w.2.2)) fun r42 =>
 some (mk0 (r42.1 == [1, 0, 0, 0]))
 else
 some (mk0 false)
 else
 some (mk0 false)
 else
 some (mk0 false)
 else
 some (mk0 false)
 else
 some (mk0 false)
 else
 some (mk0 false)
 else
 some (mk0 false)
 else
 none
def Fba.m (n : Nat) (t : Unit) : Option Bool := Fba.g (fun a0 => a0) n 
def Fba.pat : List AV → Blks → Option Unit
 | [], [] => some ()
 | _, _ => none
def Fba.shape (t : Unit) : List AV × Blks := ([], [])
def Fba.res : Bool → AV × Blks
 | u => ((.bool u), [])
def Fba.c (n : Nat) : Abs.Callee := .mk' [] [] Fba.pat (Fba.m n) (resKof Fba.res)
noncomputable def Fv.C (n : Nat) : Ctx := ⟨Tryz.prog, dskG, lookC [(5, Fba.c n), (6, Far.c n), (7, Fae.c n), (8, Fbd.c n)], fun _ => false⟩
def Fv.live : NL := fun k => match k with
 | 8 => ([13, 2, 11, 5, 6, 8, 9, 12], [10, 5, 8, 6, 9, 11, 12])
 | _ => ([], [])
def Fv.l8_0.r {α : Type} (mk0 : Bool → LI → LI → LI → LI → Int → Int → LI → LA → LA → LA → LA → α) (mk1 : LI → LI → LI → LI → Int → Int → LI → LA → LA → LA → LA → α) (n : Nat) (rc : Int → Int → Int → Int → LI → LI → LI → LI → LI → LA → LA → LA → LA → Option α)  (x0 x1 : Int) (x2 x3 : Int) (x4 x5 : LI) (x6 x7 x8 : LI) (x9 x10 : LA) (x11 x12 : LA) : Option α :=
 if (decide (x0 < (Int.tmod (IntKind.wrap .i64 x1) 20))) = true then
 bindO (Fae.m n (x4, x5, x2, x3, x9, x10, x11, x12)) fun r6 =>
 bindO (Fbd.m n (x4, (List.set r6.1 0 (IntKind.wrap .u64 ((List.getD r6.1 0 0) + 1))), r6.2.1, r6.2.2.1, r6.2.2.2.1, r6.w.1, r6.w.2.1, r6.w.2.2)) fun r8 =>
 bindO (Fbd.m n (x4, r6.1, r8.2.1, r8.2.2.1, r8.2.2.2.1, r8.w.1, r8.w.2.1, r8.w.2.2)) fun r10 =>
 bindO (Fbd.m n (x4, r6.1, r10.2.1, r10.2.2.1, r10.2.2.2.1, r10.w.1, r10.w.2.1, r10.w.2.2)) fun r12 =>
 if r8.1 = true then
 some (mk0 false x4 x6 x5 x7 r12.2.1 r12.2.2.1 x8 r12.2.2.2.1 r12.w.1 r12.w.2.1 r12.w.2.2)
 else
 if (!r10.1) = true then
 some (mk0 false x4 x6 x5 x7 r12.2.1 r12.2.2.1 x8 r12.2.2.2.1 r12.w.1 r12.w.2.1 r12.w.2.2)
 else
 if r12.1 = true then
 some (mk0 false x4 x6 x5 x7 r12.2.1 r12.2.2.1 x8 r12.2.2.2.1 r12.w.1 r12.w.2.1 r12.w.2.2)
 else
 if (!(r6.1 == [(IntKind.wrap .u64 x0), (List.getD x5 0 0), 0, 0])) = true then
 some (mk0 false x4 x6 x5 x7 r12.2.1 r12.2.2.1 x8 r12.2.2.2.1 r12.w.1 r12.w.2.1 r12.w.2.2)
 else
 rc (IntKind.wrap .i64 (x0 + 1)) x1 r12.2.1 r12.2.2.1 x4 x5 x6 x7 x8 r12.2.2.2.1 r12.w.1 r12.w.2.1 r12.w.2.2
 else
 some (mk1 x4 x6 x5 x7 x2 x3 x8 x9 x10 x11 x12)
def Fv.l8_0.g {α : Type} (mk0 : Bool → LI → LI → LI → LI → Int → Int → LI → LA → LA → LA → LA → α) (mk1 : LI → LI → LI → LI → Int → Int → LI → LA → LA → LA → LA → α) (n : Nat) : Nat → Int → Int → Int → Int → LI → LI → LI → LI → LI → LA → LA → LA → LA → Option α
 | 0, _, _, _, _, _, _, _, _, _, _, _, _, _ => none
 | m + 1, x0, x1, x2, x3, x4, x5, x6, x7, x8, x9, x10, x11, x12 => Fv.l8_0.r mk0 mk1 n (fun y0 y1 y2 y3 y4 y5 y6 y7 y8 y9 y10 y11 y12 => Fv.l8_0.g mk0 mk1 n m y0 y1 y2 y3 y4 y5 y6 y7 y8 y9 y10 y11 y12)  x0 x1 x2 x3 x4 x5 x6 x7 x8 x9 x10 x11 x12
def Fv.l8_0.m (n m : Nat) (t : Ty3) : Option (Ty5 ⊕ Ty12) := Fv.l8_0.g (fun a0 a1 a2 a3 a4 a5 a6 a7 a8 a9 a10 a11 => (.inl (a0, a1, a2, a3, a4, a5, a6, a7, a8, a9, a10, a11))) (fun a0 a1 a2 a3 a4 a5 a6 a7 a8 a9 a10 => (.inr (a0, a1, a2, a3, a4, a5, a6, a7, a8, a9, a10))) n m t.1 t.2.1 t.2.2.1 t.2.2.2.1 t.w.1 t.w.2.1 t.w.2.2.1 t.w.2.2.2.1 t.x.1 t.x.2.1 t.x.2.2.1 t.x.2.2.2.1 t.x.w
def Fv.l8_0.pat : St → Option Ty3
 | (St.mk [(.int .i64 x0), (.int .u8 x1), (.ptr 0 []), (.ptr 1 []), (.ptr 2 []), (.ptr 3 []), (.ptr 4 []), (.ptr 5 [])] [(some (.var (.agg [(.own 6 0), (.own 7 0), (.rmap []), (.rmap []), (.own 8 0), (.rmap []), (.int .i64 x2), .snil, (.own 9 36), .snil, (.int .i64 x3)]))), (some (.var (.ints .u8 20 x4))), (some (.var (.ints .u64 4 x5))), (some (.var (.ints .u8 20 x6))), (some (.var (.ints .u64 4 x7))), (some (.var (.ints .u64 4 x8))), (some (.mp x9)), (some (.mp x10)), (some (.mp x11)), (some (.objs 104 36 x12))]) => some (x0, x1, x2, x3, x4, x5, x6, x7, x8, x9, x10, x11, x12)
 | _ => none
def Fv.l8_0.shape (t : Ty3) : St := (St.mk [(.int .i64 t.1), (.int .u8 t.2.1), (.ptr 0 []), (.ptr 1 []), (.ptr 2 []), (.ptr 3 []), (.ptr 4 []), (.ptr 5 [])] [(some (.var (.agg [(.own 6 0), (.own 7 0), (.rmap []), (.rmap []), (.own 8 0), (.rmap []), (.int .i64 t.2.2.1), .snil, (.own 9 36), .snil, (.int .i64 t.2.2.2.1)]))), (some (.var (.ints .u8 20 t.w.1))), (some (.var (.ints .u64 4 t.w.2.1))), (some (.var (.ints .u8 20 t.w.2.2.1))), (some (.var (.ints .u64 4 t.w.2.2.2.1))), (some (.var (.ints .u64 4 t.x.1))), (some (.mp t.x.2.1)), (some (.mp t.x.2.2.1)), (some (.mp t.x.2.2.2.1)), (some (.objs 104 36 t.x.w))])
def Fv.l8_0.res : (Ty5 ⊕ Ty12) → Ex × St
 | (.inl u) => (.ret, (St.mk [(.bool u.1), (.ptr 0 []), (.ptr 1 []), (.ptr 2 []), (.ptr 3 []), (.ptr 4 []), (.ptr 5 [])] [(some (.var (.ints .u8 20 u.2.1))), (some (.var (.ints .u8 20 u.2.2.1))), (some (.var (.ints .u64 4 u.2.2.2.1))), (some (.var (.ints .u64 4 u.w.1))), (some (.var (.agg [(.own 6 0), (.own 7 0), (.rmap []), (.rmap []), (.own 8 0), (.rmap []), (.int .i64 u.w.2.1), .snil, (.own 9 36), .snil, (.int .i64 u.w.2.2.1)]))), (some (.var (.ints .u64 4 u.w.2.2.2.1))), (some (.mp u.x.1)), (some (.mp u.x.2.1)), (some (.mp u.x.2.2.1)), (some (.objs 104 36 u.x.2.2.2))]))
 | (.inr u) => ((.exit 0), (St.mk [.any, (.ptr 0 []), (.ptr 1 []), (.ptr 2 []), (.ptr 3 []), (.ptr 4 []), (.ptr 5 [])] [(some (.var (.ints .u8 20 u.1))), (some (.var (.ints .u8 20 u.2.1))), (some (.var (.ints .u64 4 u.2.2.1))), (some (.var (.ints .u64 4 u.2.2.2.1))), (some (.var (.agg [(.own 6 0), (.own 7 0), (.rmap []), (.rmap []), (.own 8 0), (.rmap []), (.int .i64 u.w.1), .snil, (.own 9 36), .snil, (.int .i64 u.w.2.1)]))), (some (.var (.ints .u64 4 u.w.2.2.1))), (some (.mp u.w.2.2.2.1)), (some (.mp u.x.1)), (some (.mp u.x.2.1)), (some (.objs 104 36 u.x.2.2))]))
def Fv.l8_0.resK {R : Type} (u : (Ty5 ⊕ Ty12)) (K : Ex → St → Option R) : Option R := match u with
 | (.inl u) => (fun p : Ex × St => K p.1 p.2) (.ret, (St.mk [(.bool u.1), (.ptr 0 []), (.ptr 1 []), (.ptr 2 []), (.ptr 3 []), (.ptr 4 []), (.ptr 5 [])] [(some (.var (.ints .u8 20 u.2.1))), (some (.var (.ints .u8 20 u.2.2.1))), (some (.var (.ints .u64 4 u.2.2.2.1))), (some (.var (.ints .u64 4 u.w.1))), (some (.var (.agg [(.own 6 0), (.own 7 0), (.rmap []), (.rmap []), (.own 8 0), (.rmap []), (.int .i64 u.w.2.1), .snil, (.own 9 36), .snil, (.int .i64 u.w.2.2.1)]))), (some (.var (.ints .u64 4 u.w.2.2.2.1))), (some (.mp u.x.1)), (some (.mp u.x.2.1)), (some (.mp u.x.2.2.1)), (some (.objs 104 36 u.x.2.2.2))]))
 | (.inr u) => (fun p : Ex × St => K p.1 p.2) ((.exit 0), (St.mk [.any, (.ptr 0 []), (.ptr 1 []), (.ptr 2 []), (.ptr 3 []), (.ptr 4 []), (.ptr 5 [])] [(some (.var (.ints .u8 20 u.1))), (some (.var (.ints .u8 20 u.2.1))), (some (.var (.ints .u64 4 u.2.2.1))), (some (.var (.ints .u64 4 u.2.2.2.1))), (some (.var (.agg [(.own 6 0), (.own 7 0), (.rmap []), (.rmap []), (.own 8 0), (.rmap []), (.int .i64 u.w.1), .snil, (.own 9 36), .snil, (.int .i64 u.w.2.1)]))), (some (.var (.ints .u64 4 u.w.2.2.1))), (some (.mp u.w.2.2.2.1)), (some (.mp u.x.1)), (some (.mp u.x.2.1)), (some (.objs 104 36 u.x.2.2))]))
noncomputable def Fv.A (n : Nat) : Ann := ⟨Tryz.f3.ntmps, 0, Fv.live, [], [none], fun k => match k with
 | 8 => some (.mk' Fv.l8_0.pat (Fv.l8_0.m n n) Fv.l8_0.resK)
 | _ => none, noNL, lookJ []⟩
noncomputable def Fv.b0 : Code := (loopsIn (Tryz.f3.body.getD .skip)).getD 0 .skip
def Fv.g {α : Type} (mk0 : Bool → α) (n : Nat) (a0 a1 : LI) (a2 : Int) (a3 a4 : LI) : Option α :=
 bindO (Fba.m n Unit.unit) fun r2 =>
  if (!r2) = true then
   some (mk0 false)
  else
   bindO (Far.m n []) fun r6 =>
    bindO (Fae.m n (a3, [(List.getD a4 0 0), 0, 0, 0], r6.1, r6.2.1, r6.2.2.1, r6.2.2.2.1, r6.w.1, r6.w.2)) fun r8 =>
     bindO (Fv.l8_0.m n n (0, a2, r8.2.1, r8.2.2.1, a0, [(List.getD a1 0 0), 0, 0, 0], a3, [(List.getD a4 0 0), 0, 0, 0], r8.1, r8.2.2.2.1, r8.w.1, r8.w.2.1, r8.w.2.2)) fun r10 => match r10 with
      | (.inl r10) =>
       some (mk0 r10.1)
      | (.inr r10) =>
       if (r10.1 == r10.2.1) = true then
        if (r10.2.2.1 == r10.2.2.2.1) = true then
         some (mk0 true)
        else
         bindO (Fae.m n (r10.2.1, r10.2.2.2.1, r10.w.1, r10.w.2.1, r10.w.2.2.2.1, r10.x.1, r10.x.2.1, r10.x.2.2)) fun r18 =>
          some (mk0 (r18.1 == r10.w.2.2.1))
       else
        bindO (Fae.m n (r10.2.1, r10.2.2.2.1, r10.w.1, r10.w.2.1, r10.w.2.2.2.1, r10.x.1, r10.x.2.1, r10.x.2.2)) fun r16 =>
         some (mk0 (r16.1 == r10.w.2.2.1))
def Fv.m (n : Nat) (t : (LI × (LI × (Int × (LI × LI))))) : Option Bool := Fv.g (fun a0 => a0) n t.1 t.2.1 t.2.2.1 t.2.2.2.1 t.w
def Fv.shape (t : (LI × (LI × (Int × (LI × LI))))) : List AV × Blks := ([(.ints .u8 20 t.1), (.ints .u64 4 t.2.1), (.int .u8 t.2.2.1), (.ints .u8 20 t.2.2.2.1), (.ints .u64 4 t.w)], [])
def Fv.res : Bool → AV × Blks
 | u => ((.bool u), [])
theorem Faq.run : runS (Faq.C n) (Faq.A n) n Tryz.f10 (Faq.shape t) = (Faq.m n t).map Faq.res :=
  (show _ = Faq.g (fun a0 => Faq.res a0) n  from by kernel_rfl).trans (by
    unfold Faq.m Faq.g
    exact rfl)
theorem Faq.s (hmix : HM) (n : Nat) : CalleeS Tryz.prog dskG 10 (Faq.c n) :=
  .mkF (res := Faq.res) (shape := Faq.shape) (C := Faq.C n) (A := Faq.A n) (fun R u K => rfl) (fun _ _ _ h => by unfold Faq.pat at h; split at h <;> cases h; rfl) rfl .nil hmix Tryz.func10 (by kernel_rfl) (lp := []) (by kernel_rfl) .nil
  (nj rfl) (by decide) (fun _ => rfl) rfl (fun _ => by show 0 ≤ Tryz.f10.ntmps; decide) (fun _ => Faq.run)
theorem Fc.run : runS (Fc.C n) (Fc.A n) n Tryz.f46 (Fc.shape t) = (Fc.m n t).map Fc.res :=
  (show _ = Fc.g (fun a0 => Fc.res a0) n t.1 t.2.1 t.2.2.1 t.2.2.2 from by kernel_rfl).trans (by
    unfold Fc.m Fc.g
    exact rfl)
theorem Fc.s (hmix : HM) (n : Nat) : CalleeS Tryz.prog dskG 46 (Fc.c n) :=
  .mkF (res := Fc.res) (shape := Fc.shape) (C := Fc.C n) (A := Fc.A n) (fun R u K => rfl) (fun _ _ _ h => by unfold Fc.pat at h; split at h <;> cases h; rfl) rfl .nil hmix Tryz.func46 (by kernel_rfl) (lp := []) (by kernel_rfl) .nil
  (nj rfl) (by decide) (fun _ => rfl) rfl (fun _ => by show 3 ≤ Tryz.f46.ntmps; decide) (fun _ => Fc.run)
section
namespace Go.Abs
open Go Go.Proofs
def cSnd : Code → Code
 | .seq _ b => b
 | c => c
def cFst : Code → Code
 | .seq a _ => a
 | c => c
def cBlk : Code → Code
 | .block _ b => b
 | c => c
def cLoop : Code → Code
 | .loop b => b
 | c => c
def cOps : Code → Array Oper
 | .region _ ops _ => ops
 | _ => #[]
noncomputable def dfBody : Code := Tryz.f45.body.getD .skip
noncomputable def dfLp : Code := cLoop (cBlk (cSnd dfBody))
noncomputable def dfO0 : Array Oper := cOps (cFst dfBody)
noncomputable def dfO1 : Array Oper := cOps (cFst dfLp)
noncomputable def dfIn : Code := cSnd (cSnd dfLp)
theorem dfShape : Tryz.f45.body = some (.seq (.region 0 dfO0 false) (.block 0 (.loop (.seq (.region 1 dfO1 false) (.seq (.cond (.tmp 9) .skip (.exit 0)) dfIn))))) := by kernel_rfl
noncomputable def dfN : Oper := dfO1.getD 0 default
noncomputable def dfX : Oper := dfO1.getD 1 default
noncomputable def dfM0 : Oper := dfO0.getD 0 default
noncomputable def dfR0 : Oper := dfO0.getD 1 default
theorem dfO0_eq : dfO0.toList = [dfM0, dfR0] := by kernel_rfl
theorem dfO1_eq : dfO1.toList = [dfN, dfX] := by kernel_rfl
theorem dfN_op : (dfN.op, dfN.dst, dfN.guard) = (.next (.tmp 7) false, some 8, none) := by kernel_rfl
theorem dfX_op : (dfX.op, dfX.dst, dfX.guard) = (.extract (.tmp 8) 0, some 9, none) := by kernel_rfl
theorem dfM0_op : (dfM0.op, dfM0.dst, dfM0.guard) = (.move (.tmp 0), some 6, none) := by kernel_rfl
theorem dfR0_op : (dfR0.op, dfR0.dst, dfR0.guard) = (.range 62 (.tmp 6), some 7, none) := by kernel_rfl
theorem dfUnder : Tryz.prog.underlying 62 = some (.map 76 26) := by kernel_rfl
theorem put_eval {a : Act} {d : Nat} {v : Value} (h : d < a.tmps.size) : (a.put (some d) v).eval (.tmp d) = v := by
 show (a.put (some d) v).tmps.getD d undef = v
 rw [act_put_get, if_pos ⟨rfl, h⟩]
theorem run_extract0 {P : Program} {w : World} {vs : Array Value} {v : Value} (h : vs[0]? = some v) : (Instr.extract (.tuple vs) 0).run P w = .ok v w := by
 simp [Instr.extract, h]
theorem emp_rounds {Q : Exit → Act → World → Prop} {act2 : Act} {W : World} {it r c0 : Nat} (sz2 : act2.tmps.size = 19) (e7 : act2.eval (.tmp 7) = .pointer (some ⟨it, 0, none⟩))
  (hi : W.heap[it]? = some (.mapIter (some r) c0 #[] c0)) (hh2 : W.heap[r]? = some (.map #[] c0)) (hq : ∀ a, a.defers = act2.defers → Q (.exit 0) a W) :
  Code.rounds Tryz.prog (.seq (.region 1 dfO1 false) (.seq (.cond (.tmp 9) .skip (.exit 0)) dfIn)) Q 1 act2 W := by
 have hN := dfN_op
 have hX := dfX_op
 simp only [Prod.mk.injEq] at hN hX
 rw [rounds_succ]
 refine wp_seq (wp_region_list ?_)
 rw [dfO1_eq]
 rcases run_next_at (P := Tryz.prog) W dfN.type it r c0 c0 #[] #[] c0 hi hh2 (fun x hx => by simp at hx) (Nat.le_refl _) with ⟨h0, hrun⟩ | ⟨e, he, w1, hw1, hrun⟩
 ·refine wpList_first hN.2.2 (v := .tuple #[.bool false]) (W' := W) (by simp only [execOp, hN.1, e7, Sem.run_bind, hrun, Result.andThen_ok, Sem.run_pure]) ?_
  rw [hN.2.1]
  have e8 : (act2.put (some 8) (.tuple #[.bool false])).eval (.tmp 8) = .tuple #[.bool false] := put_eval (by rw [sz2]; decide)
  refine wpList_first hX.2.2 (v := .bool false) (W' := W) (by simp only [execOp, hX.1, e8, Sem.run_bind, run_extract0 (vs := #[.bool false]) (v := .bool false) rfl, Result.andThen_ok, Sem.run_pure]) ?_
  rw [hX.2.1]
  have e9 : ((act2.put (some 8) (.tuple #[.bool false])).put (some 9) (.bool false)).eval (.tmp 9) = .bool false := put_eval (by rw [act_put_size, sz2]; decide)
  refine wpList_nil ?_
  show Code.wp _ _ _ _ _
  refine wp_seq (wp_cond_false e9 (wp_exit ?_))
  show Q (.exit 0) _ _
  exact hq _ (by rw [act_put_defers, act_put_defers])
 ·simp [leftOf] at he
set_option maxHeartbeats 2000000 in
theorem emp_fn (x : AV) : FnC Tryz.prog dskG 45 [.own 0 0, x] [some (.mp [])] (.tup []) [some (.mp [])] := by
 intro E vs hbl m g ha
 have hsz : vs.size = 2 := ha.size
 obtain ⟨v0, v1, rfl⟩ : ∃ v0 v1, vs = #[v0, v1] := by
  match vs, hsz with
  | ⟨[x, y]⟩, _ => exact ⟨x, y, rfl⟩
 have h0 := ha.vr 0 _ v0 rfl rfl
 have hb0 : bget E.bl 0 = some (.mp []) := by rw [hbl]; rfl
 obtain ⟨es, c0, rfl, hh, hs, hst, hen, hat⟩ := own_map m hb0 h0
 have hes : es = #[] := by
  cases es with | mk l => cases l with | nil => rfl | cons y r => simp at hs
 subst hes
 refine calls_of_wp Tryz.func45 dfShape ?_
 refine wp_seq (wp_region_list ?_)
 rw [dfO0_eq]
 have hM := dfM0_op
 have hR := dfR0_op
 simp only [Prod.mk.injEq] at hM hR
 generalize hact : ({ tmps := #[.map (some (E.loc 0).1), v1] ++ Array.replicate (Tryz.f45.ntmps - (#[.map (some (E.loc 0).1), v1] : Array Value).size) undef, defers := [] } : Act) = act
 have hT : Tryz.f45.ntmps = 19 := by kernel_rfl
 rw [hT] at hact
 have a0 : act.eval (.tmp 0) = .map (some (E.loc 0).1) := by
  subst hact
  rfl
 have asz : act.tmps.size = 19 := by subst hact; simp
 have adf : act.defers = [] := by subst hact; rfl
 refine wpList_first hM.2.2 (v := .map (some (E.loc 0).1)) (W' := E.w) (by simp only [execOp, hM.1, a0, Sem.run_pure]) ?_
 rw [hM.2.1]
 have e6 : (act.put (some 6) (.map (some (E.loc 0).1))).eval (.tmp 6) = .map (some (E.loc 0).1) := put_eval (by rw [asz]; decide)
 refine wpList_first hR.2.2 (v := .pointer (some ⟨E.w.heap.size, 0, none⟩)) (W' := E.w.alloc (.mapIter (some (E.loc 0).1) c0 #[] c0)) (by simp only [execOp, hR.1, e6, Sem.run_bind, run_range_map E.w 62 76 26 _ #[] c0 dfUnder hh, Result.andThen_ok, Sem.run_pure]) ?_
 rw [hR.2.1]
 refine wpList_nil ?_
 show Code.wp _ _ _ _ _
 refine wp_block (wp_loop_rounds 1 ?_)
 have hB : RowKit.Below E.w.heap.size E.w (E.w.alloc (.mapIter (some (E.loc 0).1) c0 #[] c0)) := (RowKit.Below.refl _ _).alloc (Nat.le_refl _) _
 have g1 : Go E { E with w := E.w.alloc (.mapIter (some (E.loc 0).1) c0 #[] c0) } := Go.below m hB
 generalize hact2 : ((act.put (some 6) (.map (some (E.loc 0).1))).put (some 7) (.pointer (some ⟨E.w.heap.size, 0, none⟩))) = act2
 have sz2 : act2.tmps.size = 19 := by subst hact2; rw [act_put_size, act_put_size, asz]
 have df2 : act2.defers = [] := by subst hact2; rw [act_put_defers, act_put_defers, adf]
 have e7 : act2.eval (.tmp 7) = .pointer (some ⟨E.w.heap.size, 0, none⟩) := by subst hact2; exact put_eval (by rw [act_put_size, asz]; decide)
 have hi : (E.w.alloc (.mapIter (some (E.loc 0).1) c0 #[] c0)).heap[E.w.heap.size]? = some (.mapIter (some (E.loc 0).1) c0 #[] c0) := by
  show (E.w.heap.push _)[E.w.heap.size]? = _
  simp
 have hh2 : (E.w.alloc (.mapIter (some (E.loc 0).1) c0 #[] c0)).heap[(E.loc 0).1]? = some (.map #[] c0) := (hB.block _ (Array.getElem?_eq_some_iff.1 hh).1).trans hh
 refine emp_rounds sz2 e7 hi hh2 fun a ha => ?_
 simp only [Exit.inBlock, if_true, bodyPost]
 exact ⟨by rw [ha, df2], .tuple #[], by rw [show results Tryz.f45 _ = pure (.tuple #[]) by kernel_rfl]; rfl, .tuple #[], rfl, { E with w := E.w.alloc (.mapIter (some (E.loc 0).1) c0 #[] c0) }, rfl, hbl, g1, .tup _ _ _ rfl fun j x c h => by simp at h⟩
end Go.Abs
end
theorem Fa.ok (hmix : HM) (n : Nat) (t) (u) (h : Fa.m n t = some u) : FnOK Tryz.prog dskG 45 (Fa.shape t).1 (Fa.shape t).2 (Fa.res u).1 (Fa.res u).2 := by
  obtain ⟨a, l⟩ := t
  cases l with
  | nil => cases h; exact (emp_fn _).ok Tryz.func45 (by decide) (by kernel_rfl)
  | cons x r => cases h
theorem Fa.s (hmix : HM) (n : Nat) : CalleeS Tryz.prog dskG 45 (Fa.c n) :=
  CalleeS.of (res := Fa.res) (shape := Fa.shape) (fun R u K => rfl) (fun args lent t h => by
    unfold Fa.pat at h
    split at h
    · cases h; rfl
    · cases h) fun t u h => Fa.ok hmix n t u h
theorem Fh.run : runS (Fh.C n) (Fh.A n) n Tryz.f22 (Fh.shape t) = (Fh.m n t).map Fh.res :=
  (show _ = Fh.g (fun a0 a1 a2 a3 => Fh.res (a0, a1, a2, a3)) n t.1 t.2.1 t.2.2.1 t.2.2.2.1 t.w from by kernel_rfl).trans (by
    unfold Fh.m Fh.g
    exact (bindO_map fun r2 => (bindO_map fun r4 => rfl)))
theorem Fh.s (hmix : HM) (n : Nat) : CalleeS Tryz.prog dskG 22 (Fh.c n) :=
  .mkF (res := Fh.res) (shape := Fh.shape) (C := Fh.C n) (A := Fh.A n) (fun R u K => rfl) (fun _ _ _ h => by unfold Fh.pat at h; split at h <;> cases h; rfl) rfl (.cons (Fc.s hmix n) (.cons (Fa.s hmix n) .nil)) hmix Tryz.func22 (by kernel_rfl) (lp := []) (by kernel_rfl) .nil
  (nj rfl) (by decide) (fun _ => rfl) rfl (fun _ => by show 2 ≤ Tryz.f22.ntmps; decide) (fun _ => Fh.run)
theorem Fj.run : runS (Fj.C n) (Fj.A n) n Tryz.f23 (Fj.shape t) = (Fj.m n t).map Fj.res :=
  (show _ = Fj.g (fun a0 a1 a2 a3 a4 => Fj.res (a0, a1, a2, a3, a4)) n t.1 t.2.1 t.2.2.1 t.2.2.2 from by kernel_rfl).trans (by
    unfold Fj.m Fj.g
    exact rfl)
theorem Fj.s (hmix : HM) (n : Nat) : CalleeS Tryz.prog dskG 23 (Fj.c n) :=
  .mkF (res := Fj.res) (shape := Fj.shape) (C := Fj.C n) (A := Fj.A n) (fun R u K => rfl) (fun _ _ _ h => by unfold Fj.pat at h; split at h <;> cases h; rfl) rfl .nil hmix Tryz.func23 (by kernel_rfl) (lp := []) (by kernel_rfl) .nil
  (nj rfl) (by decide) (fun _ => rfl) rfl (fun _ => by show 1 ≤ Tryz.f23.ntmps; decide) (fun _ => Fj.run)
noncomputable abbrev Far.R0 (n : Nat) := roundOf (Far.C n) (Far.A n) n Far.b0
noncomputable abbrev Far.R1 (n : Nat) := roundOf (Far.C n) (Far.A n) n Far.b1
def Far.l8_0.T {α : Type} (mk0 : Int → Int → LA → Int → Int → LA → LA → α) (n : Nat) (f : Ty2 → Option α) (t : Ty2) : Option α := Far.l8_0.r mk0 n (fun y0 y1 y2 y3 y4 y5 y6 y7 y8 y9 y10 y11 y12 y13 y14 => f (y0, y1, y2, y3, y4, y5, y6, y7, y8, y9, y10, y11, y12, y13, y14)) t.1 t.2.1 t.2.2.1 t.2.2.2.1 t.w.1 t.w.2.1 t.w.2.2.1 t.w.2.2.2.1 t.x.1 t.x.2.1 t.x.2.2.1 t.x.2.2.2.1 t.x.w.1 t.x.w.2.1 t.x.w.2.2
theorem Far.l8_0.rmap : (Far.l8_0.T (fun a0 a1 a2 a3 a4 a5 a6 => (a0, a1, a2, a3, a4, a5, a6)) n f t).map Far.l8_0.res = Far.l8_0.T (fun a0 a1 a2 a3 a4 a5 a6 => Far.l8_0.res (a0, a1, a2, a3, a4, a5, a6)) n (fun y => (f y).map Far.l8_0.res) t := by
  unfold Far.l8_0.T Far.l8_0.r
  exact Eq.symm (ite_map (ite_map (ite_map (bindO_map fun r10 => (bindO_map fun r12 => (bindO_map fun r14 => (bindO_map fun r16 => rfl)))) rfl) rfl) rfl)
theorem Far.l8_0.pat_shape : ∀ st t, Far.l8_0.pat st = some t → st = Far.l8_0.shape t := fun _ _ h => by unfold Far.l8_0.pat at h; split at h <;> cases h; rfl
theorem Far.l8_0.round : Far.R1 n rc (Far.l8_0.shape t) = Far.l8_0.T (fun a0 a1 a2 a3 a4 a5 a6 => Far.l8_0.res (a0, a1, a2, a3, a4, a5, a6)) n (fun y => rc (Far.l8_0.shape y)) t := by kernel_rfl
theorem Far.l8_0.loop (n m : Nat) (t : Ty2) : loopOf (Far.R1 n) m (Far.l8_0.shape t) = (Far.l8_0.m n m t).map Far.l8_0.res :=
  loop_map (fun _ _ => Far.l8_0.rmap) (fun _ _ => Far.l8_0.round) (fun _ => rfl) (fun _ _ => by kernel_rfl) m t
def Far.l3_0.T {α : Type} (mk0 : Int → Int → LA → LA → α) (n : Nat) (f : Ty23 → Option α) (t : Ty23) : Option α := Far.l3_0.r mk0 n (fun y0 y1 y2 y3 y4 y5 y6 => f (y0, y1, y2, y3, y4, y5, y6)) t.1 t.2.1 t.2.2.1 t.2.2.2.1 t.w.1 t.w.2.1 t.w.2.2
theorem Far.l3_0.rmap : (Far.l3_0.T (fun a0 a1 a2 a3 => (a0, a1, a2, a3)) n f t).map Far.l3_0.res = Far.l3_0.T (fun a0 a1 a2 a3 => Far.l3_0.res (a0, a1, a2, a3)) n (fun y => (f y).map Far.l3_0.res) t := by
  unfold Far.l3_0.T Far.l3_0.r
  exact Eq.symm (ite_map (ite_map (ite_map (bindO_map fun r10 => (bindO_map fun r12 => (bindO_map fun r14 => (bindO_map fun r16 => (bindO_map fun r18 => (bindO_map fun r20 => (bindO_map fun r22 => (bindO_map fun r24 => (bindO_map fun r26 => (bindO_map fun r28 => rfl)))))))))) rfl) rfl) rfl)
theorem Far.l3_0.pat_shape : ∀ st t, Far.l3_0.pat st = some t → st = Far.l3_0.shape t := fun _ _ h => by unfold Far.l3_0.pat at h; split at h <;> cases h; rfl
theorem Far.l3_0.round : Far.R0 n rc (Far.l3_0.shape t) = Far.l3_0.T (fun a0 a1 a2 a3 => Far.l3_0.res (a0, a1, a2, a3)) n (fun y => rc (Far.l3_0.shape y)) t := by kernel_rfl
theorem Far.l3_0.loop (n m : Nat) (t : Ty23) : loopOf (Far.R0 n) m (Far.l3_0.shape t) = (Far.l3_0.m n m t).map Far.l3_0.res :=
  loop_map (fun _ _ => Far.l3_0.rmap) (fun _ _ => Far.l3_0.round) (fun _ => rfl) (fun _ _ => by kernel_rfl) m t
theorem Far.run : runS (Far.C n) (Far.A n) n Tryz.f6 (Far.shape t) = (Far.m n t).map Far.res :=
  (show _ = Far.g (fun a0 a1 a2 a3 a4 a5 => Far.res (a0, a1, a2, a3, a4, a5)) n t from by kernel_rfl).trans (by
    unfold Far.m Far.g
    exact (bindO_map fun r2 => (bindO_map fun r4 => rfl)))
theorem Far.s (hmix : HM) (n : Nat) : CalleeS Tryz.prog dskG 6 (Far.c n) :=
  .mkF (res := Far.res) (shape := Far.shape) (C := Far.C n) (A := Far.A n) (fun R u K => rfl) (fun _ _ _ h => by unfold Far.pat at h; split at h <;> cases h; rfl) rfl (.cons (Fh.s hmix n) (.cons (Fj.s hmix n) .nil)) hmix Tryz.func6 (by kernel_rfl) (lp := [Far.b0, Far.b1]) (by kernel_rfl) (.cons (show (Far.A n).loop (key Far.b0) = some (.mk' Far.l3_0.pat (Far.l3_0.m n n) (resKl Far.l3_0.res)) by kernel_rfl) (LoopS.of (res := Far.l3_0.res) (fun R u K => rfl) Far.l3_0.pat_shape fun t => Far.l3_0.loop n n t)
  (.cons (show (Far.A n).loop (key Far.b1) = some (.mk' Far.l8_0.pat (Far.l8_0.m n n) (resKl Far.l8_0.res)) by kernel_rfl) (LoopS.of (res := Far.l8_0.res) (fun R u K => rfl) Far.l8_0.pat_shape fun t => Far.l8_0.loop n n t)
  .nil))
  (nj rfl) (by decide) (fun _ => rfl) rfl (fun _ => by show 1 ≤ Tryz.f6.ntmps; decide) (fun _ => Far.run)
theorem Fao.run : runS (Fao.C n) (Fao.A n) n Tryz.f48 (Fao.shape t) = (Fao.m n t).map Fao.res :=
  (show _ = Fao.g (fun a0 => Fao.res a0) n t from by kernel_rfl).trans (by
    unfold Fao.m Fao.g
    exact rfl)
theorem Fao.s (hmix : HM) (n : Nat) : CalleeS Tryz.prog dskG 48 (Fao.c n) :=
  .mkF (res := Fao.res) (shape := Fao.shape) (C := Fao.C n) (A := Fao.A n) (fun R u K => rfl) (fun _ _ _ h => by unfold Fao.pat at h; split at h <;> cases h; rfl) rfl .nil hmix Tryz.func48 (by kernel_rfl) (lp := []) (by kernel_rfl) .nil
  (nj rfl) (by decide) (fun _ => rfl) rfl (fun _ => by show 1 ≤ Tryz.f48.ntmps; decide) (fun _ => Fao.run)
