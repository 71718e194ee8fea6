/- What the program's functions compute, as plain functions, each with its proof: the function does just that. Condition: the plain function has an answer. -/
import Derived.Test.YtkknbhapkdgcjaaGreatDoorAbsC8
import Derived.Test.YtkknbhapkdgcjaaGreatDoorProg
import Derived.Test.YtkknbhapkdgcjaaGreatDoorFnDeskCovers1
set_option linter.unusedVariables false
set_option linter.unusedSimpArgs false
set_option maxRecDepth 100000
open Go Go.Abs Go.Proofs
set_option autoImplicit true
set_option relaxedAutoImplicit true
noncomputable section
noncomputable def Fw.C (n : Nat) : Ctx := ⟨Tryz.prog, zI, zU [], fun _ => false⟩
def Fw.live : NL := fun k => match k with
 | 1 => ([2, 0], [])
 | 5 => ([17, 0, 2, 3], [2, 0])
 | _ => ([], [])
def Fw.l5.r {α : Type} (mk0 : Int → LI → α) (n : Nat) (rc : Int → Int → LI → LI → Option α)  (x0 x1 : Int) (x2 x3 : LI) : Option α :=
 if (decide (x0 < 5)) = true then
 if 0 ≤ x0 then
 if x0 < 5 then
 if 0 ≤ (Int.tmod (IntKind.wrap .i64 (x0 + 1)) 5) then
 if (Int.tmod (IntKind.wrap .i64 (x0 + 1)) 5) < 5 then
 if 0 ≤ (Int.tmod (IntKind.wrap .i64 (x0 + 2)) 5) then
 if (Int.tmod (IntKind.wrap .i64 (x0 + 2)) 5) < 5 then
 if 0 ≤ (IntKind.wrap .i64 (x1 + x0)) then
 if (IntKind.wrap .i64 (x1 + x0)) < 25 then
 rc (IntKind.wrap .i64 (x0 + 1)) x1 (List.set x2 (Int.toNat (IntKind.wrap .i64 (x1 + x0))) (ibits BinOp.xor .u64 (List.getD x3 (Int.toNat x0) 0) (ibits BinOp.and .u64 (ibits BinOp.xor .u64 (if false = true then (-1) else 18446744073709551615) (List.getD x3 (Int.toNat (Int.tmod (IntKind.wrap .i64 (x0 + 1)) 5)) 0)) (List.getD x3 (Int.toNat (Int.tmod (IntKind.wrap .i64 (x0 + 2)) 5)) 0)))) x3
 else
 none
 else
 none
 else
 none
 else
 none
 else
 none
 else
 none
 else
 none
 else
 none
 else
 some (mk0 x1 x2)
def Fw.l5.g {α : Type} (mk0 : Int → LI → α) (n : Nat) : Nat → Int → Int → LI → LI → Option α
 | 0, _, _, _, _ => none
 | m + 1, x0, x1, x2, x3 => Fw.l5.r mk0 n (fun y0 y1 y2 y3 => Fw.l5.g mk0 n m y0 y1 y2 y3)  x0 x1 x2 x3
def Fw.l5.m (n m : Nat) (t : (Int × (Int × (LI × LI)))) : Option (Int × LI) := Fw.l5.g (fun a0 a1 => (a0, a1)) n m t.1 t.2.1 t.2.2.1 t.2.2.2
def Fw.l5.pat : St → Option (Int × (Int × (LI × LI)))
 | (St.mk [(.int .i64 x0), (.ptr 0 []), (.int .i64 x1), (.ptr 1 [])] [(some (.var (.ints .u64 25 x2))), (some (.var (.ints .u64 5 x3)))]) => some (x0, x1, x2, x3)
 | _ => none
def Fw.l5.shape (t : (Int × (Int × (LI × LI)))) : St := (St.mk [(.int .i64 t.1), (.ptr 0 []), (.int .i64 t.2.1), (.ptr 1 [])] [(some (.var (.ints .u64 25 t.2.2.1))), (some (.var (.ints .u64 5 t.2.2.2)))])
def Fw.l5.res : (Int × LI) → Ex × St
 | u => ((.exit 2), (St.mk [(.int .i64 u.1), (.ptr 0 [])] [(some (.var (.ints .u64 25 u.2)))]))
def Fw.l1.r {α : Type} (mk0 : LI → α) (n : Nat) (rc : Int → LI → Option α)  (x0 : Int) (x1 : LI) : Option α :=
 if (decide (x0 < 25)) = true then
 if 0 ≤ (IntKind.wrap .i64 (x0 + 5)) then
 if (IntKind.wrap .i64 (x0 + 5)) ≤ 25 then
 if 0 ≤ x0 then
 if x0 ≤ (IntKind.wrap .i64 (x0 + 5)) then
 if 5 ≤ (Go.Abs.span 25 (Int.toNat x0) (Option.some (Int.toNat (IntKind.wrap .i64 (x0 + 5))))) then
 zD (Fw.l5.m n n (0, x0, x1, (List.take 5 (List.drop (Int.toNat x0) x1)))) fun r16 =>
 rc (IntKind.wrap .i64 (r16.1 + 5)) r16.2
 else
 none
 else
 none
 else
 none
 else
 none
 else
 none
 else
 some (mk0 x1)
def Fw.l1.g {α : Type} (mk0 : LI → α) (n : Nat) : Nat → Int → LI → Option α
 | 0, _, _ => none
 | m + 1, x0, x1 => Fw.l1.r mk0 n (fun y0 y1 => Fw.l1.g mk0 n m y0 y1)  x0 x1
def Fw.l1.m (n m : Nat) (t : (Int × LI)) : Option LI := Fw.l1.g (fun a0 => a0) n m t.1 t.2
def Fw.l1.pat : St → Option (Int × LI)
 | (St.mk [(.int .i64 x0), (.ptr 0 [])] [(some (.var (.ints .u64 25 x1)))]) => some (x0, x1)
 | _ => none
def Fw.l1.shape (t : (Int × LI)) : St := (St.mk [(.int .i64 t.1), (.ptr 0 [])] [(some (.var (.ints .u64 25 t.2)))])
def Fw.l1.res : LI → Ex × St
 | u => ((.exit 0), (St.mk [] [(some (.var (.ints .u64 25 u)))]))
noncomputable def Fw.A (n : Nat) : Ann := ⟨Tryz.f101.ntmps, 1, Fw.live, [], [], fun k => match k with
 | 5 => some (.mk' Fw.l5.pat (Fw.l5.m n n) (zQ Fw.l5.res))
 | 1 => some (.mk' Fw.l1.pat (Fw.l1.m n n) (zQ Fw.l1.res))
 | _ => none, zV, zW []⟩
noncomputable def Fw.b0 : Code := (zK (Tryz.f101.body.getD .skip)).getD 0 .skip
noncomputable def Fw.b1 : Code := (zK (Tryz.f101.body.getD .skip)).getD 1 .skip
def Fw.g {α : Type} (mk0 : LI → α) (n : Nat) (s : LI) : Option α :=
 zD (Fw.l1.m n n (0, s)) fun r2 =>
 some (mk0 r2)
def Fw.m (n : Nat) (t : LI) : Option LI := Fw.g (fun a0 => a0) n t
def Fw.pat : List AV → zC → Option LI
 | [(.ptr 0 [])], [(some (.var (.ints .u64 25 s)))] => some s
 | _, _ => none
def Fw.shape (t : LI) : List AV × zC := ([(.ptr 0 [])], [(some (.var (.ints .u64 25 t)))])
def Fw.res : LI → AV × zC
 | u => ((.tup []), [(some (.var (.ints .u64 25 u)))])
def Fw.c (n : Nat) : Abs.Callee := .mk' [true] [none] Fw.pat (Fw.m n) (zO Fw.res)
noncomputable def Fx.C (n : Nat) : Ctx := ⟨Tryz.prog, zI, zU [(99, Fj.c n), (100, Fr.c n), (101, Fw.c n)], fun _ => false⟩
def Fx.live : NL := fun k => match k with
 | 1 => ([3, 0], [])
 | _ => ([], [])
def Fx.l1.r {α : Type} (mk0 : LI → α) (n : Nat) (rc : Int → LI → Option α)  (x0 : Int) (x1 : LI) : Option α :=
 if (decide (x0 < 24)) = true then
 zD (Fj.m n x1) fun r6 =>
 zD (Fr.m n r6) fun r8 =>
 zD (Fw.m n r8) fun r10 =>
 if 0 ≤ x0 then
 if x0 < 24 then
 rc (IntKind.wrap .i64 (x0 + 1)) (List.set r10 0 (ibits BinOp.xor .u64 (List.getD r10 0 0) (List.getD ([1, 32898, 9223372036854808714, 9223372039002292224, 32907, 2147483649, 9223372039002292353, 9223372036854808585, 138, 136, 2147516425, 2147483658, 2147516555, 9223372036854775947, 9223372036854808713, 9223372036854808579, 9223372036854808578, 9223372036854775936, 32778, 9223372039002259466, 9223372039002292353, 9223372036854808704, 2147483649, 9223372039002292232] : List Int) (Int.toNat x0) 0)))
 else
 none
 else
 none
 else
 some (mk0 x1)
def Fx.l1.g {α : Type} (mk0 : LI → α) (n : Nat) : Nat → Int → LI → Option α
 | 0, _, _ => none
 | m + 1, x0, x1 => Fx.l1.r mk0 n (fun y0 y1 => Fx.l1.g mk0 n m y0 y1)  x0 x1
def Fx.l1.m (n m : Nat) (t : (Int × LI)) : Option LI := Fx.l1.g (fun a0 => a0) n m t.1 t.2
def Fx.l1.pat : St → Option (Int × LI)
 | (St.mk [(.int .i64 x0), (.ptr 0 [])] [(some (.var (.ints .u64 25 x1)))]) => some (x0, x1)
 | _ => none
def Fx.l1.shape (t : (Int × LI)) : St := (St.mk [(.int .i64 t.1), (.ptr 0 [])] [(some (.var (.ints .u64 25 t.2)))])
def Fx.l1.res : LI → Ex × St
 | u => ((.exit 0), (St.mk [] [(some (.var (.ints .u64 25 u)))]))
noncomputable def Fx.A (n : Nat) : Ann := ⟨Tryz.f97.ntmps, 1, Fx.live, [], [], fun k => match k with
 | 1 => some (.mk' Fx.l1.pat (Fx.l1.m n n) (zQ Fx.l1.res))
 | _ => none, zV, zW []⟩
noncomputable def Fx.b0 : Code := (zK (Tryz.f97.body.getD .skip)).getD 0 .skip
def Fx.g {α : Type} (mk0 : LI → α) (n : Nat) (s : LI) : Option α :=
 zD (Fx.l1.m n n (0, s)) fun r2 =>
 some (mk0 r2)
def Fx.m (n : Nat) (t : LI) : Option LI := Fx.g (fun a0 => a0) n t
def Fx.pat : List AV → zC → Option LI
 | [(.ptr 0 [])], [(some (.var (.ints .u64 25 s)))] => some s
 | _, _ => none
def Fx.shape (t : LI) : List AV × zC := ([(.ptr 0 [])], [(some (.var (.ints .u64 25 t)))])
def Fx.res : LI → AV × zC
 | u => ((.tup []), [(some (.var (.ints .u64 25 u)))])
def Fx.c (n : Nat) : Abs.Callee := .mk' [true] [none] Fx.pat (Fx.m n) (zO Fx.res)
noncomputable def Fs.C (n : Nat) : Ctx := ⟨Tryz.prog, zI, zU [(97, Fx.c n)], fun _ => false⟩
def Fs.live : NL := fun k => match k with
 | 1 => ([8, 7, 6, 0], [0])
 | _ => ([], [])
def Fs.l1.r {α : Type} (mk0 : LI → α) (n : Nat) (rc : Int → Int → LI → LI → Option α)  (x0 x1 : Int) (x2 x3 : LI) : Option α :=
 if (decide (x0 < x1)) = true then
 if 0 ≤ x0 then
 if x0 < (x2.length : Int) then
 if 0 ≤ (IntKind.wrap .i64 (Int.tdiv x0 8)) then
 if (IntKind.wrap .i64 (Int.tdiv x0 8)) < 25 then
 if 0 ≤ (IntKind.wrap .i64 ((Int.tmod x0 8) * 8)) then
 if 0 ≤ (IntKind.wrap .i64 (Int.tdiv x0 8)) then
 if (IntKind.wrap .i64 (Int.tdiv x0 8)) < 25 then
 rc (IntKind.wrap .i64 (x0 + 1)) x1 x2 (List.set x3 (Int.toNat (IntKind.wrap .i64 (Int.tdiv x0 8))) (ibits BinOp.xor .u64 (List.getD x3 (Int.toNat (IntKind.wrap .i64 (Int.tdiv x0 8))) 0) (ishl .u64 (IntKind.wrap .u64 (List.getD x2 (Int.toNat x0) 0)) (IntKind.wrap .i64 ((Int.tmod x0 8) * 8)))))
 else
 none
 else
 none
 else
 none
 else
 none
 else
 none
 else
 none
 else
 none
 else
 some (mk0 x3)
def Fs.l1.g {α : Type} (mk0 : LI → α) (n : Nat) : Nat → Int → Int → LI → LI → Option α
 | 0, _, _, _, _ => none
 | m + 1, x0, x1, x2, x3 => Fs.l1.r mk0 n (fun y0 y1 y2 y3 => Fs.l1.g mk0 n m y0 y1 y2 y3)  x0 x1 x2 x3
def Fs.l1.m (n m : Nat) (t : (Int × (Int × (LI × LI)))) : Option LI := Fs.l1.g (fun a0 => a0) n m t.1 t.2.1 t.2.2.1 t.2.2.2
def Fs.l1.pat : St → Option (Int × (Int × (LI × LI)))
 | (St.mk [(.int .i64 x0), (.int .i64 x1), (.rints .u8 x2), (.ptr 0 [])] [(some (.var (.ints .u64 25 x3)))]) => some (x0, x1, x2, x3)
 | _ => none
def Fs.l1.shape (t : (Int × (Int × (LI × LI)))) : St := (St.mk [(.int .i64 t.1), (.int .i64 t.2.1), (.rints .u8 t.2.2.1), (.ptr 0 [])] [(some (.var (.ints .u64 25 t.2.2.2)))])
def Fs.l1.res : LI → Ex × St
 | u => ((.exit 0), (St.mk [(.ptr 0 [])] [(some (.var (.ints .u64 25 u)))]))
noncomputable def Fs.A (n : Nat) : Ann := ⟨Tryz.f92.ntmps, 1, Fs.live, [(6, (.ints .u8))], [], fun k => match k with
 | 1 => some (.mk' Fs.l1.pat (Fs.l1.m n n) (zQ Fs.l1.res))
 | _ => none, zV, zW []⟩
noncomputable def Fs.b0 : Code := (zK (Tryz.f92.body.getD .skip)).getD 0 .skip
def Fs.g {α : Type} (mk0 : LI → α) (n : Nat) (b s : LI) : Option α :=
 zD (Fs.l1.m n n (0, (b.length : Int), b, s)) fun r2 =>
 zD (Fx.m n r2) fun r4 =>
 some (mk0 r4)
def Fs.m (n : Nat) (t : (LI × LI)) : Option LI := Fs.g (fun a0 => a0) n t.1 t.2
def Fs.pat : List AV → zC → Option (LI × LI)
 | [(.ptr 0 []), (.rints .u8 b)], [(some (.var (.ints .u64 25 s)))] => some (b, s)
 | _, _ => none
def Fs.shape (t : (LI × LI)) : List AV × zC := ([(.ptr 0 []), (.rints .u8 t.1)], [(some (.var (.ints .u64 25 t.2)))])
def Fs.res : LI → AV × zC
 | u => ((.tup []), [(some (.var (.ints .u64 25 u)))])
def Fs.c (n : Nat) : Abs.Callee := .mk' [true, false] [none, (some (.ints .u8))] Fs.pat (Fs.m n) (zO Fs.res)
noncomputable def Faz.C (n : Nat) : Ctx := ⟨Tryz.prog, zI, zU [(92, Fs.c n), (64, Fbd.c n)], fun _ => false⟩
def Faz.live : NL := fun k => match k with
 | 2 => ([0, 3, 2], [0, 3, 2])
 | 12 => ([30, 3, 5, 2], [5, 2])
 | _ => ([], [])
def Faz.l2.r {α : Type} (mk0 : LI → LI → LI → α) (n : Nat) (rc : LI → LI → LI → Option α)  (x0 x1 x2 : LI) : Option α :=
 if (decide ((x0.length : Int) ≥ 136)) = true then
 if 136 ≤ (x0.length : Int) then
 zD (Fs.m n ((Go.Abs.cut x0 0 (Option.some 136)), x1)) fun r8 =>
 if 136 ≤ (x0.length : Int) then
 rc (Go.Abs.cut x0 136 (Option.none)) r8 x2
 else
 none
 else
 none
 else
 some (mk0 x0 x1 x2)
def Faz.l2.g {α : Type} (mk0 : LI → LI → LI → α) (n : Nat) : Nat → LI → LI → LI → Option α
 | 0, _, _, _ => none
 | m + 1, x0, x1, x2 => Faz.l2.r mk0 n (fun y0 y1 y2 => Faz.l2.g mk0 n m y0 y1 y2)  x0 x1 x2
def Faz.l2.m (n m : Nat) (t : (LI × (LI × LI))) : Option (LI × (LI × LI)) := Faz.l2.g (fun a0 a1 a2 => (a0, a1, a2)) n m t.1 t.2.1 t.2.2
def Faz.l2.pat : St → Option (LI × (LI × LI))
 | (St.mk [(.rints .u8 x0), (.ptr 0 []), (.ptr 1 [])] [(some (.var (.ints .u64 25 x1))), (some (.var (.ints .u64 4 x2)))]) => some (x0, x1, x2)
 | _ => none
def Faz.l2.shape (t : (LI × (LI × LI))) : St := (St.mk [(.rints .u8 t.1), (.ptr 0 []), (.ptr 1 [])] [(some (.var (.ints .u64 25 t.2.1))), (some (.var (.ints .u64 4 t.2.2)))])
def Faz.l2.res : (LI × (LI × LI)) → Ex × St
 | u => ((.exit 0), (St.mk [(.rints .u8 u.1), (.ptr 0 []), (.ptr 1 [])] [(some (.var (.ints .u64 25 u.2.1))), (some (.var (.ints .u64 4 u.2.2)))]))
def Faz.l12.r {α : Type} (mk0 : LI → LI → α) (n : Nat) (rc : Int → LI → LI → LI → Option α)  (x0 : Int) (x1 x2 x3 : LI) : Option α :=
 if (decide (x0 < 32)) = true then
 if 0 ≤ (IntKind.wrap .i64 (Int.tdiv x0 8)) then
 if (IntKind.wrap .i64 (Int.tdiv x0 8)) < 25 then
 if 0 ≤ (IntKind.wrap .i64 ((Int.tmod x0 8) * 8)) then
 if 0 ≤ x0 then
 if x0 < 32 then
 rc (IntKind.wrap .i64 (x0 + 1)) x1 (List.set x2 (Int.toNat x0) (IntKind.wrap .u8 (ishr .u64 (List.getD x1 (Int.toNat (IntKind.wrap .i64 (Int.tdiv x0 8))) 0) (IntKind.wrap .i64 ((Int.tmod x0 8) * 8))))) x3
 else
 none
 else
 none
 else
 none
 else
 none
 else
 none
 else
 some (mk0 x2 x3)
def Faz.l12.g {α : Type} (mk0 : LI → LI → α) (n : Nat) : Nat → Int → LI → LI → LI → Option α
 | 0, _, _, _, _ => none
 | m + 1, x0, x1, x2, x3 => Faz.l12.r mk0 n (fun y0 y1 y2 y3 => Faz.l12.g mk0 n m y0 y1 y2 y3)  x0 x1 x2 x3
def Faz.l12.m (n m : Nat) (t : (Int × (LI × (LI × LI)))) : Option (LI × LI) := Faz.l12.g (fun a0 a1 => (a0, a1)) n m t.1 t.2.1 t.2.2.1 t.2.2.2
def Faz.l12.pat : St → Option (Int × (LI × (LI × LI)))
 | (St.mk [(.int .i64 x0), (.ptr 0 []), (.ptr 1 []), (.ptr 2 [])] [(some (.var (.ints .u64 25 x1))), (some (.var (.ints .u8 32 x2))), (some (.var (.ints .u64 4 x3)))]) => some (x0, x1, x2, x3)
 | _ => none
def Faz.l12.shape (t : (Int × (LI × (LI × LI)))) : St := (St.mk [(.int .i64 t.1), (.ptr 0 []), (.ptr 1 []), (.ptr 2 [])] [(some (.var (.ints .u64 25 t.2.1))), (some (.var (.ints .u8 32 t.2.2.1))), (some (.var (.ints .u64 4 t.2.2.2)))])
def Faz.l12.res : (LI × LI) → Ex × St
 | u => ((.exit 2), (St.mk [(.ptr 0 []), (.ptr 1 [])] [(some (.var (.ints .u8 32 u.1))), (some (.var (.ints .u64 4 u.2)))]))
noncomputable def Faz.A (n : Nat) : Ann := ⟨Tryz.f81.ntmps, 0, Faz.live, [(0, (.ints .u8))], [none], fun k => match k with
 | 2 => some (.mk' Faz.l2.pat (Faz.l2.m n n) (zQ Faz.l2.res))
 | 12 => some (.mk' Faz.l12.pat (Faz.l12.m n n) (zQ Faz.l12.res))
 | _ => none, zV, zW []⟩
noncomputable def Faz.b0 : Code := (zK (Tryz.f81.body.getD .skip)).getD 0 .skip
noncomputable def Faz.b1 : Code := (zK (Tryz.f81.body.getD .skip)).getD 1 .skip
def Faz.g {α : Type} (mk0 : LI → α) (n : Nat) (a0 : LI) : Option α :=
 zD (Faz.l2.m n n (a0, ([0, 0, 0, 0, 0, 0, 0, 0, 0, 0, 0, 0, 0, 0, 0, 0, 0, 0, 0, 0, 0, 0, 0, 0, 0] : List Int), [0, 0, 0, 0])) fun r2 =>
 if (((List.length r2.1) : Nat) : Int) < 136 then
 if (((List.length r2.1) : Nat) : Int) < 136 then
 zD (Fs.m n ((List.take 136 (List.drop 0 (List.set (List.set ([] ++ ((List.take 136 r2.1) ++ (List.drop (0 + (Min.min (List.length r2.1) 136)) ([0, 0, 0, 0, 0, 0, 0, 0, 0, 0, 0, 0, 0, 0, 0, 0, 0, 0, 0, 0, 0, 0, 0, 0, 0, 0, 0, 0, 0, 0, 0, 0, 0, 0, 0, 0, 0, 0, 0, 0, 0, 0, 0, 0, 0, 0, 0, 0, 0, 0, 0, 0, 0, 0, 0, 0, 0, 0, 0, 0, 0, 0, 0, 0, 0, 0, 0, 0, 0, 0, 0, 0, 0, 0, 0, 0, 0, 0, 0, 0, 0, 0, 0, 0, 0, 0, 0, 0, 0, 0, 0, 0, 0, 0, 0, 0, 0, 0, 0, 0, 0, 0, 0, 0, 0, 0, 0, 0, 0, 0, 0, 0, 0, 0, 0, 0, 0, 0, 0, 0, 0, 0, 0, 0, 0, 0, 0, 0, 0, 0, 0, 0, 0, 0, 0, 0] : List Int)))) (Int.toNat (((List.length r2.1) : Nat) : Int)) (ibits BinOp.xor .u8 (List.getD ([] ++ ((List.take 136 r2.1) ++ (List.drop (0 + (Min.min (List.length r2.1) 136)) ([0, 0, 0, 0, 0, 0, 0, 0, 0, 0, 0, 0, 0, 0, 0, 0, 0, 0, 0, 0, 0, 0, 0, 0, 0, 0, 0, 0, 0, 0, 0, 0, 0, 0, 0, 0, 0, 0, 0, 0, 0, 0, 0, 0, 0, 0, 0, 0, 0, 0, 0, 0, 0, 0, 0, 0, 0, 0, 0, 0, 0, 0, 0, 0, 0, 0, 0, 0, 0, 0, 0, 0, 0, 0, 0, 0, 0, 0, 0, 0, 0, 0, 0, 0, 0, 0, 0, 0, 0, 0, 0, 0, 0, 0, 0, 0, 0, 0, 0, 0, 0, 0, 0, 0, 0, 0, 0, 0, 0, 0, 0, 0, 0, 0, 0, 0, 0, 0, 0, 0, 0, 0, 0, 0, 0, 0, 0, 0, 0, 0, 0, 0, 0, 0, 0, 0] : List Int)))) (Int.toNat (((List.length r2.1) : Nat) : Int)) 0) 1)) 135 (ibits BinOp.xor .u8 (List.getD (List.set ([] ++ ((List.take 136 r2.1) ++ (List.drop (0 + (Min.min (List.length r2.1) 136)) ([0, 0, 0, 0, 0, 0, 0, 0, 0, 0, 0, 0, 0, 0, 0, 0, 0, 0, 0, 0, 0, 0, 0, 0, 0, 0, 0, 0, 0, 0, 0, 0, 0, 0, 0, 0, 0, 0, 0, 0, 0, 0, 0, 0, 0, 0, 0, 0, 0, 0, 0, 0, 0, 0, 0, 0, 0, 0, 0, 0, 0, 0, 0, 0, 0, 0, 0, 0, 0, 0, 0, 0, 0, 0, 0, 0, 0, 0, 0, 0, 0, 0, 0, 0, 0, 0, 0, 0, 0, 0, 0, 0, 0, 0, 0, 0, 0, 0, 0, 0, 0, 0, 0, 0, 0, 0, 0, 0, 0, 0, 0, 0, 0, 0, 0, 0, 0, 0, 0, 0, 0, 0, 0, 0, 0, 0, 0, 0, 0, 0, 0, 0, 0, 0, 0, 0] : List Int)))) (Int.toNat (((List.length r2.1) : Nat) : Int)) (ibits BinOp.xor .u8 (List.getD ([] ++ ((List.take 136 r2.1) ++ (List.drop (0 + (Min.min (List.length r2.1) 136)) ([0, 0, 0, 0, 0, 0, 0, 0, 0, 0, 0, 0, 0, 0, 0, 0, 0, 0, 0, 0, 0, 0, 0, 0, 0, 0, 0, 0, 0, 0, 0, 0, 0, 0, 0, 0, 0, 0, 0, 0, 0, 0, 0, 0, 0, 0, 0, 0, 0, 0, 0, 0, 0, 0, 0, 0, 0, 0, 0, 0, 0, 0, 0, 0, 0, 0, 0, 0, 0, 0, 0, 0, 0, 0, 0, 0, 0, 0, 0, 0, 0, 0, 0, 0, 0, 0, 0, 0, 0, 0, 0, 0, 0, 0, 0, 0, 0, 0, 0, 0, 0, 0, 0, 0, 0, 0, 0, 0, 0, 0, 0, 0, 0, 0, 0, 0, 0, 0, 0, 0, 0, 0, 0, 0, 0, 0, 0, 0, 0, 0, 0, 0, 0, 0, 0, 0] : List Int)))) (Int.toNat (((List.length r2.1) : Nat) : Int)) 0) 1)) 135 0) 128)))), r2.2.1)) fun r8 =>
 zD (Faz.l12.m n n (0, r8, ([0, 0, 0, 0, 0, 0, 0, 0, 0, 0, 0, 0, 0, 0, 0, 0, 0, 0, 0, 0, 0, 0, 0, 0, 0, 0, 0, 0, 0, 0, 0, 0] : List Int), r2.2.2)) fun r10 =>
 zD (Fbd.m n (List.take 32 (List.drop 0 r10.1))) fun r12 =>
 some (mk0 r12)
 else
 none
 else
 none
def Faz.m (n : Nat) (t : LI) : Option LI := Faz.g (fun a0 => a0) n t
def Faz.pat : List AV → zC → Option LI
 | [(.rints .u8 a0)], [] => some a0
 | _, _ => none
def Faz.shape (t : LI) : List AV × zC := ([(.rints .u8 t)], [])
def Faz.res : LI → AV × zC
 | u => ((.ints .u64 4 u), [])
def Faz.c (n : Nat) : Abs.Callee := .mk' [] [(some (.ints .u8))] Faz.pat (Faz.m n) (zO Faz.res)
noncomputable def Fam.C (n : Nat) : Ctx := ⟨Tryz.prog, zI, zU [(81, Faz.c n), (71, Fat.c n)], fun _ => false⟩
noncomputable def Fam.A (n : Nat) : Ann := ⟨Tryz.f67.ntmps, 0, zV, [], [(some (.ints .u8))], fun k => match k with
 | _ => none, zV, zW []⟩
def Fam.g {α : Type} (mk0 : LI → α) (n : Nat) (a0 : ByteArray) : Option α :=
 zD (Faz.m n (Go.Abs.bytesOf a0)) fun r2 =>
 zD (Fat.m n r2) fun r4 =>
 if 4 ≤ (r4.length : Int) then
 some (mk0 (Go.Abs.partL r4 0 (Go.Abs.span (List.length r4) 0 (Option.some 4))))
 else
 none
def Fam.m (n : Nat) (t : ByteArray) : Option LI := Fam.g (fun a0 => a0) n t
def Fam.pat : List AV → zC → Option ByteArray
 | [(.str a0)], [] => some a0
 | _, _ => none
def Fam.shape (t : ByteArray) : List AV × zC := ([(.str t)], [])
def Fam.res : LI → AV × zC
 | u => ((.own 0 1), [(some (.ints .u8 u))])
def Fam.c (n : Nat) : Abs.Callee := .mk' [] [none] Fam.pat (Fam.m n) (zO Fam.res)
noncomputable def Fbk.C (n : Nat) : Ctx := ⟨Tryz.prog, zI, zU [], fun _ => false⟩
def Fbk.live : NL := fun k => match k with
 | 2 => ([1], [1])
 | 7 => ([4, 1, 3, 2], [1])
 | _ => ([], [])
def Fbk.l2.r {α : Type} (mk0 : LI → α) (n : Nat) (rc : LI → Option α)  (x0 : LI) : Option α :=
 if (decide ((x0.length : Int) < 25)) = true then
 if ((((List.length x0) + 1) * 8) ≤ 70368744177664 ∧ ((List.length x0) + 1) ≤ 9223372036854775807) then
 rc (x0 ++ [0])
 else
 none
 else
 some (mk0 x0)
def Fbk.l2.g {α : Type} (mk0 : LI → α) (n : Nat) : Nat → LI → Option α
 | 0, _ => none
 | m + 1, x0 => Fbk.l2.r mk0 n (fun y0 => Fbk.l2.g mk0 n m y0)  x0
def Fbk.l2.m (n m : Nat) (t : LI) : Option LI := Fbk.l2.g (fun a0 => a0) n m t
def Fbk.l2.pat : St → Option LI
 | (St.mk [(.own 0 1)] [(some (.ints .i64 x0))]) => some x0
 | _ => none
def Fbk.l2.shape (t : LI) : St := (St.mk [(.own 0 1)] [(some (.ints .i64 t))])
def Fbk.l2.res : LI → Ex × St
 | u => ((.exit 0), (St.mk [(.own 0 1)] [(some (.ints .i64 u))]))
def Fbk.l7.r {α : Type} (mk0 : LI → α) (n : Nat) (rc : Int → Int → Int → LI → Option α)  (x0 x1 x2 : Int) (x3 : LI) : Option α :=
 if (decide (x0 < 24)) = true then
 if 0 ≤ (IntKind.wrap .i64 ((IntKind.wrap .i64 (5 * x1)) + x2)) then
 if (IntKind.wrap .i64 ((IntKind.wrap .i64 (5 * x1)) + x2)) < (x3.length : Int) then
 rc (IntKind.wrap .i64 (x0 + 1)) (Int.tmod (IntKind.wrap .i64 ((IntKind.wrap .i64 (2 * x2)) + (IntKind.wrap .i64 (3 * x1)))) 5) x1 (List.set x3 (Int.toNat (IntKind.wrap .i64 ((IntKind.wrap .i64 (5 * x1)) + x2))) (Int.tmod (IntKind.wrap .i64 (Int.tdiv (IntKind.wrap .i64 ((IntKind.wrap .i64 (x0 + 1)) * (IntKind.wrap .i64 (x0 + 2)))) 2)) 64))
 else
 none
 else
 none
 else
 some (mk0 x3)
def Fbk.l7.g {α : Type} (mk0 : LI → α) (n : Nat) : Nat → Int → Int → Int → LI → Option α
 | 0, _, _, _, _ => none
 | m + 1, x0, x1, x2, x3 => Fbk.l7.r mk0 n (fun y0 y1 y2 y3 => Fbk.l7.g mk0 n m y0 y1 y2 y3)  x0 x1 x2 x3
def Fbk.l7.m (n m : Nat) (t : (Int × (Int × (Int × LI)))) : Option LI := Fbk.l7.g (fun a0 => a0) n m t.1 t.2.1 t.2.2.1 t.2.2.2
def Fbk.l7.pat : St → Option (Int × (Int × (Int × LI)))
 | (St.mk [(.int .i64 x0), (.own 0 1), (.int .i64 x1), (.int .i64 x2)] [(some (.ints .i64 x3))]) => some (x0, x1, x2, x3)
 | _ => none
def Fbk.l7.shape (t : (Int × (Int × (Int × LI)))) : St := (St.mk [(.int .i64 t.1), (.own 0 1), (.int .i64 t.2.1), (.int .i64 t.2.2.1)] [(some (.ints .i64 t.2.2.2))])
def Fbk.l7.res : LI → Ex × St
 | u => ((.exit 2), (St.mk [(.own 0 1)] [(some (.ints .i64 u))]))
noncomputable def Fbk.A (n : Nat) : Ann := ⟨Tryz.f58.ntmps, 0, Fbk.live, [(1, (.ints .i64))], [(some (.ints .i64))], fun k => match k with
 | 2 => some (.mk' Fbk.l2.pat (Fbk.l2.m n n) (zQ Fbk.l2.res))
 | 7 => some (.mk' Fbk.l7.pat (Fbk.l7.m n n) (zQ Fbk.l7.res))
 | _ => none, zV, zW []⟩
noncomputable def Fbk.b0 : Code := (zK (Tryz.f58.body.getD .skip)).getD 0 .skip
noncomputable def Fbk.b1 : Code := (zK (Tryz.f58.body.getD .skip)).getD 1 .skip
def Fbk.g {α : Type} (mk0 : LI → α) (n : Nat)  : Option α :=
 zD (Fbk.l2.m n n [0]) fun r2 =>
 zD (Fbk.l7.m n n (0, 0, 1, r2)) fun r4 =>
 some (mk0 r4)
def Fbk.m (n : Nat) (t : Unit) : Option LI := Fbk.g (fun a0 => a0) n 
def Fbk.pat : List AV → zC → Option Unit
 | [], [] => some ()
 | _, _ => none
def Fbk.shape (t : Unit) : List AV × zC := ([], [])
def Fbk.res : LI → AV × zC
 | u => ((.own 0 1), [(some (.ints .i64 u))])
def Fbk.c (n : Nat) : Abs.Callee := .mk' [] [] Fbk.pat (Fbk.m n) (zO Fbk.res)
noncomputable def Fcc.C (n : Nat) : Ctx := ⟨Tryz.prog, zI, zU [], fun _ => false⟩
def Fcc.live : NL := fun k => match k with
 | 4 => ([3, 2, 1], [1])
 | 9 => ([6, 2, 4, 5, 1, 3], [1, 4, 3, 2])
 | _ => ([], [])
def Fcc.l9.r {α : Type} (mk0 : Int → Int → Int → LI → α) (n : Nat) (rc : Int → Int → Int → Int → Int → LI → Option α)  (x0 x1 : Int) (x2 x3 x4 : Int) (x5 : LI) : Option α :=
 if (decide (x0 < 7)) = true then
 if ((Int.tmod x1 2) == 1) = true then
 if 0 ≤ (IntKind.wrap .u64 (IntKind.wrap .i64 (x3 - 1))) then
 if (decide ((IntKind.wrap .i64 (2 * x1)) ≥ 256)) = true then
 rc (IntKind.wrap .i64 (x0 + 1)) (ibits BinOp.xor .i64 (IntKind.wrap .i64 (2 * x1)) 369) (ibits BinOp.or .u64 x2 (ishl .u64 1 (IntKind.wrap .u64 (IntKind.wrap .i64 (x3 - 1))))) (IntKind.wrap .i64 (2 * x3)) x4 x5
 else
 rc (IntKind.wrap .i64 (x0 + 1)) (IntKind.wrap .i64 (2 * x1)) (ibits BinOp.or .u64 x2 (ishl .u64 1 (IntKind.wrap .u64 (IntKind.wrap .i64 (x3 - 1))))) (IntKind.wrap .i64 (2 * x3)) x4 x5
 else
 none
 else
 if (decide ((IntKind.wrap .i64 (2 * x1)) ≥ 256)) = true then
 rc (IntKind.wrap .i64 (x0 + 1)) (ibits BinOp.xor .i64 (IntKind.wrap .i64 (2 * x1)) 369) x2 (IntKind.wrap .i64 (2 * x3)) x4 x5
 else
 rc (IntKind.wrap .i64 (x0 + 1)) (IntKind.wrap .i64 (2 * x1)) x2 (IntKind.wrap .i64 (2 * x3)) x4 x5
 else
 some (mk0 x2 x4 x1 x5)
def Fcc.l9.g {α : Type} (mk0 : Int → Int → Int → LI → α) (n : Nat) : Nat → Int → Int → Int → Int → Int → LI → Option α
 | 0, _, _, _, _, _, _ => none
 | m + 1, x0, x1, x2, x3, x4, x5 => Fcc.l9.r mk0 n (fun y0 y1 y2 y3 y4 y5 => Fcc.l9.g mk0 n m y0 y1 y2 y3 y4 y5)  x0 x1 x2 x3 x4 x5
def Fcc.l9.m (n m : Nat) (t : zLH) : Option (Int × (Int × (Int × LI))) := Fcc.l9.g (fun a0 a1 a2 a3 => (a0, a1, a2, a3)) n m t.1 t.2.1 t.2.2.1 t.2.2.2.1 t.w.1 t.w.2
def Fcc.l9.pat : St → Option zLH
 | (St.mk [(.int .i64 x0), (.int .i64 x1), (.int .u64 x2), (.int .i64 x3), (.own 0 1), (.int .i64 x4)] [(some (.ints .u64 x5))]) => some (x0, x1, x2, x3, x4, x5)
 | _ => none
def Fcc.l9.shape (t : zLH) : St := (St.mk [(.int .i64 t.1), (.int .i64 t.2.1), (.int .u64 t.2.2.1), (.int .i64 t.2.2.2.1), (.own 0 1), (.int .i64 t.w.1)] [(some (.ints .u64 t.w.2))])
def Fcc.l9.res : (Int × (Int × (Int × LI))) → Ex × St
 | u => ((.exit 2), (St.mk [(.own 0 1), (.int .u64 u.1), (.int .i64 u.2.1), (.int .i64 u.2.2.1)] [(some (.ints .u64 u.2.2.2))]))
def Fcc.l4.r {α : Type} (mk0 : LI → α) (n : Nat) (rc : Int → Int → LI → Option α)  (x0 x1 : Int) (x2 : LI) : Option α :=
 if (decide (x0 < 24)) = true then
 zD (Fcc.l9.m n n (0, x1, 0, 1, x0, x2)) fun r6 =>
 if ((((List.length r6.2.2.2) + 1) * 8) ≤ 70368744177664 ∧ ((List.length r6.2.2.2) + 1) ≤ 9223372036854775807) then
 rc (IntKind.wrap .i64 (r6.2.1 + 1)) r6.2.2.1 (r6.2.2.2 ++ [r6.1])
 else
 none
 else
 some (mk0 x2)
def Fcc.l4.g {α : Type} (mk0 : LI → α) (n : Nat) : Nat → Int → Int → LI → Option α
 | 0, _, _, _ => none
 | m + 1, x0, x1, x2 => Fcc.l4.r mk0 n (fun y0 y1 y2 => Fcc.l4.g mk0 n m y0 y1 y2)  x0 x1 x2
def Fcc.l4.m (n m : Nat) (t : (Int × (Int × LI))) : Option LI := Fcc.l4.g (fun a0 => a0) n m t.1 t.2.1 t.2.2
def Fcc.l4.pat : St → Option (Int × (Int × LI))
 | (St.mk [(.int .i64 x0), (.int .i64 x1), (.own 0 1)] [(some (.ints .u64 x2))]) => some (x0, x1, x2)
 | _ => none
def Fcc.l4.shape (t : (Int × (Int × LI))) : St := (St.mk [(.int .i64 t.1), (.int .i64 t.2.1), (.own 0 1)] [(some (.ints .u64 t.2.2))])
def Fcc.l4.res : LI → Ex × St
 | u => ((.exit 0), (St.mk [(.own 0 1)] [(some (.ints .u64 u))]))
noncomputable def Fcc.A (n : Nat) : Ann := ⟨Tryz.f59.ntmps, 0, Fcc.live, [(1, (.ints .u64))], [(some (.ints .u64))], fun k => match k with
 | 9 => some (.mk' Fcc.l9.pat (Fcc.l9.m n n) (zQ Fcc.l9.res))
 | 4 => some (.mk' Fcc.l4.pat (Fcc.l4.m n n) (zQ Fcc.l4.res))
 | _ => none, zV, zW []⟩
noncomputable def Fcc.b0 : Code := (zK (Tryz.f59.body.getD .skip)).getD 0 .skip
noncomputable def Fcc.b1 : Code := (zK (Tryz.f59.body.getD .skip)).getD 1 .skip
def Fcc.g {α : Type} (mk0 : LI → α) (n : Nat)  : Option α :=
 zD (Fcc.l4.m n n (0, 1, [])) fun r2 =>
 some (mk0 r2)
def Fcc.m (n : Nat) (t : Unit) : Option LI := Fcc.g (fun a0 => a0) n 
def Fcc.pat : List AV → zC → Option Unit
 | [], [] => some ()
 | _, _ => none
def Fcc.shape (t : Unit) : List AV × zC := ([], [])
def Fcc.res : LI → AV × zC
 | u => ((.own 0 1), [(some (.ints .u64 u))])
def Fcc.c (n : Nat) : Abs.Callee := .mk' [] [] Fcc.pat (Fcc.m n) (zO Fcc.res)
noncomputable def Fcg.C (n : Nat) : Ctx := ⟨Tryz.prog, zI, zU [], fun _ => false⟩
noncomputable def Fcg.A (n : Nat) : Ann := ⟨Tryz.f78.ntmps, 0, zV, [], [none], fun k => match k with
 | _ => none, zV, zW []⟩
def Fcg.g {α : Type} (mk0 : Int → α) (n : Nat) (a0 a1 : Int) : Option α :=
 if (a1 == 0) = true then
 some (mk0 a0)
 else
 if 0 ≤ (IntKind.wrap .u64 a1) then
 if 0 ≤ (IntKind.wrap .u64 (IntKind.wrap .i64 (64 - a1))) then
 some (mk0 (ibits BinOp.or .u64 (ishl .u64 a0 (IntKind.wrap .u64 a1)) (ishr .u64 a0 (IntKind.wrap .u64 (IntKind.wrap .i64 (64 - a1))))))
 else
 none
 else
 none
def Fcg.m (n : Nat) (t : (Int × Int)) : Option Int := Fcg.g (fun a0 => a0) n t.1 t.2
def Fcg.pat : List AV → zC → Option (Int × Int)
 | [(.int .u64 a0), (.int .i64 a1)], [] => some (a0, a1)
 | _, _ => none
def Fcg.shape (t : (Int × Int)) : List AV × zC := ([(.int .u64 t.1), (.int .i64 t.2)], [])
def Fcg.res : Int → AV × zC
 | u => ((.int .u64 u), [])
def Fcg.c (n : Nat) : Abs.Callee := .mk' [] [none, none] Fcg.pat (Fcg.m n) (zO Fcg.res)
noncomputable def Fch.C (n : Nat) : Ctx := ⟨Tryz.prog, zI, zU [(78, Fcg.c n)], fun _ => false⟩
def Fch.live : NL := fun k => match k with
 | 2 => ([7, 0, 1, 2], [0])
 | 6 => ([9, 8, 0, 1, 2, 7], [8, 0, 1, 2, 7])
 | 11 => ([11, 8, 10, 0, 1, 2, 7], [10, 2, 7, 1])
 | 15 => ([13, 10, 11, 0, 12, 1, 8, 2, 7], [11, 8, 10, 0, 1, 2, 7])
 | 20 => ([15, 14, 10, 2, 7, 1], [14, 2, 7, 1])
 | 23 => ([16, 14, 10, 15, 2, 7, 1], [15, 14, 10, 2, 7, 1])
 | _ => ([], [])
def Fch.l6.r {α : Type} (mk0 : LI → LI → LI → Int → LI → α) (n : Nat) (rc : Int → LI → LI → LI → Int → LI → Option α)  (x0 : Int) (x1 x2 x3 : LI) (x4 : Int) (x5 : LI) : Option α :=
 if (decide (x0 < 5)) = true then
 if 0 ≤ x0 then
 if x0 < (x1.length : Int) then
 if 0 ≤ (IntKind.wrap .i64 (5 + x0)) then
 if (IntKind.wrap .i64 (5 + x0)) < (x1.length : Int) then
 if 0 ≤ (IntKind.wrap .i64 (10 + x0)) then
 if (IntKind.wrap .i64 (10 + x0)) < (x1.length : Int) then
 if 0 ≤ (IntKind.wrap .i64 (15 + x0)) then
 if (IntKind.wrap .i64 (15 + x0)) < (x1.length : Int) then
 if 0 ≤ (IntKind.wrap .i64 (20 + x0)) then
 if (IntKind.wrap .i64 (20 + x0)) < (x1.length : Int) then
 if ((((List.length x5) + 1) * 8) ≤ 70368744177664 ∧ ((List.length x5) + 1) ≤ 9223372036854775807) then
 rc (IntKind.wrap .i64 (x0 + 1)) x1 x2 x3 x4 (x5 ++ [(ibits BinOp.xor .u64 (ibits BinOp.xor .u64 (ibits BinOp.xor .u64 (ibits BinOp.xor .u64 (List.getD x1 (Int.toNat x0) 0) (List.getD x1 (Int.toNat (IntKind.wrap .i64 (5 + x0))) 0)) (List.getD x1 (Int.toNat (IntKind.wrap .i64 (10 + x0))) 0)) (List.getD x1 (Int.toNat (IntKind.wrap .i64 (15 + x0))) 0)) (List.getD x1 (Int.toNat (IntKind.wrap .i64 (20 + x0))) 0))])
 else
 none
 else
 none
 else
 none
 else
 none
 else
 none
 else
 none
 else
 none
 else
 none
 else
 none
 else
 none
 else
 none
 else
 some (mk0 x1 x2 x3 x4 x5)
def Fch.l6.g {α : Type} (mk0 : LI → LI → LI → Int → LI → α) (n : Nat) : Nat → Int → LI → LI → LI → Int → LI → Option α
 | 0, _, _, _, _, _, _ => none
 | m + 1, x0, x1, x2, x3, x4, x5 => Fch.l6.r mk0 n (fun y0 y1 y2 y3 y4 y5 => Fch.l6.g mk0 n m y0 y1 y2 y3 y4 y5)  x0 x1 x2 x3 x4 x5
def Fch.l6.m (n m : Nat) (t : (Int × (LI × (LI × (LI × (Int × LI)))))) : Option (LI × (LI × (LI × (Int × LI)))) := Fch.l6.g (fun a0 a1 a2 a3 a4 => (a0, a1, a2, a3, a4)) n m t.1 t.2.1 t.2.2.1 t.2.2.2.1 t.w.1 t.w.2
def Fch.l6.pat : St → Option (Int × (LI × (LI × (LI × (Int × LI)))))
 | (St.mk [(.int .i64 x0), (.own 0 1), (.rints .u64 x1), (.rints .i64 x2), (.rints .u64 x3), (.int .i64 x4)] [(some (.ints .u64 x5))]) => some (x0, x1, x2, x3, x4, x5)
 | _ => none
def Fch.l6.shape (t : (Int × (LI × (LI × (LI × (Int × LI)))))) : St := (St.mk [(.int .i64 t.1), (.own 0 1), (.rints .u64 t.2.1), (.rints .i64 t.2.2.1), (.rints .u64 t.2.2.2.1), (.int .i64 t.w.1)] [(some (.ints .u64 t.w.2))])
def Fch.l6.res : (LI × (LI × (LI × (Int × LI)))) → Ex × St
 | u => ((.exit 2), (St.mk [(.own 0 1), (.rints .u64 u.1), (.rints .i64 u.2.1), (.rints .u64 u.2.2.1), (.int .i64 u.2.2.2.1)] [(some (.ints .u64 u.w))]))
def Fch.l15.r {α : Type} (mk0 : Int → LI → LI → LI → Int → LI → LI → α) (n : Nat) (rc : Int → Int → LI → Int → LI → LI → Int → LI → LI → Option α)  (x0 x1 : Int) (x2 : LI) (x3 : Int) (x4 x5 : LI) (x6 : Int) (x7 x8 : LI) : Option α :=
 if (decide (x0 < 5)) = true then
 if 0 ≤ (IntKind.wrap .i64 ((IntKind.wrap .i64 (5 * x0)) + x1)) then
 if (IntKind.wrap .i64 ((IntKind.wrap .i64 (5 * x0)) + x1)) < (x2.length : Int) then
 if 0 ≤ (IntKind.wrap .i64 ((IntKind.wrap .i64 (5 * x0)) + x1)) then
 if (IntKind.wrap .i64 ((IntKind.wrap .i64 (5 * x0)) + x1)) < (x4.length : Int) then
 zD (Fcg.m n ((ibits BinOp.xor .u64 (List.getD x2 (Int.toNat (IntKind.wrap .i64 ((IntKind.wrap .i64 (5 * x0)) + x1))) 0) x3), (List.getD x4 (Int.toNat (IntKind.wrap .i64 ((IntKind.wrap .i64 (5 * x0)) + x1))) 0))) fun r14 =>
 if 0 ≤ (IntKind.wrap .i64 ((IntKind.wrap .i64 (5 * (Int.tmod (IntKind.wrap .i64 ((IntKind.wrap .i64 (2 * x1)) + (IntKind.wrap .i64 (3 * x0)))) 5))) + x0)) then
 if (IntKind.wrap .i64 ((IntKind.wrap .i64 (5 * (Int.tmod (IntKind.wrap .i64 ((IntKind.wrap .i64 (2 * x1)) + (IntKind.wrap .i64 (3 * x0)))) 5))) + x0)) < (x7.length : Int) then
 rc (IntKind.wrap .i64 (x0 + 1)) x1 x2 x3 x4 x5 x6 (List.set x7 (Int.toNat (IntKind.wrap .i64 ((IntKind.wrap .i64 (5 * (Int.tmod (IntKind.wrap .i64 ((IntKind.wrap .i64 (2 * x1)) + (IntKind.wrap .i64 (3 * x0)))) 5))) + x0))) r14) x8
 else
 none
 else
 none
 else
 none
 else
 none
 else
 none
 else
 none
 else
 some (mk0 x1 x2 x4 x5 x6 x8 x7)
def Fch.l15.g {α : Type} (mk0 : Int → LI → LI → LI → Int → LI → LI → α) (n : Nat) : Nat → Int → Int → LI → Int → LI → LI → Int → LI → LI → Option α
 | 0, _, _, _, _, _, _, _, _, _ => none
 | m + 1, x0, x1, x2, x3, x4, x5, x6, x7, x8 => Fch.l15.r mk0 n (fun y0 y1 y2 y3 y4 y5 y6 y7 y8 => Fch.l15.g mk0 n m y0 y1 y2 y3 y4 y5 y6 y7 y8)  x0 x1 x2 x3 x4 x5 x6 x7 x8
def Fch.l15.m (n m : Nat) (t : zLM) : Option zKs := Fch.l15.g (fun a0 a1 a2 a3 a4 a5 a6 => (a0, a1, a2, a3, a4, a5, a6)) n m t.1 t.2.1 t.2.2.1 t.2.2.2.1 t.w.1 t.w.2.1 t.w.2.2.1 t.w.2.2.2.1 t.x
def Fch.l15.pat : St → Option zLM
 | (St.mk [(.int .i64 x0), (.own 0 1), (.int .i64 x1), (.rints .u64 x2), (.int .u64 x3), (.rints .i64 x4), (.own 1 1), (.rints .u64 x5), (.int .i64 x6)] [(some (.ints .u64 x7)), (some (.ints .u64 x8))]) => some (x0, x1, x2, x3, x4, x5, x6, x7, x8)
 | _ => none
def Fch.l15.shape (t : zLM) : St := (St.mk [(.int .i64 t.1), (.own 0 1), (.int .i64 t.2.1), (.rints .u64 t.2.2.1), (.int .u64 t.2.2.2.1), (.rints .i64 t.w.1), (.own 1 1), (.rints .u64 t.w.2.1), (.int .i64 t.w.2.2.1)] [(some (.ints .u64 t.w.2.2.2.1)), (some (.ints .u64 t.x))])
def Fch.l15.res : zKs → Ex × St
 | u => ((.exit 6), (St.mk [(.int .i64 u.1), (.own 0 1), (.own 1 1), (.rints .u64 u.2.1), (.rints .i64 u.2.2.1), (.rints .u64 u.2.2.2.1), (.int .i64 u.w.1)] [(some (.ints .u64 u.w.2.1)), (some (.ints .u64 u.w.2.2))]))
def Fch.l11.r {α : Type} (mk0 : LI → Int → LI → LI → α) (n : Nat) (rc : Int → LI → LI → LI → Int → LI → LI → Option α)  (x0 : Int) (x1 x2 x3 : LI) (x4 : Int) (x5 x6 : LI) : Option α :=
 if (decide (x0 < 5)) = true then
 if 0 ≤ (Int.tmod (IntKind.wrap .i64 (x0 + 4)) 5) then
 if (Int.tmod (IntKind.wrap .i64 (x0 + 4)) 5) < (x5.length : Int) then
 if 0 ≤ (Int.tmod (IntKind.wrap .i64 (x0 + 1)) 5) then
 if (Int.tmod (IntKind.wrap .i64 (x0 + 1)) 5) < (x5.length : Int) then
 zD (Fcg.m n ((List.getD x5 (Int.toNat (Int.tmod (IntKind.wrap .i64 (x0 + 1)) 5)) 0), 1)) fun r14 =>
 zD (Fch.l15.m n n (0, x0, x1, (ibits BinOp.xor .u64 (List.getD x5 (Int.toNat (Int.tmod (IntKind.wrap .i64 (x0 + 4)) 5)) 0) r14), x2, x3, x4, x6, x5)) fun r16 =>
 rc (IntKind.wrap .i64 (r16.1 + 1)) r16.2.1 r16.2.2.1 r16.2.2.2.1 r16.w.1 r16.w.2.1 r16.w.2.2
 else
 none
 else
 none
 else
 none
 else
 none
 else
 some (mk0 x3 x4 x2 x6)
def Fch.l11.g {α : Type} (mk0 : LI → Int → LI → LI → α) (n : Nat) : Nat → Int → LI → LI → LI → Int → LI → LI → Option α
 | 0, _, _, _, _, _, _, _ => none
 | m + 1, x0, x1, x2, x3, x4, x5, x6 => Fch.l11.r mk0 n (fun y0 y1 y2 y3 y4 y5 y6 => Fch.l11.g mk0 n m y0 y1 y2 y3 y4 y5 y6)  x0 x1 x2 x3 x4 x5 x6
def Fch.l11.m (n m : Nat) (t : zKs) : Option (LI × (Int × (LI × LI))) := Fch.l11.g (fun a0 a1 a2 a3 => (a0, a1, a2, a3)) n m t.1 t.2.1 t.2.2.1 t.2.2.2.1 t.w.1 t.w.2.1 t.w.2.2
def Fch.l11.pat : St → Option zKs
 | (St.mk [(.int .i64 x0), (.own 0 1), (.own 1 1), (.rints .u64 x1), (.rints .i64 x2), (.rints .u64 x3), (.int .i64 x4)] [(some (.ints .u64 x5)), (some (.ints .u64 x6))]) => some (x0, x1, x2, x3, x4, x5, x6)
 | _ => none
def Fch.l11.shape (t : zKs) : St := (St.mk [(.int .i64 t.1), (.own 0 1), (.own 1 1), (.rints .u64 t.2.1), (.rints .i64 t.2.2.1), (.rints .u64 t.2.2.2.1), (.int .i64 t.w.1)] [(some (.ints .u64 t.w.2.1)), (some (.ints .u64 t.w.2.2))])
def Fch.l11.res : (LI × (Int × (LI × LI))) → Ex × St
 | u => ((.exit 4), (St.mk [(.own 0 1), (.rints .u64 u.1), (.int .i64 u.2.1), (.rints .i64 u.2.2.1)] [(some (.ints .u64 u.2.2.2))]))
def Fch.l23.r {α : Type} (mk0 : Int → LI → Int → LI → LI → LI → α) (n : Nat) (rc : Int → Int → LI → Int → LI → LI → LI → Option α)  (x0 x1 : Int) (x2 : LI) (x3 : Int) (x4 x5 x6 : LI) : Option α :=
 if (decide (x0 < 5)) = true then
 if 0 ≤ (IntKind.wrap .i64 ((IntKind.wrap .i64 (5 * x1)) + x0)) then
 if (IntKind.wrap .i64 ((IntKind.wrap .i64 (5 * x1)) + x0)) < (x6.length : Int) then
 if 0 ≤ (IntKind.wrap .i64 ((IntKind.wrap .i64 (5 * x1)) + (Int.tmod (IntKind.wrap .i64 (x0 + 1)) 5))) then
 if (IntKind.wrap .i64 ((IntKind.wrap .i64 (5 * x1)) + (Int.tmod (IntKind.wrap .i64 (x0 + 1)) 5))) < (x6.length : Int) then
 if 0 ≤ (IntKind.wrap .i64 ((IntKind.wrap .i64 (5 * x1)) + (Int.tmod (IntKind.wrap .i64 (x0 + 2)) 5))) then
 if (IntKind.wrap .i64 ((IntKind.wrap .i64 (5 * x1)) + (Int.tmod (IntKind.wrap .i64 (x0 + 2)) 5))) < (x6.length : Int) then
 if ((((List.length x5) + 1) * 8) ≤ 70368744177664 ∧ ((List.length x5) + 1) ≤ 9223372036854775807) then
 rc (IntKind.wrap .i64 (x0 + 1)) x1 x2 x3 x4 (x5 ++ [(ibits BinOp.xor .u64 (List.getD x6 (Int.toNat (IntKind.wrap .i64 ((IntKind.wrap .i64 (5 * x1)) + x0))) 0) (ibits BinOp.and .u64 (ibits BinOp.xor .u64 (if false = true then (-1) else 18446744073709551615) (List.getD x6 (Int.toNat (IntKind.wrap .i64 ((IntKind.wrap .i64 (5 * x1)) + (Int.tmod (IntKind.wrap .i64 (x0 + 1)) 5)))) 0)) (List.getD x6 (Int.toNat (IntKind.wrap .i64 ((IntKind.wrap .i64 (5 * x1)) + (Int.tmod (IntKind.wrap .i64 (x0 + 2)) 5)))) 0)))]) x6
 else
 none
 else
 none
 else
 none
 else
 none
 else
 none
 else
 none
 else
 none
 else
 some (mk0 x1 x2 x3 x4 x5 x6)
def Fch.l23.g {α : Type} (mk0 : Int → LI → Int → LI → LI → LI → α) (n : Nat) : Nat → Int → Int → LI → Int → LI → LI → LI → Option α
 | 0, _, _, _, _, _, _, _ => none
 | m + 1, x0, x1, x2, x3, x4, x5, x6 => Fch.l23.r mk0 n (fun y0 y1 y2 y3 y4 y5 y6 => Fch.l23.g mk0 n m y0 y1 y2 y3 y4 y5 y6)  x0 x1 x2 x3 x4 x5 x6
def Fch.l23.m (n m : Nat) (t : zLI) : Option (Int × (LI × (Int × (LI × (LI × LI))))) := Fch.l23.g (fun a0 a1 a2 a3 a4 a5 => (a0, a1, a2, a3, a4, a5)) n m t.1 t.2.1 t.2.2.1 t.2.2.2.1 t.w.1 t.w.2.1 t.w.2.2
def Fch.l23.pat : St → Option zLI
 | (St.mk [(.int .i64 x0), (.own 0 1), (.own 1 1), (.int .i64 x1), (.rints .u64 x2), (.int .i64 x3), (.rints .i64 x4)] [(some (.ints .u64 x5)), (some (.ints .u64 x6))]) => some (x0, x1, x2, x3, x4, x5, x6)
 | _ => none
def Fch.l23.shape (t : zLI) : St := (St.mk [(.int .i64 t.1), (.own 0 1), (.own 1 1), (.int .i64 t.2.1), (.rints .u64 t.2.2.1), (.int .i64 t.2.2.2.1), (.rints .i64 t.w.1)] [(some (.ints .u64 t.w.2.1)), (some (.ints .u64 t.w.2.2))])
def Fch.l23.res : (Int × (LI × (Int × (LI × (LI × LI))))) → Ex × St
 | u => ((.exit 10), (St.mk [(.int .i64 u.1), (.own 0 1), (.own 1 1), (.rints .u64 u.2.1), (.int .i64 u.2.2.1), (.rints .i64 u.2.2.2.1)] [(some (.ints .u64 u.w.1)), (some (.ints .u64 u.w.2))]))
def Fch.l20.r {α : Type} (mk0 : LI → Int → LI → LI → α) (n : Nat) (rc : Int → LI → Int → LI → LI → LI → Option α)  (x0 : Int) (x1 : LI) (x2 : Int) (x3 x4 x5 : LI) : Option α :=
 if (decide (x0 < 5)) = true then
 zD (Fch.l23.m n n (0, x0, x1, x2, x3, x4, x5)) fun r6 =>
 rc (IntKind.wrap .i64 (r6.1 + 1)) r6.2.1 r6.2.2.1 r6.2.2.2.1 r6.w.1 r6.w.2
 else
 some (mk0 x1 x2 x3 x4)
def Fch.l20.g {α : Type} (mk0 : LI → Int → LI → LI → α) (n : Nat) : Nat → Int → LI → Int → LI → LI → LI → Option α
 | 0, _, _, _, _, _, _ => none
 | m + 1, x0, x1, x2, x3, x4, x5 => Fch.l20.r mk0 n (fun y0 y1 y2 y3 y4 y5 => Fch.l20.g mk0 n m y0 y1 y2 y3 y4 y5)  x0 x1 x2 x3 x4 x5
def Fch.l20.m (n m : Nat) (t : (Int × (LI × (Int × (LI × (LI × LI)))))) : Option (LI × (Int × (LI × LI))) := Fch.l20.g (fun a0 a1 a2 a3 => (a0, a1, a2, a3)) n m t.1 t.2.1 t.2.2.1 t.2.2.2.1 t.w.1 t.w.2
def Fch.l20.pat : St → Option (Int × (LI × (Int × (LI × (LI × LI)))))
 | (St.mk [(.int .i64 x0), (.own 0 1), (.own 1 1), (.rints .u64 x1), (.int .i64 x2), (.rints .i64 x3)] [(some (.ints .u64 x4)), (some (.ints .u64 x5))]) => some (x0, x1, x2, x3, x4, x5)
 | _ => none
def Fch.l20.shape (t : (Int × (LI × (Int × (LI × (LI × LI)))))) : St := (St.mk [(.int .i64 t.1), (.own 0 1), (.own 1 1), (.rints .u64 t.2.1), (.int .i64 t.2.2.1), (.rints .i64 t.2.2.2.1)] [(some (.ints .u64 t.w.1)), (some (.ints .u64 t.w.2))])
def Fch.l20.res : (LI × (Int × (LI × LI))) → Ex × St
 | u => ((.exit 8), (St.mk [(.own 0 1), (.rints .u64 u.1), (.int .i64 u.2.1), (.rints .i64 u.2.2.1)] [(some (.ints .u64 u.2.2.2))]))
def Fch.l6v1.r {α : Type} (mk0 : LI → LI → Int → LI → LI → α) (n : Nat) (rc : Int → LI → LI → Int → LI → LI → Option α)  (x0 : Int) (x1 x2 : LI) (x3 : Int) (x4 x5 : LI) : Option α :=
 if (decide (x0 < 5)) = true then
 if 0 ≤ x0 then
 if x0 < (x5.length : Int) then
 if 0 ≤ (IntKind.wrap .i64 (5 + x0)) then
 if (IntKind.wrap .i64 (5 + x0)) < (x5.length : Int) then
 if 0 ≤ (IntKind.wrap .i64 (10 + x0)) then
 if (IntKind.wrap .i64 (10 + x0)) < (x5.length : Int) then
 if 0 ≤ (IntKind.wrap .i64 (15 + x0)) then
 if (IntKind.wrap .i64 (15 + x0)) < (x5.length : Int) then
 if 0 ≤ (IntKind.wrap .i64 (20 + x0)) then
 if (IntKind.wrap .i64 (20 + x0)) < (x5.length : Int) then
 if ((((List.length x4) + 1) * 8) ≤ 70368744177664 ∧ ((List.length x4) + 1) ≤ 9223372036854775807) then
 rc (IntKind.wrap .i64 (x0 + 1)) x1 x2 x3 (x4 ++ [(ibits BinOp.xor .u64 (ibits BinOp.xor .u64 (ibits BinOp.xor .u64 (ibits BinOp.xor .u64 (List.getD x5 (Int.toNat x0) 0) (List.getD x5 (Int.toNat (IntKind.wrap .i64 (5 + x0))) 0)) (List.getD x5 (Int.toNat (IntKind.wrap .i64 (10 + x0))) 0)) (List.getD x5 (Int.toNat (IntKind.wrap .i64 (15 + x0))) 0)) (List.getD x5 (Int.toNat (IntKind.wrap .i64 (20 + x0))) 0))]) x5
 else
 none
 else
 none
 else
 none
 else
 none
 else
 none
 else
 none
 else
 none
 else
 none
 else
 none
 else
 none
 else
 none
 else
 some (mk0 x1 x2 x3 x4 x5)
def Fch.l6v1.g {α : Type} (mk0 : LI → LI → Int → LI → LI → α) (n : Nat) : Nat → Int → LI → LI → Int → LI → LI → Option α
 | 0, _, _, _, _, _, _ => none
 | m + 1, x0, x1, x2, x3, x4, x5 => Fch.l6v1.r mk0 n (fun y0 y1 y2 y3 y4 y5 => Fch.l6v1.g mk0 n m y0 y1 y2 y3 y4 y5)  x0 x1 x2 x3 x4 x5
def Fch.l6v1.m (n m : Nat) (t : (Int × (LI × (LI × (Int × (LI × LI)))))) : Option (LI × (LI × (Int × (LI × LI)))) := Fch.l6v1.g (fun a0 a1 a2 a3 a4 => (a0, a1, a2, a3, a4)) n m t.1 t.2.1 t.2.2.1 t.2.2.2.1 t.w.1 t.w.2
def Fch.l6v1.pat : St → Option (Int × (LI × (LI × (Int × (LI × LI)))))
 | (St.mk [(.int .i64 x0), (.own 0 1), (.own 1 1), (.rints .i64 x1), (.rints .u64 x2), (.int .i64 x3)] [(some (.ints .u64 x4)), (some (.ints .u64 x5))]) => some (x0, x1, x2, x3, x4, x5)
 | _ => none
def Fch.l6v1.shape (t : (Int × (LI × (LI × (Int × (LI × LI)))))) : St := (St.mk [(.int .i64 t.1), (.own 0 1), (.own 1 1), (.rints .i64 t.2.1), (.rints .u64 t.2.2.1), (.int .i64 t.2.2.2.1)] [(some (.ints .u64 t.w.1)), (some (.ints .u64 t.w.2))])
def Fch.l6v1.res : (LI × (LI × (Int × (LI × LI)))) → Ex × St
 | u => ((.exit 2), (St.mk [(.own 0 1), (.own 1 1), (.rints .i64 u.1), (.rints .u64 u.2.1), (.int .i64 u.2.2.1)] [(some (.ints .u64 u.2.2.2.1)), (some (.ints .u64 u.w))]))
def Fch.l15v1.r {α : Type} (mk0 : Int → LI → LI → Int → LI → LI → LI → α) (n : Nat) (rc : Int → Int → Int → LI → LI → Int → LI → LI → LI → Option α)  (x0 x1 x2 : Int) (x3 x4 : LI) (x5 : Int) (x6 x7 x8 : LI) : Option α :=
 if (decide (x0 < 5)) = true then
 if 0 ≤ (IntKind.wrap .i64 ((IntKind.wrap .i64 (5 * x0)) + x1)) then
 if (IntKind.wrap .i64 ((IntKind.wrap .i64 (5 * x0)) + x1)) < (x7.length : Int) then
 if 0 ≤ (IntKind.wrap .i64 ((IntKind.wrap .i64 (5 * x0)) + x1)) then
 if (IntKind.wrap .i64 ((IntKind.wrap .i64 (5 * x0)) + x1)) < (x3.length : Int) then
 zD (Fcg.m n ((ibits BinOp.xor .u64 (List.getD x7 (Int.toNat (IntKind.wrap .i64 ((IntKind.wrap .i64 (5 * x0)) + x1))) 0) x2), (List.getD x3 (Int.toNat (IntKind.wrap .i64 ((IntKind.wrap .i64 (5 * x0)) + x1))) 0))) fun r14 =>
 if 0 ≤ (IntKind.wrap .i64 ((IntKind.wrap .i64 (5 * (Int.tmod (IntKind.wrap .i64 ((IntKind.wrap .i64 (2 * x1)) + (IntKind.wrap .i64 (3 * x0)))) 5))) + x0)) then
 if (IntKind.wrap .i64 ((IntKind.wrap .i64 (5 * (Int.tmod (IntKind.wrap .i64 ((IntKind.wrap .i64 (2 * x1)) + (IntKind.wrap .i64 (3 * x0)))) 5))) + x0)) < (x6.length : Int) then
 rc (IntKind.wrap .i64 (x0 + 1)) x1 x2 x3 x4 x5 (List.set x6 (Int.toNat (IntKind.wrap .i64 ((IntKind.wrap .i64 (5 * (Int.tmod (IntKind.wrap .i64 ((IntKind.wrap .i64 (2 * x1)) + (IntKind.wrap .i64 (3 * x0)))) 5))) + x0))) r14) x7 x8
 else
 none
 else
 none
 else
 none
 else
 none
 else
 none
 else
 none
 else
 some (mk0 x1 x3 x4 x5 x8 x6 x7)
def Fch.l15v1.g {α : Type} (mk0 : Int → LI → LI → Int → LI → LI → LI → α) (n : Nat) : Nat → Int → Int → Int → LI → LI → Int → LI → LI → LI → Option α
 | 0, _, _, _, _, _, _, _, _, _ => none
 | m + 1, x0, x1, x2, x3, x4, x5, x6, x7, x8 => Fch.l15v1.r mk0 n (fun y0 y1 y2 y3 y4 y5 y6 y7 y8 => Fch.l15v1.g mk0 n m y0 y1 y2 y3 y4 y5 y6 y7 y8)  x0 x1 x2 x3 x4 x5 x6 x7 x8
def Fch.l15v1.m (n m : Nat) (t : zLL) : Option zJK := Fch.l15v1.g (fun a0 a1 a2 a3 a4 a5 a6 => (a0, a1, a2, a3, a4, a5, a6)) n m t.1 t.2.1 t.2.2.1 t.2.2.2.1 t.w.1 t.w.2.1 t.w.2.2.1 t.w.2.2.2.1 t.x
def Fch.l15v1.pat : St → Option zLL
 | (St.mk [(.int .i64 x0), (.own 0 1), (.int .i64 x1), (.own 1 1), (.int .u64 x2), (.rints .i64 x3), (.own 2 1), (.rints .u64 x4), (.int .i64 x5)] [(some (.ints .u64 x6)), (some (.ints .u64 x7)), (some (.ints .u64 x8))]) => some (x0, x1, x2, x3, x4, x5, x6, x7, x8)
 | _ => none
def Fch.l15v1.shape (t : zLL) : St := (St.mk [(.int .i64 t.1), (.own 0 1), (.int .i64 t.2.1), (.own 1 1), (.int .u64 t.2.2.1), (.rints .i64 t.2.2.2.1), (.own 2 1), (.rints .u64 t.w.1), (.int .i64 t.w.2.1)] [(some (.ints .u64 t.w.2.2.1)), (some (.ints .u64 t.w.2.2.2.1)), (some (.ints .u64 t.x))])
def Fch.l15v1.res : zJK → Ex × St
 | u => ((.exit 6), (St.mk [(.int .i64 u.1), (.own 0 1), (.own 1 1), (.own 2 1), (.rints .i64 u.2.1), (.rints .u64 u.2.2.1), (.int .i64 u.2.2.2.1)] [(some (.ints .u64 u.w.1)), (some (.ints .u64 u.w.2.1)), (some (.ints .u64 u.w.2.2))]))
def Fch.l11v1.r {α : Type} (mk0 : LI → Int → LI → LI → α) (n : Nat) (rc : Int → LI → LI → Int → LI → LI → LI → Option α)  (x0 : Int) (x1 x2 : LI) (x3 : Int) (x4 x5 x6 : LI) : Option α :=
 if (decide (x0 < 5)) = true then
 if 0 ≤ (Int.tmod (IntKind.wrap .i64 (x0 + 4)) 5) then
 if (Int.tmod (IntKind.wrap .i64 (x0 + 4)) 5) < (x4.length : Int) then
 if 0 ≤ (Int.tmod (IntKind.wrap .i64 (x0 + 1)) 5) then
 if (Int.tmod (IntKind.wrap .i64 (x0 + 1)) 5) < (x4.length : Int) then
 zD (Fcg.m n ((List.getD x4 (Int.toNat (Int.tmod (IntKind.wrap .i64 (x0 + 1)) 5)) 0), 1)) fun r14 =>
 zD (Fch.l15v1.m n n (0, x0, (ibits BinOp.xor .u64 (List.getD x4 (Int.toNat (Int.tmod (IntKind.wrap .i64 (x0 + 4)) 5)) 0) r14), x1, x2, x3, x5, x6, x4)) fun r16 =>
 rc (IntKind.wrap .i64 (r16.1 + 1)) r16.2.1 r16.2.2.1 r16.2.2.2.1 r16.w.1 r16.w.2.1 r16.w.2.2
 else
 none
 else
 none
 else
 none
 else
 none
 else
 some (mk0 x2 x3 x1 x5)
def Fch.l11v1.g {α : Type} (mk0 : LI → Int → LI → LI → α) (n : Nat) : Nat → Int → LI → LI → Int → LI → LI → LI → Option α
 | 0, _, _, _, _, _, _, _ => none
 | m + 1, x0, x1, x2, x3, x4, x5, x6 => Fch.l11v1.r mk0 n (fun y0 y1 y2 y3 y4 y5 y6 => Fch.l11v1.g mk0 n m y0 y1 y2 y3 y4 y5 y6)  x0 x1 x2 x3 x4 x5 x6
def Fch.l11v1.m (n m : Nat) (t : zJK) : Option (LI × (Int × (LI × LI))) := Fch.l11v1.g (fun a0 a1 a2 a3 => (a0, a1, a2, a3)) n m t.1 t.2.1 t.2.2.1 t.2.2.2.1 t.w.1 t.w.2.1 t.w.2.2
def Fch.l11v1.pat : St → Option zJK
 | (St.mk [(.int .i64 x0), (.own 0 1), (.own 1 1), (.own 2 1), (.rints .i64 x1), (.rints .u64 x2), (.int .i64 x3)] [(some (.ints .u64 x4)), (some (.ints .u64 x5)), (some (.ints .u64 x6))]) => some (x0, x1, x2, x3, x4, x5, x6)
 | _ => none
def Fch.l11v1.shape (t : zJK) : St := (St.mk [(.int .i64 t.1), (.own 0 1), (.own 1 1), (.own 2 1), (.rints .i64 t.2.1), (.rints .u64 t.2.2.1), (.int .i64 t.2.2.2.1)] [(some (.ints .u64 t.w.1)), (some (.ints .u64 t.w.2.1)), (some (.ints .u64 t.w.2.2))])
def Fch.l11v1.res : (LI × (Int × (LI × LI))) → Ex × St
 | u => ((.exit 4), (St.mk [(.own 0 1), (.rints .u64 u.1), (.int .i64 u.2.1), (.rints .i64 u.2.2.1)] [(some (.ints .u64 u.2.2.2))]))
def Fch.l2_1.r {α : Type} (mk0 : LI → α) (mk1 : LI → α) (n : Nat) (rc : Int → LI → LI → LI → Option α)  (x0 : Int) (x1 x2 x3 : LI) : Option α :=
 if (decide (x0 < 24)) = true then
 zD (Fch.l6v1.m n n (0, x1, x2, x0, [], x3)) fun r6 =>
 zD (Fch.l11v1.m n n (0, r6.1, r6.2.1, r6.2.2.1, r6.2.2.2.1, ([0, 0, 0, 0, 0, 0, 0, 0, 0, 0, 0, 0, 0, 0, 0, 0, 0, 0, 0, 0, 0, 0, 0, 0, 0] : List Int), r6.w)) fun r8 =>
 zD (Fch.l20.m n n (0, r8.1, r8.2.1, r8.2.2.1, [], r8.2.2.2)) fun r10 =>
 if 0 < (((List.length r10.2.2.2) : Nat) : Int) then
 if 0 ≤ r10.2.1 then
 if r10.2.1 < (((List.length r10.1) : Nat) : Int) then
 if 0 < (((List.length r10.2.2.2) : Nat) : Int) then
 rc (IntKind.wrap .i64 (r10.2.1 + 1)) r10.2.2.1 r10.1 (List.set r10.2.2.2 0 (ibits BinOp.xor .u64 (List.getD r10.2.2.2 0 0) (List.getD r10.1 (Int.toNat r10.2.1) 0)))
 else
 none
 else
 none
 else
 none
 else
 none
 else
 some (mk0 x3)
def Fch.l2_1.g {α : Type} (mk0 : LI → α) (mk1 : LI → α) (n : Nat) : Nat → Int → LI → LI → LI → Option α
 | 0, _, _, _, _ => none
 | m + 1, x0, x1, x2, x3 => Fch.l2_1.r mk0 mk1 n (fun y0 y1 y2 y3 => Fch.l2_1.g mk0 mk1 n m y0 y1 y2 y3)  x0 x1 x2 x3
def Fch.l2_1.shape (t : (Int × (LI × (LI × LI)))) : St := (St.mk [(.int .i64 t.1), (.own 0 1), (.rints .i64 t.2.1), (.rints .u64 t.2.2.1)] [(some (.ints .u64 t.2.2.2))])
def Fch.l2.r {α : Type} (mk0 : LI → α) (mk1 : LI → α) (n : Nat) (rc : Int → LI → LI → LI → Option α) (rc0 : Int → LI → LI → LI → Option α) (x0 : Int) (x1 x2 x3 : LI) : Option α :=
 if (decide (x0 < 24)) = true then
 zD (Fch.l6.m n n (0, x1, x2, x3, x0, [])) fun r6 =>
 zD (Fch.l11.m n n (0, r6.1, r6.2.1, r6.2.2.1, r6.2.2.2.1, r6.w, ([0, 0, 0, 0, 0, 0, 0, 0, 0, 0, 0, 0, 0, 0, 0, 0, 0, 0, 0, 0, 0, 0, 0, 0, 0] : List Int))) fun r8 =>
 zD (Fch.l20.m n n (0, r8.1, r8.2.1, r8.2.2.1, [], r8.2.2.2)) fun r10 =>
 if 0 < (((List.length r10.2.2.2) : Nat) : Int) then
 if 0 ≤ r10.2.1 then
 if r10.2.1 < (((List.length r10.1) : Nat) : Int) then
 if 0 < (((List.length r10.2.2.2) : Nat) : Int) then
 rc0 (IntKind.wrap .i64 (r10.2.1 + 1)) r10.2.2.1 r10.1 (List.set r10.2.2.2 0 (ibits BinOp.xor .u64 (List.getD r10.2.2.2 0 0) (List.getD r10.1 (Int.toNat r10.2.1) 0)))
 else
 none
 else
 none
 else
 none
 else
 none
 else
 some (mk1 x1)
def Fch.l2.g {α : Type} (mk0 : LI → α) (mk1 : LI → α) (n : Nat) : Nat → Int → LI → LI → LI → Option α
 | 0, _, _, _, _ => none
 | m + 1, x0, x1, x2, x3 => Fch.l2.r mk0 mk1 n (fun y0 y1 y2 y3 => Fch.l2.g mk0 mk1 n m y0 y1 y2 y3) (fun y0 y1 y2 y3 => Fch.l2_1.g mk0 mk1 n m y0 y1 y2 y3) x0 x1 x2 x3
def Fch.l2.m (n m : Nat) (t : (Int × (LI × (LI × LI)))) : Option (LI ⊕ LI) := Fch.l2.g (fun a0 => (.inl a0)) (fun a0 => (.inr a0)) n m t.1 t.2.1 t.2.2.1 t.2.2.2
def Fch.l2.pat : St → Option (Int × (LI × (LI × LI)))
 | (St.mk [(.int .i64 x0), (.rints .u64 x1), (.rints .i64 x2), (.rints .u64 x3)] []) => some (x0, x1, x2, x3)
 | _ => none
def Fch.l2.shape (t : (Int × (LI × (LI × LI)))) : St := (St.mk [(.int .i64 t.1), (.rints .u64 t.2.1), (.rints .i64 t.2.2.1), (.rints .u64 t.2.2.2)] [])
def Fch.l2.res : (LI ⊕ LI) → Ex × St
 | (.inl u) => ((.exit 0), (St.mk [(.own 0 1)] [(some (.ints .u64 u))]))
 | (.inr u) => ((.exit 0), (St.mk [(.rints .u64 u)] []))
def Fch.l2.resK {R : Type} (u : (LI ⊕ LI)) (K : Ex → St → Option R) : Option R := match u with
 | (.inl u) => (fun p : Ex × St => K p.1 p.2) ((.exit 0), (St.mk [(.own 0 1)] [(some (.ints .u64 u))]))
 | (.inr u) => (fun p : Ex × St => K p.1 p.2) ((.exit 0), (St.mk [(.rints .u64 u)] []))
noncomputable def Fch.A (n : Nat) : Ann := ⟨Tryz.f60.ntmps, 0, Fch.live, [(0, (.ints .u64)), (1, (.ints .i64)), (2, (.ints .u64)), (8, (.ints .u64)), (10, (.ints .u64)), (14, (.ints .u64))], [(some (.ints .u64))], fun k => match k with
 | 6 => some (.alt Fch.l6.pat (.mk' Fch.l6.pat (Fch.l6.m n n) (zQ Fch.l6.res)) (.mk' Fch.l6v1.pat (Fch.l6v1.m n n) (zQ Fch.l6v1.res)))
 | 15 => some (.alt Fch.l15.pat (.mk' Fch.l15.pat (Fch.l15.m n n) (zQ Fch.l15.res)) (.mk' Fch.l15v1.pat (Fch.l15v1.m n n) (zQ Fch.l15v1.res)))
 | 11 => some (.alt Fch.l11.pat (.mk' Fch.l11.pat (Fch.l11.m n n) (zQ Fch.l11.res)) (.mk' Fch.l11v1.pat (Fch.l11v1.m n n) (zQ Fch.l11v1.res)))
 | 23 => some (.mk' Fch.l23.pat (Fch.l23.m n n) (zQ Fch.l23.res))
 | 20 => some (.mk' Fch.l20.pat (Fch.l20.m n n) (zQ Fch.l20.res))
 | 2 => some (.mk' Fch.l2.pat (Fch.l2.m n n) Fch.l2.resK)
 | _ => none, zV, zW []⟩
noncomputable def Fch.b0 : Code := (zK (Tryz.f60.body.getD .skip)).getD 0 .skip
noncomputable def Fch.b1 : Code := (zK (Tryz.f60.body.getD .skip)).getD 1 .skip
noncomputable def Fch.b2 : Code := (zK (Tryz.f60.body.getD .skip)).getD 2 .skip
noncomputable def Fch.b3 : Code := (zK (Tryz.f60.body.getD .skip)).getD 3 .skip
noncomputable def Fch.b4 : Code := (zK (Tryz.f60.body.getD .skip)).getD 4 .skip
noncomputable def Fch.b5 : Code := (zK (Tryz.f60.body.getD .skip)).getD 5 .skip
def Fch.g {α : Type} (mk0 : LI → α) (mk1 : LI → α) (n : Nat) (a0 a1 a2 : LI) : Option α :=
 zD (Fch.l2.m n n (0, a0, a1, a2)) fun r2 => match r2 with
  | (.inl r2) =>
   some (mk0 r2)
  | (.inr r2) =>
   some (mk1 r2)
def Fch.m (n : Nat) (t : (LI × (LI × LI))) : Option (LI ⊕ LI) := Fch.g (fun a0 => (.inl a0)) (fun a0 => (.inr a0)) n t.1 t.2.1 t.2.2
def Fch.pat : List AV → zC → Option (LI × (LI × LI))
 | [(.rints .u64 a0), (.rints .i64 a1), (.rints .u64 a2)], [] => some (a0, a1, a2)
 | _, _ => none
def Fch.shape (t : (LI × (LI × LI))) : List AV × zC := ([(.rints .u64 t.1), (.rints .i64 t.2.1), (.rints .u64 t.2.2)], [])
def Fch.res : (LI ⊕ LI) → AV × zC
 | (.inl u) => ((.own 0 1), [(some (.ints .u64 u))])
 | (.inr u) => ((.rints .u64 u), [])
def Fch.resK {R : Type} (u : (LI ⊕ LI)) (K : AV → zC → Option R) : Option R := match u with
 | (.inl u) => (fun p : AV × zC => K p.1 p.2) ((.own 0 1), [(some (.ints .u64 u))])
 | (.inr u) => (fun p : AV × zC => K p.1 p.2) ((.rints .u64 u), [])
def Fch.c (n : Nat) : Abs.Callee := .mk' [] [(some (.ints .u64)), (some (.ints .i64)), (some (.ints .u64))] Fch.pat (Fch.m n) Fch.resK
noncomputable def Fcd.C (n : Nat) : Ctx := ⟨Tryz.prog, zI, zU [], fun _ => false⟩
def Fcd.live : NL := fun k => match k with
 | 4 => ([5, 4, 3, 0, 2], [3, 2])
 | _ => ([], [])
def Fcd.l4.r {α : Type} (mk0 : LI → LI → α) (n : Nat) (rc : Int → Int → LI → LI → LI → Option α)  (x0 x1 : Int) (x2 x3 x4 : LI) : Option α :=
 if (decide (x0 < 32)) = true then
 if (decide (x0 < x1)) = true then
 if 0 ≤ (IntKind.wrap .i64 (Int.tdiv x0 8)) then
 if (IntKind.wrap .i64 (Int.tdiv x0 8)) < 4 then
 if 0 ≤ (IntKind.wrap .i64 ((IntKind.wrap .i64 (x1 - 1)) - x0)) then
 if (IntKind.wrap .i64 ((IntKind.wrap .i64 (x1 - 1)) - x0)) < (x2.length : Int) then
 if 0 ≤ (IntKind.wrap .u64 (IntKind.wrap .i64 ((Int.tmod x0 8) * 8))) then
 if 0 ≤ (IntKind.wrap .i64 (Int.tdiv x0 8)) then
 if (IntKind.wrap .i64 (Int.tdiv x0 8)) < 4 then
 rc (IntKind.wrap .i64 (x0 + 1)) x1 x2 (List.set x3 (Int.toNat (IntKind.wrap .i64 (Int.tdiv x0 8))) (ibits BinOp.or .u64 (List.getD x3 (Int.toNat (IntKind.wrap .i64 (Int.tdiv x0 8))) 0) (ishl .u64 (IntKind.wrap .u64 (List.getD x2 (Int.toNat (IntKind.wrap .i64 ((IntKind.wrap .i64 (x1 - 1)) - x0))) 0)) (IntKind.wrap .u64 (IntKind.wrap .i64 ((Int.tmod x0 8) * 8)))))) x4
 else
 none
 else
 none
 else
 none
 else
 none
 else
 none
 else
 none
 else
 none
 else
 some (mk0 x3 x4)
 else
 some (mk0 x3 x4)
def Fcd.l4.g {α : Type} (mk0 : LI → LI → α) (n : Nat) : Nat → Int → Int → LI → LI → LI → Option α
 | 0, _, _, _, _, _ => none
 | m + 1, x0, x1, x2, x3, x4 => Fcd.l4.r mk0 n (fun y0 y1 y2 y3 y4 => Fcd.l4.g mk0 n m y0 y1 y2 y3 y4)  x0 x1 x2 x3 x4
def Fcd.l4.m (n m : Nat) (t : (Int × (Int × (LI × (LI × LI))))) : Option (LI × LI) := Fcd.l4.g (fun a0 a1 => (a0, a1)) n m t.1 t.2.1 t.2.2.1 t.2.2.2.1 t.w
def Fcd.l4.pat : St → Option (Int × (Int × (LI × (LI × LI))))
 | (St.mk [(.int .i64 x0), (.int .i64 x1), (.ptr 0 []), (.rints .u8 x2), (.ptr 1 [])] [(some (.var (.ints .u64 4 x3))), (some (.var (.ints .u64 4 x4)))]) => some (x0, x1, x2, x3, x4)
 | _ => none
def Fcd.l4.shape (t : (Int × (Int × (LI × (LI × LI))))) : St := (St.mk [(.int .i64 t.1), (.int .i64 t.2.1), (.ptr 0 []), (.rints .u8 t.2.2.1), (.ptr 1 [])] [(some (.var (.ints .u64 4 t.2.2.2.1))), (some (.var (.ints .u64 4 t.w)))])
def Fcd.l4.res : (LI × LI) → Ex × St
 | u => ((.exit 0), (St.mk [(.ptr 0 []), (.ptr 1 [])] [(some (.var (.ints .u64 4 u.1))), (some (.var (.ints .u64 4 u.2)))]))
noncomputable def Fcd.A (n : Nat) : Ann := ⟨Tryz.f61.ntmps, 0, Fcd.live, [(0, (.ints .u8))], [none], fun k => match k with
 | 4 => some (.mk' Fcd.l4.pat (Fcd.l4.m n n) (zQ Fcd.l4.res))
 | _ => none, zV, zW []⟩
noncomputable def Fcd.b0 : Code := (zK (Tryz.f61.body.getD .skip)).getD 0 .skip
def Fcd.g {α : Type} (mk0 : LI → α) (n : Nat) (a0 : LI) : Option α :=
 zD (Fcd.l4.m n n (0, (a0.length : Int), a0, [0, 0, 0, 0], [0, 0, 0, 0])) fun r2 =>
 some (mk0 r2.1)
def Fcd.m (n : Nat) (t : LI) : Option LI := Fcd.g (fun a0 => a0) n t
def Fcd.pat : List AV → zC → Option LI
 | [(.rints .u8 a0)], [] => some a0
 | _, _ => none
def Fcd.shape (t : LI) : List AV × zC := ([(.rints .u8 t)], [])
def Fcd.res : LI → AV × zC
 | u => ((.ints .u64 4 u), [])
def Fcd.c (n : Nat) : Abs.Callee := .mk' [] [(some (.ints .u8))] Fcd.pat (Fcd.m n) (zO Fcd.res)
noncomputable def Fci.C (n : Nat) : Ctx := ⟨Tryz.prog, zI, zU [(58, Fbk.c n), (59, Fcc.c n), (60, Fch.c n), (61, Fcd.c n)], fun _ => false⟩
def Fci.live : NL := fun k => match k with
 | 4 => ([3, 2], [3, 2])
 | 11 => ([7, 3, 6, 4, 5, 2], [6, 2])
 | 14 => ([8, 6, 3, 7, 4, 5, 2], [6, 4, 5, 7, 3, 2])
 | 17 => ([9, 6, 8, 3, 7, 4, 5, 2], [8, 6, 3, 7, 4, 5, 2])
 | 23 => ([11, 10, 6, 2], [10, 2])
 | 26 => ([12, 10, 6, 11, 2], [11, 10, 6, 2])
 | _ => ([], [])
def Fci.l4.r {α : Type} (mk0 : LI → LI → α) (n : Nat) (rc : LI → LI → Option α)  (x0 x1 : LI) : Option α :=
 if ((Int.tmod (x0.length : Int) 136) != 0) = true then
 if ((((List.length x0) + 1) * 1) ≤ 70368744177664 ∧ ((List.length x0) + 1) ≤ 9223372036854775807) then
 rc (x0 ++ [0]) x1
 else
 none
 else
 some (mk0 x0 x1)
def Fci.l4.g {α : Type} (mk0 : LI → LI → α) (n : Nat) : Nat → LI → LI → Option α
 | 0, _, _ => none
 | m + 1, x0, x1 => Fci.l4.r mk0 n (fun y0 y1 => Fci.l4.g mk0 n m y0 y1)  x0 x1
def Fci.l4.m (n m : Nat) (t : (LI × LI)) : Option (LI × LI) := Fci.l4.g (fun a0 a1 => (a0, a1)) n m t.1 t.2
def Fci.l4.pat : St → Option (LI × LI)
 | (St.mk [(.own 0 1), (.ptr 1 [])] [(some (.ints .u8 x0)), (some (.var (.ints .u64 4 x1)))]) => some (x0, x1)
 | _ => none
def Fci.l4.shape (t : (LI × LI)) : St := (St.mk [(.own 0 1), (.ptr 1 [])] [(some (.ints .u8 t.1)), (some (.var (.ints .u64 4 t.2)))])
def Fci.l4.res : (LI × LI) → Ex × St
 | u => ((.exit 0), (St.mk [(.own 0 1), (.ptr 1 [])] [(some (.ints .u8 u.1)), (some (.var (.ints .u64 4 u.2)))]))
def Fci.l17.r {α : Type} (mk0 : Int → Int → LI → LI → LI → LI → LI → α) (n : Nat) (rc : Int → Int → Int → LI → LI → LI → LI → LI → Option α)  (x0 x1 x2 : Int) (x3 x4 : LI) (x5 x6 x7 : LI) : Option α :=
 if (decide (x0 < 8)) = true then
 if 0 ≤ x1 then
 if x1 < (x3.length : Int) then
 if 0 ≤ (IntKind.wrap .i64 ((IntKind.wrap .i64 (x2 + (IntKind.wrap .i64 (8 * x1)))) + x0)) then
 if (IntKind.wrap .i64 ((IntKind.wrap .i64 (x2 + (IntKind.wrap .i64 (8 * x1)))) + x0)) < (x4.length : Int) then
 if 0 ≤ (IntKind.wrap .u64 (IntKind.wrap .i64 (8 * x0))) then
 if 0 ≤ x1 then
 if x1 < (x3.length : Int) then
 rc (IntKind.wrap .i64 (x0 + 1)) x1 x2 (List.set x3 (Int.toNat x1) (ibits BinOp.xor .u64 (List.getD x3 (Int.toNat x1) 0) (ishl .u64 (IntKind.wrap .u64 (List.getD x4 (Int.toNat (IntKind.wrap .i64 ((IntKind.wrap .i64 (x2 + (IntKind.wrap .i64 (8 * x1)))) + x0))) 0)) (IntKind.wrap .u64 (IntKind.wrap .i64 (8 * x0)))))) x4 x5 x6 x7
 else
 none
 else
 none
 else
 none
 else
 none
 else
 none
 else
 none
 else
 none
 else
 some (mk0 x1 x2 x3 x4 x5 x6 x7)
def Fci.l17.g {α : Type} (mk0 : Int → Int → LI → LI → LI → LI → LI → α) (n : Nat) : Nat → Int → Int → Int → LI → LI → LI → LI → LI → Option α
 | 0, _, _, _, _, _, _, _, _ => none
 | m + 1, x0, x1, x2, x3, x4, x5, x6, x7 => Fci.l17.r mk0 n (fun y0 y1 y2 y3 y4 y5 y6 y7 => Fci.l17.g mk0 n m y0 y1 y2 y3 y4 y5 y6 y7)  x0 x1 x2 x3 x4 x5 x6 x7
def Fci.l17.m (n m : Nat) (t : zLJ) : Option zJJ := Fci.l17.g (fun a0 a1 a2 a3 a4 a5 a6 => (a0, a1, a2, a3, a4, a5, a6)) n m t.1 t.2.1 t.2.2.1 t.2.2.2.1 t.w.1 t.w.2.1 t.w.2.2.1 t.w.2.2.2
def Fci.l17.pat : St → Option zLJ
 | (St.mk [(.int .i64 x0), (.own 0 1), (.int .i64 x1), (.own 1 1), (.int .i64 x2), (.own 2 1), (.own 3 1), (.ptr 4 [])] [(some (.ints .u64 x3)), (some (.ints .u8 x4)), (some (.ints .i64 x5)), (some (.ints .u64 x6)), (some (.var (.ints .u64 4 x7)))]) => some (x0, x1, x2, x3, x4, x5, x6, x7)
 | _ => none
def Fci.l17.shape (t : zLJ) : St := (St.mk [(.int .i64 t.1), (.own 0 1), (.int .i64 t.2.1), (.own 1 1), (.int .i64 t.2.2.1), (.own 2 1), (.own 3 1), (.ptr 4 [])] [(some (.ints .u64 t.2.2.2.1)), (some (.ints .u8 t.w.1)), (some (.ints .i64 t.w.2.1)), (some (.ints .u64 t.w.2.2.1)), (some (.var (.ints .u64 4 t.w.2.2.2)))])
def Fci.l17.res : zJJ → Ex × St
 | u => ((.exit 6), (St.mk [(.int .i64 u.1), (.own 0 1), (.own 1 1), (.int .i64 u.2.1), (.own 2 1), (.own 3 1), (.ptr 4 [])] [(some (.ints .u64 u.2.2.1)), (some (.ints .u8 u.2.2.2.1)), (some (.ints .i64 u.w.1)), (some (.ints .u64 u.w.2.1)), (some (.var (.ints .u64 4 u.w.2.2)))]))
def Fci.l14.r {α : Type} (mk0 : Int → LI → LI → LI → LI → LI → α) (n : Nat) (rc : Int → Int → LI → LI → LI → LI → LI → Option α)  (x0 x1 : Int) (x2 x3 : LI) (x4 x5 x6 : LI) : Option α :=
 if (decide (x0 < 17)) = true then
 zD (Fci.l17.m n n (0, x0, x1, x2, x3, x4, x5, x6)) fun r6 =>
 rc (IntKind.wrap .i64 (r6.1 + 1)) r6.2.1 r6.2.2.1 r6.2.2.2.1 r6.w.1 r6.w.2.1 r6.w.2.2
 else
 some (mk0 x1 x2 x4 x5 x3 x6)
def Fci.l14.g {α : Type} (mk0 : Int → LI → LI → LI → LI → LI → α) (n : Nat) : Nat → Int → Int → LI → LI → LI → LI → LI → Option α
 | 0, _, _, _, _, _, _, _ => none
 | m + 1, x0, x1, x2, x3, x4, x5, x6 => Fci.l14.r mk0 n (fun y0 y1 y2 y3 y4 y5 y6 => Fci.l14.g mk0 n m y0 y1 y2 y3 y4 y5 y6)  x0 x1 x2 x3 x4 x5 x6
def Fci.l14.m (n m : Nat) (t : zJJ) : Option (Int × (LI × (LI × (LI × (LI × LI))))) := Fci.l14.g (fun a0 a1 a2 a3 a4 a5 => (a0, a1, a2, a3, a4, a5)) n m t.1 t.2.1 t.2.2.1 t.2.2.2.1 t.w.1 t.w.2.1 t.w.2.2
def Fci.l14.pat : St → Option zJJ
 | (St.mk [(.int .i64 x0), (.own 0 1), (.own 1 1), (.int .i64 x1), (.own 2 1), (.own 3 1), (.ptr 4 [])] [(some (.ints .u64 x2)), (some (.ints .u8 x3)), (some (.ints .i64 x4)), (some (.ints .u64 x5)), (some (.var (.ints .u64 4 x6)))]) => some (x0, x1, x2, x3, x4, x5, x6)
 | _ => none
def Fci.l14.shape (t : zJJ) : St := (St.mk [(.int .i64 t.1), (.own 0 1), (.own 1 1), (.int .i64 t.2.1), (.own 2 1), (.own 3 1), (.ptr 4 [])] [(some (.ints .u64 t.2.2.1)), (some (.ints .u8 t.2.2.2.1)), (some (.ints .i64 t.w.1)), (some (.ints .u64 t.w.2.1)), (some (.var (.ints .u64 4 t.w.2.2)))])
def Fci.l14.res : (Int × (LI × (LI × (LI × (LI × LI))))) → Ex × St
 | u => ((.exit 4), (St.mk [(.own 0 1), (.own 1 1), (.own 2 1), (.int .i64 u.1), (.own 3 1), (.ptr 4 [])] [(some (.ints .u64 u.2.1)), (some (.ints .i64 u.2.2.1)), (some (.ints .u64 u.2.2.2.1)), (some (.ints .u8 u.w.1)), (some (.var (.ints .u64 4 u.w.2)))]))
def Fci.l11.r {α : Type} (mk0 : LI → LI → α) (n : Nat) (rc : Int → LI → LI → LI → LI → LI → Option α)  (x0 : Int) (x1 x2 : LI) (x3 x4 x5 : LI) : Option α :=
  if (decide (x0 < (x1.length : Int))) = true then
   zD (Fci.l14.m n n (0, x0, x2, x1, x3, x4, x5)) fun r6 =>
    zD (Fch.m n (r6.2.1, r6.2.2.1, r6.2.2.2.1)) fun r8 => match r8 with
     | (.inl r8) =>
      rc (IntKind.wrap .i64 (r6.1 + 136)) r6.w.1 r8 r6.2.2.1 r6.2.2.2.1 r6.w.2
     | (.inr r8) =>
      none
  else
   some (mk0 x2 x5)
def Fci.l11.g {α : Type} (mk0 : LI → LI → α) (n : Nat) : Nat → Int → LI → LI → LI → LI → LI → Option α
 | 0, _, _, _, _, _, _ => none
 | m + 1, x0, x1, x2, x3, x4, x5 => Fci.l11.r mk0 n (fun y0 y1 y2 y3 y4 y5 => Fci.l11.g mk0 n m y0 y1 y2 y3 y4 y5)  x0 x1 x2 x3 x4 x5
def Fci.l11.m (n m : Nat) (t : (Int × (LI × (LI × (LI × (LI × LI)))))) : Option (LI × LI) := Fci.l11.g (fun a0 a1 => (a0, a1)) n m t.1 t.2.1 t.2.2.1 t.2.2.2.1 t.w.1 t.w.2
def Fci.l11.pat : St → Option (Int × (LI × (LI × (LI × (LI × LI)))))
 | (St.mk [(.int .i64 x0), (.own 0 1), (.own 1 1), (.own 2 1), (.own 3 1), (.ptr 4 [])] [(some (.ints .u8 x1)), (some (.ints .u64 x2)), (some (.ints .i64 x3)), (some (.ints .u64 x4)), (some (.var (.ints .u64 4 x5)))]) => some (x0, x1, x2, x3, x4, x5)
 | _ => none
def Fci.l11.shape (t : (Int × (LI × (LI × (LI × (LI × LI)))))) : St := (St.mk [(.int .i64 t.1), (.own 0 1), (.own 1 1), (.own 2 1), (.own 3 1), (.ptr 4 [])] [(some (.ints .u8 t.2.1)), (some (.ints .u64 t.2.2.1)), (some (.ints .i64 t.2.2.2.1)), (some (.ints .u64 t.w.1)), (some (.var (.ints .u64 4 t.w.2)))])
def Fci.l11.res : (LI × LI) → Ex × St
 | u => ((.exit 2), (St.mk [(.own 0 1), (.ptr 1 [])] [(some (.ints .u64 u.1)), (some (.var (.ints .u64 4 u.2)))]))
def Fci.l26.r {α : Type} (mk0 : Int → LI → LI → LI → α) (n : Nat) (rc : Int → Int → LI → LI → LI → Option α)  (x0 x1 : Int) (x2 x3 x4 : LI) : Option α :=
 if (decide (x0 < 8)) = true then
 if 0 ≤ x1 then
 if x1 < (x3.length : Int) then
 if 0 ≤ (IntKind.wrap .u64 (IntKind.wrap .i64 (8 * x0))) then
 if ((((List.length x2) + 1) * 1) ≤ 70368744177664 ∧ ((List.length x2) + 1) ≤ 9223372036854775807) then
 rc (IntKind.wrap .i64 (x0 + 1)) x1 (x2 ++ [(IntKind.wrap .u8 (ishr .u64 (List.getD x3 (Int.toNat x1) 0) (IntKind.wrap .u64 (IntKind.wrap .i64 (8 * x0)))))]) x3 x4
 else
 none
 else
 none
 else
 none
 else
 none
 else
 some (mk0 x1 x2 x3 x4)
def Fci.l26.g {α : Type} (mk0 : Int → LI → LI → LI → α) (n : Nat) : Nat → Int → Int → LI → LI → LI → Option α
 | 0, _, _, _, _, _ => none
 | m + 1, x0, x1, x2, x3, x4 => Fci.l26.r mk0 n (fun y0 y1 y2 y3 y4 => Fci.l26.g mk0 n m y0 y1 y2 y3 y4)  x0 x1 x2 x3 x4
def Fci.l26.m (n m : Nat) (t : (Int × (Int × (LI × (LI × LI))))) : Option (Int × (LI × (LI × LI))) := Fci.l26.g (fun a0 a1 a2 a3 => (a0, a1, a2, a3)) n m t.1 t.2.1 t.2.2.1 t.2.2.2.1 t.w
def Fci.l26.pat : St → Option (Int × (Int × (LI × (LI × LI))))
 | (St.mk [(.int .i64 x0), (.own 0 1), (.own 1 1), (.int .i64 x1), (.ptr 2 [])] [(some (.ints .u8 x2)), (some (.ints .u64 x3)), (some (.var (.ints .u64 4 x4)))]) => some (x0, x1, x2, x3, x4)
 | _ => none
def Fci.l26.shape (t : (Int × (Int × (LI × (LI × LI))))) : St := (St.mk [(.int .i64 t.1), (.own 0 1), (.own 1 1), (.int .i64 t.2.1), (.ptr 2 [])] [(some (.ints .u8 t.2.2.1)), (some (.ints .u64 t.2.2.2.1)), (some (.var (.ints .u64 4 t.w)))])
def Fci.l26.res : (Int × (LI × (LI × LI))) → Ex × St
 | u => ((.exit 10), (St.mk [(.int .i64 u.1), (.own 0 1), (.own 1 1), (.ptr 2 [])] [(some (.ints .u8 u.2.1)), (some (.ints .u64 u.2.2.1)), (some (.var (.ints .u64 4 u.2.2.2)))]))
def Fci.l23.r {α : Type} (mk0 : LI → LI → α) (n : Nat) (rc : Int → LI → LI → LI → Option α)  (x0 : Int) (x1 x2 x3 : LI) : Option α :=
 if (decide (x0 < 4)) = true then
 zD (Fci.l26.m n n (0, x0, x1, x2, x3)) fun r6 =>
 rc (IntKind.wrap .i64 (r6.1 + 1)) r6.2.1 r6.2.2.1 r6.2.2.2
 else
 some (mk0 x1 x3)
def Fci.l23.g {α : Type} (mk0 : LI → LI → α) (n : Nat) : Nat → Int → LI → LI → LI → Option α
 | 0, _, _, _, _ => none
 | m + 1, x0, x1, x2, x3 => Fci.l23.r mk0 n (fun y0 y1 y2 y3 => Fci.l23.g mk0 n m y0 y1 y2 y3)  x0 x1 x2 x3
def Fci.l23.m (n m : Nat) (t : (Int × (LI × (LI × LI)))) : Option (LI × LI) := Fci.l23.g (fun a0 a1 => (a0, a1)) n m t.1 t.2.1 t.2.2.1 t.2.2.2
def Fci.l23.pat : St → Option (Int × (LI × (LI × LI)))
 | (St.mk [(.int .i64 x0), (.own 0 1), (.own 1 1), (.ptr 2 [])] [(some (.ints .u8 x1)), (some (.ints .u64 x2)), (some (.var (.ints .u64 4 x3)))]) => some (x0, x1, x2, x3)
 | _ => none
def Fci.l23.shape (t : (Int × (LI × (LI × LI)))) : St := (St.mk [(.int .i64 t.1), (.own 0 1), (.own 1 1), (.ptr 2 [])] [(some (.ints .u8 t.2.1)), (some (.ints .u64 t.2.2.1)), (some (.var (.ints .u64 4 t.2.2.2)))])
def Fci.l23.res : (LI × LI) → Ex × St
 | u => ((.exit 8), (St.mk [(.own 0 1), (.ptr 1 [])] [(some (.ints .u8 u.1)), (some (.var (.ints .u64 4 u.2)))]))
noncomputable def Fci.A (n : Nat) : Ann := ⟨Tryz.f43.ntmps, 0, Fci.live, [(3, (.ints .u8)), (4, (.ints .i64)), (5, (.ints .u64)), (6, (.ints .u64)), (10, (.ints .u8))], [none], fun k => match k with
 | 4 => some (.mk' Fci.l4.pat (Fci.l4.m n n) (zQ Fci.l4.res))
 | 17 => some (.mk' Fci.l17.pat (Fci.l17.m n n) (zQ Fci.l17.res))
 | 14 => some (.mk' Fci.l14.pat (Fci.l14.m n n) (zQ Fci.l14.res))
 | 11 => some (.mk' Fci.l11.pat (Fci.l11.m n n) (zQ Fci.l11.res))
 | 26 => some (.mk' Fci.l26.pat (Fci.l26.m n n) (zQ Fci.l26.res))
 | 23 => some (.mk' Fci.l23.pat (Fci.l23.m n n) (zQ Fci.l23.res))
 | _ => none, zV, zW []⟩
noncomputable def Fci.b0 : Code := (zK (Tryz.f43.body.getD .skip)).getD 0 .skip
noncomputable def Fci.b1 : Code := (zK (Tryz.f43.body.getD .skip)).getD 1 .skip
noncomputable def Fci.b2 : Code := (zK (Tryz.f43.body.getD .skip)).getD 2 .skip
noncomputable def Fci.b3 : Code := (zK (Tryz.f43.body.getD .skip)).getD 3 .skip
noncomputable def Fci.b4 : Code := (zK (Tryz.f43.body.getD .skip)).getD 4 .skip
noncomputable def Fci.b5 : Code := (zK (Tryz.f43.body.getD .skip)).getD 5 .skip
def Fci.g {α : Type} (mk0 : LI → α) (n : Nat) (a0 : LI) : Option α :=
 if (((List.length a0) * 1) ≤ 70368744177664 ∧ (List.length a0) ≤ 9223372036854775807) then
 if ((((List.length a0) + 1) * 1) ≤ 70368744177664 ∧ ((List.length a0) + 1) ≤ 9223372036854775807) then
 zD (Fci.l4.m n n ((a0 ++ [1]), [0, 0, 0, 0])) fun r6 =>
 if 0 ≤ (IntKind.wrap .i64 ((((List.length r6.1) : Nat) : Int) - 1)) then
 if (IntKind.wrap .i64 ((((List.length r6.1) : Nat) : Int) - 1)) < (((List.length r6.1) : Nat) : Int) then
 if 0 ≤ (IntKind.wrap .i64 ((((List.length r6.1) : Nat) : Int) - 1)) then
 if (IntKind.wrap .i64 ((((List.length r6.1) : Nat) : Int) - 1)) < (((List.length r6.1) : Nat) : Int) then
 zD (Fbk.m n Unit.unit) fun r16 =>
 zD (Fcc.m n Unit.unit) fun r18 =>
 zD (Fci.l11.m n n (0, (List.set r6.1 (Int.toNat (IntKind.wrap .i64 ((((List.length r6.1) : Nat) : Int) - 1))) (ibits BinOp.xor .u8 (List.getD r6.1 (Int.toNat (IntKind.wrap .i64 ((((List.length r6.1) : Nat) : Int) - 1))) 0) 128)), ([0, 0, 0, 0, 0, 0, 0, 0, 0, 0, 0, 0, 0, 0, 0, 0, 0, 0, 0, 0, 0, 0, 0, 0, 0] : List Int), r16, r18, r6.2)) fun r20 =>
 zD (Fci.l23.m n n (0, [], r20.1, r20.2)) fun r22 =>
 zD (Fcd.m n r22.1) fun r24 =>
 some (mk0 r24)
 else
 none
 else
 none
 else
 none
 else
 none
 else
 none
 else
 none
def Fci.m (n : Nat) (t : LI) : Option LI := Fci.g (fun a0 => a0) n t
def Fci.pat : List AV → zC → Option LI
 | [(.rints .u8 a0)], [] => some a0
 | _, _ => none
def Fci.shape (t : LI) : List AV × zC := ([(.rints .u8 t)], [])
def Fci.res : LI → AV × zC
 | u => ((.ints .u64 4 u), [])
def Fci.c (n : Nat) : Abs.Callee := .mk' [] [(some (.ints .u8))] Fci.pat (Fci.m n) (zO Fci.res)
noncomputable def Fan.C (n : Nat) : Ctx := ⟨Tryz.prog, zI, zU [(43, Fci.c n), (42, Fbg.c n)], fun _ => false⟩
noncomputable def Fan.A (n : Nat) : Ann := ⟨Tryz.f19.ntmps, 0, zV, [], [(some (.ints .u8))], fun k => match k with
 | _ => none, zV, zW []⟩
def Fan.g {α : Type} (mk0 : LI → α) (n : Nat) (a0 : ByteArray) : Option α :=
 zD (Fci.m n (Go.Abs.bytesOf a0)) fun r2 =>
 zD (Fbg.m n r2) fun r4 =>
 if 4 ≤ (r4.length : Int) then
 some (mk0 (Go.Abs.partL r4 0 (Go.Abs.span (List.length r4) 0 (Option.some 4))))
 else
 none
def Fan.m (n : Nat) (t : ByteArray) : Option LI := Fan.g (fun a0 => a0) n t
def Fan.pat : List AV → zC → Option ByteArray
 | [(.str a0)], [] => some a0
 | _, _ => none
def Fan.shape (t : ByteArray) : List AV × zC := ([(.str t)], [])
def Fan.res : LI → AV × zC
 | u => ((.own 0 1), [(some (.ints .u8 u))])
def Fan.c (n : Nat) : Abs.Callee := .mk' [] [none] Fan.pat (Fan.m n) (zO Fan.res)
noncomputable def Fn.C (n : Nat) : Ctx := ⟨Tryz.prog, zI, zU [(24, Fao.c n), (88, Fbe.c n)], fun _ => false⟩
noncomputable def Fn.A (n : Nat) : Ann := ⟨Tryz.f70.ntmps, 8, zV, [], [none, none], fun k => match k with
 | _ => none, zV, zW []⟩
def Fn.g {α : Type} (mk0 : LI → Nat → Int → LI → LI → Int → Int → LA → LA → LA → LA → LA → LA → α) (mk1 : LI → Int → LI → LI → Int → Int → LA → LA → LA → LA → LA → LA → α) (n : Nat) (t : Int) (c v : LI) (r x : Int) (l p : LA) (q o : LA) (j z : LA) : Option α :=
 if 0 < (l.length : Int) then
 zD (tkInts .u64 4 (List.getD l 0 AV.any)) fun r4 =>
 zD (Fao.m n (r4, 160)) fun r6 =>
 if (!r6) = true then
 some (mk0 ([0, 0, 0, 0, 0, 0, 0, 0, 0, 0, 0, 0, 0, 0, 0, 0, 0, 0, 0, 0] : List Int) 0 t c v r x l p q o j z)
 else
 if 0 < (l.length : Int) then
 zD (tkInts .u64 4 (List.getD l 0 AV.any)) fun r12 =>
 zD (Fbe.m n r12) fun r14 =>
 some (mk1 r14 t c v r x l p q o j z)
 else
 none
 else
 none
def Fn.m (n : Nat) (t : kG) : Option (Ty5 ⊕ Ty9) := Fn.g (fun a0 a1 a2 a3 a4 a5 a6 a7 a8 a9 a10 a11 a12 => (.inl (a0, a1, a2, a3, a4, a5, a6, a7, a8, a9, a10, a11, a12))) (fun a0 a1 a2 a3 a4 a5 a6 a7 a8 a9 a10 a11 => (.inr (a0, a1, a2, a3, a4, a5, a6, a7, a8, a9, a10, a11))) n t.1 t.2.1 t.2.2.1 t.2.2.2.1 t.w.1 t.w.2.1 t.w.2.2.1 t.w.2.2.2.1 t.x.1 t.x.2.1 t.x.2.2
def Fn.pat : List AV → zC → Option kG
 | [(.ptr 0 [])], [(some (.var (.agg [(.ptr 1 []), (.int .u64 t), (.ints .u8 20 c), (.ints .u64 4 v), (.own 2 4)]))), (some (.var (.agg [(.own 3 0), (.own 4 0), (.rmap []), (.rmap []), (.own 5 0), (.rmap []), (.int .i64 r), .snil, (.own 6 36), (.own 7 2), (.int .i64 x)]))), (some (.objs 26 4 l)), (some (.mp p)), (some (.mp q)), (some (.mp o)), (some (.objs 104 36 j)), (some (.objs 83 2 z))] => some (t, c, v, r, x, l, p, q, o, j, z)
 | _, _ => none
def Fn.shape (t : kG) : List AV × zC := ([(.ptr 0 [])], [(some (.var (.agg [(.ptr 1 []), (.int .u64 t.1), (.ints .u8 20 t.2.1), (.ints .u64 4 t.2.2.1), (.own 2 4)]))), (some (.var (.agg [(.own 3 0), (.own 4 0), (.rmap []), (.rmap []), (.own 5 0), (.rmap []), (.int .i64 t.2.2.2.1), .snil, (.own 6 36), (.own 7 2), (.int .i64 t.w.1)]))), (some (.objs 26 4 t.w.2.1)), (some (.mp t.w.2.2.1)), (some (.mp t.w.2.2.2.1)), (some (.mp t.x.1)), (some (.objs 104 36 t.x.2.1)), (some (.objs 83 2 t.x.2.2))])
def Fn.res : (Ty5 ⊕ Ty9) → AV × zC
 | (.inl u) => ((.tup [(.ints .u8 20 u.1), (.errv 124 201 u.2.1)]), [(some (.var (.agg [(.ptr 1 []), (.int .u64 u.2.2.1), (.ints .u8 20 u.2.2.2.1), (.ints .u64 4 u.w.1), (.own 2 4)]))), (some (.var (.agg [(.own 3 0), (.own 4 0), (.rmap []), (.rmap []), (.own 5 0), (.rmap []), (.int .i64 u.w.2.1), .snil, (.own 6 36), (.own 7 2), (.int .i64 u.w.2.2.1)]))), (some (.objs 26 4 u.w.2.2.2.1)), (some (.mp u.x.1)), (some (.mp u.x.2.1)), (some (.mp u.x.2.2.1)), (some (.objs 104 36 u.x.2.2.2.1)), (some (.objs 83 2 u.x.w))])
 | (.inr u) => ((.tup [(.ints .u8 20 u.1), .nili]), [(some (.var (.agg [(.ptr 1 []), (.int .u64 u.2.1), (.ints .u8 20 u.2.2.1), (.ints .u64 4 u.2.2.2.1), (.own 2 4)]))), (some (.var (.agg [(.own 3 0), (.own 4 0), (.rmap []), (.rmap []), (.own 5 0), (.rmap []), (.int .i64 u.w.1), .snil, (.own 6 36), (.own 7 2), (.int .i64 u.w.2.1)]))), (some (.objs 26 4 u.w.2.2.1)), (some (.mp u.w.2.2.2.1)), (some (.mp u.x.1)), (some (.mp u.x.2.1)), (some (.objs 104 36 u.x.2.2.1)), (some (.objs 83 2 u.x.2.2.2))])
def Fn.resK {R : Type} (u : (Ty5 ⊕ Ty9)) (K : AV → zC → Option R) : Option R := match u with
 | (.inl u) => (fun p : AV × zC => K p.1 p.2) ((.tup [(.ints .u8 20 u.1), (.errv 124 201 u.2.1)]), [(some (.var (.agg [(.ptr 1 []), (.int .u64 u.2.2.1), (.ints .u8 20 u.2.2.2.1), (.ints .u64 4 u.w.1), (.own 2 4)]))), (some (.var (.agg [(.own 3 0), (.own 4 0), (.rmap []), (.rmap []), (.own 5 0), (.rmap []), (.int .i64 u.w.2.1), .snil, (.own 6 36), (.own 7 2), (.int .i64 u.w.2.2.1)]))), (some (.objs 26 4 u.w.2.2.2.1)), (some (.mp u.x.1)), (some (.mp u.x.2.1)), (some (.mp u.x.2.2.1)), (some (.objs 104 36 u.x.2.2.2.1)), (some (.objs 83 2 u.x.w))])
 | (.inr u) => (fun p : AV × zC => K p.1 p.2) ((.tup [(.ints .u8 20 u.1), .nili]), [(some (.var (.agg [(.ptr 1 []), (.int .u64 u.2.1), (.ints .u8 20 u.2.2.1), (.ints .u64 4 u.2.2.2.1), (.own 2 4)]))), (some (.var (.agg [(.own 3 0), (.own 4 0), (.rmap []), (.rmap []), (.own 5 0), (.rmap []), (.int .i64 u.w.1), .snil, (.own 6 36), (.own 7 2), (.int .i64 u.w.2.1)]))), (some (.objs 26 4 u.w.2.2.1)), (some (.mp u.w.2.2.2.1)), (some (.mp u.x.1)), (some (.mp u.x.2.1)), (some (.objs 104 36 u.x.2.2.1)), (some (.objs 83 2 u.x.2.2.2))])
def Fn.c (n : Nat) : Abs.Callee := .mk' [true] [none] Fn.pat (Fn.m n) Fn.resK
noncomputable def Fk.C (n : Nat) : Ctx := ⟨Tryz.prog, zI, zU [(70, Fn.c n), (24, Fao.c n), (7, Fav.c n), (71, Fat.c n)], fun _ => false⟩
noncomputable def Fk.A (n : Nat) : Ann := ⟨Tryz.f72.ntmps, 8, zV, [], [(some (.ints .u8)), none], fun k => match k with
 | _ => none, zV, zW []⟩
def Fk.g {α : Type} (mk0 : Nat → Int → LI → LI → Int → Int → LA → LA → LA → LA → LA → LA → LI → α) (mk1 : Int → LI → LI → Int → Int → LA → LA → LA → LA → LA → LA → LI → α) (n : Nat) (t : Int) (c v : LI) (r x : Int) (l p : LA) (q o : LA) (j z : LA) : Option α :=
 zD (Fn.m n (t, c, v, r, x, l, p, q, o, j, z)) fun r2 => match r2 with
  | (.inl r2) =>
   some (mk0 0 r2.2.2.1 r2.2.2.2.1 r2.w.1 r2.w.2.1 r2.w.2.2.1 r2.w.2.2.2.1 r2.x.1 r2.x.2.1 r2.x.2.2.1 r2.x.2.2.2.1 r2.x.w [])
  | (.inr r2) =>
   if 1 < (((List.length r2.w.2.2.1) : Nat) : Int) then
    zD (tkInts .u64 4 (List.getD r2.w.2.2.1 1 AV.any)) fun r8 =>
     zD (Fao.m n (r8, 64)) fun r10 =>
      if (!r10) = true then
       some (mk0 0 r2.2.1 r2.2.2.1 r2.2.2.2.1 r2.w.1 r2.w.2.1 r2.w.2.2.1 r2.w.2.2.2.1 r2.x.1 r2.x.2.1 r2.x.2.2.1 r2.x.2.2.2 [])
      else
       if 1 < (((List.length r2.w.2.2.1) : Nat) : Int) then
        zD (tkInts .u64 4 (List.getD r2.w.2.2.1 1 AV.any)) fun r16 =>
         zD (Fav.m n (r2.1, r16, r2.w.1, r2.w.2.1, r2.w.2.2.2.1, r2.x.1, r2.x.2.1, r2.x.2.2.1, r2.x.2.2.2)) fun r18 =>
          zD (Fat.m n r18.1) fun r20 =>
           some (mk1 r2.2.1 r2.2.2.1 r2.2.2.2.1 r18.2.1 r18.2.2.1 r2.w.2.2.1 r18.2.2.2.1 r18.w.1 r18.w.2.1 r18.w.2.2.1 r18.w.2.2.2 r20)
       else
        none
   else
    none
def Fk.m (n : Nat) (t : kG) : Option ((Nat × zLT) ⊕ zLT) := Fk.g (fun a0 a1 a2 a3 a4 a5 a6 a7 a8 a9 a10 a11 a12 => (.inl (a0, a1, a2, a3, a4, a5, a6, a7, a8, a9, a10, a11, a12))) (fun a0 a1 a2 a3 a4 a5 a6 a7 a8 a9 a10 a11 => (.inr (a0, a1, a2, a3, a4, a5, a6, a7, a8, a9, a10, a11))) n t.1 t.2.1 t.2.2.1 t.2.2.2.1 t.w.1 t.w.2.1 t.w.2.2.1 t.w.2.2.2.1 t.x.1 t.x.2.1 t.x.2.2
def Fk.pat : List AV → zC → Option kG
 | [(.ptr 0 [])], [(some (.var (.agg [(.ptr 1 []), (.int .u64 t), (.ints .u8 20 c), (.ints .u64 4 v), (.own 2 4)]))), (some (.var (.agg [(.own 3 0), (.own 4 0), (.rmap []), (.rmap []), (.own 5 0), (.rmap []), (.int .i64 r), .snil, (.own 6 36), (.own 7 2), (.int .i64 x)]))), (some (.objs 26 4 l)), (some (.mp p)), (some (.mp q)), (some (.mp o)), (some (.objs 104 36 j)), (some (.objs 83 2 z))] => some (t, c, v, r, x, l, p, q, o, j, z)
 | _, _ => none
def Fk.shape (t : kG) : List AV × zC := ([(.ptr 0 [])], [(some (.var (.agg [(.ptr 1 []), (.int .u64 t.1), (.ints .u8 20 t.2.1), (.ints .u64 4 t.2.2.1), (.own 2 4)]))), (some (.var (.agg [(.own 3 0), (.own 4 0), (.rmap []), (.rmap []), (.own 5 0), (.rmap []), (.int .i64 t.2.2.2.1), .snil, (.own 6 36), (.own 7 2), (.int .i64 t.w.1)]))), (some (.objs 26 4 t.w.2.1)), (some (.mp t.w.2.2.1)), (some (.mp t.w.2.2.2.1)), (some (.mp t.x.1)), (some (.objs 104 36 t.x.2.1)), (some (.objs 83 2 t.x.2.2))])
def Fk.res : ((Nat × zLT) ⊕ zLT) → AV × zC
 | (.inl u) => ((.tup [(.own 8 1), (.errv 124 201 u.1)]), [(some (.var (.agg [(.ptr 1 []), (.int .u64 u.2.1), (.ints .u8 20 u.2.2.1), (.ints .u64 4 u.2.2.2.1), (.own 2 4)]))), (some (.var (.agg [(.own 3 0), (.own 4 0), (.rmap []), (.rmap []), (.own 5 0), (.rmap []), (.int .i64 u.w.1), .snil, (.own 6 36), (.own 7 2), (.int .i64 u.w.2.1)]))), (some (.objs 26 4 u.w.2.2.1)), (some (.mp u.w.2.2.2.1)), (some (.mp u.x.1)), (some (.mp u.x.2.1)), (some (.objs 104 36 u.x.2.2.1)), (some (.objs 83 2 u.x.2.2.2.1)), (some (.ints .u8 u.x.w))])
 | (.inr u) => ((.tup [(.own 8 1), .nili]), [(some (.var (.agg [(.ptr 1 []), (.int .u64 u.1), (.ints .u8 20 u.2.1), (.ints .u64 4 u.2.2.1), (.own 2 4)]))), (some (.var (.agg [(.own 3 0), (.own 4 0), (.rmap []), (.rmap []), (.own 5 0), (.rmap []), (.int .i64 u.2.2.2.1), .snil, (.own 6 36), (.own 7 2), (.int .i64 u.w.1)]))), (some (.objs 26 4 u.w.2.1)), (some (.mp u.w.2.2.1)), (some (.mp u.w.2.2.2.1)), (some (.mp u.x.1)), (some (.objs 104 36 u.x.2.1)), (some (.objs 83 2 u.x.2.2.1)), (some (.ints .u8 u.x.2.2.2))])
def Fk.resK {R : Type} (u : ((Nat × zLT) ⊕ zLT)) (K : AV → zC → Option R) : Option R := match u with
 | (.inl u) => (fun p : AV × zC => K p.1 p.2) ((.tup [(.own 8 1), (.errv 124 201 u.1)]), [(some (.var (.agg [(.ptr 1 []), (.int .u64 u.2.1), (.ints .u8 20 u.2.2.1), (.ints .u64 4 u.2.2.2.1), (.own 2 4)]))), (some (.var (.agg [(.own 3 0), (.own 4 0), (.rmap []), (.rmap []), (.own 5 0), (.rmap []), (.int .i64 u.w.1), .snil, (.own 6 36), (.own 7 2), (.int .i64 u.w.2.1)]))), (some (.objs 26 4 u.w.2.2.1)), (some (.mp u.w.2.2.2.1)), (some (.mp u.x.1)), (some (.mp u.x.2.1)), (some (.objs 104 36 u.x.2.2.1)), (some (.objs 83 2 u.x.2.2.2.1)), (some (.ints .u8 u.x.w))])
 | (.inr u) => (fun p : AV × zC => K p.1 p.2) ((.tup [(.own 8 1), .nili]), [(some (.var (.agg [(.ptr 1 []), (.int .u64 u.1), (.ints .u8 20 u.2.1), (.ints .u64 4 u.2.2.1), (.own 2 4)]))), (some (.var (.agg [(.own 3 0), (.own 4 0), (.rmap []), (.rmap []), (.own 5 0), (.rmap []), (.int .i64 u.2.2.2.1), .snil, (.own 6 36), (.own 7 2), (.int .i64 u.w.1)]))), (some (.objs 26 4 u.w.2.1)), (some (.mp u.w.2.2.1)), (some (.mp u.w.2.2.2.1)), (some (.mp u.x.1)), (some (.objs 104 36 u.x.2.1)), (some (.objs 83 2 u.x.2.2.1)), (some (.ints .u8 u.x.2.2.2))])
def Fk.c (n : Nat) : Abs.Callee := .mk' [true] [none] Fk.pat (Fk.m n) Fk.resK
noncomputable def Fbl.C (n : Nat) : Ctx := ⟨Tryz.prog, zI, zU [], fun _ => false⟩
noncomputable def Fbl.A (n : Nat) : Ann := ⟨Tryz.f73.ntmps, 0, zV, [], [none], fun k => match k with
 | _ => none, zV, zW []⟩
def Fbl.g {α : Type} (mk0 : α) (mk1 : Nat → α) (n : Nat) (a0 : Bool) : Option α :=
 if a0 = true then
 some (mk0)
 else
 some (mk1 2)
def Fbl.m (n : Nat) (t : Bool) : Option (Unit ⊕ Nat) := Fbl.g (.inl ()) (fun a0 => (.inr a0)) n t
def Fbl.pat : List AV → zC → Option Bool
 | [(.bool a0)], [] => some a0
 | _, _ => none
def Fbl.shape (t : Bool) : List AV × zC := ([(.bool t)], [])
def Fbl.res : (Unit ⊕ Nat) → AV × zC
 | (.inl u) => (.nili, [])
 | (.inr u) => ((.errv 124 201 u), [])
def Fbl.resK {R : Type} (u : (Unit ⊕ Nat)) (K : AV → zC → Option R) : Option R := match u with
 | (.inl u) => (fun p : AV × zC => K p.1 p.2) (.nili, [])
 | (.inr u) => (fun p : AV × zC => K p.1 p.2) ((.errv 124 201 u), [])
def Fbl.c (n : Nat) : Abs.Callee := .mk' [] [none] Fbl.pat (Fbl.m n) Fbl.resK
