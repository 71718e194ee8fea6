/- What the program's functions compute, as plain functions, each with its proof: the function does just that. Condition: the plain function has an answer. -/
import Derived.Test.YtkknbhapkdgcjaaGreatDoorAbsQ8
import Derived.Test.YtkknbhapkdgcjaaGreatDoorProg
import Derived.Test.YtkknbhapkdgcjaaGreatDoorFnDeskNonces1
set_option linter.unusedVariables false
set_option linter.unusedSimpArgs false
set_option maxRecDepth 100000
open Go Go.Abs Go.Proofs
set_option autoImplicit true
set_option relaxedAutoImplicit true
noncomputable section
noncomputable def Fah.C (n : Nat) : Ctx := ⟨Tryz.prog, dskG, lookC [], fun _ => false⟩
def Fah.live : NL := fun k => match k with
 | 3 => ([6, 3, 1], [3])
 | _ => ([], [])
def Fah.l3_0.r {α : Type} (mk0 : LI → α) (n : Nat) (rc : Int → LI → LI → Option α)  (x0 : Int) (x1 x2 : LI) : Option α :=
 if (decide (x0 < 32)) = true then
 if 0 ≤ (IntKind.wrap .i64 (Int.tdiv x0 8)) then
 if (IntKind.wrap .i64 (Int.tdiv x0 8)) < 4 then
 if 0 ≤ (IntKind.wrap .i64 ((Int.tmod x0 8) * 8)) then
 if 0 ≤ (IntKind.wrap .i64 (31 - x0)) then
 if (IntKind.wrap .i64 (31 - x0)) < (x1.length : Int) then
 rc (IntKind.wrap .i64 (x0 + 1)) (List.set x1 (Int.toNat (IntKind.wrap .i64 (31 - x0))) (IntKind.wrap .u8 (ishr .u64 (List.getD x2 (Int.toNat (IntKind.wrap .i64 (Int.tdiv x0 8))) 0) (IntKind.wrap .i64 ((Int.tmod x0 8) * 8))))) x2
 else
 none
 else
 none
 else
 none
 else
 none
 else
 none
 else
 some (mk0 x1)
def Fah.l3_0.g {α : Type} (mk0 : LI → α) (n : Nat) : Nat → Int → LI → LI → Option α
 | 0, _, _, _ => none
 | m + 1, x0, x1, x2 => Fah.l3_0.r mk0 n (fun y0 y1 y2 => Fah.l3_0.g mk0 n m y0 y1 y2)  x0 x1 x2
def Fah.l3_0.m (n m : Nat) (t : (Int × (LI × LI))) : Option LI := Fah.l3_0.g (fun a0 => a0) n m t.1 t.2.1 t.2.2
def Fah.l3_0.pat : St → Option (Int × (LI × LI))
 | (St.mk [(.int .i64 x0), (.own 0 1), (.ptr 1 [])] [(some (.ints .u8 x1)), (some (.var (.ints .u64 4 x2)))]) => some (x0, x1, x2)
 | _ => none
def Fah.l3_0.shape (t : (Int × (LI × LI))) : St := (St.mk [(.int .i64 t.1), (.own 0 1), (.ptr 1 [])] [(some (.ints .u8 t.2.1)), (some (.var (.ints .u64 4 t.2.2)))])
def Fah.l3_0.res : LI → Ex × St
 | u => ((.exit 0), (St.mk [(.own 0 1)] [(some (.ints .u8 u))]))
noncomputable def Fah.A (n : Nat) : Ann := ⟨Tryz.f71.ntmps, 0, Fah.live, [(3, (.ints .u8))], [(some (.ints .u8))], fun k => match k with
 | 3 => some (.mk' Fah.l3_0.pat (Fah.l3_0.m n n) (resKl Fah.l3_0.res))
 | _ => none, noNL, lookJ []⟩
noncomputable def Fah.b0 : Code := (loopsIn (Tryz.f71.body.getD .skip)).getD 0 .skip
def Fah.g {α : Type} (mk0 : LI → α) (n : Nat) (a0 : LI) : Option α :=
 bindO (Fah.l3_0.m n n (0, ([0, 0, 0, 0, 0, 0, 0, 0, 0, 0, 0, 0, 0, 0, 0, 0, 0, 0, 0, 0, 0, 0, 0, 0, 0, 0, 0, 0, 0, 0, 0, 0] : List Int), a0)) fun r2 =>
 some (mk0 r2)
def Fah.m (n : Nat) (t : LI) : Option LI := Fah.g (fun a0 => a0) n t
def Fah.pat : List AV → Blks → Option LI
 | [(.ints .u64 4 a0)], [] => some a0
 | _, _ => none
def Fah.shape (t : LI) : List AV × Blks := ([(.ints .u64 4 t)], [])
def Fah.res : LI → AV × Blks
 | u => ((.own 0 1), [(some (.ints .u8 u))])
def Fah.c (n : Nat) : Abs.Callee := .mk' [] [none] Fah.pat (Fah.m n) (resKof Fah.res)
noncomputable def Fy.C (n : Nat) : Ctx := ⟨Tryz.prog, dskG, lookC [(81, Fag.c n), (71, Fah.c n)], fun _ => false⟩
noncomputable def Fy.A (n : Nat) : Ann := ⟨Tryz.f67.ntmps, 0, noNL, [], [(some (.ints .u8))], fun k => match k with
 | _ => none, noNL, lookJ []⟩
def Fy.g {α : Type} (mk0 : LI → α) (n : Nat) (a0 : ByteArray) : Option α :=
 bindO (Fag.m n (Go.Abs.bytesOf a0)) fun r2 =>
 bindO (Fah.m n r2) fun r4 =>
 if 4 ≤ (r4.length : Int) then
 some (mk0 (Go.Abs.partL r4 0 (Go.Abs.span (List.length r4) 0 (Option.some 4))))
 else
 none
def Fy.m (n : Nat) (t : ByteArray) : Option LI := Fy.g (fun a0 => a0) n t
def Fy.pat : List AV → Blks → Option ByteArray
 | [(.str a0)], [] => some a0
 | _, _ => none
def Fy.shape (t : ByteArray) : List AV × Blks := ([(.str t)], [])
def Fy.res : LI → AV × Blks
 | u => ((.own 0 1), [(some (.ints .u8 u))])
def Fy.c (n : Nat) : Abs.Callee := .mk' [] [none] Fy.pat (Fy.m n) (resKof Fy.res)
noncomputable def Fat.C (n : Nat) : Ctx := ⟨Tryz.prog, dskG, lookC [(66, Fas.c n), (67, Fy.c n)], fun _ => false⟩
def Fat.live : NL := fun k => match k with
 | 2 => ([8, 7, 6, 0, 2], [2, 3])
 | _ => ([], [])
def Fat.l2_0.r {α : Type} (mk0 : Bool → ByteArray → Int → Bool → Bool → α) (mk1 : ByteArray → Int → Bool → Bool → α) (n : Nat) (rc : Int → Int → LA → LI → ByteArray → Int → Bool → Bool → Option α)  (x0 x1 : Int) (x2 : LA) (x3 : LI) (x4 : ByteArray) (x5 : Int) (x6 x7 : Bool) : Option α :=
 if (decide (x0 < x1)) = true then
 if 0 ≤ x0 then
 if x0 < (x2.length : Int) then
 bindO (tkAgg 4 (List.getD x2 (Int.toNat x0) AV.any)) fun r10 =>
 bindO (tkStr (List.getD r10 0 AV.any)) fun r12 =>
 bindO (tkInt .i64 (List.getD r10 1 AV.any)) fun r14 =>
 bindO (tkBool (List.getD r10 2 AV.any)) fun r16 =>
 bindO (tkBool (List.getD r10 3 AV.any)) fun r18 =>
 if (decide ((x3.length : Int) ≥ 4)) = true then
 if 4 ≤ (x3.length : Int) then
 bindO (Fy.m n r12) fun r24 =>
 if ((ByteArray.toList (Go.Abs.strOf (Go.Abs.cut x3 0 (Option.some 4)))) == (ByteArray.toList (Go.Abs.strOf r24))) = true then
 some (mk0 true r12 r14 r16 r18)
 else
 rc (IntKind.wrap .i64 (x0 + 1)) x1 x2 x3 x4 x5 x6 x7
 else
 none
 else
 rc (IntKind.wrap .i64 (x0 + 1)) x1 x2 x3 x4 x5 x6 x7
 else
 none
 else
 none
 else
 some (mk1 x4 x5 x6 x7)
def Fat.l2_0.g {α : Type} (mk0 : Bool → ByteArray → Int → Bool → Bool → α) (mk1 : ByteArray → Int → Bool → Bool → α) (n : Nat) : Nat → Int → Int → LA → LI → ByteArray → Int → Bool → Bool → Option α
 | 0, _, _, _, _, _, _, _, _ => none
 | m + 1, x0, x1, x2, x3, x4, x5, x6, x7 => Fat.l2_0.r mk0 mk1 n (fun y0 y1 y2 y3 y4 y5 y6 y7 => Fat.l2_0.g mk0 mk1 n m y0 y1 y2 y3 y4 y5 y6 y7)  x0 x1 x2 x3 x4 x5 x6 x7
def Fat.l2_0.m (n m : Nat) (t : Ty15) : Option (Ty29 ⊕ (ByteArray × (Int × (Bool × Bool)))) := Fat.l2_0.g (fun a0 a1 a2 a3 a4 => (.inl (a0, a1, a2, a3, a4))) (fun a0 a1 a2 a3 => (.inr (a0, a1, a2, a3))) n m t.1 t.2.1 t.2.2.1 t.2.2.2.1 t.w.1 t.w.2.1 t.w.2.2.1 t.w.2.2.2
def Fat.l2_0.pat : St → Option Ty15
 | (St.mk [(.int .i64 x0), (.int .i64 x1), (.robjs 120 4 x2), (.rints .u8 x3), (.ptr 0 [])] [(some (.var (.agg [(.str x4), (.int .i64 x5), (.bool x6), (.bool x7)])))]) => some (x0, x1, x2, x3, x4, x5, x6, x7)
 | _ => none
def Fat.l2_0.shape (t : Ty15) : St := (St.mk [(.int .i64 t.1), (.int .i64 t.2.1), (.robjs 120 4 t.2.2.1), (.rints .u8 t.2.2.2.1), (.ptr 0 [])] [(some (.var (.agg [(.str t.w.1), (.int .i64 t.w.2.1), (.bool t.w.2.2.1), (.bool t.w.2.2.2)])))])
def Fat.l2_0.res : (Ty29 ⊕ (ByteArray × (Int × (Bool × Bool)))) → Ex × St
 | (.inl u) => (.ret, (St.mk [(.ptr 0 []), (.bool u.1)] [(some (.var (.agg [(.str u.2.1), (.int .i64 u.2.2.1), (.bool u.2.2.2.1), (.bool u.w)])))]))
 | (.inr u) => ((.exit 0), (St.mk [(.ptr 0 []), .any] [(some (.var (.agg [(.str u.1), (.int .i64 u.2.1), (.bool u.2.2.1), (.bool u.2.2.2)])))]))
def Fat.l2_0.resK {R : Type} (u : (Ty29 ⊕ (ByteArray × (Int × (Bool × Bool))))) (K : Ex → St → Option R) : Option R := match u with
 | (.inl u) => (fun p : Ex × St => K p.1 p.2) (.ret, (St.mk [(.ptr 0 []), (.bool u.1)] [(some (.var (.agg [(.str u.2.1), (.int .i64 u.2.2.1), (.bool u.2.2.2.1), (.bool u.w)])))]))
 | (.inr u) => (fun p : Ex × St => K p.1 p.2) ((.exit 0), (St.mk [(.ptr 0 []), .any] [(some (.var (.agg [(.str u.1), (.int .i64 u.2.1), (.bool u.2.2.1), (.bool u.2.2.2)])))]))
noncomputable def Fat.A (n : Nat) : Ann := ⟨Tryz.f52.ntmps, 0, Fat.live, [(0, (.ints .u8)), (6, (.objs 120 4))], [none, none], fun k => match k with
 | 2 => some (.mk' Fat.l2_0.pat (Fat.l2_0.m n n) Fat.l2_0.resK)
 | _ => none, noNL, lookJ []⟩
noncomputable def Fat.b0 : Code := (loopsIn (Tryz.f52.body.getD .skip)).getD 0 .skip
def Fat.g {α : Type} (mk0 : ByteArray → Int → Bool → Bool → Bool → α) (n : Nat) (a0 : LI) : Option α :=
 bindO (Fas.m n Unit.unit) fun r2 =>
  bindO (Fat.l2_0.m n n (0, (r2.length : Int), r2, a0, ByteArray.empty, 0, false, false)) fun r4 => match r4 with
   | (.inl r4) =>
    some (mk0 r4.2.1 r4.2.2.1 r4.2.2.2.1 r4.w r4.1)
   | (.inr r4) =>
    some (mk0 ByteArray.empty 0 false false false)
def Fat.m (n : Nat) (t : LI) : Option (ByteArray × (Int × (Bool × (Bool × Bool)))) := Fat.g (fun a0 a1 a2 a3 a4 => (a0, a1, a2, a3, a4)) n t
def Fat.pat : List AV → Blks → Option LI
 | [(.rints .u8 a0)], [] => some a0
 | _, _ => none
def Fat.shape (t : LI) : List AV × Blks := ([(.rints .u8 t)], [])
def Fat.res : (ByteArray × (Int × (Bool × (Bool × Bool)))) → AV × Blks
 | u => ((.tup [(.agg [(.str u.1), (.int .i64 u.2.1), (.bool u.2.2.1), (.bool u.2.2.2.1)]), (.bool u.w)]), [])
def Fat.c (n : Nat) : Abs.Callee := .mk' [] [(some (.ints .u8))] Fat.pat (Fat.m n) (resKof Fat.res)
noncomputable def Fai.C (n : Nat) : Ctx := ⟨Tryz.prog, dskG, lookC [(64, Fam.c n)], fun _ => false⟩
def Fai.live : NL := fun k => match k with
 | 5 => ([21, 20, 19, 1, 6], [4, 5, 6])
 | _ => ([], [])
def Fai.l5_0.r {α : Type} (mk0 : LA → α) (n : Nat) (rc : Int → Int → LA → LI → LA → Option α)  (x0 x1 : Int) (x2 : LA) (x3 : LI) (x4 : LA) : Option α :=
 if (decide (x0 < x1)) = true then
 if 0 ≤ x0 then
 if x0 < (x2.length : Int) then
 bindO (tkBool (List.getD x2 (Int.toNat x0) AV.any)) fun r10 =>
 if (!r10) = true then
 if 0 ≤ (IntKind.wrap .i64 (32 * (IntKind.wrap .i64 (x0 + 1)))) then
 if (IntKind.wrap .i64 (32 * (IntKind.wrap .i64 (x0 + 1)))) ≤ (x3.length : Int) then
 if 0 ≤ (IntKind.wrap .i64 (32 * x0)) then
 if (IntKind.wrap .i64 (32 * x0)) ≤ (IntKind.wrap .i64 (32 * (IntKind.wrap .i64 (x0 + 1)))) then
 bindO (Fam.m n (Go.Abs.cut x3 (Int.toNat (IntKind.wrap .i64 (32 * x0))) (Option.some (Int.toNat (IntKind.wrap .i64 (32 * (IntKind.wrap .i64 (x0 + 1)))))))) fun r22 =>
 if ((((List.length x4) + 1) * 64) ≤ 70368744177664 ∧ ((List.length x4) + 1) ≤ 9223372036854775807) then
 rc (IntKind.wrap .i64 (x0 + 1)) x1 x2 x3 (x4 ++ [(AV.agg [(AV.bool r10), (AV.ints .u64 4 r22), AV.snil])])
 else
 none
 else
 none
 else
 none
 else
 none
 else
 none
 else
 none
 else
 none
 else
 none
 else
 some (mk0 x4)
def Fai.l5_0.g {α : Type} (mk0 : LA → α) (n : Nat) : Nat → Int → Int → LA → LI → LA → Option α
 | 0, _, _, _, _, _ => none
 | m + 1, x0, x1, x2, x3, x4 => Fai.l5_0.r mk0 n (fun y0 y1 y2 y3 y4 => Fai.l5_0.g mk0 n m y0 y1 y2 y3 y4)  x0 x1 x2 x3 x4
def Fai.l5_0.m (n m : Nat) (t : (Int × (Int × (LA × (LI × LA))))) : Option LA := Fai.l5_0.g (fun a0 => a0) n m t.1 t.2.1 t.2.2.1 t.2.2.2.1 t.w
def Fai.l5_0.pat : St → Option (Int × (Int × (LA × (LI × LA))))
 | (St.mk [(.int .i64 x0), (.int .i64 x1), (.robjs 4 1 x2), (.rints .u8 x3), (.own 0 6)] [(some (.objs 59 6 x4))]) => some (x0, x1, x2, x3, x4)
 | _ => none
def Fai.l5_0.shape (t : (Int × (Int × (LA × (LI × LA))))) : St := (St.mk [(.int .i64 t.1), (.int .i64 t.2.1), (.robjs 4 1 t.2.2.1), (.rints .u8 t.2.2.2.1), (.own 0 6)] [(some (.objs 59 6 t.w))])
def Fai.l5_0.res : LA → Ex × St
 | u => ((.exit 0), (St.mk [.any, .any, (.own 0 6)] [(some (.objs 59 6 u))]))
noncomputable def Fai.A (n : Nat) : Ann := ⟨Tryz.f53.ntmps, 0, Fai.live, [(1, (.ints .u8)), (19, (.objs 4 1)), (4, (.objs 59 6)), (6, (.objs 59 6))], [(some (.objs 59 6)), none], fun k => match k with
 | 5 => some (.mk' Fai.l5_0.pat (Fai.l5_0.m n n) (resKl Fai.l5_0.res))
 | _ => none, noNL, lookJ []⟩
noncomputable def Fai.b0 : Code := (loopsIn (Tryz.f53.body.getD .skip)).getD 0 .skip
def Fai.g {α : Type} (mk0 : Int → LA → α) (n : Nat) (a0 : LA) (a1 : LI) : Option α :=
 if (decide ((IntKind.wrap .i64 (Int.tdiv (a1.length : Int) 32)) < (a0.length : Int))) = true then
 some (mk0 50 [])
 else
 bindO (Fai.l5_0.m n n (0, (a0.length : Int), a0, a1, [])) fun r4 =>
 some (mk0 0 r4)
def Fai.m (n : Nat) (t : (LA × LI)) : Option (Int × LA) := Fai.g (fun a0 a1 => (a0, a1)) n t.1 t.2
def Fai.pat : List AV → Blks → Option (LA × LI)
 | [(.robjs 4 1 a0), (.rints .u8 a1)], [] => some (a0, a1)
 | _, _ => none
def Fai.shape (t : (LA × LI)) : List AV × Blks := ([(.robjs 4 1 t.1), (.rints .u8 t.2)], [])
def Fai.res : (Int × LA) → AV × Blks
 | u => ((.tup [(.own 0 6), (.int .u16 u.1)]), [(some (.objs 59 6 u.2))])
def Fai.c (n : Nat) : Abs.Callee := .mk' [] [(some (.objs 4 1)), (some (.ints .u8))] Fai.pat (Fai.m n) (resKof Fai.res)
noncomputable def Fau.C (n : Nat) : Ctx := ⟨Tryz.prog, dskG, lookC [(71, Fah.c n)], fun _ => false⟩
noncomputable def Fau.A (n : Nat) : Ann := ⟨Tryz.f88.ntmps, 0, noNL, [], [none], fun k => match k with
 | _ => none, noNL, lookJ []⟩
def Fau.g {α : Type} (mk0 : LI → α) (n : Nat) (a0 : LI) : Option α :=
 bindO (Fah.m n a0) fun r2 =>
 if 12 ≤ (r2.length : Int) then
 if 20 ≤ (Go.Abs.span (List.length r2) 12 (Option.none)) then
 some (mk0 (List.take 20 (List.drop 12 r2)))
 else
 none
 else
 none
def Fau.m (n : Nat) (t : LI) : Option LI := Fau.g (fun a0 => a0) n t
def Fau.pat : List AV → Blks → Option LI
 | [(.ints .u64 4 a0)], [] => some a0
 | _, _ => none
def Fau.shape (t : LI) : List AV × Blks := ([(.ints .u64 4 t)], [])
def Fau.res : LI → AV × Blks
 | u => ((.ints .u8 20 u), [])
def Fau.c (n : Nat) : Abs.Callee := .mk' [] [none] Fau.pat (Fau.m n) (resKof Fau.res)
noncomputable def Fi.C (n : Nat) : Ctx := ⟨Tryz.prog, dskG, lookC [(24, Faa.c n), (88, Fau.c n)], fun _ => false⟩
noncomputable def Fi.A (n : Nat) : Ann := ⟨Tryz.f70.ntmps, 7, noNL, [], [none, none], fun k => match k with
 | _ => none, noNL, lookJ []⟩
def Fi.g {α : Type} (mk0 : LI → Nat → Int → LI → LI → Int → Int → LA → LA → LA → LA → LA → α) (mk1 : LI → Int → LI → LI → Int → Int → LA → LA → LA → LA → LA → α) (n : Nat) (t : Int) (c v : LI) (r x : Int) (l p : LA) (q o j : LA) : Option α :=
 if 0 < (l.length : Int) then
 bindO (tkInts .u64 4 (List.getD l 0 AV.any)) fun r4 =>
 bindO (Faa.m n (r4, 160)) fun r6 =>
 if (!r6) = true then
 some (mk0 ([0, 0, 0, 0, 0, 0, 0, 0, 0, 0, 0, 0, 0, 0, 0, 0, 0, 0, 0, 0] : List Int) 0 t c v r x l p q o j)
 else
 if 0 < (l.length : Int) then
 bindO (tkInts .u64 4 (List.getD l 0 AV.any)) fun r12 =>
 bindO (Fau.m n r12) fun r14 =>
 some (mk1 r14 t c v r x l p q o j)
 else
 none
 else
 none
def Fi.m (n : Nat) (t : Ty13) : Option (Ty4 ⊕ Ty8) := Fi.g (fun a0 a1 a2 a3 a4 a5 a6 a7 a8 a9 a10 a11 => (.inl (a0, a1, a2, a3, a4, a5, a6, a7, a8, a9, a10, a11))) (fun a0 a1 a2 a3 a4 a5 a6 a7 a8 a9 a10 => (.inr (a0, a1, a2, a3, a4, a5, a6, a7, a8, a9, a10))) n t.1 t.2.1 t.2.2.1 t.2.2.2.1 t.w.1 t.w.2.1 t.w.2.2.1 t.w.2.2.2.1 t.x.1 t.x.2
def Fi.pat : List AV → Blks → Option Ty13
 | [(.ptr 0 [])], [(some (.var (.agg [(.ptr 1 []), (.int .u64 t), (.ints .u8 20 c), (.ints .u64 4 v), (.own 2 4)]))), (some (.var (.agg [(.own 3 0), (.own 4 0), (.rmap []), (.rmap []), (.own 5 0), (.rmap []), (.int .i64 r), .snil, (.own 6 36), .snil, (.int .i64 x)]))), (some (.objs 26 4 l)), (some (.mp p)), (some (.mp q)), (some (.mp o)), (some (.objs 104 36 j))] => some (t, c, v, r, x, l, p, q, o, j)
 | _, _ => none
def Fi.shape (t : Ty13) : List AV × Blks := ([(.ptr 0 [])], [(some (.var (.agg [(.ptr 1 []), (.int .u64 t.1), (.ints .u8 20 t.2.1), (.ints .u64 4 t.2.2.1), (.own 2 4)]))), (some (.var (.agg [(.own 3 0), (.own 4 0), (.rmap []), (.rmap []), (.own 5 0), (.rmap []), (.int .i64 t.2.2.2.1), .snil, (.own 6 36), .snil, (.int .i64 t.w.1)]))), (some (.objs 26 4 t.w.2.1)), (some (.mp t.w.2.2.1)), (some (.mp t.w.2.2.2.1)), (some (.mp t.x.1)), (some (.objs 104 36 t.x.2))])
def Fi.res : (Ty4 ⊕ Ty8) → AV × Blks
 | (.inl u) => ((.tup [(.ints .u8 20 u.1), (.errv 124 201 u.2.1)]), [(some (.var (.agg [(.ptr 1 []), (.int .u64 u.2.2.1), (.ints .u8 20 u.2.2.2.1), (.ints .u64 4 u.w.1), (.own 2 4)]))), (some (.var (.agg [(.own 3 0), (.own 4 0), (.rmap []), (.rmap []), (.own 5 0), (.rmap []), (.int .i64 u.w.2.1), .snil, (.own 6 36), .snil, (.int .i64 u.w.2.2.1)]))), (some (.objs 26 4 u.w.2.2.2.1)), (some (.mp u.x.1)), (some (.mp u.x.2.1)), (some (.mp u.x.2.2.1)), (some (.objs 104 36 u.x.2.2.2))])
 | (.inr u) => ((.tup [(.ints .u8 20 u.1), .nili]), [(some (.var (.agg [(.ptr 1 []), (.int .u64 u.2.1), (.ints .u8 20 u.2.2.1), (.ints .u64 4 u.2.2.2.1), (.own 2 4)]))), (some (.var (.agg [(.own 3 0), (.own 4 0), (.rmap []), (.rmap []), (.own 5 0), (.rmap []), (.int .i64 u.w.1), .snil, (.own 6 36), .snil, (.int .i64 u.w.2.1)]))), (some (.objs 26 4 u.w.2.2.1)), (some (.mp u.w.2.2.2.1)), (some (.mp u.x.1)), (some (.mp u.x.2.1)), (some (.objs 104 36 u.x.2.2))])
def Fi.resK {R : Type} (u : (Ty4 ⊕ Ty8)) (K : AV → Blks → Option R) : Option R := match u with
 | (.inl u) => (fun p : AV × Blks => K p.1 p.2) ((.tup [(.ints .u8 20 u.1), (.errv 124 201 u.2.1)]), [(some (.var (.agg [(.ptr 1 []), (.int .u64 u.2.2.1), (.ints .u8 20 u.2.2.2.1), (.ints .u64 4 u.w.1), (.own 2 4)]))), (some (.var (.agg [(.own 3 0), (.own 4 0), (.rmap []), (.rmap []), (.own 5 0), (.rmap []), (.int .i64 u.w.2.1), .snil, (.own 6 36), .snil, (.int .i64 u.w.2.2.1)]))), (some (.objs 26 4 u.w.2.2.2.1)), (some (.mp u.x.1)), (some (.mp u.x.2.1)), (some (.mp u.x.2.2.1)), (some (.objs 104 36 u.x.2.2.2))])
 | (.inr u) => (fun p : AV × Blks => K p.1 p.2) ((.tup [(.ints .u8 20 u.1), .nili]), [(some (.var (.agg [(.ptr 1 []), (.int .u64 u.2.1), (.ints .u8 20 u.2.2.1), (.ints .u64 4 u.2.2.2.1), (.own 2 4)]))), (some (.var (.agg [(.own 3 0), (.own 4 0), (.rmap []), (.rmap []), (.own 5 0), (.rmap []), (.int .i64 u.w.1), .snil, (.own 6 36), .snil, (.int .i64 u.w.2.1)]))), (some (.objs 26 4 u.w.2.2.1)), (some (.mp u.w.2.2.2.1)), (some (.mp u.x.1)), (some (.mp u.x.2.1)), (some (.objs 104 36 u.x.2.2))])
def Fi.c (n : Nat) : Abs.Callee := .mk' [true] [none] Fi.pat (Fi.m n) Fi.resK
noncomputable def Fav.C (n : Nat) : Ctx := ⟨Tryz.prog, dskG, lookC [], fun _ => false⟩
noncomputable def Fav.A (n : Nat) : Ann := ⟨Tryz.f73.ntmps, 0, noNL, [], [none], fun k => match k with
 | _ => none, noNL, lookJ []⟩
def Fav.g {α : Type} (mk0 : α) (mk1 : Nat → α) (n : Nat) (a0 : Bool) : Option α :=
 if a0 = true then
 some (mk0)
 else
 some (mk1 2)
def Fav.m (n : Nat) (t : Bool) : Option (Unit ⊕ Nat) := Fav.g (.inl ()) (fun a0 => (.inr a0)) n t
def Fav.pat : List AV → Blks → Option Bool
 | [(.bool a0)], [] => some a0
 | _, _ => none
def Fav.shape (t : Bool) : List AV × Blks := ([(.bool t)], [])
def Fav.res : (Unit ⊕ Nat) → AV × Blks
 | (.inl u) => (.nili, [])
 | (.inr u) => ((.errv 124 201 u), [])
def Fav.resK {R : Type} (u : (Unit ⊕ Nat)) (K : AV → Blks → Option R) : Option R := match u with
 | (.inl u) => (fun p : AV × Blks => K p.1 p.2) (.nili, [])
 | (.inr u) => (fun p : AV × Blks => K p.1 p.2) ((.errv 124 201 u), [])
def Fav.c (n : Nat) : Abs.Callee := .mk' [] [none] Fav.pat (Fav.m n) Fav.resK
def Faj.m (n : Nat) (t : (Int × (Int × Int))) : Option (Int × Int) := xSub64 t
def Faj.pat : List AV → Blks → Option (Int × (Int × Int))
 | [(.int .u64 a0), (.int .u64 a1), (.int .u64 a2)], [] => some (a0, a1, a2)
 | _, _ => none
def Faj.shape (t : (Int × (Int × Int))) : List AV × Blks := ([(.int .u64 t.1), (.int .u64 t.2.1), (.int .u64 t.2.2)], [])
def Faj.res : (Int × Int) → AV × Blks
 | u => ((.tup [(.int .u64 u.1), (.int .u64 u.2)]), [])
def Faj.c (n : Nat) : Abs.Callee := .mk' [] [none, none, none] Faj.pat (Faj.m n) (resKof Faj.res)
noncomputable def Fbg.C (n : Nat) : Ctx := ⟨Tryz.prog, dskG, lookC [(98, Faj.c n)], fun _ => false⟩
def Fbg.live : NL := fun k => match k with
 | 4 => ([9, 2, 3, 7, 6, 4], [6, 7, 4])
 | _ => ([], [])
def Fbg.l4_0.r {α : Type} (mk0 : Int → LI → LI → α) (n : Nat) (rc : Int → Int → LI → LI → LI → LI → Option α)  (x0 x1 : Int) (x2 x3 : LI) (x4 x5 : LI) : Option α :=
 if (decide (x0 < 4)) = true then
 if 0 ≤ x0 then
 if x0 < 4 then
 if 0 ≤ x0 then
 if x0 < 4 then
 bindO (Faj.m n ((List.getD x2 (Int.toNat x0) 0), (List.getD x3 (Int.toNat x0) 0), x1)) fun r14 =>
 if 0 ≤ x0 then
 if x0 < 4 then
 rc (IntKind.wrap .i64 (x0 + 1)) r14.2 x2 x3 (List.set x4 (Int.toNat x0) r14.1) x5
 else
 none
 else
 none
 else
 none
 else
 none
 else
 none
 else
 none
 else
 some (mk0 x1 x4 x5)
def Fbg.l4_0.g {α : Type} (mk0 : Int → LI → LI → α) (n : Nat) : Nat → Int → Int → LI → LI → LI → LI → Option α
 | 0, _, _, _, _, _, _ => none
 | m + 1, x0, x1, x2, x3, x4, x5 => Fbg.l4_0.r mk0 n (fun y0 y1 y2 y3 y4 y5 => Fbg.l4_0.g mk0 n m y0 y1 y2 y3 y4 y5)  x0 x1 x2 x3 x4 x5
def Fbg.l4_0.m (n m : Nat) (t : (Int × (Int × (LI × (LI × (LI × LI)))))) : Option (Int × (LI × LI)) := Fbg.l4_0.g (fun a0 a1 a2 => (a0, a1, a2)) n m t.1 t.2.1 t.2.2.1 t.2.2.2.1 t.w.1 t.w.2
def Fbg.l4_0.pat : St → Option (Int × (Int × (LI × (LI × (LI × LI)))))
 | (St.mk [(.int .i64 x0), (.ptr 0 []), (.ptr 1 []), (.int .u64 x1), (.ptr 2 []), (.ptr 3 [])] [(some (.var (.ints .u64 4 x2))), (some (.var (.ints .u64 4 x3))), (some (.var (.ints .u64 4 x4))), (some (.var (.ints .u64 4 x5)))]) => some (x0, x1, x2, x3, x4, x5)
 | _ => none
def Fbg.l4_0.shape (t : (Int × (Int × (LI × (LI × (LI × LI)))))) : St := (St.mk [(.int .i64 t.1), (.ptr 0 []), (.ptr 1 []), (.int .u64 t.2.1), (.ptr 2 []), (.ptr 3 [])] [(some (.var (.ints .u64 4 t.2.2.1))), (some (.var (.ints .u64 4 t.2.2.2.1))), (some (.var (.ints .u64 4 t.w.1))), (some (.var (.ints .u64 4 t.w.2)))])
def Fbg.l4_0.res : (Int × (LI × LI)) → Ex × St
 | u => ((.exit 0), (St.mk [(.ptr 0 []), (.int .u64 u.1), (.ptr 1 [])] [(some (.var (.ints .u64 4 u.2.1))), (some (.var (.ints .u64 4 u.2.2)))]))
noncomputable def Fbg.A (n : Nat) : Ann := ⟨Tryz.f96.ntmps, 0, Fbg.live, [], [none, none], fun k => match k with
 | 4 => some (.mk' Fbg.l4_0.pat (Fbg.l4_0.m n n) (resKl Fbg.l4_0.res))
 | _ => none, noNL, lookJ []⟩
noncomputable def Fbg.b0 : Code := (loopsIn (Tryz.f96.body.getD .skip)).getD 0 .skip
def Fbg.g {α : Type} (mk0 : LI → Bool → α) (n : Nat) (a0 a1 : LI) : Option α :=
 bindO (Fbg.l4_0.m n n (0, 0, a0, a1, [0, 0, 0, 0], [0, 0, 0, 0])) fun r2 =>
 some (mk0 r2.2.1 (r2.1 != 0))
def Fbg.m (n : Nat) (t : (LI × LI)) : Option (LI × Bool) := Fbg.g (fun a0 a1 => (a0, a1)) n t.1 t.2
def Fbg.pat : List AV → Blks → Option (LI × LI)
 | [(.ints .u64 4 a0), (.ints .u64 4 a1)], [] => some (a0, a1)
 | _, _ => none
def Fbg.shape (t : (LI × LI)) : List AV × Blks := ([(.ints .u64 4 t.1), (.ints .u64 4 t.2)], [])
def Fbg.res : (LI × Bool) → AV × Blks
 | u => ((.tup [(.ints .u64 4 u.1), (.bool u.2)]), [])
def Fbg.c (n : Nat) : Abs.Callee := .mk' [] [none, none] Fbg.pat (Fbg.m n) (resKof Fbg.res)
noncomputable def Fak.C (n : Nat) : Ctx := ⟨Tryz.prog, dskG, lookC [(18, Fx.c n), (96, Fbg.c n), (10, Faq.c n), (26, Fap.c n), (27, Fd.c n)], fun _ => false⟩
noncomputable def Fak.A (n : Nat) : Ann := ⟨Tryz.f91.ntmps, 5, noNL, [], [none, (some (.agg [(some (.ints .u8))]))], fun k => match k with
 | _ => none, noNL, lookJ []⟩
def Fak.g {α : Type} (mk0 : Bool → Int → Int → LA → LA → LA → LA → α) (n : Nat) (a v : LI) (r x : Int) (p q : LA) (o j : LA) : Option α :=
 bindO (Fx.m n (a, r, x, p, q, o, j)) fun r2 =>
 bindO (Fbg.m n (r2.1, v)) fun r4 =>
 if (!r4.2) = true then
 bindO (Faq.m n Unit.unit) fun r8 =>
 bindO (Fap.m n (a, 0, 0)) fun r10 =>
 bindO (Fd.m n (r8, r10, r4.1, r2.2.1, r2.2.2.1, r2.2.2.2.1, r2.w.1, r2.w.2.1, r2.w.2.2)) fun r12 =>
 some (mk0 (!r4.2) r12.1 r12.2.1 r12.2.2.1 r12.2.2.2.1 r12.w.1 r12.w.2)
 else
 some (mk0 (!r4.2) r2.2.1 r2.2.2.1 r2.2.2.2.1 r2.w.1 r2.w.2.1 r2.w.2.2)
def Fak.m (n : Nat) (t : Ty21) : Option Ty22 := Fak.g (fun a0 a1 a2 a3 a4 a5 a6 => (a0, a1, a2, a3, a4, a5, a6)) n t.1 t.2.1 t.2.2.1 t.2.2.2.1 t.w.1 t.w.2.1 t.w.2.2.1 t.w.2.2.2
def Fak.pat : List AV → Blks → Option Ty21
 | [(.ptr 0 []), (.ints .u8 20 a), (.ints .u64 4 v)], [(some (.var (.agg [(.own 1 0), (.own 2 0), (.rmap []), (.rmap []), (.own 3 0), (.rmap []), (.int .i64 r), .snil, (.own 4 36), .snil, (.int .i64 x)]))), (some (.mp p)), (some (.mp q)), (some (.mp o)), (some (.objs 104 36 j))] => some (a, v, r, x, p, q, o, j)
 | _, _ => none
def Fak.shape (t : Ty21) : List AV × Blks := ([(.ptr 0 []), (.ints .u8 20 t.1), (.ints .u64 4 t.2.1)], [(some (.var (.agg [(.own 1 0), (.own 2 0), (.rmap []), (.rmap []), (.own 3 0), (.rmap []), (.int .i64 t.2.2.1), .snil, (.own 4 36), .snil, (.int .i64 t.2.2.2.1)]))), (some (.mp t.w.1)), (some (.mp t.w.2.1)), (some (.mp t.w.2.2.1)), (some (.objs 104 36 t.w.2.2.2))])
def Fak.res : Ty22 → AV × Blks
 | u => ((.bool u.1), [(some (.var (.agg [(.own 1 0), (.own 2 0), (.rmap []), (.rmap []), (.own 3 0), (.rmap []), (.int .i64 u.2.1), .snil, (.own 5 36), .snil, (.int .i64 u.2.2.1)]))), (some (.mp u.2.2.2.1)), (some (.mp u.w.1)), (some (.mp u.w.2.1)), none, (some (.objs 104 36 u.w.2.2))])
def Fak.c (n : Nat) : Abs.Callee := .mk' [true, false, false] [none, none, none] Fak.pat (Fak.m n) (resKof Fak.res)
noncomputable def Ff.C (n : Nat) : Ctx := ⟨Tryz.prog, dskG, lookC [], fun _ => false⟩
noncomputable def Ff.A (n : Nat) : Ann := ⟨Tryz.f12.ntmps, 5, noNL, [], [none], fun k => match k with
 | _ => none, noNL, lookJ []⟩
def Ff.g {α : Type} (mk0 : LI → Int → Int → LA → LA → LA → LA → α) (n : Nat) (a : LI) (r x : Int) (p q : LA) (o j : LA) : Option α :=
 bindO (Go.Abs.mgetL (AV.ints .u8 20 a) (AV.agg [(AV.int .u64 0), (AV.ints .u64 4 [0, 0, 0, 0]), (AV.str ByteArray.empty)]) p) fun r2 =>
 bindO (tkAgg 3 r2.1) fun r4 =>
 bindO (tkInt .u64 (List.getD r4 0 AV.any)) fun r6 =>
 bindO (tkInts .u64 4 (List.getD r4 1 AV.any)) fun r8 =>
 bindO (tkStr (List.getD r4 2 AV.any)) fun r10 =>
 some (mk0 r8 r x p q o j)
def Ff.m (n : Nat) (t : Ty25) : Option Ty25 := Ff.g (fun a0 a1 a2 a3 a4 a5 a6 => (a0, a1, a2, a3, a4, a5, a6)) n t.1 t.2.1 t.2.2.1 t.2.2.2.1 t.w.1 t.w.2.1 t.w.2.2
def Ff.pat : List AV → Blks → Option Ty25
 | [(.ptr 0 []), (.ints .u8 20 a)], [(some (.var (.agg [(.own 1 0), (.own 2 0), (.rmap []), (.rmap []), (.own 3 0), (.rmap []), (.int .i64 r), .snil, (.own 4 36), .snil, (.int .i64 x)]))), (some (.mp p)), (some (.mp q)), (some (.mp o)), (some (.objs 104 36 j))] => some (a, r, x, p, q, o, j)
 | _, _ => none
def Ff.shape (t : Ty25) : List AV × Blks := ([(.ptr 0 []), (.ints .u8 20 t.1)], [(some (.var (.agg [(.own 1 0), (.own 2 0), (.rmap []), (.rmap []), (.own 3 0), (.rmap []), (.int .i64 t.2.1), .snil, (.own 4 36), .snil, (.int .i64 t.2.2.1)]))), (some (.mp t.2.2.2.1)), (some (.mp t.w.1)), (some (.mp t.w.2.1)), (some (.objs 104 36 t.w.2.2))])
def Ff.res : Ty25 → AV × Blks
 | u => ((.ints .u64 4 u.1), [(some (.var (.agg [(.own 1 0), (.own 2 0), (.rmap []), (.rmap []), (.own 3 0), (.rmap []), (.int .i64 u.2.1), .snil, (.own 4 36), .snil, (.int .i64 u.2.2.1)]))), (some (.mp u.2.2.2.1)), (some (.mp u.w.1)), (some (.mp u.w.2.1)), (some (.objs 104 36 u.w.2.2))])
def Ff.c (n : Nat) : Abs.Callee := .mk' [true, false] [none, none] Ff.pat (Ff.m n) (resKof Ff.res)
noncomputable def Fr.C (n : Nat) : Ctx := ⟨Tryz.prog, dskG, lookC [], fun _ => false⟩
noncomputable def Fr.A (n : Nat) : Ann := ⟨Tryz.f29.ntmps, 5, noNL, [], [], fun k => match k with
 | _ => none, noNL, lookJ []⟩
def Fr.g {α : Type} (mk0 : Int → Int → LA → LA → LA → LA → α) (n : Nat) (a : LI) (nn : Int) (b : LI) (c : ByteArray) (r x : Int) (p q : LA) (o j : LA) : Option α :=
 bindO (Go.Abs.mgetL (AV.ints .u8 20 a) (AV.agg [(AV.int .u64 0), (AV.ints .u64 4 [0, 0, 0, 0]), (AV.str ByteArray.empty)]) p) fun r2 =>
 bindO (tkAgg 3 r2.1) fun r4 =>
 bindO (tkInt .u64 (List.getD r4 0 AV.any)) fun r6 =>
 bindO (tkInts .u64 4 (List.getD r4 1 AV.any)) fun r8 =>
 bindO (tkStr (List.getD r4 2 AV.any)) fun r10 =>
 if ((((List.length j) + 1) * 160) ≤ 70368744177664 ∧ ((List.length j) + 1) ≤ 9223372036854775807) then
 bindO (Go.Abs.mputL (AV.ints .u8 20 a) (AV.agg [(AV.int .u64 nn), (AV.ints .u64 4 b), (AV.str c)]) p) fun r14 =>
 some (mk0 r x r14 q o (j ++ [(AV.agg [(AV.int .i64 0), (AV.agg [(AV.ints .u8 20 a), (AV.ints .u64 4 [0, 0, 0, 0])]), (AV.agg [(AV.int .u64 r6), (AV.ints .u64 4 r8), (AV.str r10)]), (AV.ints .u64 4 [0, 0, 0, 0]), (AV.int .i64 0)])]))
 else
 none
def Fr.m (n : Nat) (t : Ty9) : Option (Int × (Int × (LA × (LA × (LA × LA))))) := Fr.g (fun a0 a1 a2 a3 a4 a5 => (a0, a1, a2, a3, a4, a5)) n t.1 t.2.1 t.2.2.1 t.2.2.2.1 t.w.1 t.w.2.1 t.w.2.2.1 t.w.2.2.2.1 t.x.1 t.x.2
def Fr.pat : List AV → Blks → Option Ty9
 | [(.ptr 0 []), (.ints .u8 20 a), (.agg [(.int .u64 nn), (.ints .u64 4 b), (.str c)])], [(some (.var (.agg [(.own 1 0), (.own 2 0), (.rmap []), (.rmap []), (.own 3 0), (.rmap []), (.int .i64 r), .snil, (.own 4 36), .snil, (.int .i64 x)]))), (some (.mp p)), (some (.mp q)), (some (.mp o)), (some (.objs 104 36 j))] => some (a, nn, b, c, r, x, p, q, o, j)
 | _, _ => none
def Fr.shape (t : Ty9) : List AV × Blks := ([(.ptr 0 []), (.ints .u8 20 t.1), (.agg [(.int .u64 t.2.1), (.ints .u64 4 t.2.2.1), (.str t.2.2.2.1)])], [(some (.var (.agg [(.own 1 0), (.own 2 0), (.rmap []), (.rmap []), (.own 3 0), (.rmap []), (.int .i64 t.w.1), .snil, (.own 4 36), .snil, (.int .i64 t.w.2.1)]))), (some (.mp t.w.2.2.1)), (some (.mp t.w.2.2.2.1)), (some (.mp t.x.1)), (some (.objs 104 36 t.x.2))])
def Fr.res : (Int × (Int × (LA × (LA × (LA × LA))))) → AV × Blks
 | u => ((.tup []), [(some (.var (.agg [(.own 1 0), (.own 2 0), (.rmap []), (.rmap []), (.own 3 0), (.rmap []), (.int .i64 u.1), .snil, (.own 5 36), .snil, (.int .i64 u.2.1)]))), (some (.mp u.2.2.1)), (some (.mp u.2.2.2.1)), (some (.mp u.w.1)), none, (some (.objs 104 36 u.w.2))])
def Fr.c (n : Nat) : Abs.Callee := .mk' [true, false, false] [none, none, none] Fr.pat (Fr.m n) (resKof Fr.res)
noncomputable def Fb.C (n : Nat) : Ctx := ⟨Tryz.prog, dskG, lookC [(29, Fr.c n)], fun _ => false⟩
noncomputable def Fb.A (n : Nat) : Ann := ⟨Tryz.f13.ntmps, 5, noNL, [], [], fun k => match k with
 | _ => none, noNL, lookJ []⟩
def Fb.g {α : Type} (mk0 : Int → Int → LA → LA → LA → LA → α) (n : Nat) (a v : LI) (r x : Int) (p q : LA) (o j : LA) : Option α :=
 bindO (Go.Abs.mgetL (AV.ints .u8 20 a) (AV.agg [(AV.int .u64 0), (AV.ints .u64 4 [0, 0, 0, 0]), (AV.str ByteArray.empty)]) p) fun r2 =>
 bindO (tkAgg 3 r2.1) fun r4 =>
 bindO (tkInt .u64 (List.getD r4 0 AV.any)) fun r6 =>
 bindO (tkInts .u64 4 (List.getD r4 1 AV.any)) fun r8 =>
 bindO (tkStr (List.getD r4 2 AV.any)) fun r10 =>
 bindO (Fr.m n (a, r6, v, r10, r, x, p, q, o, j)) fun r12 =>
 some (mk0 r12.1 r12.2.1 r12.2.2.1 r12.2.2.2.1 r12.w.1 r12.w.2)
def Fb.m (n : Nat) (t : Ty21) : Option (Int × (Int × (LA × (LA × (LA × LA))))) := Fb.g (fun a0 a1 a2 a3 a4 a5 => (a0, a1, a2, a3, a4, a5)) n t.1 t.2.1 t.2.2.1 t.2.2.2.1 t.w.1 t.w.2.1 t.w.2.2.1 t.w.2.2.2
def Fb.pat : List AV → Blks → Option Ty21
 | [(.ptr 0 []), (.ints .u8 20 a), (.ints .u64 4 v)], [(some (.var (.agg [(.own 1 0), (.own 2 0), (.rmap []), (.rmap []), (.own 3 0), (.rmap []), (.int .i64 r), .snil, (.own 4 36), .snil, (.int .i64 x)]))), (some (.mp p)), (some (.mp q)), (some (.mp o)), (some (.objs 104 36 j))] => some (a, v, r, x, p, q, o, j)
 | _, _ => none
def Fb.shape (t : Ty21) : List AV × Blks := ([(.ptr 0 []), (.ints .u8 20 t.1), (.ints .u64 4 t.2.1)], [(some (.var (.agg [(.own 1 0), (.own 2 0), (.rmap []), (.rmap []), (.own 3 0), (.rmap []), (.int .i64 t.2.2.1), .snil, (.own 4 36), .snil, (.int .i64 t.2.2.2.1)]))), (some (.mp t.w.1)), (some (.mp t.w.2.1)), (some (.mp t.w.2.2.1)), (some (.objs 104 36 t.w.2.2.2))])
def Fb.res : (Int × (Int × (LA × (LA × (LA × LA))))) → AV × Blks
 | u => ((.tup []), [(some (.var (.agg [(.own 1 0), (.own 2 0), (.rmap []), (.rmap []), (.own 3 0), (.rmap []), (.int .i64 u.1), .snil, (.own 5 36), .snil, (.int .i64 u.2.1)]))), (some (.mp u.2.2.1)), (some (.mp u.2.2.2.1)), (some (.mp u.w.1)), none, (some (.objs 104 36 u.w.2))])
def Fb.c (n : Nat) : Abs.Callee := .mk' [true, false, false] [none, none, none] Fb.pat (Fb.m n) (resKof Fb.res)
noncomputable def Fs.C (n : Nat) : Ctx := ⟨Tryz.prog, dskG, lookC [(12, Ff.c n), (96, Fbg.c n), (13, Fb.c n), (51, Fbf.c n)], fun _ => false⟩
noncomputable def Fs.A (n : Nat) : Ann := ⟨Tryz.f95.ntmps, 5, noNL, [], [none, (some (.agg [(some (.ints .u8))]))], fun k => match k with
 | _ => none, noNL, lookJ []⟩
def Fs.g {α : Type} (mk0 : Bool → Int → Int → LA → LA → LA → LA → α) (n : Nat) (a b v : LI) (r x : Int) (p q : LA) (o j : LA) : Option α :=
 bindO (Ff.m n (a, r, x, p, q, o, j)) fun r2 =>
 bindO (Fbg.m n (r2.1, v)) fun r4 =>
 if r4.2 = true then
 some (mk0 false r2.2.1 r2.2.2.1 r2.2.2.2.1 r2.w.1 r2.w.2.1 r2.w.2.2)
 else
 bindO (Fb.m n (a, r4.1, r2.2.1, r2.2.2.1, r2.2.2.2.1, r2.w.1, r2.w.2.1, r2.w.2.2)) fun r8 =>
 bindO (Ff.m n (b, r8.1, r8.2.1, r8.2.2.1, r8.2.2.2.1, r8.w.1, r8.w.2)) fun r10 =>
 bindO (Fbf.m n (r10.1, v)) fun r12 =>
 bindO (Fb.m n (b, r12.1, r10.2.1, r10.2.2.1, r10.2.2.2.1, r10.w.1, r10.w.2.1, r10.w.2.2)) fun r14 =>
 some (mk0 true r14.1 r14.2.1 r14.2.2.1 r14.2.2.2.1 r14.w.1 r14.w.2)
def Fs.m (n : Nat) (t : Ty18) : Option Ty22 := Fs.g (fun a0 a1 a2 a3 a4 a5 a6 => (a0, a1, a2, a3, a4, a5, a6)) n t.1 t.2.1 t.2.2.1 t.2.2.2.1 t.w.1 t.w.2.1 t.w.2.2.1 t.w.2.2.2.1 t.x
def Fs.pat : List AV → Blks → Option Ty18
 | [(.ptr 0 []), (.ints .u8 20 a), (.ints .u8 20 b), (.ints .u64 4 v)], [(some (.var (.agg [(.own 1 0), (.own 2 0), (.rmap []), (.rmap []), (.own 3 0), (.rmap []), (.int .i64 r), .snil, (.own 4 36), .snil, (.int .i64 x)]))), (some (.mp p)), (some (.mp q)), (some (.mp o)), (some (.objs 104 36 j))] => some (a, b, v, r, x, p, q, o, j)
 | _, _ => none
def Fs.shape (t : Ty18) : List AV × Blks := ([(.ptr 0 []), (.ints .u8 20 t.1), (.ints .u8 20 t.2.1), (.ints .u64 4 t.2.2.1)], [(some (.var (.agg [(.own 1 0), (.own 2 0), (.rmap []), (.rmap []), (.own 3 0), (.rmap []), (.int .i64 t.2.2.2.1), .snil, (.own 4 36), .snil, (.int .i64 t.w.1)]))), (some (.mp t.w.2.1)), (some (.mp t.w.2.2.1)), (some (.mp t.w.2.2.2.1)), (some (.objs 104 36 t.x))])
def Fs.res : Ty22 → AV × Blks
 | u => ((.bool u.1), [(some (.var (.agg [(.own 1 0), (.own 2 0), (.rmap []), (.rmap []), (.own 3 0), (.rmap []), (.int .i64 u.2.1), .snil, (.own 5 36), .snil, (.int .i64 u.2.2.1)]))), (some (.mp u.2.2.2.1)), (some (.mp u.w.1)), (some (.mp u.w.2.1)), none, (some (.objs 104 36 u.w.2.2))])
def Fs.c (n : Nat) : Abs.Callee := .mk' [true, false, false, false] [none, none, none, none] Fs.pat (Fs.m n) (resKof Fs.res)
noncomputable def Fu.C (n : Nat) : Ctx := ⟨Tryz.prog, dskG, lookC [(70, Fi.c n), (10, Faq.c n), (95, Fs.c n), (73, Fav.c n)], fun _ => false⟩
noncomputable def Fu.A (n : Nat) : Ann := ⟨Tryz.f90.ntmps, 7, noNL, [], [none, (some (.agg [(some (.ints .u8))]))], fun k => match k with
 | _ => none, noNL, lookJ []⟩
def Fu.g {α : Type} (mk0 : Nat → Int → LI → LI → Int → Int → LA → LA → LA → LA → LA → α) (mk1 : Int → LI → LI → Int → Int → LA → LA → LA → LA → LA → α) (n : Nat) (k : LI) (t : Int) (c v : LI) (r x : Int) (l p : LA) (q o j : LA) : Option α :=
 bindO (Fi.m n (t, c, v, r, x, l, p, q, o, j)) fun r2 => match r2 with
  | (.inl r2) =>
   some (mk0 r2.2.1 r2.2.2.1 r2.2.2.2.1 r2.w.1 r2.w.2.1 r2.w.2.2.1 r2.w.2.2.2.1 r2.x.1 r2.x.2.1 r2.x.2.2.1 r2.x.2.2.2)
  | (.inr r2) =>
   bindO (Faq.m n Unit.unit) fun r6 =>
    bindO (Fs.m n (r6, r2.1, k, r2.w.1, r2.w.2.1, r2.w.2.2.2.1, r2.x.1, r2.x.2.1, r2.x.2.2)) fun r8 =>
     bindO (Fav.m n r8.1) fun r10 => match r10 with
      | (.inl r10) =>
       some (mk1 r2.2.1 r2.2.2.1 r2.2.2.2.1 r8.2.1 r8.2.2.1 r2.w.2.2.1 r8.2.2.2.1 r8.w.1 r8.w.2.1 r8.w.2.2)
      | (.inr r10) =>
       some (mk0 r10 r2.2.1 r2.2.2.1 r2.2.2.2.1 r8.2.1 r8.2.2.1 r2.w.2.2.1 r8.2.2.2.1 r8.w.1 r8.w.2.1 r8.w.2.2)
def Fu.m (n : Nat) (t : Ty8) : Option ((Nat × Ty13) ⊕ Ty13) := Fu.g (fun a0 a1 a2 a3 a4 a5 a6 a7 a8 a9 a10 => (.inl (a0, a1, a2, a3, a4, a5, a6, a7, a8, a9, a10))) (fun a0 a1 a2 a3 a4 a5 a6 a7 a8 a9 => (.inr (a0, a1, a2, a3, a4, a5, a6, a7, a8, a9))) n t.1 t.2.1 t.2.2.1 t.2.2.2.1 t.w.1 t.w.2.1 t.w.2.2.1 t.w.2.2.2.1 t.x.1 t.x.2.1 t.x.2.2
def Fu.pat : List AV → Blks → Option Ty8
 | [(.ptr 0 []), (.ints .u64 4 k)], [(some (.var (.agg [(.ptr 1 []), (.int .u64 t), (.ints .u8 20 c), (.ints .u64 4 v), (.own 2 4)]))), (some (.var (.agg [(.own 3 0), (.own 4 0), (.rmap []), (.rmap []), (.own 5 0), (.rmap []), (.int .i64 r), .snil, (.own 6 36), .snil, (.int .i64 x)]))), (some (.objs 26 4 l)), (some (.mp p)), (some (.mp q)), (some (.mp o)), (some (.objs 104 36 j))] => some (k, t, c, v, r, x, l, p, q, o, j)
 | _, _ => none
def Fu.shape (t : Ty8) : List AV × Blks := ([(.ptr 0 []), (.ints .u64 4 t.1)], [(some (.var (.agg [(.ptr 1 []), (.int .u64 t.2.1), (.ints .u8 20 t.2.2.1), (.ints .u64 4 t.2.2.2.1), (.own 2 4)]))), (some (.var (.agg [(.own 3 0), (.own 4 0), (.rmap []), (.rmap []), (.own 5 0), (.rmap []), (.int .i64 t.w.1), .snil, (.own 6 36), .snil, (.int .i64 t.w.2.1)]))), (some (.objs 26 4 t.w.2.2.1)), (some (.mp t.w.2.2.2.1)), (some (.mp t.x.1)), (some (.mp t.x.2.1)), (some (.objs 104 36 t.x.2.2))])
def Fu.res : ((Nat × Ty13) ⊕ Ty13) → AV × Blks
 | (.inl u) => ((.errv 124 201 u.1), [(some (.var (.agg [(.ptr 1 []), (.int .u64 u.2.1), (.ints .u8 20 u.2.2.1), (.ints .u64 4 u.2.2.2.1), (.own 2 4)]))), (some (.var (.agg [(.own 3 0), (.own 4 0), (.rmap []), (.rmap []), (.own 5 0), (.rmap []), (.int .i64 u.w.1), .snil, (.own 7 36), .snil, (.int .i64 u.w.2.1)]))), (some (.objs 26 4 u.w.2.2.1)), (some (.mp u.w.2.2.2.1)), (some (.mp u.x.1)), (some (.mp u.x.2.1)), none, (some (.objs 104 36 u.x.2.2))])
 | (.inr u) => (.nili, [(some (.var (.agg [(.ptr 1 []), (.int .u64 u.1), (.ints .u8 20 u.2.1), (.ints .u64 4 u.2.2.1), (.own 2 4)]))), (some (.var (.agg [(.own 3 0), (.own 4 0), (.rmap []), (.rmap []), (.own 5 0), (.rmap []), (.int .i64 u.2.2.2.1), .snil, (.own 7 36), .snil, (.int .i64 u.w.1)]))), (some (.objs 26 4 u.w.2.1)), (some (.mp u.w.2.2.1)), (some (.mp u.w.2.2.2.1)), (some (.mp u.x.1)), none, (some (.objs 104 36 u.x.2))])
def Fu.resK {R : Type} (u : ((Nat × Ty13) ⊕ Ty13)) (K : AV → Blks → Option R) : Option R := match u with
 | (.inl u) => (fun p : AV × Blks => K p.1 p.2) ((.errv 124 201 u.1), [(some (.var (.agg [(.ptr 1 []), (.int .u64 u.2.1), (.ints .u8 20 u.2.2.1), (.ints .u64 4 u.2.2.2.1), (.own 2 4)]))), (some (.var (.agg [(.own 3 0), (.own 4 0), (.rmap []), (.rmap []), (.own 5 0), (.rmap []), (.int .i64 u.w.1), .snil, (.own 7 36), .snil, (.int .i64 u.w.2.1)]))), (some (.objs 26 4 u.w.2.2.1)), (some (.mp u.w.2.2.2.1)), (some (.mp u.x.1)), (some (.mp u.x.2.1)), none, (some (.objs 104 36 u.x.2.2))])
 | (.inr u) => (fun p : AV × Blks => K p.1 p.2) (.nili, [(some (.var (.agg [(.ptr 1 []), (.int .u64 u.1), (.ints .u8 20 u.2.1), (.ints .u64 4 u.2.2.1), (.own 2 4)]))), (some (.var (.agg [(.own 3 0), (.own 4 0), (.rmap []), (.rmap []), (.own 5 0), (.rmap []), (.int .i64 u.2.2.2.1), .snil, (.own 7 36), .snil, (.int .i64 u.w.1)]))), (some (.objs 26 4 u.w.2.1)), (some (.mp u.w.2.2.1)), (some (.mp u.w.2.2.2.1)), (some (.mp u.x.1)), none, (some (.objs 104 36 u.x.2))])
def Fu.c (n : Nat) : Abs.Callee := .mk' [true, false] [none, none] Fu.pat (Fu.m n) Fu.resK
noncomputable def Fg.C (n : Nat) : Ctx := ⟨Tryz.prog, dskG, lookC [(70, Fi.c n), (91, Fak.c n), (73, Fav.c n), (90, Fu.c n)], fun _ => false⟩
noncomputable def Fg.A (n : Nat) : Ann := ⟨Tryz.f77.ntmps, 7, noNL, [], [none, (some (.agg [(some (.ints .u8))]))], fun k => match k with
 | _ => none, noNL, lookJ []⟩
def Fg.g {α : Type} (mk0 : Nat → Int → LI → LI → Int → Int → LA → LA → LA → LA → LA → α) (mk1 : Int → LI → LI → Int → Int → LA → LA → LA → LA → LA → α) (n : Nat) (t : Int) (c v : LI) (r x : Int) (l p : LA) (q o j : LA) : Option α :=
 bindO (Fi.m n (t, c, v, r, x, l, p, q, o, j)) fun r2 => match r2 with
  | (.inl r2) =>
   some (mk0 r2.2.1 r2.2.2.1 r2.2.2.2.1 r2.w.1 r2.w.2.1 r2.w.2.2.1 r2.w.2.2.2.1 r2.x.1 r2.x.2.1 r2.x.2.2.1 r2.x.2.2.2)
  | (.inr r2) =>
   if 1 < (((List.length r2.w.2.2.1) : Nat) : Int) then
    bindO (tkInts .u64 4 (List.getD r2.w.2.2.1 1 AV.any)) fun r8 =>
     bindO (Fak.m n (r2.2.2.1, r8, r2.w.1, r2.w.2.1, r2.w.2.2.2.1, r2.x.1, r2.x.2.1, r2.x.2.2)) fun r10 =>
      bindO (Fav.m n r10.1) fun r12 => match r12 with
       | (.inl r12) =>
        if 1 < (((List.length r2.w.2.2.1) : Nat) : Int) then
         bindO (tkInts .u64 4 (List.getD r2.w.2.2.1 1 AV.any)) fun r18 =>
          bindO (Fu.m n (r18, r2.2.1, r2.2.2.1, r2.2.2.2.1, r10.2.1, r10.2.2.1, r2.w.2.2.1, r10.2.2.2.1, r10.w.1, r10.w.2.1, r10.w.2.2)) fun r20 => match r20 with
           | (.inl r20) =>
            some (mk0 r20.1 r20.2.1 r20.2.2.1 r20.2.2.2.1 r20.w.1 r20.w.2.1 r20.w.2.2.1 r20.w.2.2.2.1 r20.x.1 r20.x.2.1 r20.x.2.2)
           | (.inr r20) =>
            some (mk1 r20.1 r20.2.1 r20.2.2.1 r20.2.2.2.1 r20.w.1 r20.w.2.1 r20.w.2.2.1 r20.w.2.2.2.1 r20.x.1 r20.x.2)
        else
         none
       | (.inr r12) =>
        some (mk0 r12 r2.2.1 r2.2.2.1 r2.2.2.2.1 r10.2.1 r10.2.2.1 r2.w.2.2.1 r10.2.2.2.1 r10.w.1 r10.w.2.1 r10.w.2.2)
   else
    none
def Fg.m (n : Nat) (t : Ty13) : Option ((Nat × Ty13) ⊕ Ty13) := Fg.g (fun a0 a1 a2 a3 a4 a5 a6 a7 a8 a9 a10 => (.inl (a0, a1, a2, a3, a4, a5, a6, a7, a8, a9, a10))) (fun a0 a1 a2 a3 a4 a5 a6 a7 a8 a9 => (.inr (a0, a1, a2, a3, a4, a5, a6, a7, a8, a9))) n t.1 t.2.1 t.2.2.1 t.2.2.2.1 t.w.1 t.w.2.1 t.w.2.2.1 t.w.2.2.2.1 t.x.1 t.x.2
def Fg.pat : List AV → Blks → Option Ty13
 | [(.ptr 0 [])], [(some (.var (.agg [(.ptr 1 []), (.int .u64 t), (.ints .u8 20 c), (.ints .u64 4 v), (.own 2 4)]))), (some (.var (.agg [(.own 3 0), (.own 4 0), (.rmap []), (.rmap []), (.own 5 0), (.rmap []), (.int .i64 r), .snil, (.own 6 36), .snil, (.int .i64 x)]))), (some (.objs 26 4 l)), (some (.mp p)), (some (.mp q)), (some (.mp o)), (some (.objs 104 36 j))] => some (t, c, v, r, x, l, p, q, o, j)
 | _, _ => none
def Fg.shape (t : Ty13) : List AV × Blks := ([(.ptr 0 [])], [(some (.var (.agg [(.ptr 1 []), (.int .u64 t.1), (.ints .u8 20 t.2.1), (.ints .u64 4 t.2.2.1), (.own 2 4)]))), (some (.var (.agg [(.own 3 0), (.own 4 0), (.rmap []), (.rmap []), (.own 5 0), (.rmap []), (.int .i64 t.2.2.2.1), .snil, (.own 6 36), .snil, (.int .i64 t.w.1)]))), (some (.objs 26 4 t.w.2.1)), (some (.mp t.w.2.2.1)), (some (.mp t.w.2.2.2.1)), (some (.mp t.x.1)), (some (.objs 104 36 t.x.2))])
def Fg.res : ((Nat × Ty13) ⊕ Ty13) → AV × Blks
 | (.inl u) => ((.errv 124 201 u.1), [(some (.var (.agg [(.ptr 1 []), (.int .u64 u.2.1), (.ints .u8 20 u.2.2.1), (.ints .u64 4 u.2.2.2.1), (.own 2 4)]))), (some (.var (.agg [(.own 3 0), (.own 4 0), (.rmap []), (.rmap []), (.own 5 0), (.rmap []), (.int .i64 u.w.1), .snil, (.own 7 36), .snil, (.int .i64 u.w.2.1)]))), (some (.objs 26 4 u.w.2.2.1)), (some (.mp u.w.2.2.2.1)), (some (.mp u.x.1)), (some (.mp u.x.2.1)), none, (some (.objs 104 36 u.x.2.2))])
 | (.inr u) => (.nili, [(some (.var (.agg [(.ptr 1 []), (.int .u64 u.1), (.ints .u8 20 u.2.1), (.ints .u64 4 u.2.2.1), (.own 2 4)]))), (some (.var (.agg [(.own 3 0), (.own 4 0), (.rmap []), (.rmap []), (.own 5 0), (.rmap []), (.int .i64 u.2.2.2.1), .snil, (.own 7 36), .snil, (.int .i64 u.w.1)]))), (some (.objs 26 4 u.w.2.1)), (some (.mp u.w.2.2.1)), (some (.mp u.w.2.2.2.1)), (some (.mp u.x.1)), none, (some (.objs 104 36 u.x.2))])
def Fg.resK {R : Type} (u : ((Nat × Ty13) ⊕ Ty13)) (K : AV → Blks → Option R) : Option R := match u with
 | (.inl u) => (fun p : AV × Blks => K p.1 p.2) ((.errv 124 201 u.1), [(some (.var (.agg [(.ptr 1 []), (.int .u64 u.2.1), (.ints .u8 20 u.2.2.1), (.ints .u64 4 u.2.2.2.1), (.own 2 4)]))), (some (.var (.agg [(.own 3 0), (.own 4 0), (.rmap []), (.rmap []), (.own 5 0), (.rmap []), (.int .i64 u.w.1), .snil, (.own 7 36), .snil, (.int .i64 u.w.2.1)]))), (some (.objs 26 4 u.w.2.2.1)), (some (.mp u.w.2.2.2.1)), (some (.mp u.x.1)), (some (.mp u.x.2.1)), none, (some (.objs 104 36 u.x.2.2))])
 | (.inr u) => (fun p : AV × Blks => K p.1 p.2) (.nili, [(some (.var (.agg [(.ptr 1 []), (.int .u64 u.1), (.ints .u8 20 u.2.1), (.ints .u64 4 u.2.2.1), (.own 2 4)]))), (some (.var (.agg [(.own 3 0), (.own 4 0), (.rmap []), (.rmap []), (.own 5 0), (.rmap []), (.int .i64 u.2.2.2.1), .snil, (.own 7 36), .snil, (.int .i64 u.w.1)]))), (some (.objs 26 4 u.w.2.1)), (some (.mp u.w.2.2.1)), (some (.mp u.w.2.2.2.1)), (some (.mp u.x.1)), none, (some (.objs 104 36 u.x.2))])
def Fg.c (n : Nat) : Abs.Callee := .mk' [true] [none] Fg.pat (Fg.m n) Fg.resK
noncomputable def Ft.C (n : Nat) : Ctx := ⟨Tryz.prog, dskG, lookC [(70, Fi.c n), (18, Fx.c n), (71, Fah.c n), (30, Fab.c n), (24, Faa.c n), (7, Fae.c n), (8, Fbd.c n), (73, Fav.c n), (77, Fg.c n)], fun _ => false⟩
noncomputable def Ft.A (n : Nat) : Ann := ⟨Tryz.f54.ntmps, 7, noNL, [], [(some (.ints .u8)), none, (some (.agg [(some (.ints .u8))]))], fun k => match k with
 | _ => none, noNL, lookJ []⟩
def Ft.g {α : Type} (mk0 : Nat → Int → LI → LI → Int → Int → LA → LA → LA → LA → LI → LA → α) (mk1 : Int → LI → LI → Int → Int → LA → LA → LA → LA → LI → LA → α) (n : Nat) (s : ByteArray) (t : Int) (c v : LI) (r x : Int) (l p : LA) (q o j : LA) : Option α :=
 if ((ByteArray.toList s) == (ByteArray.toList (b8 [100, 101, 112, 111, 115, 105, 116, 84, 111, 40, 97, 100, 100, 114, 101, 115, 115, 41]))) = true then
  bindO (Fi.m n (t, c, v, r, x, l, p, q, o, j)) fun r4 => match r4 with
   | (.inl r4) =>
    some (mk0 r4.2.1 r4.2.2.1 r4.2.2.2.1 r4.w.1 r4.w.2.1 r4.w.2.2.1 r4.w.2.2.2.1 r4.x.1 r4.x.2.1 r4.x.2.2.1 [] r4.x.2.2.2)
   | (.inr r4) =>
    if ((ByteArray.toList s) == (ByteArray.toList (b8 [98, 97, 108, 97, 110, 99, 101, 79, 102, 40, 97, 100, 100, 114, 101, 115, 115, 41]))) = true then
     bindO (Fx.m n (r4.1, r4.w.1, r4.w.2.1, r4.w.2.2.2.1, r4.x.1, r4.x.2.1, r4.x.2.2)) fun r10 =>
      bindO (Fah.m n r10.1) fun r12 =>
       some (mk1 r4.2.1 r4.2.2.1 r4.2.2.2.1 r10.2.1 r10.2.2.1 r4.w.2.2.1 r10.2.2.2.1 r10.w.1 r10.w.2.1 r12 r10.w.2.2)
    else
     bindO (Fab.m n (r4.1, r4.2.2.2.1, r4.w.1, r4.w.2.1, r4.w.2.2.2.1, r4.x.1, r4.x.2.1, r4.x.2.2)) fun r10 =>
      some (mk1 r4.2.1 r4.2.2.1 r4.2.2.2.1 r10.1 r10.2.1 r4.w.2.2.1 r10.2.2.1 r10.2.2.2.1 r10.w.1 [] r10.w.2)
 else
  if ((ByteArray.toList s) == (ByteArray.toList (b8 [98, 97, 108, 97, 110, 99, 101, 79, 102, 40, 97, 100, 100, 114, 101, 115, 115, 41]))) = true then
   bindO (Fi.m n (t, c, v, r, x, l, p, q, o, j)) fun r6 => match r6 with
    | (.inl r6) =>
     some (mk0 r6.2.1 r6.2.2.1 r6.2.2.2.1 r6.w.1 r6.w.2.1 r6.w.2.2.1 r6.w.2.2.2.1 r6.x.1 r6.x.2.1 r6.x.2.2.1 [] r6.x.2.2.2)
    | (.inr r6) =>
     if ((ByteArray.toList s) == (ByteArray.toList (b8 [98, 97, 108, 97, 110, 99, 101, 79, 102, 40, 97, 100, 100, 114, 101, 115, 115, 41]))) = true then
      bindO (Fx.m n (r6.1, r6.w.1, r6.w.2.1, r6.w.2.2.2.1, r6.x.1, r6.x.2.1, r6.x.2.2)) fun r12 =>
       bindO (Fah.m n r12.1) fun r14 =>
        some (mk1 r6.2.1 r6.2.2.1 r6.2.2.2.1 r12.2.1 r12.2.2.1 r6.w.2.2.1 r12.2.2.2.1 r12.w.1 r12.w.2.1 r14 r12.w.2.2)
     else
      bindO (Fab.m n (r6.1, r6.2.2.2.1, r6.w.1, r6.w.2.1, r6.w.2.2.2.1, r6.x.1, r6.x.2.1, r6.x.2.2)) fun r12 =>
       some (mk1 r6.2.1 r6.2.2.1 r6.2.2.2.1 r12.1 r12.2.1 r6.w.2.2.1 r12.2.2.1 r12.2.2.2.1 r12.w.1 [] r12.w.2)
  else
   if ((ByteArray.toList s) == (ByteArray.toList (b8 [103, 101, 116, 78, 111, 110, 99, 101, 40, 97, 100, 100, 114, 101, 115, 115, 44, 117, 105, 110, 116, 49, 57, 50, 41]))) = true then
    none
   else
    if ((ByteArray.toList s) == (ByteArray.toList (b8 [105, 110, 99, 114, 101, 109, 101, 110, 116, 78, 111, 110, 99, 101, 40, 117, 105, 110, 116, 49, 57, 50, 41]))) = true then
     if 0 < (l.length : Int) then
      bindO (tkInts .u64 4 (List.getD l 0 AV.any)) fun r12 =>
       bindO (Faa.m n (r12, 64)) fun r14 =>
        if r14 = true then
         if 0 < (l.length : Int) then
          bindO (tkInts .u64 4 (List.getD l 0 AV.any)) fun r20 =>
           bindO (Fae.m n (c, r20, r, x, p, q, o, j)) fun r22 =>
            bindO (Fbd.m n (c, r22.1, r22.2.1, r22.2.2.1, r22.2.2.2.1, r22.w.1, r22.w.2.1, r22.w.2.2)) fun r24 =>
             bindO (Fav.m n r24.1) fun r26 => match r26 with
              | (.inl r26) =>
               some (mk1 t c v r24.2.1 r24.2.2.1 l r24.2.2.2.1 r24.w.1 r24.w.2.1 [] r24.w.2.2)
              | (.inr r26) =>
               some (mk0 r26 t c v r24.2.1 r24.2.2.1 l r24.2.2.2.1 r24.w.1 r24.w.2.1 [] r24.w.2.2)
         else
          none
        else
         bindO (Fav.m n false) fun r18 => match r18 with
          | (.inl r18) =>
           some (mk1 t c v r x l p q o [] j)
          | (.inr r18) =>
           some (mk0 r18 t c v r x l p q o [] j)
     else
      none
    else
     if ((ByteArray.toList s) == (ByteArray.toList (b8 [97, 100, 100, 83, 116, 97, 107, 101, 40, 117, 105, 110, 116, 51, 50, 41]))) = true then
      none
     else
      if ((ByteArray.toList s) == (ByteArray.toList (b8 [117, 110, 108, 111, 99, 107, 83, 116, 97, 107, 101, 40, 41]))) = true then
       none
      else
       if ((ByteArray.toList s) == (ByteArray.toList (b8 [119, 105, 116, 104, 100, 114, 97, 119, 83, 116, 97, 107, 101, 40, 97, 100, 100, 114, 101, 115, 115, 41]))) = true then
        none
       else
        bindO (Fg.m n (t, c, v, r, x, l, p, q, o, j)) fun r16 => match r16 with
         | (.inl r16) =>
          some (mk0 r16.1 r16.2.1 r16.2.2.1 r16.2.2.2.1 r16.w.1 r16.w.2.1 r16.w.2.2.1 r16.w.2.2.2.1 r16.x.1 r16.x.2.1 [] r16.x.2.2)
         | (.inr r16) =>
          some (mk1 r16.1 r16.2.1 r16.2.2.1 r16.2.2.2.1 r16.w.1 r16.w.2.1 r16.w.2.2.1 r16.w.2.2.2.1 r16.x.1 [] r16.x.2)
def Ft.m (n : Nat) (t : (ByteArray × Ty13)) : Option ((Nat × Ty10) ⊕ Ty10) := Ft.g (fun a0 a1 a2 a3 a4 a5 a6 a7 a8 a9 a10 a11 => (.inl (a0, a1, a2, a3, a4, a5, a6, a7, a8, a9, a10, a11))) (fun a0 a1 a2 a3 a4 a5 a6 a7 a8 a9 a10 => (.inr (a0, a1, a2, a3, a4, a5, a6, a7, a8, a9, a10))) n t.1 t.2.1 t.2.2.1 t.2.2.2.1 t.w.1 t.w.2.1 t.w.2.2.1 t.w.2.2.2.1 t.x.1 t.x.2.1 t.x.2.2
def Ft.pat : List AV → Blks → Option (ByteArray × Ty13)
 | [(.ptr 0 []), (.str s)], [(some (.var (.agg [(.ptr 1 []), (.int .u64 t), (.ints .u8 20 c), (.ints .u64 4 v), (.own 2 4)]))), (some (.var (.agg [(.own 3 0), (.own 4 0), (.rmap []), (.rmap []), (.own 5 0), (.rmap []), (.int .i64 r), .snil, (.own 6 36), .snil, (.int .i64 x)]))), (some (.objs 26 4 l)), (some (.mp p)), (some (.mp q)), (some (.mp o)), (some (.objs 104 36 j))] => some (s, t, c, v, r, x, l, p, q, o, j)
 | _, _ => none
def Ft.shape (t : (ByteArray × Ty13)) : List AV × Blks := ([(.ptr 0 []), (.str t.1)], [(some (.var (.agg [(.ptr 1 []), (.int .u64 t.2.1), (.ints .u8 20 t.2.2.1), (.ints .u64 4 t.2.2.2.1), (.own 2 4)]))), (some (.var (.agg [(.own 3 0), (.own 4 0), (.rmap []), (.rmap []), (.own 5 0), (.rmap []), (.int .i64 t.w.1), .snil, (.own 6 36), .snil, (.int .i64 t.w.2.1)]))), (some (.objs 26 4 t.w.2.2.1)), (some (.mp t.w.2.2.2.1)), (some (.mp t.x.1)), (some (.mp t.x.2.1)), (some (.objs 104 36 t.x.2.2))])
def Ft.res : ((Nat × Ty10) ⊕ Ty10) → AV × Blks
 | (.inl u) => ((.tup [(.own 7 1), (.errv 124 201 u.1)]), [(some (.var (.agg [(.ptr 1 []), (.int .u64 u.2.1), (.ints .u8 20 u.2.2.1), (.ints .u64 4 u.2.2.2.1), (.own 2 4)]))), (some (.var (.agg [(.own 3 0), (.own 4 0), (.rmap []), (.rmap []), (.own 5 0), (.rmap []), (.int .i64 u.w.1), .snil, (.own 8 36), .snil, (.int .i64 u.w.2.1)]))), (some (.objs 26 4 u.w.2.2.1)), (some (.mp u.w.2.2.2.1)), (some (.mp u.x.1)), (some (.mp u.x.2.1)), none, (some (.ints .u8 u.x.2.2.1)), (some (.objs 104 36 u.x.2.2.2))])
 | (.inr u) => ((.tup [(.own 7 1), .nili]), [(some (.var (.agg [(.ptr 1 []), (.int .u64 u.1), (.ints .u8 20 u.2.1), (.ints .u64 4 u.2.2.1), (.own 2 4)]))), (some (.var (.agg [(.own 3 0), (.own 4 0), (.rmap []), (.rmap []), (.own 5 0), (.rmap []), (.int .i64 u.2.2.2.1), .snil, (.own 8 36), .snil, (.int .i64 u.w.1)]))), (some (.objs 26 4 u.w.2.1)), (some (.mp u.w.2.2.1)), (some (.mp u.w.2.2.2.1)), (some (.mp u.x.1)), none, (some (.ints .u8 u.x.2.1)), (some (.objs 104 36 u.x.2.2))])
def Ft.resK {R : Type} (u : ((Nat × Ty10) ⊕ Ty10)) (K : AV → Blks → Option R) : Option R := match u with
 | (.inl u) => (fun p : AV × Blks => K p.1 p.2) ((.tup [(.own 7 1), (.errv 124 201 u.1)]), [(some (.var (.agg [(.ptr 1 []), (.int .u64 u.2.1), (.ints .u8 20 u.2.2.1), (.ints .u64 4 u.2.2.2.1), (.own 2 4)]))), (some (.var (.agg [(.own 3 0), (.own 4 0), (.rmap []), (.rmap []), (.own 5 0), (.rmap []), (.int .i64 u.w.1), .snil, (.own 8 36), .snil, (.int .i64 u.w.2.1)]))), (some (.objs 26 4 u.w.2.2.1)), (some (.mp u.w.2.2.2.1)), (some (.mp u.x.1)), (some (.mp u.x.2.1)), none, (some (.ints .u8 u.x.2.2.1)), (some (.objs 104 36 u.x.2.2.2))])
 | (.inr u) => (fun p : AV × Blks => K p.1 p.2) ((.tup [(.own 7 1), .nili]), [(some (.var (.agg [(.ptr 1 []), (.int .u64 u.1), (.ints .u8 20 u.2.1), (.ints .u64 4 u.2.2.1), (.own 2 4)]))), (some (.var (.agg [(.own 3 0), (.own 4 0), (.rmap []), (.rmap []), (.own 5 0), (.rmap []), (.int .i64 u.2.2.2.1), .snil, (.own 8 36), .snil, (.int .i64 u.w.1)]))), (some (.objs 26 4 u.w.2.1)), (some (.mp u.w.2.2.1)), (some (.mp u.w.2.2.2.1)), (some (.mp u.x.1)), none, (some (.ints .u8 u.x.2.1)), (some (.objs 104 36 u.x.2.2))])
def Ft.c (n : Nat) : Abs.Callee := .mk' [true, false] [none, none] Ft.pat (Ft.m n) Ft.resK
noncomputable def Fq.C (n : Nat) : Ctx := ⟨Tryz.prog, dskG, lookC [(52, Fat.c n), (53, Fai.c n), (54, Ft.c n)], fun t => t == 1000053⟩
def Fq.live : NL := fun k => match k with
 | 10 => ([68, 67, 66, 0, 8], [0, 8])
 | _ => ([], [])
def Fq.l10_0.r {α : Type} (mk0 : Int → LI → LI → Int → Int → LA → LA → LA → LA → ByteArray → Int → Bool → Bool → LA → α) (n : Nat) (rc : Int → Int → Int → LI → LI → Int → Int → LA → LA → LA → LA → LA → ByteArray → Int → Bool → Bool → LA → Option α)  (x0 x1 x2 : Int) (x3 x4 : LI) (x5 x6 : Int) (x7 x8 : LA) (x9 x10 x11 : LA) (x12 : ByteArray) (x13 : Int) (x14 x15 : Bool) (x16 : LA) : Option α :=
 if (decide (x0 < x1)) = true then
 if 0 ≤ x0 then
 if x0 < (x11.length : Int) then
 bindO (tkAgg 3 (List.getD x11 (Int.toNat x0) AV.any)) fun r10 =>
 bindO (tkBool (List.getD r10 0 AV.any)) fun r12 =>
 bindO (tkInts .u64 4 (List.getD r10 1 AV.any)) fun r14 =>
 bindO (tkRints .u8 (List.getD r10 2 AV.any)) fun r16 =>
 if ((((List.length x16) + 1) * 32) ≤ 70368744177664 ∧ ((List.length x16) + 1) ≤ 9223372036854775807) then
 rc (IntKind.wrap .i64 (x0 + 1)) x1 x2 x3 x4 x5 x6 x7 x8 x9 x10 x11 x12 x13 x14 x15 (x16 ++ [(AV.ints .u64 4 r14)])
 else
 none
 else
 none
 else
 none
 else
 some (mk0 x2 x3 x4 x5 x6 x7 x8 x9 x10 x12 x13 x14 x15 x16)
def Fq.l10_0.g {α : Type} (mk0 : Int → LI → LI → Int → Int → LA → LA → LA → LA → ByteArray → Int → Bool → Bool → LA → α) (n : Nat) : Nat → Int → Int → Int → LI → LI → Int → Int → LA → LA → LA → LA → LA → ByteArray → Int → Bool → Bool → LA → Option α
 | 0, _, _, _, _, _, _, _, _, _, _, _, _, _, _, _, _, _ => none
 | m + 1, x0, x1, x2, x3, x4, x5, x6, x7, x8, x9, x10, x11, x12, x13, x14, x15, x16 => Fq.l10_0.r mk0 n (fun y0 y1 y2 y3 y4 y5 y6 y7 y8 y9 y10 y11 y12 y13 y14 y15 y16 => Fq.l10_0.g mk0 n m y0 y1 y2 y3 y4 y5 y6 y7 y8 y9 y10 y11 y12 y13 y14 y15 y16)  x0 x1 x2 x3 x4 x5 x6 x7 x8 x9 x10 x11 x12 x13 x14 x15 x16
def Fq.l10_0.m (n m : Nat) (t : Ty0) : Option Ty1 := Fq.l10_0.g (fun a0 a1 a2 a3 a4 a5 a6 a7 a8 a9 a10 a11 a12 a13 => (a0, a1, a2, a3, a4, a5, a6, a7, a8, a9, a10, a11, a12, a13)) n m t.1 t.2.1 t.2.2.1 t.2.2.2.1 t.w.1 t.w.2.1 t.w.2.2.1 t.w.2.2.2.1 t.x.1 t.x.2.1 t.x.2.2.1 t.x.2.2.2.1 t.x.w.1 t.x.w.2.1 t.x.w.2.2.1 t.x.w.2.2.2.1 t.y
def Fq.l10_0.pat : St → Option Ty0
 | (St.mk [(.int .i64 x0), (.int .i64 x1), (.own 6 6), (.ptr 0 []), (.ptr 7 [])] [(some (.var (.agg [(.ptr 1 []), (.int .u64 x2), (.ints .u8 20 x3), (.ints .u64 4 x4), (.own 8 4)]))), (some (.var (.agg [(.own 2 0), (.own 3 0), (.rmap []), (.rmap []), (.own 4 0), (.rmap []), (.int .i64 x5), .snil, (.own 5 36), .snil, (.int .i64 x6)]))), (some (.mp x7)), (some (.mp x8)), (some (.mp x9)), (some (.objs 104 36 x10)), (some (.objs 59 6 x11)), (some (.var (.agg [(.str x12), (.int .i64 x13), (.bool x14), (.bool x15)]))), (some (.objs 26 4 x16))]) => some (x0, x1, x2, x3, x4, x5, x6, x7, x8, x9, x10, x11, x12, x13, x14, x15, x16)
 | _ => none
def Fq.l10_0.shape (t : Ty0) : St := (St.mk [(.int .i64 t.1), (.int .i64 t.2.1), (.own 6 6), (.ptr 0 []), (.ptr 7 [])] [(some (.var (.agg [(.ptr 1 []), (.int .u64 t.2.2.1), (.ints .u8 20 t.2.2.2.1), (.ints .u64 4 t.w.1), (.own 8 4)]))), (some (.var (.agg [(.own 2 0), (.own 3 0), (.rmap []), (.rmap []), (.own 4 0), (.rmap []), (.int .i64 t.w.2.1), .snil, (.own 5 36), .snil, (.int .i64 t.w.2.2.1)]))), (some (.mp t.w.2.2.2.1)), (some (.mp t.x.1)), (some (.mp t.x.2.1)), (some (.objs 104 36 t.x.2.2.1)), (some (.objs 59 6 t.x.2.2.2.1)), (some (.var (.agg [(.str t.x.w.1), (.int .i64 t.x.w.2.1), (.bool t.x.w.2.2.1), (.bool t.x.w.2.2.2.1)]))), (some (.objs 26 4 t.y))])
def Fq.l10_0.res : Ty1 → Ex × St
 | u => ((.exit 0), (St.mk [(.ptr 0 []), (.ptr 6 [])] [(some (.var (.agg [(.ptr 1 []), (.int .u64 u.1), (.ints .u8 20 u.2.1), (.ints .u64 4 u.2.2.1), (.own 7 4)]))), (some (.var (.agg [(.own 2 0), (.own 3 0), (.rmap []), (.rmap []), (.own 4 0), (.rmap []), (.int .i64 u.2.2.2.1), .snil, (.own 5 36), .snil, (.int .i64 u.w.1)]))), (some (.mp u.w.2.1)), (some (.mp u.w.2.2.1)), (some (.mp u.w.2.2.2.1)), (some (.objs 104 36 u.x.1)), (some (.var (.agg [(.str u.x.2.1), (.int .i64 u.x.2.2.1), (.bool u.x.2.2.2.1), (.bool u.x.w.1)]))), (some (.objs 26 4 u.x.w.2))]))
noncomputable def Fq.A (n : Nat) : Ann := ⟨Tryz.f31.ntmps, 6, Fq.live, [(0, (.agg [none, none, none, none, (some (.objs 26 4))])), (66, (.objs 59 6))], [(some (.ints .u8)), none, (some (.agg [(some (.ints .u8))]))], fun k => match k with
 | 10 => some (.mk' Fq.l10_0.pat (Fq.l10_0.m n n) (resKl Fq.l10_0.res))
 | _ => none, noNL, lookJ []⟩
noncomputable def Fq.b0 : Code := (loopsIn (Tryz.f31.body.getD .skip)).getD 0 .skip
def Fq.g {α : Type} (mk0 : ByteArray → Nat → Int → LI → LI → Int → Int → LA → LA → LA → LI → LA → α) (mk1 : ByteArray → Nat → Int → LI → LI → Int → Int → LA → LA → LA → LI → LA → LA → α) (mk2 : Int → LI → LI → Int → Int → LA → LA → LA → LI → LA → LA → α) (n : Nat) (b : LI) (s : Bool) (t : Int) (c v : LI) (r x : Int) (p q : LA) (o j : LA) : Option α :=
 bindO (Fat.m n b) fun r2 =>
  if (!r2.w) = true then
   some (mk0 (b8 [117, 110, 107, 110, 111, 119, 110]) 0 t c v r x p q o [] j)
  else
   if 0 ≤ r2.2.1 then
    if r2.2.1 ≤ r2.2.1 then
     if (r2.2.1 * ((1 : Nat) : Int)) ≤ 140737488355328 then
      if r2.2.1 ≤ 1152921504606846976 then
       if 4 ≤ (b.length : Int) then
        bindO (Fai.m n ((List.replicate (Int.toNat r2.2.1) (AV.bool false)), (Go.Abs.cut b 4 (Option.none)))) fun r16 =>
         if (r16.1 != 0) = true then
          some (mk0 r2.1 0 t c v r x p q o [] j)
         else
          if s = true then
           if (!r2.2.2.1) = true then
            some (mk0 r2.1 1 t c v r x p q o [] j)
           else
            if (!r2.2.2.2.1) = true then
             if (!(v == [0, 0, 0, 0])) = true then
              some (mk0 r2.1 1 t c v r x p q o [] j)
             else
              bindO (Fq.l10_0.m n n (0, (((List.length r16.2) : Nat) : Int), t, c, v, r, x, p, q, o, j, r16.2, r2.1, r2.2.1, r2.2.2.1, r2.2.2.2.1, [])) fun r28 =>
               bindO (Ft.m n (r28.x.2.1, r28.1, r28.2.1, r28.2.2.1, r28.2.2.2.1, r28.w.1, r28.x.w.2, r28.w.2.1, r28.w.2.2.1, r28.w.2.2.2.1, r28.x.1)) fun r30 => match r30 with
                | (.inl r30) =>
                 some (mk1 r28.x.2.1 r30.1 r30.2.1 r30.2.2.1 r30.2.2.2.1 r30.w.1 r30.w.2.1 r30.w.2.2.2.1 r30.x.1 r30.x.2.1 [] r30.w.2.2.1 r30.x.2.2.2)
                | (.inr r30) =>
                 some (mk2 r30.1 r30.2.1 r30.2.2.1 r30.2.2.2.1 r30.w.1 r30.w.2.2.1 r30.w.2.2.2.1 r30.x.1 r30.x.2.1 r30.w.2.1 r30.x.2.2)
            else
             bindO (Fq.l10_0.m n n (0, (((List.length r16.2) : Nat) : Int), t, c, v, r, x, p, q, o, j, r16.2, r2.1, r2.2.1, r2.2.2.1, r2.2.2.2.1, [])) fun r26 =>
              bindO (Ft.m n (r26.x.2.1, r26.1, r26.2.1, r26.2.2.1, r26.2.2.2.1, r26.w.1, r26.x.w.2, r26.w.2.1, r26.w.2.2.1, r26.w.2.2.2.1, r26.x.1)) fun r28 => match r28 with
               | (.inl r28) =>
                some (mk1 r26.x.2.1 r28.1 r28.2.1 r28.2.2.1 r28.2.2.2.1 r28.w.1 r28.w.2.1 r28.w.2.2.2.1 r28.x.1 r28.x.2.1 [] r28.w.2.2.1 r28.x.2.2.2)
               | (.inr r28) =>
                some (mk2 r28.1 r28.2.1 r28.2.2.1 r28.2.2.2.1 r28.w.1 r28.w.2.2.1 r28.w.2.2.2.1 r28.x.1 r28.x.2.1 r28.w.2.1 r28.x.2.2)
          else
           if (!r2.2.2.2.1) = true then
            if (!(v == [0, 0, 0, 0])) = true then
             some (mk0 r2.1 1 t c v r x p q o [] j)
            else
             bindO (Fq.l10_0.m n n (0, (((List.length r16.2) : Nat) : Int), t, c, v, r, x, p, q, o, j, r16.2, r2.1, r2.2.1, r2.2.2.1, r2.2.2.2.1, [])) fun r26 =>
              bindO (Ft.m n (r26.x.2.1, r26.1, r26.2.1, r26.2.2.1, r26.2.2.2.1, r26.w.1, r26.x.w.2, r26.w.2.1, r26.w.2.2.1, r26.w.2.2.2.1, r26.x.1)) fun r28 => match r28 with
               | (.inl r28) =>
                some (mk1 r26.x.2.1 r28.1 r28.2.1 r28.2.2.1 r28.2.2.2.1 r28.w.1 r28.w.2.1 r28.w.2.2.2.1 r28.x.1 r28.x.2.1 [] r28.w.2.2.1 r28.x.2.2.2)
               | (.inr r28) =>
                some (mk2 r28.1 r28.2.1 r28.2.2.1 r28.2.2.2.1 r28.w.1 r28.w.2.2.1 r28.w.2.2.2.1 r28.x.1 r28.x.2.1 r28.w.2.1 r28.x.2.2)
           else
            bindO (Fq.l10_0.m n n (0, (((List.length r16.2) : Nat) : Int), t, c, v, r, x, p, q, o, j, r16.2, r2.1, r2.2.1, r2.2.2.1, r2.2.2.2.1, [])) fun r24 =>
             bindO (Ft.m n (r24.x.2.1, r24.1, r24.2.1, r24.2.2.1, r24.2.2.2.1, r24.w.1, r24.x.w.2, r24.w.2.1, r24.w.2.2.1, r24.w.2.2.2.1, r24.x.1)) fun r26 => match r26 with
              | (.inl r26) =>
               some (mk1 r24.x.2.1 r26.1 r26.2.1 r26.2.2.1 r26.2.2.2.1 r26.w.1 r26.w.2.1 r26.w.2.2.2.1 r26.x.1 r26.x.2.1 [] r26.w.2.2.1 r26.x.2.2.2)
              | (.inr r26) =>
               some (mk2 r26.1 r26.2.1 r26.2.2.1 r26.2.2.2.1 r26.w.1 r26.w.2.2.1 r26.w.2.2.2.1 r26.x.1 r26.x.2.1 r26.w.2.1 r26.x.2.2)
       else
        none
      else
       none
     else
      none
    else
     none
   else
    none
def Fq.m (n : Nat) (t : Ty6) : Option ((ByteArray × (Nat × Ty14)) ⊕ ((ByteArray × (Nat × Ty11)) ⊕ Ty11)) := Fq.g (fun a0 a1 a2 a3 a4 a5 a6 a7 a8 a9 a10 a11 => (.inl (a0, a1, a2, a3, a4, a5, a6, a7, a8, a9, a10, a11))) (fun a0 a1 a2 a3 a4 a5 a6 a7 a8 a9 a10 a11 a12 => (.inr (.inl (a0, a1, a2, a3, a4, a5, a6, a7, a8, a9, a10, a11, a12)))) (fun a0 a1 a2 a3 a4 a5 a6 a7 a8 a9 a10 => (.inr (.inr (a0, a1, a2, a3, a4, a5, a6, a7, a8, a9, a10)))) n t.1 t.2.1 t.2.2.1 t.2.2.2.1 t.w.1 t.w.2.1 t.w.2.2.1 t.w.2.2.2.1 t.x.1 t.x.2.1 t.x.2.2
def Fq.pat : List AV → Blks → Option Ty6
 | [(.ptr 0 []), (.rints .u8 b), (.bool s)], [(some (.var (.agg [(.ptr 1 []), (.int .u64 t), (.ints .u8 20 c), (.ints .u64 4 v), .snil]))), (some (.var (.agg [(.own 2 0), (.own 3 0), (.rmap []), (.rmap []), (.own 4 0), (.rmap []), (.int .i64 r), .snil, (.own 5 36), .snil, (.int .i64 x)]))), (some (.mp p)), (some (.mp q)), (some (.mp o)), (some (.objs 104 36 j))] => some (b, s, t, c, v, r, x, p, q, o, j)
 | _, _ => none
def Fq.shape (t : Ty6) : List AV × Blks := ([(.ptr 0 []), (.rints .u8 t.1), (.bool t.2.1)], [(some (.var (.agg [(.ptr 1 []), (.int .u64 t.2.2.1), (.ints .u8 20 t.2.2.2.1), (.ints .u64 4 t.w.1), .snil]))), (some (.var (.agg [(.own 2 0), (.own 3 0), (.rmap []), (.rmap []), (.own 4 0), (.rmap []), (.int .i64 t.w.2.1), .snil, (.own 5 36), .snil, (.int .i64 t.w.2.2.1)]))), (some (.mp t.w.2.2.2.1)), (some (.mp t.x.1)), (some (.mp t.x.2.1)), (some (.objs 104 36 t.x.2.2))])
def Fq.res : ((ByteArray × (Nat × Ty14)) ⊕ ((ByteArray × (Nat × Ty11)) ⊕ Ty11)) → AV × Blks
 | (.inl u) => ((.tup [(.own 6 1), (.iface 124 (.agg [(.str u.1), (.errv 124 201 u.2.1)]))]), [(some (.var (.agg [(.ptr 1 []), (.int .u64 u.2.2.1), (.ints .u8 20 u.2.2.2.1), (.ints .u64 4 u.w.1), .snil]))), (some (.var (.agg [(.own 2 0), (.own 3 0), (.rmap []), (.rmap []), (.own 4 0), (.rmap []), (.int .i64 u.w.2.1), .snil, (.own 7 36), .snil, (.int .i64 u.w.2.2.1)]))), (some (.mp u.w.2.2.2.1)), (some (.mp u.x.1)), (some (.mp u.x.2.1)), none, (some (.ints .u8 u.x.2.2.1)), (some (.objs 104 36 u.x.2.2.2))])
 | (.inr (.inl u)) => ((.tup [(.own 6 1), (.iface 124 (.agg [(.str u.1), (.errv 124 201 u.2.1)]))]), [(some (.var (.agg [(.ptr 1 []), (.int .u64 u.2.2.1), (.ints .u8 20 u.2.2.2.1), (.ints .u64 4 u.w.1), (.own 7 4)]))), (some (.var (.agg [(.own 2 0), (.own 3 0), (.rmap []), (.rmap []), (.own 4 0), (.rmap []), (.int .i64 u.w.2.1), .snil, (.own 8 36), .snil, (.int .i64 u.w.2.2.1)]))), (some (.mp u.w.2.2.2.1)), (some (.mp u.x.1)), (some (.mp u.x.2.1)), none, (some (.ints .u8 u.x.2.2.1)), (some (.objs 26 4 u.x.2.2.2.1)), (some (.objs 104 36 u.x.w))])
 | (.inr (.inr u)) => ((.tup [(.own 6 1), .nili]), [(some (.var (.agg [(.ptr 1 []), (.int .u64 u.1), (.ints .u8 20 u.2.1), (.ints .u64 4 u.2.2.1), (.own 7 4)]))), (some (.var (.agg [(.own 2 0), (.own 3 0), (.rmap []), (.rmap []), (.own 4 0), (.rmap []), (.int .i64 u.2.2.2.1), .snil, (.own 8 36), .snil, (.int .i64 u.w.1)]))), (some (.mp u.w.2.1)), (some (.mp u.w.2.2.1)), (some (.mp u.w.2.2.2.1)), none, (some (.ints .u8 u.x.1)), (some (.objs 26 4 u.x.2.1)), (some (.objs 104 36 u.x.2.2))])
def Fq.resK {R : Type} (u : ((ByteArray × (Nat × Ty14)) ⊕ ((ByteArray × (Nat × Ty11)) ⊕ Ty11))) (K : AV → Blks → Option R) : Option R := match u with
 | (.inl u) => (fun p : AV × Blks => K p.1 p.2) ((.tup [(.own 6 1), (.iface 124 (.agg [(.str u.1), (.errv 124 201 u.2.1)]))]), [(some (.var (.agg [(.ptr 1 []), (.int .u64 u.2.2.1), (.ints .u8 20 u.2.2.2.1), (.ints .u64 4 u.w.1), .snil]))), (some (.var (.agg [(.own 2 0), (.own 3 0), (.rmap []), (.rmap []), (.own 4 0), (.rmap []), (.int .i64 u.w.2.1), .snil, (.own 7 36), .snil, (.int .i64 u.w.2.2.1)]))), (some (.mp u.w.2.2.2.1)), (some (.mp u.x.1)), (some (.mp u.x.2.1)), none, (some (.ints .u8 u.x.2.2.1)), (some (.objs 104 36 u.x.2.2.2))])
 | (.inr (.inl u)) => (fun p : AV × Blks => K p.1 p.2) ((.tup [(.own 6 1), (.iface 124 (.agg [(.str u.1), (.errv 124 201 u.2.1)]))]), [(some (.var (.agg [(.ptr 1 []), (.int .u64 u.2.2.1), (.ints .u8 20 u.2.2.2.1), (.ints .u64 4 u.w.1), (.own 7 4)]))), (some (.var (.agg [(.own 2 0), (.own 3 0), (.rmap []), (.rmap []), (.own 4 0), (.rmap []), (.int .i64 u.w.2.1), .snil, (.own 8 36), .snil, (.int .i64 u.w.2.2.1)]))), (some (.mp u.w.2.2.2.1)), (some (.mp u.x.1)), (some (.mp u.x.2.1)), none, (some (.ints .u8 u.x.2.2.1)), (some (.objs 26 4 u.x.2.2.2.1)), (some (.objs 104 36 u.x.w))])
 | (.inr (.inr u)) => (fun p : AV × Blks => K p.1 p.2) ((.tup [(.own 6 1), .nili]), [(some (.var (.agg [(.ptr 1 []), (.int .u64 u.1), (.ints .u8 20 u.2.1), (.ints .u64 4 u.2.2.1), (.own 7 4)]))), (some (.var (.agg [(.own 2 0), (.own 3 0), (.rmap []), (.rmap []), (.own 4 0), (.rmap []), (.int .i64 u.2.2.2.1), .snil, (.own 8 36), .snil, (.int .i64 u.w.1)]))), (some (.mp u.w.2.1)), (some (.mp u.w.2.2.1)), (some (.mp u.w.2.2.2.1)), none, (some (.ints .u8 u.x.1)), (some (.objs 26 4 u.x.2.1)), (some (.objs 104 36 u.x.2.2))])
def Fq.c (n : Nat) : Abs.Callee := .mk' [true, false, false] [none, (some (.ints .u8)), none] Fq.pat (Fq.m n) Fq.resK
def Faw.m (n t : Nat) : Option Bool := if t ≤ 2 then some false else none
def Faw.pat : List AV → Blks → Option Nat
 | [.nili, .errv 124 201 k], [] => some k
 | _, _ => none
def Faw.shape (t : Nat) : List AV × Blks := ([.nili, .errv 124 201 t], [])
def Faw.res : Bool → AV × Blks
 | u => ((.bool u), [])
def Faw.c (n : Nat) : Abs.Callee := .mk' [] [none, none] Faw.pat (Faw.m n) (resKof Faw.res)
noncomputable def Fax.C (n : Nat) : Ctx := ⟨Tryz.prog, dskG, lookC [(30, Fab.c n), (31, Fq.c n), (32, Faw.c n)], fun _ => false⟩
noncomputable def Fax.A (n : Nat) : Ann := ⟨Tryz.f14.ntmps, 5, noNL, [], [(some (.ints .u8)), none, (some (.agg [(some (.ints .u8))]))], fun k => match k with
 | _ => none, noNL, lookJ []⟩
def Fax.g {α : Type} (mk0 : Bool → Int → Int → LA → LA → LA → LI → LA → α) (n : Nat) (t : Int) (c v b : LI) (s : Bool) (r x : Int) (p q : LA) (o j : LA) : Option α :=
 if ((b.length : Int) == 0) = true then
  if (!s) = true then
   bindO (Fab.m n (c, v, r, x, p, q, o, j)) fun r6 =>
    some (mk0 (!s) r6.1 r6.2.1 r6.2.2.1 r6.2.2.2.1 r6.w.1 [] r6.w.2)
  else
   some (mk0 (!s) r x p q o [] j)
 else
  bindO (Fq.m n (b, s, t, c, v, r, x, p, q, o, j)) fun r4 => match r4 with
   | (.inl r4) =>
    none
   | (.inr (.inl r4)) =>
    none
   | (.inr (.inr r4)) =>
    bindO (Faw.m n 0) fun r8 =>
     if r8 = true then
      some (mk0 false r4.2.2.2.1 r4.w.1 r4.w.2.1 r4.w.2.2.1 r4.w.2.2.2.1 [] r4.x.2.2)
     else
      bindO (Faw.m n 1) fun r12 =>
       if r12 = true then
        some (mk0 false r4.2.2.2.1 r4.w.1 r4.w.2.1 r4.w.2.2.1 r4.w.2.2.2.1 [] r4.x.2.2)
       else
        bindO (Faw.m n 2) fun r16 =>
         if r16 = true then
          some (mk0 false r4.2.2.2.1 r4.w.1 r4.w.2.1 r4.w.2.2.1 r4.w.2.2.2.1 [] r4.x.2.2)
         else
          some (mk0 true r4.2.2.2.1 r4.w.1 r4.w.2.1 r4.w.2.2.1 r4.w.2.2.2.1 r4.x.1 r4.x.2.2)
def Fax.m (n : Nat) (t : Ty7) : Option Ty19 := Fax.g (fun a0 a1 a2 a3 a4 a5 a6 a7 => (a0, a1, a2, a3, a4, a5, a6, a7)) n t.1 t.2.1 t.2.2.1 t.2.2.2.1 t.w.1 t.w.2.1 t.w.2.2.1 t.w.2.2.2.1 t.x.1 t.x.2.1 t.x.2.2
def Fax.pat : List AV → Blks → Option Ty7
 | [(.ptr 0 []), (.int .u64 t), (.ints .u8 20 c), (.ints .u64 4 v), (.rints .u8 b), (.bool s)], [(some (.var (.agg [(.own 1 0), (.own 2 0), (.rmap []), (.rmap []), (.own 3 0), (.rmap []), (.int .i64 r), .snil, (.own 4 36), .snil, (.int .i64 x)]))), (some (.mp p)), (some (.mp q)), (some (.mp o)), (some (.objs 104 36 j))] => some (t, c, v, b, s, r, x, p, q, o, j)
 | _, _ => none
def Fax.shape (t : Ty7) : List AV × Blks := ([(.ptr 0 []), (.int .u64 t.1), (.ints .u8 20 t.2.1), (.ints .u64 4 t.2.2.1), (.rints .u8 t.2.2.2.1), (.bool t.w.1)], [(some (.var (.agg [(.own 1 0), (.own 2 0), (.rmap []), (.rmap []), (.own 3 0), (.rmap []), (.int .i64 t.w.2.1), .snil, (.own 4 36), .snil, (.int .i64 t.w.2.2.1)]))), (some (.mp t.w.2.2.2.1)), (some (.mp t.x.1)), (some (.mp t.x.2.1)), (some (.objs 104 36 t.x.2.2))])
def Fax.res : Ty19 → AV × Blks
 | u => ((.tup [(.own 5 1), (.bool u.1)]), [(some (.var (.agg [(.own 1 0), (.own 2 0), (.rmap []), (.rmap []), (.own 3 0), (.rmap []), (.int .i64 u.2.1), .snil, (.own 6 36), .snil, (.int .i64 u.2.2.1)]))), (some (.mp u.2.2.2.1)), (some (.mp u.w.1)), (some (.mp u.w.2.1)), none, (some (.ints .u8 u.w.2.2.1)), (some (.objs 104 36 u.w.2.2.2))])
def Fax.c (n : Nat) : Abs.Callee := .mk' [true, false, false, false, false, false] [none, none, none, none, (some (.ints .u8)), none] Fax.pat (Fax.m n) (resKof Fax.res)
noncomputable def Fay.C (n : Nat) : Ctx := ⟨Tryz.prog, dskG, lookC [], fun _ => false⟩
def Fay.live : NL := fun k => match k with
 | 2 => ([1], [1])
 | 7 => ([4, 1, 3, 2], [1])
 | _ => ([], [])
def Fay.l2_0.r {α : Type} (mk0 : LI → α) (n : Nat) (rc : LI → Option α)  (x0 : LI) : Option α :=
 if (decide ((x0.length : Int) < 25)) = true then
 if ((((List.length x0) + 1) * 8) ≤ 70368744177664 ∧ ((List.length x0) + 1) ≤ 9223372036854775807) then
 rc (x0 ++ [0])
 else
 none
 else
 some (mk0 x0)
def Fay.l2_0.g {α : Type} (mk0 : LI → α) (n : Nat) : Nat → LI → Option α
 | 0, _ => none
 | m + 1, x0 => Fay.l2_0.r mk0 n (fun y0 => Fay.l2_0.g mk0 n m y0)  x0
def Fay.l2_0.m (n m : Nat) (t : LI) : Option LI := Fay.l2_0.g (fun a0 => a0) n m t
def Fay.l2_0.pat : St → Option LI
 | (St.mk [(.own 0 1)] [(some (.ints .i64 x0))]) => some x0
 | _ => none
def Fay.l2_0.shape (t : LI) : St := (St.mk [(.own 0 1)] [(some (.ints .i64 t))])
def Fay.l2_0.res : LI → Ex × St
 | u => ((.exit 0), (St.mk [(.own 0 1)] [(some (.ints .i64 u))]))
def Fay.l7_0.r {α : Type} (mk0 : LI → α) (n : Nat) (rc : Int → Int → Int → LI → Option α)  (x0 x1 x2 : Int) (x3 : LI) : Option α :=
 if (decide (x0 < 24)) = true then
 if 0 ≤ (IntKind.wrap .i64 ((IntKind.wrap .i64 (5 * x1)) + x2)) then
 if (IntKind.wrap .i64 ((IntKind.wrap .i64 (5 * x1)) + x2)) < (x3.length : Int) then
 rc (IntKind.wrap .i64 (x0 + 1)) (Int.tmod (IntKind.wrap .i64 ((IntKind.wrap .i64 (2 * x2)) + (IntKind.wrap .i64 (3 * x1)))) 5) x1 (List.set x3 (Int.toNat (IntKind.wrap .i64 ((IntKind.wrap .i64 (5 * x1)) + x2))) (Int.tmod (IntKind.wrap .i64 (Int.tdiv (IntKind.wrap .i64 ((IntKind.wrap .i64 (x0 + 1)) * (IntKind.wrap .i64 (x0 + 2)))) 2)) 64))
 else
 none
 else
 none
 else
 some (mk0 x3)
def Fay.l7_0.g {α : Type} (mk0 : LI → α) (n : Nat) : Nat → Int → Int → Int → LI → Option α
 | 0, _, _, _, _ => none
 | m + 1, x0, x1, x2, x3 => Fay.l7_0.r mk0 n (fun y0 y1 y2 y3 => Fay.l7_0.g mk0 n m y0 y1 y2 y3)  x0 x1 x2 x3
def Fay.l7_0.m (n m : Nat) (t : (Int × (Int × (Int × LI)))) : Option LI := Fay.l7_0.g (fun a0 => a0) n m t.1 t.2.1 t.2.2.1 t.2.2.2
def Fay.l7_0.pat : St → Option (Int × (Int × (Int × LI)))
 | (St.mk [(.int .i64 x0), (.own 0 1), (.int .i64 x1), (.int .i64 x2)] [(some (.ints .i64 x3))]) => some (x0, x1, x2, x3)
 | _ => none
def Fay.l7_0.shape (t : (Int × (Int × (Int × LI)))) : St := (St.mk [(.int .i64 t.1), (.own 0 1), (.int .i64 t.2.1), (.int .i64 t.2.2.1)] [(some (.ints .i64 t.2.2.2))])
def Fay.l7_0.res : LI → Ex × St
 | u => ((.exit 2), (St.mk [(.own 0 1)] [(some (.ints .i64 u))]))
noncomputable def Fay.A (n : Nat) : Ann := ⟨Tryz.f58.ntmps, 0, Fay.live, [(1, (.ints .i64))], [(some (.ints .i64))], fun k => match k with
 | 2 => some (.mk' Fay.l2_0.pat (Fay.l2_0.m n n) (resKl Fay.l2_0.res))
 | 7 => some (.mk' Fay.l7_0.pat (Fay.l7_0.m n n) (resKl Fay.l7_0.res))
 | _ => none, noNL, lookJ []⟩
noncomputable def Fay.b0 : Code := (loopsIn (Tryz.f58.body.getD .skip)).getD 0 .skip
noncomputable def Fay.b1 : Code := (loopsIn (Tryz.f58.body.getD .skip)).getD 1 .skip
def Fay.g {α : Type} (mk0 : LI → α) (n : Nat)  : Option α :=
 bindO (Fay.l2_0.m n n [0]) fun r2 =>
 bindO (Fay.l7_0.m n n (0, 0, 1, r2)) fun r4 =>
 some (mk0 r4)
def Fay.m (n : Nat) (t : Unit) : Option LI := Fay.g (fun a0 => a0) n 
def Fay.pat : List AV → Blks → Option Unit
 | [], [] => some ()
 | _, _ => none
def Fay.shape (t : Unit) : List AV × Blks := ([], [])
def Fay.res : LI → AV × Blks
 | u => ((.own 0 1), [(some (.ints .i64 u))])
def Fay.c (n : Nat) : Abs.Callee := .mk' [] [] Fay.pat (Fay.m n) (resKof Fay.res)
noncomputable def Fbh.C (n : Nat) : Ctx := ⟨Tryz.prog, dskG, lookC [], fun _ => false⟩
def Fbh.live : NL := fun k => match k with
 | 4 => ([3, 2, 1], [1])
 | 9 => ([6, 2, 4, 5, 1, 3], [1, 4, 3, 2])
 | _ => ([], [])
def Fbh.l9_0.r {α : Type} (mk0 : Int → Int → Int → LI → α) (n : Nat) (rc : Int → Int → Int → Int → Int → LI → Option α)  (x0 x1 : Int) (x2 x3 x4 : Int) (x5 : LI) : Option α :=
 if (decide (x0 < 7)) = true then
 if ((Int.tmod x1 2) == 1) = true then
 if 0 ≤ (IntKind.wrap .u64 (IntKind.wrap .i64 (x3 - 1))) then
 if (decide ((IntKind.wrap .i64 (2 * x1)) ≥ 256)) = true then
 rc (IntKind.wrap .i64 (x0 + 1)) (ibits BinOp.xor .i64 (IntKind.wrap .i64 (2 * x1)) 369) (ibits BinOp.or .u64 x2 (ishl .u64 1 (IntKind.wrap .u64 (IntKind.wrap .i64 (x3 - 1))))) (IntKind.wrap .i64 (2 * x3)) x4 x5
 else
 rc (IntKind.wrap .i64 (x0 + 1)) (IntKind.wrap .i64 (2 * x1)) (ibits BinOp.or .u64 x2 (ishl .u64 1 (IntKind.wrap .u64 (IntKind.wrap .i64 (x3 - 1))))) (IntKind.wrap .i64 (2 * x3)) x4 x5
 else
 none
 else
 if (decide ((IntKind.wrap .i64 (2 * x1)) ≥ 256)) = true then
 rc (IntKind.wrap .i64 (x0 + 1)) (ibits BinOp.xor .i64 (IntKind.wrap .i64 (2 * x1)) 369) x2 (IntKind.wrap .i64 (2 * x3)) x4 x5
 else
 rc (IntKind.wrap .i64 (x0 + 1)) (IntKind.wrap .i64 (2 * x1)) x2 (IntKind.wrap .i64 (2 * x3)) x4 x5
 else
 some (mk0 x2 x4 x1 x5)
def Fbh.l9_0.g {α : Type} (mk0 : Int → Int → Int → LI → α) (n : Nat) : Nat → Int → Int → Int → Int → Int → LI → Option α
 | 0, _, _, _, _, _, _ => none
 | m + 1, x0, x1, x2, x3, x4, x5 => Fbh.l9_0.r mk0 n (fun y0 y1 y2 y3 y4 y5 => Fbh.l9_0.g mk0 n m y0 y1 y2 y3 y4 y5)  x0 x1 x2 x3 x4 x5
def Fbh.l9_0.m (n m : Nat) (t : Ty30) : Option (Int × (Int × (Int × LI))) := Fbh.l9_0.g (fun a0 a1 a2 a3 => (a0, a1, a2, a3)) n m t.1 t.2.1 t.2.2.1 t.2.2.2.1 t.w.1 t.w.2
def Fbh.l9_0.pat : St → Option Ty30
 | (St.mk [(.int .i64 x0), (.int .i64 x1), (.int .u64 x2), (.int .i64 x3), (.own 0 1), (.int .i64 x4)] [(some (.ints .u64 x5))]) => some (x0, x1, x2, x3, x4, x5)
 | _ => none
def Fbh.l9_0.shape (t : Ty30) : St := (St.mk [(.int .i64 t.1), (.int .i64 t.2.1), (.int .u64 t.2.2.1), (.int .i64 t.2.2.2.1), (.own 0 1), (.int .i64 t.w.1)] [(some (.ints .u64 t.w.2))])
def Fbh.l9_0.res : (Int × (Int × (Int × LI))) → Ex × St
 | u => ((.exit 2), (St.mk [(.own 0 1), (.int .u64 u.1), (.int .i64 u.2.1), (.int .i64 u.2.2.1)] [(some (.ints .u64 u.2.2.2))]))
def Fbh.l4_0.r {α : Type} (mk0 : LI → α) (n : Nat) (rc : Int → Int → LI → Option α)  (x0 x1 : Int) (x2 : LI) : Option α :=
 if (decide (x0 < 24)) = true then
 bindO (Fbh.l9_0.m n n (0, x1, 0, 1, x0, x2)) fun r6 =>
 if ((((List.length r6.2.2.2) + 1) * 8) ≤ 70368744177664 ∧ ((List.length r6.2.2.2) + 1) ≤ 9223372036854775807) then
 rc (IntKind.wrap .i64 (r6.2.1 + 1)) r6.2.2.1 (r6.2.2.2 ++ [r6.1])
 else
 none
 else
 some (mk0 x2)
def Fbh.l4_0.g {α : Type} (mk0 : LI → α) (n : Nat) : Nat → Int → Int → LI → Option α
 | 0, _, _, _ => none
 | m + 1, x0, x1, x2 => Fbh.l4_0.r mk0 n (fun y0 y1 y2 => Fbh.l4_0.g mk0 n m y0 y1 y2)  x0 x1 x2
def Fbh.l4_0.m (n m : Nat) (t : (Int × (Int × LI))) : Option LI := Fbh.l4_0.g (fun a0 => a0) n m t.1 t.2.1 t.2.2
def Fbh.l4_0.pat : St → Option (Int × (Int × LI))
 | (St.mk [(.int .i64 x0), (.int .i64 x1), (.own 0 1)] [(some (.ints .u64 x2))]) => some (x0, x1, x2)
 | _ => none
def Fbh.l4_0.shape (t : (Int × (Int × LI))) : St := (St.mk [(.int .i64 t.1), (.int .i64 t.2.1), (.own 0 1)] [(some (.ints .u64 t.2.2))])
def Fbh.l4_0.res : LI → Ex × St
 | u => ((.exit 0), (St.mk [(.own 0 1)] [(some (.ints .u64 u))]))
noncomputable def Fbh.A (n : Nat) : Ann := ⟨Tryz.f59.ntmps, 0, Fbh.live, [(1, (.ints .u64))], [(some (.ints .u64))], fun k => match k with
 | 9 => some (.mk' Fbh.l9_0.pat (Fbh.l9_0.m n n) (resKl Fbh.l9_0.res))
 | 4 => some (.mk' Fbh.l4_0.pat (Fbh.l4_0.m n n) (resKl Fbh.l4_0.res))
 | _ => none, noNL, lookJ []⟩
noncomputable def Fbh.b0 : Code := (loopsIn (Tryz.f59.body.getD .skip)).getD 0 .skip
noncomputable def Fbh.b1 : Code := (loopsIn (Tryz.f59.body.getD .skip)).getD 1 .skip
def Fbh.g {α : Type} (mk0 : LI → α) (n : Nat)  : Option α :=
 bindO (Fbh.l4_0.m n n (0, 1, [])) fun r2 =>
 some (mk0 r2)
def Fbh.m (n : Nat) (t : Unit) : Option LI := Fbh.g (fun a0 => a0) n 
def Fbh.pat : List AV → Blks → Option Unit
 | [], [] => some ()
 | _, _ => none
def Fbh.shape (t : Unit) : List AV × Blks := ([], [])
def Fbh.res : LI → AV × Blks
 | u => ((.own 0 1), [(some (.ints .u64 u))])
def Fbh.c (n : Nat) : Abs.Callee := .mk' [] [] Fbh.pat (Fbh.m n) (resKof Fbh.res)
noncomputable def Fbl.C (n : Nat) : Ctx := ⟨Tryz.prog, dskG, lookC [], fun _ => false⟩
noncomputable def Fbl.A (n : Nat) : Ann := ⟨Tryz.f78.ntmps, 0, noNL, [], [none], fun k => match k with
 | _ => none, noNL, lookJ []⟩
def Fbl.g {α : Type} (mk0 : Int → α) (n : Nat) (a0 a1 : Int) : Option α :=
 if (a1 == 0) = true then
 some (mk0 a0)
 else
 if 0 ≤ (IntKind.wrap .u64 a1) then
 if 0 ≤ (IntKind.wrap .u64 (IntKind.wrap .i64 (64 - a1))) then
 some (mk0 (ibits BinOp.or .u64 (ishl .u64 a0 (IntKind.wrap .u64 a1)) (ishr .u64 a0 (IntKind.wrap .u64 (IntKind.wrap .i64 (64 - a1))))))
 else
 none
 else
 none
def Fbl.m (n : Nat) (t : (Int × Int)) : Option Int := Fbl.g (fun a0 => a0) n t.1 t.2
def Fbl.pat : List AV → Blks → Option (Int × Int)
 | [(.int .u64 a0), (.int .i64 a1)], [] => some (a0, a1)
 | _, _ => none
def Fbl.shape (t : (Int × Int)) : List AV × Blks := ([(.int .u64 t.1), (.int .i64 t.2)], [])
def Fbl.res : Int → AV × Blks
 | u => ((.int .u64 u), [])
def Fbl.c (n : Nat) : Abs.Callee := .mk' [] [none, none] Fbl.pat (Fbl.m n) (resKof Fbl.res)
