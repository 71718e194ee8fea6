/- What the program's functions compute, as plain functions, each with its proof: the function does just that. Condition: the plain function has an answer. -/
import Derived.Test.YtkknbhapkdgcjaaGreatDoorAbsC8
import Derived.Test.YtkknbhapkdgcjaaGreatDoorProg
import Derived.Test.YtkknbhapkdgcjaaGreatDoorFnDeskCovers1
import Derived.Test.YtkknbhapkdgcjaaGreatDoorAbsC2
import Derived.Test.YtkknbhapkdgcjaaGreatDoorAbsC7
import Derived.Test.YtkknbhapkdgcjaaGreatDoorFnDeskCovers3
import Derived.Test.YtkknbhapkdgcjaaGreatDoorFnDeskCovers2
import Derived.WalkKit
set_option linter.unusedVariables false
set_option linter.unusedSimpArgs false
set_option maxRecDepth 100000
open Go Go.Abs Go.Proofs
set_option autoImplicit true
set_option relaxedAutoImplicit true
noncomputable section
noncomputable def Faq.C (n : Nat) : Ctx := ⟨Tryz.prog, zI, zU [], fun _ => false⟩
def Faq.live : NL := fun k => match k with
 | 3 => ([6, 0, 1, 5], [5])
 | _ => ([], [])
def Faq.l3.r {α : Type} (mk0 : LA → LA → α) (n : Nat) (rc : Int → Int → LA → LA → Option α)  (x0 x1 : Int) (x2 x3 : LA) : Option α :=
 if (decide (x0 < (x2.length : Int))) = true then
 if (x0 != x1) = true then
 if 0 ≤ x0 then
 if x0 < (x2.length : Int) then
 zD (tkInts .u8 20 (List.getD x2 (Int.toNat x0) AV.any)) fun r12 =>
 if ((((List.length x3) + 1) * 20) ≤ 70368744177664 ∧ ((List.length x3) + 1) ≤ 9223372036854775807) then
 rc (IntKind.wrap .i64 (x0 + 1)) x1 x2 (x3 ++ [(AV.ints .u8 20 r12)])
 else
 none
 else
 none
 else
 none
 else
 rc (IntKind.wrap .i64 (x0 + 1)) x1 x2 x3
 else
 some (mk0 x2 x3)
def Faq.l3.g {α : Type} (mk0 : LA → LA → α) (n : Nat) : Nat → Int → Int → LA → LA → Option α
 | 0, _, _, _, _ => none
 | m + 1, x0, x1, x2, x3 => Faq.l3.r mk0 n (fun y0 y1 y2 y3 => Faq.l3.g mk0 n m y0 y1 y2 y3)  x0 x1 x2 x3
def Faq.l3.m (n m : Nat) (t : (Int × (Int × (LA × LA)))) : Option (LA × LA) := Faq.l3.g (fun a0 a1 => (a0, a1)) n m t.1 t.2.1 t.2.2.1 t.2.2.2
def Faq.l3.pat : St → Option (Int × (Int × (LA × LA)))
 | (St.mk [(.int .i64 x0), (.own 0 20), (.int .i64 x1), (.own 1 20)] [(some (.objs 23 20 x2)), (some (.objs 23 20 x3))]) => some (x0, x1, x2, x3)
 | _ => none
def Faq.l3.shape (t : (Int × (Int × (LA × LA)))) : St := (St.mk [(.int .i64 t.1), (.own 0 20), (.int .i64 t.2.1), (.own 1 20)] [(some (.objs 23 20 t.2.2.1)), (some (.objs 23 20 t.2.2.2))])
def Faq.l3.res : (LA × LA) → Ex × St
 | u => ((.exit 0), (St.mk [(.own 1 20)] [(some (.objs 23 20 u.1)), (some (.objs 23 20 u.2))]))
noncomputable def Faq.A (n : Nat) : Ann := ⟨Tryz.f39.ntmps, 1, Faq.live, [(0, (.objs 23 20)), (5, (.objs 23 20))], [(some (.objs 23 20))], fun k => match k with
 | 3 => some (.mk' Faq.l3.pat (Faq.l3.m n n) (zQ Faq.l3.res))
 | _ => none, zV, zW []⟩
noncomputable def Faq.b0 : Code := (zK (Tryz.f39.body.getD .skip)).getD 0 .skip
def Faq.g {α : Type} (mk0 : LA → LA → α) (n : Nat) (i : Int) (l : LA) : Option α :=
 zD (Faq.l3.m n n (0, i, l, [])) fun r2 =>
 some (mk0 r2.1 r2.2)
def Faq.m (n : Nat) (t : (Int × LA)) : Option (LA × LA) := Faq.g (fun a0 a1 => (a0, a1)) n t.1 t.2
def Faq.pat : List AV → zC → Option (Int × LA)
 | [(.own 0 20), (.int .i64 i)], [(some (.objs 23 20 l))] => some (i, l)
 | _, _ => none
def Faq.shape (t : (Int × LA)) : List AV × zC := ([(.own 0 20), (.int .i64 t.1)], [(some (.objs 23 20 t.2))])
def Faq.res : (LA × LA) → AV × zC
 | u => ((.own 1 20), [(some (.objs 23 20 u.1)), (some (.objs 23 20 u.2))])
def Faq.c (n : Nat) : Abs.Callee := .mk' [true, false] [(some (.objs 23 20)), none] Faq.pat (Faq.m n) (zO Faq.res)
section
noncomputable section
def Fbc.pat : List AV → zC → Option zIu
 | [(.ptr 0 []), (.own 1 20)], [(some (.var (.agg [(.own 2 0), (.own 3 0), (.rmap []), (.rmap []), (.own 4 0), (.rmap []), (.int .i64 r), .snil, (.own 5 36), (.own 6 2), (.int .i64 x)]))), (some (.objs 23 20 l)), (some (.mp p)), (some (.mp q)), (some (.mp o)), (some (.objs 104 36 j)), (some (.objs 83 2 z))] => some (r, x, l, p, q, o, j, z)
 | _, _ => none
def Fbc.shape (t : zIu) : List AV × zC := ([(.ptr 0 []), (.own 1 20)], [(some (.var (.agg [(.own 2 0), (.own 3 0), (.rmap []), (.rmap []), (.own 4 0), (.rmap []), (.int .i64 t.1), .snil, (.own 5 36), (.own 6 2), (.int .i64 t.2.1)]))), (some (.objs 23 20 t.2.2.1)), (some (.mp t.2.2.2.1)), (some (.mp t.w.1)), (some (.mp t.w.2.1)), (some (.objs 104 36 t.w.2.2.1)), (some (.objs 83 2 t.w.2.2.2))])
def Fbc.res : zJM → AV × zC
 | u => ((.bool u.1), [(some (.var (.agg [(.own 2 0), (.own 3 0), (.rmap []), (.rmap []), (.own 4 0), (.rmap []), (.int .i64 u.2.1), .snil, (.own 5 36), (.own 6 2), (.int .i64 u.2.2.1)]))), (some (.objs 23 20 u.2.2.2.1)), (some (.mp u.w.1)), (some (.mp u.w.2.1)), (some (.mp u.w.2.2.1)), (some (.objs 104 36 u.w.2.2.2.1)), (some (.objs 83 2 u.x))])
def Fbc.resK {R : Type} (u : zJM) (K : AV → zC → Option R) : Option R := K (Fbc.res u).1 (Fbc.res u).2
abbrev Fbc.S : Type := zIu → Option zJM
noncomputable def Fbc.C (n : Nat) (self : Fbc.S) : Ctx := ⟨Tryz.prog, zI, zU [(10, Fbj.c n), (12, Fi.c n), (39, Faq.c n), (40, Fal.c n), (18, Fak.c n), (41, Fbz.c n), (17, .mk' [true, true] [none, (some (.objs 23 20))] Fbc.pat self Fbc.resK)], fun _ => false⟩
def Fbc.live : NL := fun k => match k with
 | 3 => ([6, 1, 0, 5], [4, 1, 0, 5])
 | 6 => ([7, 6, 1, 0, 5], [4, 6, 1, 0, 5])
 | 11 => ([8, 1, 0, 5], [4])
 | _ => ([], [])
def Fbc.l6.r {α : Type} (mk0 : Bool → Int → Int → Int → LA → LA → LA → LA → LA → LA → LI → α) (mk1 : Int → Int → Int → LA → LA → LA → LA → LA → LA → LI → α) (n : Nat) (self : Fbc.S) (rc : Int → Int → Int → Int → LA → LA → LA → LA → LA → LA → LI → Option α)  (x0 : Int) (x1 : Int) (x2 : Int) (x3 : Int) (x4 : LA) (x5 : LA) (x6 : LA) (x7 : LA) (x8 : LA) (x9 : LA) (x10 : LI) : Option α :=
 if (decide (x0 < x1)) = true then
 if 0 ≤ x0 then
 if x0 < (((List.length x4) : Nat) : Int) then
 zD (tkInts .u8 20 (List.getD x4 (Int.toNat x0) AV.any)) fun r10 =>
 if 0 ≤ x1 then
 if x1 < (((List.length x4) : Nat) : Int) then
 zD (tkInts .u8 20 (List.getD x4 (Int.toNat x1) AV.any)) fun r16 =>
 if (r10 == r16) = true then
 zD (Faq.m n (x1, x4)) fun r20 =>
 zD (self (x2, x3, r20.2, x5, x6, x7, x8, x9)) fun r22 =>
 some (mk0 r22.1 x1 r22.2.1 r22.2.2.1 r20.1 r22.w.1 r22.w.2.1 r22.w.2.2.1 r22.w.2.2.2.1 r22.x x10)
 else
 rc (IntKind.wrap .i64 (x0 + 1)) x1 x2 x3 x4 x5 x6 x7 x8 x9 x10
 else
 none
 else
 none
 else
 none
 else
 none
 else
 some (mk1 x1 x2 x3 x4 x5 x6 x7 x8 x9 x10)
def Fbc.l6.g {α : Type} (mk0 : Bool → Int → Int → Int → LA → LA → LA → LA → LA → LA → LI → α) (mk1 : Int → Int → Int → LA → LA → LA → LA → LA → LA → LI → α) (n : Nat) (self : Fbc.S) : Nat → Int → Int → Int → Int → LA → LA → LA → LA → LA → LA → LI → Option α
 | 0, _, _, _, _, _, _, _, _, _, _, _ => none
 | m + 1, x0, x1, x2, x3, x4, x5, x6, x7, x8, x9, x10 => Fbc.l6.r mk0 mk1 n self (fun y0 y1 y2 y3 y4 y5 y6 y7 y8 y9 y10 => Fbc.l6.g mk0 mk1 n self m y0 y1 y2 y3 y4 y5 y6 y7 y8 y9 y10)  x0 x1 x2 x3 x4 x5 x6 x7 x8 x9 x10
def Fbc.l6.m (n : Nat) (self : Fbc.S) (m : Nat) (t : zLQ) : Option (Ty14 ⊕ zDE) := Fbc.l6.g (fun a0 a1 a2 a3 a4 a5 a6 a7 a8 a9 a10 => (.inl (a0, a1, a2, a3, a4, a5, a6, a7, a8, a9, a10))) (fun a0 a1 a2 a3 a4 a5 a6 a7 a8 a9 => (.inr (a0, a1, a2, a3, a4, a5, a6, a7, a8, a9))) n self m t.1 t.2.1 t.2.2.1 t.2.2.2.1 t.w.1 t.w.2.1 t.w.2.2.1 t.w.2.2.2.1 t.x.1 t.x.2.1 t.x.2.2
def Fbc.l6.pat : St → Option zLQ
 | (St.mk [(.int .i64 x0), (.int .i64 x1), (.own 1 20), (.ptr 0 []), (.ptr 7 [])] [(some (.var (.agg [(.own 2 0), (.own 3 0), (.rmap []), (.rmap []), (.own 4 0), (.rmap []), (.int .i64 x2), .snil, (.own 5 36), (.own 6 2), (.int .i64 x3)]))), (some (.objs 23 20 x4)), (some (.mp x5)), (some (.mp x6)), (some (.mp x7)), (some (.objs 104 36 x8)), (some (.objs 83 2 x9)), (some (.var (.ints .u64 4 x10)))]) => some (x0, x1, x2, x3, x4, x5, x6, x7, x8, x9, x10)
 | _ => none
def Fbc.l6.shape (t : zLQ) : St := (St.mk [(.int .i64 t.1), (.int .i64 t.2.1), (.own 1 20), (.ptr 0 []), (.ptr 7 [])] [(some (.var (.agg [(.own 2 0), (.own 3 0), (.rmap []), (.rmap []), (.own 4 0), (.rmap []), (.int .i64 t.2.2.1), .snil, (.own 5 36), (.own 6 2), (.int .i64 t.2.2.2.1)]))), (some (.objs 23 20 t.w.1)), (some (.mp t.w.2.1)), (some (.mp t.w.2.2.1)), (some (.mp t.w.2.2.2.1)), (some (.objs 104 36 t.x.1)), (some (.objs 83 2 t.x.2.1)), (some (.var (.ints .u64 4 t.x.2.2)))])
def Fbc.l6.res : (Ty14 ⊕ zDE) → Ex × St
 | (.inl u) => (.ret, (St.mk [(.bool u.1), (.int .i64 u.2.1), (.own 1 20), (.ptr 0 []), (.ptr 7 [])] [(some (.var (.agg [(.own 2 0), (.own 3 0), (.rmap []), (.rmap []), (.own 4 0), (.rmap []), (.int .i64 u.2.2.1), .snil, (.own 5 36), (.own 6 2), (.int .i64 u.2.2.2.1)]))), (some (.objs 23 20 u.w.1)), (some (.mp u.w.2.1)), (some (.mp u.w.2.2.1)), (some (.mp u.w.2.2.2.1)), (some (.objs 104 36 u.x.1)), (some (.objs 83 2 u.x.2.1)), (some (.var (.ints .u64 4 u.x.2.2)))]))
 | (.inr u) => ((.exit 2), (St.mk [.any, (.int .i64 u.1), (.own 1 20), (.ptr 0 []), (.ptr 7 [])] [(some (.var (.agg [(.own 2 0), (.own 3 0), (.rmap []), (.rmap []), (.own 4 0), (.rmap []), (.int .i64 u.2.1), .snil, (.own 5 36), (.own 6 2), (.int .i64 u.2.2.1)]))), (some (.objs 23 20 u.2.2.2.1)), (some (.mp u.w.1)), (some (.mp u.w.2.1)), (some (.mp u.w.2.2.1)), (some (.objs 104 36 u.w.2.2.2.1)), (some (.objs 83 2 u.x.1)), (some (.var (.ints .u64 4 u.x.2)))]))
def Fbc.l6.resK {R : Type} (u : (Ty14 ⊕ zDE)) (K : Ex → St → Option R) : Option R := match u with
 | (.inl u) => (fun p : Ex × St => K p.1 p.2) (.ret, (St.mk [(.bool u.1), (.int .i64 u.2.1), (.own 1 20), (.ptr 0 []), (.ptr 7 [])] [(some (.var (.agg [(.own 2 0), (.own 3 0), (.rmap []), (.rmap []), (.own 4 0), (.rmap []), (.int .i64 u.2.2.1), .snil, (.own 5 36), (.own 6 2), (.int .i64 u.2.2.2.1)]))), (some (.objs 23 20 u.w.1)), (some (.mp u.w.2.1)), (some (.mp u.w.2.2.1)), (some (.mp u.w.2.2.2.1)), (some (.objs 104 36 u.x.1)), (some (.objs 83 2 u.x.2.1)), (some (.var (.ints .u64 4 u.x.2.2)))]))
 | (.inr u) => (fun p : Ex × St => K p.1 p.2) ((.exit 2), (St.mk [.any, (.int .i64 u.1), (.own 1 20), (.ptr 0 []), (.ptr 7 [])] [(some (.var (.agg [(.own 2 0), (.own 3 0), (.rmap []), (.rmap []), (.own 4 0), (.rmap []), (.int .i64 u.2.1), .snil, (.own 5 36), (.own 6 2), (.int .i64 u.2.2.1)]))), (some (.objs 23 20 u.2.2.2.1)), (some (.mp u.w.1)), (some (.mp u.w.2.1)), (some (.mp u.w.2.2.1)), (some (.objs 104 36 u.w.2.2.2.1)), (some (.objs 83 2 u.x.1)), (some (.var (.ints .u64 4 u.x.2)))]))
def Fbc.l3.r {α : Type} (mk0 : Bool → Int → Int → LA → LA → LA → LA → LA → LA → LI → α) (mk1 : Int → Int → LA → LA → LA → LA → LA → LA → LI → α) (n : Nat) (self : Fbc.S) (rc : Int → Int → Int → LA → LA → LA → LA → LA → LA → LI → Option α)  (x0 : Int) (x1 : Int) (x2 : Int) (x3 : LA) (x4 : LA) (x5 : LA) (x6 : LA) (x7 : LA) (x8 : LA) (x9 : LI) : Option α :=
 if (decide (x0 < (((List.length x3) : Nat) : Int))) = true then
 zD (Fbc.l6.m n self n (0, x0, x1, x2, x3, x4, x5, x6, x7, x8, x9)) fun r6 => match r6 with
  | (.inl r6) =>
  some (mk0 r6.1 r6.2.2.1 r6.2.2.2.1 r6.w.1 r6.w.2.1 r6.w.2.2.1 r6.w.2.2.2.1 r6.x.1 r6.x.2.1 r6.x.2.2)
  | (.inr r6) =>
  rc (IntKind.wrap .i64 (r6.1 + 1)) r6.2.1 r6.2.2.1 r6.2.2.2.1 r6.w.1 r6.w.2.1 r6.w.2.2.1 r6.w.2.2.2.1 r6.x.1 r6.x.2
 else
 some (mk1 x1 x2 x3 x4 x5 x6 x7 x8 x9)
def Fbc.l3.g {α : Type} (mk0 : Bool → Int → Int → LA → LA → LA → LA → LA → LA → LI → α) (mk1 : Int → Int → LA → LA → LA → LA → LA → LA → LI → α) (n : Nat) (self : Fbc.S) : Nat → Int → Int → Int → LA → LA → LA → LA → LA → LA → LI → Option α
 | 0, _, _, _, _, _, _, _, _, _, _ => none
 | m + 1, x0, x1, x2, x3, x4, x5, x6, x7, x8, x9 => Fbc.l3.r mk0 mk1 n self (fun y0 y1 y2 y3 y4 y5 y6 y7 y8 y9 => Fbc.l3.g mk0 mk1 n self m y0 y1 y2 y3 y4 y5 y6 y7 y8 y9)  x0 x1 x2 x3 x4 x5 x6 x7 x8 x9
def Fbc.l3.m (n : Nat) (self : Fbc.S) (m : Nat) (t : zDE) : Option (Ty21 ⊕ Ty30) := Fbc.l3.g (fun a0 a1 a2 a3 a4 a5 a6 a7 a8 a9 => (.inl (a0, a1, a2, a3, a4, a5, a6, a7, a8, a9))) (fun a0 a1 a2 a3 a4 a5 a6 a7 a8 => (.inr (a0, a1, a2, a3, a4, a5, a6, a7, a8))) n self m t.1 t.2.1 t.2.2.1 t.2.2.2.1 t.w.1 t.w.2.1 t.w.2.2.1 t.w.2.2.2.1 t.x.1 t.x.2
def Fbc.l3.pat : St → Option zDE
 | (St.mk [(.int .i64 x0), (.own 1 20), (.ptr 0 []), (.ptr 7 [])] [(some (.var (.agg [(.own 2 0), (.own 3 0), (.rmap []), (.rmap []), (.own 4 0), (.rmap []), (.int .i64 x1), .snil, (.own 5 36), (.own 6 2), (.int .i64 x2)]))), (some (.objs 23 20 x3)), (some (.mp x4)), (some (.mp x5)), (some (.mp x6)), (some (.objs 104 36 x7)), (some (.objs 83 2 x8)), (some (.var (.ints .u64 4 x9)))]) => some (x0, x1, x2, x3, x4, x5, x6, x7, x8, x9)
 | _ => none
def Fbc.l3.shape (t : zDE) : St := (St.mk [(.int .i64 t.1), (.own 1 20), (.ptr 0 []), (.ptr 7 [])] [(some (.var (.agg [(.own 2 0), (.own 3 0), (.rmap []), (.rmap []), (.own 4 0), (.rmap []), (.int .i64 t.2.1), .snil, (.own 5 36), (.own 6 2), (.int .i64 t.2.2.1)]))), (some (.objs 23 20 t.2.2.2.1)), (some (.mp t.w.1)), (some (.mp t.w.2.1)), (some (.mp t.w.2.2.1)), (some (.objs 104 36 t.w.2.2.2.1)), (some (.objs 83 2 t.x.1)), (some (.var (.ints .u64 4 t.x.2)))])
def Fbc.l3.res : (Ty21 ⊕ Ty30) → Ex × St
 | (.inl u) => (.ret, (St.mk [(.bool u.1), (.own 1 20), (.ptr 0 []), (.ptr 7 [])] [(some (.var (.agg [(.own 2 0), (.own 3 0), (.rmap []), (.rmap []), (.own 4 0), (.rmap []), (.int .i64 u.2.1), .snil, (.own 5 36), (.own 6 2), (.int .i64 u.2.2.1)]))), (some (.objs 23 20 u.2.2.2.1)), (some (.mp u.w.1)), (some (.mp u.w.2.1)), (some (.mp u.w.2.2.1)), (some (.objs 104 36 u.w.2.2.2.1)), (some (.objs 83 2 u.x.1)), (some (.var (.ints .u64 4 u.x.2)))]))
 | (.inr u) => ((.exit 0), (St.mk [.any, (.own 1 20), (.ptr 0 []), (.ptr 7 [])] [(some (.var (.agg [(.own 2 0), (.own 3 0), (.rmap []), (.rmap []), (.own 4 0), (.rmap []), (.int .i64 u.1), .snil, (.own 5 36), (.own 6 2), (.int .i64 u.2.1)]))), (some (.objs 23 20 u.2.2.1)), (some (.mp u.2.2.2.1)), (some (.mp u.w.1)), (some (.mp u.w.2.1)), (some (.objs 104 36 u.w.2.2.1)), (some (.objs 83 2 u.w.2.2.2.1)), (some (.var (.ints .u64 4 u.x)))]))
def Fbc.l3.resK {R : Type} (u : (Ty21 ⊕ Ty30)) (K : Ex → St → Option R) : Option R := match u with
 | (.inl u) => (fun p : Ex × St => K p.1 p.2) (.ret, (St.mk [(.bool u.1), (.own 1 20), (.ptr 0 []), (.ptr 7 [])] [(some (.var (.agg [(.own 2 0), (.own 3 0), (.rmap []), (.rmap []), (.own 4 0), (.rmap []), (.int .i64 u.2.1), .snil, (.own 5 36), (.own 6 2), (.int .i64 u.2.2.1)]))), (some (.objs 23 20 u.2.2.2.1)), (some (.mp u.w.1)), (some (.mp u.w.2.1)), (some (.mp u.w.2.2.1)), (some (.objs 104 36 u.w.2.2.2.1)), (some (.objs 83 2 u.x.1)), (some (.var (.ints .u64 4 u.x.2)))]))
 | (.inr u) => (fun p : Ex × St => K p.1 p.2) ((.exit 0), (St.mk [.any, (.own 1 20), (.ptr 0 []), (.ptr 7 [])] [(some (.var (.agg [(.own 2 0), (.own 3 0), (.rmap []), (.rmap []), (.own 4 0), (.rmap []), (.int .i64 u.1), .snil, (.own 5 36), (.own 6 2), (.int .i64 u.2.1)]))), (some (.objs 23 20 u.2.2.1)), (some (.mp u.2.2.2.1)), (some (.mp u.w.1)), (some (.mp u.w.2.1)), (some (.objs 104 36 u.w.2.2.1)), (some (.objs 83 2 u.w.2.2.2.1)), (some (.var (.ints .u64 4 u.x)))]))
def Fbc.l11.r {α : Type} (mk0 : Bool → Int → Int → LA → LA → LA → LA → LA → LA → α) (mk1 : Int → Int → LA → LA → LA → LA → LA → LA → α) (n : Nat) (self : Fbc.S) (rc : Int → Int → Int → LA → LA → LA → LA → LA → LA → LI → Option α)  (x0 : Int) (x1 : Int) (x2 : Int) (x3 : LA) (x4 : LA) (x5 : LA) (x6 : LA) (x7 : LA) (x8 : LA) (x9 : LI) : Option α :=
 if (decide (x0 < (((List.length x3) : Nat) : Int))) = true then
 if 0 ≤ x0 then
 if x0 < (((List.length x3) : Nat) : Int) then
 zD (tkInts .u8 20 (List.getD x3 (Int.toNat x0) AV.any)) fun r10 =>
 zD (Fal.m n (r10, x1, x2, x4, x5, x6, x7, x8)) fun r12 =>
 if 0 ≤ x0 then
 if x0 < (((List.length x3) : Nat) : Int) then
 zD (tkInts .u8 20 (List.getD x3 (Int.toNat x0) AV.any)) fun r18 =>
 zD (Fak.m n (r18, r12.2.2.2.1, r12.w.1, r12.w.2.1, r12.w.2.2.1, r12.w.2.2.2.1, r12.x.1, r12.x.2)) fun r20 =>
 zD (Fbz.m n (x9, r20.1)) fun r22 =>
 zD (Fbz.m n (r22.1, r12.1)) fun r24 =>
 if (!r22.2) = true then
 some (mk0 false r20.2.1 r20.2.2.1 x3 r20.2.2.2.1 r20.w.1 r20.w.2.1 r20.w.2.2.1 r20.w.2.2.2)
 else
 if (!r24.2) = true then
 some (mk0 false r20.2.1 r20.2.2.1 x3 r20.2.2.2.1 r20.w.1 r20.w.2.1 r20.w.2.2.1 r20.w.2.2.2)
 else
 rc (IntKind.wrap .i64 (x0 + 1)) r20.2.1 r20.2.2.1 x3 r20.2.2.2.1 r20.w.1 r20.w.2.1 r20.w.2.2.1 r20.w.2.2.2 r24.1
 else
 none
 else
 none
 else
 none
 else
 none
 else
 some (mk1 x1 x2 x3 x4 x5 x6 x7 x8)
def Fbc.l11.g {α : Type} (mk0 : Bool → Int → Int → LA → LA → LA → LA → LA → LA → α) (mk1 : Int → Int → LA → LA → LA → LA → LA → LA → α) (n : Nat) (self : Fbc.S) : Nat → Int → Int → Int → LA → LA → LA → LA → LA → LA → LI → Option α
 | 0, _, _, _, _, _, _, _, _, _, _ => none
 | m + 1, x0, x1, x2, x3, x4, x5, x6, x7, x8, x9 => Fbc.l11.r mk0 mk1 n self (fun y0 y1 y2 y3 y4 y5 y6 y7 y8 y9 => Fbc.l11.g mk0 mk1 n self m y0 y1 y2 y3 y4 y5 y6 y7 y8 y9)  x0 x1 x2 x3 x4 x5 x6 x7 x8 x9
def Fbc.l11.m (n : Nat) (self : Fbc.S) (m : Nat) (t : zDE) : Option (zJM ⊕ zIu) := Fbc.l11.g (fun a0 a1 a2 a3 a4 a5 a6 a7 a8 => (.inl (a0, a1, a2, a3, a4, a5, a6, a7, a8))) (fun a0 a1 a2 a3 a4 a5 a6 a7 => (.inr (a0, a1, a2, a3, a4, a5, a6, a7))) n self m t.1 t.2.1 t.2.2.1 t.2.2.2.1 t.w.1 t.w.2.1 t.w.2.2.1 t.w.2.2.2.1 t.x.1 t.x.2
def Fbc.l11.pat : St → Option zDE
 | (St.mk [(.int .i64 x0), (.own 1 20), (.ptr 0 []), (.ptr 7 [])] [(some (.var (.agg [(.own 2 0), (.own 3 0), (.rmap []), (.rmap []), (.own 4 0), (.rmap []), (.int .i64 x1), .snil, (.own 5 36), (.own 6 2), (.int .i64 x2)]))), (some (.objs 23 20 x3)), (some (.mp x4)), (some (.mp x5)), (some (.mp x6)), (some (.objs 104 36 x7)), (some (.objs 83 2 x8)), (some (.var (.ints .u64 4 x9)))]) => some (x0, x1, x2, x3, x4, x5, x6, x7, x8, x9)
 | _ => none
def Fbc.l11.shape (t : zDE) : St := (St.mk [(.int .i64 t.1), (.own 1 20), (.ptr 0 []), (.ptr 7 [])] [(some (.var (.agg [(.own 2 0), (.own 3 0), (.rmap []), (.rmap []), (.own 4 0), (.rmap []), (.int .i64 t.2.1), .snil, (.own 5 36), (.own 6 2), (.int .i64 t.2.2.1)]))), (some (.objs 23 20 t.2.2.2.1)), (some (.mp t.w.1)), (some (.mp t.w.2.1)), (some (.mp t.w.2.2.1)), (some (.objs 104 36 t.w.2.2.2.1)), (some (.objs 83 2 t.x.1)), (some (.var (.ints .u64 4 t.x.2)))])
def Fbc.l11.res : (zJM ⊕ zIu) → Ex × St
 | (.inl u) => (.ret, (St.mk [(.bool u.1)] [(some (.var (.agg [(.own 2 0), (.own 3 0), (.rmap []), (.rmap []), (.own 4 0), (.rmap []), (.int .i64 u.2.1), .snil, (.own 5 36), (.own 6 2), (.int .i64 u.2.2.1)]))), (some (.objs 23 20 u.2.2.2.1)), (some (.mp u.w.1)), (some (.mp u.w.2.1)), (some (.mp u.w.2.2.1)), (some (.objs 104 36 u.w.2.2.2.1)), (some (.objs 83 2 u.x))]))
 | (.inr u) => ((.exit 4), (St.mk [.any] [(some (.var (.agg [(.own 2 0), (.own 3 0), (.rmap []), (.rmap []), (.own 4 0), (.rmap []), (.int .i64 u.1), .snil, (.own 5 36), (.own 6 2), (.int .i64 u.2.1)]))), (some (.objs 23 20 u.2.2.1)), (some (.mp u.2.2.2.1)), (some (.mp u.w.1)), (some (.mp u.w.2.1)), (some (.objs 104 36 u.w.2.2.1)), (some (.objs 83 2 u.w.2.2.2))]))
def Fbc.l11.resK {R : Type} (u : (zJM ⊕ zIu)) (K : Ex → St → Option R) : Option R := match u with
 | (.inl u) => (fun p : Ex × St => K p.1 p.2) (.ret, (St.mk [(.bool u.1)] [(some (.var (.agg [(.own 2 0), (.own 3 0), (.rmap []), (.rmap []), (.own 4 0), (.rmap []), (.int .i64 u.2.1), .snil, (.own 5 36), (.own 6 2), (.int .i64 u.2.2.1)]))), (some (.objs 23 20 u.2.2.2.1)), (some (.mp u.w.1)), (some (.mp u.w.2.1)), (some (.mp u.w.2.2.1)), (some (.objs 104 36 u.w.2.2.2.1)), (some (.objs 83 2 u.x))]))
 | (.inr u) => (fun p : Ex × St => K p.1 p.2) ((.exit 4), (St.mk [.any] [(some (.var (.agg [(.own 2 0), (.own 3 0), (.rmap []), (.rmap []), (.own 4 0), (.rmap []), (.int .i64 u.1), .snil, (.own 5 36), (.own 6 2), (.int .i64 u.2.1)]))), (some (.objs 23 20 u.2.2.1)), (some (.mp u.2.2.2.1)), (some (.mp u.w.1)), (some (.mp u.w.2.1)), (some (.objs 104 36 u.w.2.2.1)), (some (.objs 83 2 u.w.2.2.2))]))
noncomputable def Fbc.A (n : Nat) (self : Fbc.S) : Ann := ⟨Tryz.f17.ntmps, 7, Fbc.live, [(1, (.objs 23 20))], [none], fun k => match k with
 | 6 => some (.mk' Fbc.l6.pat (Fbc.l6.m n self n) Fbc.l6.resK)
 | 3 => some (.mk' Fbc.l3.pat (Fbc.l3.m n self n) Fbc.l3.resK)
 | 11 => some (.mk' Fbc.l11.pat (Fbc.l11.m n self n) Fbc.l11.resK)
 | _ => none, zV, zW []⟩
noncomputable def Fbc.b0 : Code := (zK (Tryz.f17.body.getD .skip)).getD 0 .skip
noncomputable def Fbc.b1 : Code := (zK (Tryz.f17.body.getD .skip)).getD 1 .skip
noncomputable def Fbc.b2 : Code := (zK (Tryz.f17.body.getD .skip)).getD 2 .skip
def Fbc.g {α : Type} (mk0 : Bool → Int → Int → LA → LA → LA → LA → LA → LA → α) (n : Nat) (self : Fbc.S) (r : Int) (x : Int) (l : LA) (p : LA) (q : LA) (o : LA) (j : LA) (z : LA) : Option α :=
 zD (Fbj.m n Unit.unit) fun r2 =>
 zD (Fi.m n (r2, r, x, p, q, o, j, z)) fun r4 =>
 zD (Fbc.l3.m n self n (0, r4.2.1, r4.2.2.1, l, r4.2.2.2.1, r4.w.1, r4.w.2.1, r4.w.2.2.1, r4.w.2.2.2, r4.1)) fun r6 => match r6 with
  | (.inl r6) =>
  some (mk0 r6.1 r6.2.1 r6.2.2.1 r6.2.2.2.1 r6.w.1 r6.w.2.1 r6.w.2.2.1 r6.w.2.2.2.1 r6.x.1)
  | (.inr r6) =>
  zD (Fbc.l11.m n self n (0, r6.1, r6.2.1, r6.2.2.1, r6.2.2.2.1, r6.w.1, r6.w.2.1, r6.w.2.2.1, r6.w.2.2.2.1, r6.x)) fun r10 => match r10 with
   | (.inl r10) =>
   some (mk0 r10.1 r10.2.1 r10.2.2.1 r10.2.2.2.1 r10.w.1 r10.w.2.1 r10.w.2.2.1 r10.w.2.2.2.1 r10.x)
   | (.inr r10) =>
   some (mk0 true r10.1 r10.2.1 r10.2.2.1 r10.2.2.2.1 r10.w.1 r10.w.2.1 r10.w.2.2.1 r10.w.2.2.2)
def Fbc.h (n : Nat) (self : Fbc.S) (t : zIu) : Option zJM := Fbc.g (fun a0 a1 a2 a3 a4 a5 a6 a7 a8 => (a0, a1, a2, a3, a4, a5, a6, a7, a8)) n self t.1 t.2.1 t.2.2.1 t.2.2.2.1 t.w.1 t.w.2.1 t.w.2.2.1 t.w.2.2.2
def Fbc.mr (n : Nat) : Nat → Fbc.S
 | 0, _ => none
 | d + 1, t => Fbc.h n (Fbc.mr n d) t
def Fbc.m (n : Nat) (t : zIu) : Option zJM := Fbc.mr n n t
def Fbc.c (n : Nat) : Abs.Callee := .mk' [true, true] [none, (some (.objs 23 20))] Fbc.pat (Fbc.m n) Fbc.resK
end
end
section
namespace Go.Abs
def zMV : AV → Option Int
 | .agg [.int .i64 _, .int .i64 s] => some s
 | _ => none
def zMT : List AV → Option (List Int × Int × List Int × ByteArray)
 | [.agg [.int .i64 0, .agg [.ints .u8 20 a, .ints .u64 4 _], .agg [.int .u64 n, .ints .u64 4 b, .str c], .ints .u64 4 _, .int .i64 _]] => some (a, n, b, c)
 | _ => none
end Go.Abs
end
noncomputable def Fo.C (n : Nat) : Ctx := ⟨Tryz.prog, zI, zU [], fun _ => false⟩
noncomputable def Fo.A (n : Nat) : Ann := ⟨Tryz.f36.ntmps, 0, zV, [], [none], fun k => match k with
 | _ => none, zV, zW []⟩
def Fo.g {α : Type} (mk0 : Bool → α) (n : Nat) (a s m : Int) : Option α :=
 some (mk0 (a == m))
def Fo.m (n : Nat) (t : (Int × (Int × Int))) : Option Bool := Fo.g (fun a0 => a0) n t.1 t.2.1 t.2.2
def Fo.pat : List AV → zC → Option (Int × (Int × Int))
 | [(.agg [(.int .i64 a), (.int .i64 s)]), (.rptr (.int .i64 m))], [] => some (a, s, m)
 | _, _ => none
def Fo.shape (t : (Int × (Int × Int))) : List AV × zC := ([(.agg [(.int .i64 t.1), (.int .i64 t.2.1)]), (.rptr (.int .i64 t.2.2))], [])
def Fo.res : Bool → AV × zC
 | u => ((.bool u), [])
def Fo.c (n : Nat) : Abs.Callee := .mk' [] [none] Fo.pat (Fo.m n) (zO Fo.res)
noncomputable def Fb.C (n : Nat) : Ctx := ⟨Tryz.prog, zI, zU [(36, Fo.c n)], fun _ => false⟩
def Fb.live : NL := fun k => match k with
 | 2 => ([8, 7, 1, 0], [4])
 | _ => ([], [])
def Fb.l2.r {α : Type} (mk0 : Int → α) (mk1 : α) (n : Nat) (rc : Int → Int → Int → LA → Option α)  (x0 x1 x2 : Int) (x3 : LA) : Option α :=
 if (decide (x0 < x1)) = true then
 if 0 ≤ x0 then
 if x0 < (x3.length : Int) then
 zD (tkAgg 2 (List.getD x3 (Int.toNat x0) AV.any)) fun r10 =>
 zD (tkInt .i64 (List.getD r10 0 AV.any)) fun r12 =>
 zD (tkInt .i64 (List.getD r10 1 AV.any)) fun r14 =>
 zD (Fo.m n (r12, r14, x2)) fun r16 =>
 if r16 = true then
 some (mk0 x0)
 else
 rc (IntKind.wrap .i64 (x0 + 1)) x1 x2 x3
 else
 none
 else
 none
 else
 some (mk1)
def Fb.l2.g {α : Type} (mk0 : Int → α) (mk1 : α) (n : Nat) : Nat → Int → Int → Int → LA → Option α
 | 0, _, _, _, _ => none
 | m + 1, x0, x1, x2, x3 => Fb.l2.r mk0 mk1 n (fun y0 y1 y2 y3 => Fb.l2.g mk0 mk1 n m y0 y1 y2 y3)  x0 x1 x2 x3
def Fb.l2.m (n m : Nat) (t : (Int × (Int × (Int × LA)))) : Option (Int ⊕ Unit) := Fb.l2.g (fun a0 => (.inl a0)) (.inr ()) n m t.1 t.2.1 t.2.2.1 t.2.2.2
def Fb.l2.pat : St → Option (Int × (Int × (Int × LA)))
 | (St.mk [(.int .i64 x0), (.int .i64 x1), (.fn (.func 36) [] [(.rptr (.int .i64 x2))]), (.robjs 83 2 x3)] []) => some (x0, x1, x2, x3)
 | _ => none
def Fb.l2.shape (t : (Int × (Int × (Int × LA)))) : St := (St.mk [(.int .i64 t.1), (.int .i64 t.2.1), (.fn (.func 36) [] [(.rptr (.int .i64 t.2.2.1))]), (.robjs 83 2 t.2.2.2)] [])
def Fb.l2.res : (Int ⊕ Unit) → Ex × St
 | (.inl u) => (.ret, (St.mk [(.int .i64 u)] []))
 | (.inr u) => ((.exit 0), (St.mk [.any] []))
def Fb.l2.resK {R : Type} (u : (Int ⊕ Unit)) (K : Ex → St → Option R) : Option R := match u with
 | (.inl u) => (fun p : Ex × St => K p.1 p.2) (.ret, (St.mk [(.int .i64 u)] []))
 | (.inr u) => (fun p : Ex × St => K p.1 p.2) ((.exit 0), (St.mk [.any] []))
noncomputable def Fb.A (n : Nat) : Ann := ⟨Tryz.f35.ntmps, 0, Fb.live, [(0, (.objs 83 2))], [none], fun k => match k with
 | 2 => some (.mk' Fb.l2.pat (Fb.l2.m n n) Fb.l2.resK)
 | _ => none, zV, zW []⟩
noncomputable def Fb.b0 : Code := (zK (Tryz.f35.body.getD .skip)).getD 0 .skip
def Fb.g {α : Type} (mk0 : Int → α) (n : Nat) (l : LA) (m : Int) : Option α :=
 zD (Fb.l2.m n n (0, (l.length : Int), m, l)) fun r2 => match r2 with
  | (.inl r2) =>
   some (mk0 r2)
  | (.inr r2) =>
   some (mk0 (-1))
def Fb.m (n : Nat) (t : (LA × Int)) : Option Int := Fb.g (fun a0 => a0) n t.1 t.2
def Fb.pat : List AV → zC → Option (LA × Int)
 | [(.robjs 83 2 l), (.fn (.func 36) [] [(.rptr (.int .i64 m))])], [] => some (l, m)
 | _, _ => none
def Fb.shape (t : (LA × Int)) : List AV × zC := ([(.robjs 83 2 t.1), (.fn (.func 36) [] [(.rptr (.int .i64 t.2))])], [])
def Fb.res : Int → AV × zC
 | u => ((.int .i64 u), [])
def Fb.c (n : Nat) : Abs.Callee := .mk' [] [(some (.objs 83 2)), none] Fb.pat (Fb.m n) (zO Fb.res)
noncomputable def Fc.C (n : Nat) : Ctx := ⟨Tryz.prog, zI, zU [], fun _ => false⟩
noncomputable def Fc.A (n : Nat) : Ann := ⟨Tryz.f37.ntmps, 1, zV, [], [none], fun k => match k with
 | _ => none, zV, zW []⟩
def Fc.g {α : Type} (mk0 : LA → α) (n : Nat) (l : LA) : Option α :=
 some (mk0 l)
def Fc.m (n : Nat) (t : LA) : Option LA := Fc.g (fun a0 => a0) n t
def Fc.pat : List AV → zC → Option LA
 | [(.own 0 36)], [(some (.objs 104 36 l))] => some l
 | _, _ => none
def Fc.shape (t : LA) : List AV × zC := ([(.own 0 36)], [(some (.objs 104 36 t))])
def Fc.res : LA → AV × zC
 | u => ((.fn (.func 57) [] [(.ptr 1 [])]), [(some (.objs 104 36 u)), (some (.var (.own 0 36)))])
def Fc.c (n : Nat) : Abs.Callee := .mk' [true] [(some (.objs 104 36))] Fc.pat (Fc.m n) (zO Fc.res)
noncomputable def Fd.C (n : Nat) : Ctx := ⟨Tryz.prog, zI, zU [], fun _ => false⟩
noncomputable def Fd.A (n : Nat) : Ann := ⟨Tryz.f37.ntmps, 1, zV, [], [none], fun k => match k with
 | _ => none, zV, zW []⟩
def Fd.g {α : Type} (mk0 : LA → Nat → Nat → α) (n s k : Nat) (l : LA) : Option α :=
 some (mk0 l s k)
def Fd.m (n : Nat) (t : (Nat × (Nat × LA))) : Option (LA × (Nat × Nat)) := Fd.g (fun a0 a1 a2 => (a0, a1, a2)) n t.1 t.2.1 t.2.2
def Fd.pat : List AV → zC → Option (Nat × (Nat × LA))
 | [(.slice 0 [] s k 36)], [(some (.objs 104 36 l))] => some (s, k, l)
 | _, _ => none
def Fd.shape (t : (Nat × (Nat × LA))) : List AV × zC := ([(.slice 0 [] t.1 t.2.1 36)], [(some (.objs 104 36 t.2.2))])
def Fd.res : (LA × (Nat × Nat)) → AV × zC
 | u => ((.fn (.func 57) [] [(.ptr 1 [])]), [(some (.objs 104 36 u.1)), (some (.var (.slice 0 [] u.2.1 u.2.2 36)))])
def Fd.c (n : Nat) : Abs.Callee := .mk' [true] [(some (.objs 104 36))] Fd.pat (Fd.m n) (zO Fd.res)
section
noncomputable section
def zslicesBackwardquaestorstorestepquaestorstorestep.c (n : Nat) : Abs.Callee := .pick (fun args => match args with | [.own _ _] => true | _ => false) (Fc.c n) (Fd.c n)
end
end
noncomputable def Fz.C (n : Nat) : Ctx := ⟨Tryz.prog, zI, zU [], fun _ => false⟩
noncomputable def Fz.A (n : Nat) : Ann := ⟨Tryz.f38.ntmps, 6, zV, [], [], fun k => match k with
 | _ => none, zV, zW []⟩
def Fz.g {α : Type} (mk0 : Int → Int → LA → LA → LA → LA → LA → α) (n : Nat) (kd : Int) (a k : LI) (nn : Int) (b : LI) (c : ByteArray) (w : LI) (g r x : Int) (p q : LA) (o j z : LA) : Option α :=
 if (kd == 0) = true then
 zD (Go.Abs.mputL (AV.ints .u8 20 a) (AV.agg [(AV.int .u64 nn), (AV.ints .u64 4 b), (AV.str c)]) p) fun r4 =>
 some (mk0 r x r4 q o j z)
 else
 if (kd == 1) = true then
 zD (Go.Abs.mputL (AV.agg [(AV.ints .u8 20 a), (AV.ints .u64 4 k)]) (AV.ints .u64 4 w) q) fun r6 =>
 some (mk0 r x p r6 o j z)
 else
 if (kd == 2) = true then
 none
 else
 if (kd == 3) = true then
 none
 else
 if (kd == 4) = true then
 some (mk0 g x p q o j z)
 else
 if (kd == 5) = true then
 if 0 ≤ g then
 if g ≤ 0 then
 some (mk0 r x p q o j z)
 else
 none
 else
 none
 else
 if (kd == 6) = true then
 none
 else
 some (mk0 r x p q o j z)
def Fz.m (n : Nat) (t : Ty3) : Option zBk := Fz.g (fun a0 a1 a2 a3 a4 a5 a6 => (a0, a1, a2, a3, a4, a5, a6)) n t.1 t.2.1 t.2.2.1 t.2.2.2.1 t.w.1 t.w.2.1 t.w.2.2.1 t.w.2.2.2.1 t.x.1 t.x.2.1 t.x.2.2.1 t.x.2.2.2.1 t.x.w.1 t.x.w.2.1 t.x.w.2.2
def Fz.pat : List AV → zC → Option Ty3
 | [(.ptr 0 []), (.agg [(.int .i64 kd), (.agg [(.ints .u8 20 a), (.ints .u64 4 k)]), (.agg [(.int .u64 nn), (.ints .u64 4 b), (.str c)]), (.ints .u64 4 w), (.int .i64 g)])], [(some (.var (.agg [(.own 1 0), (.own 2 0), (.rmap []), (.rmap []), (.own 3 0), (.rmap []), (.int .i64 r), .snil, (.own 4 36), (.own 5 2), (.int .i64 x)]))), (some (.mp p)), (some (.mp q)), (some (.mp o)), (some (.objs 104 36 j)), (some (.objs 83 2 z))] => some (kd, a, k, nn, b, c, w, g, r, x, p, q, o, j, z)
 | _, _ => none
def Fz.shape (t : Ty3) : List AV × zC := ([(.ptr 0 []), (.agg [(.int .i64 t.1), (.agg [(.ints .u8 20 t.2.1), (.ints .u64 4 t.2.2.1)]), (.agg [(.int .u64 t.2.2.2.1), (.ints .u64 4 t.w.1), (.str t.w.2.1)]), (.ints .u64 4 t.w.2.2.1), (.int .i64 t.w.2.2.2.1)])], [(some (.var (.agg [(.own 1 0), (.own 2 0), (.rmap []), (.rmap []), (.own 3 0), (.rmap []), (.int .i64 t.x.1), .snil, (.own 4 36), (.own 5 2), (.int .i64 t.x.2.1)]))), (some (.mp t.x.2.2.1)), (some (.mp t.x.2.2.2.1)), (some (.mp t.x.w.1)), (some (.objs 104 36 t.x.w.2.1)), (some (.objs 83 2 t.x.w.2.2))])
def Fz.res : zBk → AV × zC
 | u => ((.tup []), [(some (.var (.agg [(.own 1 0), (.own 2 0), (.rmap []), (.rmap []), (.own 3 0), (.rmap []), (.int .i64 u.1), .snil, (.own 4 36), (.own 5 2), (.int .i64 u.2.1)]))), (some (.mp u.2.2.1)), (some (.mp u.2.2.2.1)), (some (.mp u.w.1)), (some (.objs 104 36 u.w.2.1)), (some (.objs 83 2 u.w.2.2))])
def Fz.c (n : Nat) : Abs.Callee := .mk' [true, false] [none, none] Fz.pat (Fz.m n) (zO Fz.res)
def Faa.m (n : Nat) (t : Int × zBk) : Option zBk :=
 match Fb.m n (t.w.2.2.2, t.1) with
 | some k => if 0 ≤ k ∧ k < (t.w.2.2.2.length : Int) then (match zMV (t.w.2.2.2.getD k.toNat .any) with
  | some s => if 0 ≤ s ∧ s ≤ (t.w.2.2.1.length : Int) then (match zMT (t.w.2.2.1.drop s.toNat) with
   | some u => (match mputL (.ints .u8 20 u.1) (.agg [.int .u64 u.2.1, .ints .u64 4 u.2.2.1, .str u.2.2.2]) t.2.2.2.1 with
    | some p' => some (t.2.1, t.2.2.1, p', t.w.1, t.w.2.1, t.w.2.2.1.take s.toNat, t.w.2.2.2.take k.toNat)
    | none => none)
   | none => none) else none
  | none => none) else none
 | none => none
def Faa.pat : List AV → zC → Option Ty33
 | [(.ptr 0 []), (.int .i64 m)], [(some (.var (.agg [(.own 1 0), (.own 2 0), (.rmap []), (.rmap []), (.own 3 0), (.rmap []), (.int .i64 r), .snil, (.own 4 36), (.own 5 2), (.int .i64 x)]))), (some (.mp p)), (some (.mp q)), (some (.mp o)), (some (.objs 104 36 j)), (some (.objs 83 2 z))] => some (m, r, x, p, q, o, j, z)
 | _, _ => none
def Faa.shape (t : Int × zBk) : List AV × zC := ([(.ptr 0 []), (.int .i64 t.1)], [(some (.var (.agg [(.own 1 0), (.own 2 0), (.rmap []), (.rmap []), (.own 3 0), (.rmap []), (.int .i64 t.2.1), .snil, (.own 4 36), (.own 5 2), (.int .i64 t.2.2.1)]))), (some (.mp t.2.2.2.1)), (some (.mp t.w.1)), (some (.mp t.w.2.1)), (some (.objs 104 36 t.w.2.2.1)), (some (.objs 83 2 t.w.2.2.2))])
def Faa.res : zBk → AV × zC
 | u => ((.tup []), [(some (.var (.agg [(.own 1 0), (.own 2 0), (.rmap []), (.rmap []), (.own 3 0), (.rmap []), (.int .i64 u.1), .snil, (.own 6 36), (.own 7 2), (.int .i64 u.2.1)]))), (some (.mp u.2.2.1)), (some (.mp u.2.2.2.1)), (some (.mp u.w.1)), none, none, (some (.objs 104 36 u.w.2.1)), (some (.objs 83 2 u.w.2.2))])
def Faa.c (n : Nat) : Abs.Callee := .mk' [true, false] [none, none] Faa.pat (Faa.m n) (zO Faa.res)
noncomputable def Fab.C (n : Nat) : Ctx := ⟨Tryz.prog, zI, zU [], fun _ => false⟩
noncomputable def Fab.A (n : Nat) : Ann := ⟨Tryz.f11.ntmps, 6, zV, [], [none], fun k => match k with
 | _ => none, zV, zW []⟩
def Fab.g {α : Type} (mk0 : Int → Int → Int → LA → LA → LA → LA → LA → α) (n : Nat) (r x : Int) (p q : LA) (o j z : LA) : Option α :=
 if ((((List.length z) + 1) * 16) ≤ 70368744177664 ∧ ((List.length z) + 1) ≤ 9223372036854775807) then
 some (mk0 (IntKind.wrap .i64 (x + 1)) r (IntKind.wrap .i64 (x + 1)) p q o j (z ++ [(AV.agg [(AV.int .i64 (IntKind.wrap .i64 (x + 1))), (AV.int .i64 (j.length : Int))])]))
 else
 none
def Fab.m (n : Nat) (t : zBk) : Option Ty33 := Fab.g (fun a0 a1 a2 a3 a4 a5 a6 a7 => (a0, a1, a2, a3, a4, a5, a6, a7)) n t.1 t.2.1 t.2.2.1 t.2.2.2.1 t.w.1 t.w.2.1 t.w.2.2
def Fab.pat : List AV → zC → Option zBk
 | [(.ptr 0 [])], [(some (.var (.agg [(.own 1 0), (.own 2 0), (.rmap []), (.rmap []), (.own 3 0), (.rmap []), (.int .i64 r), .snil, (.own 4 36), (.own 5 2), (.int .i64 x)]))), (some (.mp p)), (some (.mp q)), (some (.mp o)), (some (.objs 104 36 j)), (some (.objs 83 2 z))] => some (r, x, p, q, o, j, z)
 | _, _ => none
def Fab.shape (t : zBk) : List AV × zC := ([(.ptr 0 [])], [(some (.var (.agg [(.own 1 0), (.own 2 0), (.rmap []), (.rmap []), (.own 3 0), (.rmap []), (.int .i64 t.1), .snil, (.own 4 36), (.own 5 2), (.int .i64 t.2.1)]))), (some (.mp t.2.2.1)), (some (.mp t.2.2.2.1)), (some (.mp t.w.1)), (some (.objs 104 36 t.w.2.1)), (some (.objs 83 2 t.w.2.2))])
def Fab.res : Ty33 → AV × zC
 | u => ((.int .i64 u.1), [(some (.var (.agg [(.own 1 0), (.own 2 0), (.rmap []), (.rmap []), (.own 3 0), (.rmap []), (.int .i64 u.2.1), .snil, (.own 4 36), (.own 6 2), (.int .i64 u.2.2.1)]))), (some (.mp u.2.2.2.1)), (some (.mp u.w.1)), (some (.mp u.w.2.1)), (some (.objs 104 36 u.w.2.2.1)), none, (some (.objs 83 2 u.w.2.2.2))])
def Fab.c (n : Nat) : Abs.Callee := .mk' [true] [none] Fab.pat (Fab.m n) (zO Fab.res)
noncomputable def Fg.C (n : Nat) : Ctx := ⟨Tryz.prog, zI, zU [], fun _ => false⟩
noncomputable def Fg.A (n : Nat) : Ann := ⟨Tryz.f46.ntmps, 0, zV, [], [none], fun k => match k with
 | _ => none, zV, zW []⟩
def Fg.g {α : Type} (mk0 : Bool → α) (n : Nat) (ad k : LI) (v o : LI) : Option α :=
 some (mk0 (ad == o))
def Fg.m (n : Nat) (t : (LI × (LI × (LI × LI)))) : Option Bool := Fg.g (fun a0 => a0) n t.1 t.2.1 t.2.2.1 t.2.2.2
def Fg.pat : List AV → zC → Option (LI × (LI × (LI × LI)))
 | [(.agg [(.ints .u8 20 ad), (.ints .u64 4 k)]), (.ints .u64 4 v), (.rptr (.ints .u8 20 o))], [] => some (ad, k, v, o)
 | _, _ => none
def Fg.shape (t : (LI × (LI × (LI × LI)))) : List AV × zC := ([(.agg [(.ints .u8 20 t.1), (.ints .u64 4 t.2.1)]), (.ints .u64 4 t.2.2.1), (.rptr (.ints .u8 20 t.2.2.2))], [])
def Fg.res : Bool → AV × zC
 | u => ((.bool u), [])
def Fg.c (n : Nat) : Abs.Callee := .mk' [] [none, none] Fg.pat (Fg.m n) (zO Fg.res)
def Fa.m (n : Nat) (t : LI × LA) : Option LA := match t.2 with
 | [] => some []
 | _ => none
def Fa.pat : List AV → zC → Option (LI × LA)
 | [(.own 0 0), (.fn (.func 46) [] [(.rptr (.ints .u8 20 a))])], [(some (.mp l))] => some (a, l)
 | _, _ => none
def Fa.shape (t : LI × LA) : List AV × zC := ([(.own 0 0), (.fn (.func 46) [] [(.rptr (.ints .u8 20 t.1))])], [(some (.mp t.2))])
def Fa.res : LA → AV × zC
 | u => ((.tup []), [(some (.mp u))])
def Fa.c (n : Nat) : Abs.Callee := .mk' [true, false] [none, none] Fa.pat (Fa.m n) (zO Fa.res)
noncomputable def Fp.C (n : Nat) : Ctx := ⟨Tryz.prog, zI, zU [(46, Fg.c n), (45, Fa.c n)], fun t => t == 23⟩
noncomputable def Fp.A (n : Nat) : Ann := ⟨Tryz.f22.ntmps, 3, zV, [], [], fun k => match k with
 | _ => none, zV, zW []⟩
def Fp.g {α : Type} (mk0 : Int → Int → LA → LA → α) (n : Nat) (a : LI) (r x : Int) (p q : LA) : Option α :=
 zD (Go.Abs.mdelL (AV.ints .u8 20 a) p) fun r2 =>
 zD (Fa.m n (a, q)) fun r4 =>
 some (mk0 r x r2 r4)
def Fp.m (n : Nat) (t : (LI × (Int × (Int × (LA × LA))))) : Option (Int × (Int × (LA × LA))) := Fp.g (fun a0 a1 a2 a3 => (a0, a1, a2, a3)) n t.1 t.2.1 t.2.2.1 t.2.2.2.1 t.w
def Fp.pat : List AV → zC → Option (LI × (Int × (Int × (LA × LA))))
 | [(.ptr 0 []), (.ints .u8 20 a)], [(some (.var (.agg [(.own 1 0), (.own 2 0), (.raw (.map none)), (.raw (.map none)), (.raw (.map none)), (.raw (.map none)), (.int .i64 r), .snil, .snil, .snil, (.int .i64 x)]))), (some (.mp p)), (some (.mp q))] => some (a, r, x, p, q)
 | _, _ => none
def Fp.shape (t : (LI × (Int × (Int × (LA × LA))))) : List AV × zC := ([(.ptr 0 []), (.ints .u8 20 t.1)], [(some (.var (.agg [(.own 1 0), (.own 2 0), (.raw (.map none)), (.raw (.map none)), (.raw (.map none)), (.raw (.map none)), (.int .i64 t.2.1), .snil, .snil, .snil, (.int .i64 t.2.2.1)]))), (some (.mp t.2.2.2.1)), (some (.mp t.w))])
def Fp.res : (Int × (Int × (LA × LA))) → AV × zC
 | u => ((.tup []), [(some (.var (.agg [(.own 1 0), (.own 2 0), (.raw (.map none)), (.raw (.map none)), (.raw (.map none)), (.raw (.map none)), (.int .i64 u.1), .snil, .snil, .snil, (.int .i64 u.2.1)]))), (some (.mp u.2.2.1)), (some (.mp u.2.2.2))])
def Fp.c (n : Nat) : Abs.Callee := .mk' [true, false] [none, none] Fp.pat (Fp.m n) (zO Fp.res)
noncomputable def Fu.C (n : Nat) : Ctx := ⟨Tryz.prog, zI, zU [], fun t => t == 7000062⟩
noncomputable def Fu.A (n : Nat) : Ann := ⟨Tryz.f23.ntmps, 3, zV, [], [], fun k => match k with
 | _ => none, zV, zW []⟩
def Fu.g {α : Type} (mk0 : Int → Int → LA → LA → LA → α) (n : Nat) (r x : Int) (p q : LA) : Option α :=
 some (mk0 0 0 p q [])
def Fu.m (n : Nat) (t : (Int × (Int × (LA × LA)))) : Option (Int × (Int × (LA × (LA × LA)))) := Fu.g (fun a0 a1 a2 a3 a4 => (a0, a1, a2, a3, a4)) n t.1 t.2.1 t.2.2.1 t.2.2.2
def Fu.pat : List AV → zC → Option (Int × (Int × (LA × LA)))
 | [(.ptr 0 [])], [(some (.var (.agg [(.own 1 0), (.own 2 0), (.raw (.map none)), (.raw (.map none)), (.raw (.map none)), (.raw (.map none)), (.int .i64 r), .snil, .snil, .snil, (.int .i64 x)]))), (some (.mp p)), (some (.mp q))] => some (r, x, p, q)
 | _, _ => none
def Fu.shape (t : (Int × (Int × (LA × LA)))) : List AV × zC := ([(.ptr 0 [])], [(some (.var (.agg [(.own 1 0), (.own 2 0), (.raw (.map none)), (.raw (.map none)), (.raw (.map none)), (.raw (.map none)), (.int .i64 t.1), .snil, .snil, .snil, (.int .i64 t.2.1)]))), (some (.mp t.2.2.1)), (some (.mp t.2.2.2))])
def Fu.res : (Int × (Int × (LA × (LA × LA)))) → AV × zC
 | u => ((.tup []), [(some (.var (.agg [(.own 1 0), (.own 2 0), (.rmap []), (.rmap []), (.own 3 0), (.rmap []), (.int .i64 u.1), .snil, .snil, .snil, (.int .i64 u.2.1)]))), (some (.mp u.2.2.1)), (some (.mp u.2.2.2.1)), (some (.mp u.w))])
def Fu.c (n : Nat) : Abs.Callee := .mk' [true] [none] Fu.pat (Fu.m n) (zO Fu.res)
noncomputable def Fbs.C (n : Nat) : Ctx := ⟨Tryz.prog, zI, zU [(22, Fp.c n), (23, Fu.c n)], fun t => t == 7000061 || t == 7000062⟩
def Fbs.live : NL := fun k => match k with
 | 3 => ([14, 13, 12, 3], [3])
 | 8 => ([43, 42, 41, 3, 5, 14, 13, 12], [14, 13, 12, 3])
 | _ => ([], [])
def Fbs.l8.r {α : Type} (mk0 : Int → Int → LA → Int → Int → LA → LA → α) (n : Nat) (rc : Int → Int → LA → Int → Int → LA → Int → Int → LI → Int → LI → LI → LA → LA → LA → Option α)  (x0 x1 : Int) (x2 : LA) (x3 x4 : Int) (x5 : LA) (x6 x7 : Int) (x8 : LI) (x9 : Int) (x10 x11 : LI) (x12 x13 x14 : LA) : Option α :=
 if (decide (x0 < x1)) = true then
 if 0 ≤ x0 then
 if x0 < (x2.length : Int) then
 zD (tkAgg 2 (List.getD x2 (Int.toNat x0) AV.any)) fun r10 =>
 zD (tkInts .u64 4 (List.getD r10 0 AV.any)) fun r12 =>
 zD (tkInts .u64 4 (List.getD r10 1 AV.any)) fun r14 =>
 zD (Go.Abs.mputL (AV.agg [(AV.ints .u8 20 x8), (AV.ints .u64 4 r12)]) (AV.ints .u64 4 r14) x14) fun r16 =>
 rc (IntKind.wrap .i64 (x0 + 1)) x1 x2 x3 x4 x5 x6 x7 x8 x9 x10 x11 x12 x13 r16
 else
 none
 else
 none
 else
 some (mk0 x3 x4 x5 x6 x7 x13 x14)
def Fbs.l8.g {α : Type} (mk0 : Int → Int → LA → Int → Int → LA → LA → α) (n : Nat) : Nat → Int → Int → LA → Int → Int → LA → Int → Int → LI → Int → LI → LI → LA → LA → LA → Option α
 | 0, _, _, _, _, _, _, _, _, _, _, _, _, _, _, _ => none
 | m + 1, x0, x1, x2, x3, x4, x5, x6, x7, x8, x9, x10, x11, x12, x13, x14 => Fbs.l8.r mk0 n (fun y0 y1 y2 y3 y4 y5 y6 y7 y8 y9 y10 y11 y12 y13 y14 => Fbs.l8.g mk0 n m y0 y1 y2 y3 y4 y5 y6 y7 y8 y9 y10 y11 y12 y13 y14)  x0 x1 x2 x3 x4 x5 x6 x7 x8 x9 x10 x11 x12 x13 x14
def Fbs.l8.m (n m : Nat) (t : Ty4) : Option zJL := Fbs.l8.g (fun a0 a1 a2 a3 a4 a5 a6 => (a0, a1, a2, a3, a4, a5, a6)) n m t.1 t.2.1 t.2.2.1 t.2.2.2.1 t.w.1 t.w.2.1 t.w.2.2.1 t.w.2.2.2.1 t.x.1 t.x.2.1 t.x.2.2.1 t.x.2.2.2.1 t.x.w.1 t.x.w.2.1 t.x.w.2.2
def Fbs.l8.pat : St → Option Ty4
 | (St.mk [(.int .i64 x0), (.int .i64 x1), (.robjs 74 8 x2), (.ptr 0 []), (.ptr 1 []), (.int .i64 x3), (.int .i64 x4), (.robjs 53 27 x5)] [(some (.var (.agg [(.own 2 0), (.own 3 0), (.raw (.map none)), (.raw (.map none)), (.raw (.map none)), (.raw (.map none)), (.int .i64 x6), .snil, .snil, .snil, (.int .i64 x7)]))), (some (.var (.agg [(.ints .u8 20 x8), (.agg [(.int .u64 x9), (.ints .u64 4 x10), (.rints .u8 x11), (.robjs 74 8 x12)])]))), (some (.mp x13)), (some (.mp x14))]) => some (x0, x1, x2, x3, x4, x5, x6, x7, x8, x9, x10, x11, x12, x13, x14)
 | _ => none
def Fbs.l8.shape (t : Ty4) : St := (St.mk [(.int .i64 t.1), (.int .i64 t.2.1), (.robjs 74 8 t.2.2.1), (.ptr 0 []), (.ptr 1 []), (.int .i64 t.2.2.2.1), (.int .i64 t.w.1), (.robjs 53 27 t.w.2.1)] [(some (.var (.agg [(.own 2 0), (.own 3 0), (.raw (.map none)), (.raw (.map none)), (.raw (.map none)), (.raw (.map none)), (.int .i64 t.w.2.2.1), .snil, .snil, .snil, (.int .i64 t.w.2.2.2.1)]))), (some (.var (.agg [(.ints .u8 20 t.x.1), (.agg [(.int .u64 t.x.2.1), (.ints .u64 4 t.x.2.2.1), (.rints .u8 t.x.2.2.2.1), (.robjs 74 8 t.x.w.1)])]))), (some (.mp t.x.w.2.1)), (some (.mp t.x.w.2.2))])
def Fbs.l8.res : zJL → Ex × St
 | u => ((.exit 2), (St.mk [(.int .i64 u.1), (.int .i64 u.2.1), (.robjs 53 27 u.2.2.1), (.ptr 0 [])] [(some (.var (.agg [(.own 1 0), (.own 2 0), (.raw (.map none)), (.raw (.map none)), (.raw (.map none)), (.raw (.map none)), (.int .i64 u.2.2.2.1), .snil, .snil, .snil, (.int .i64 u.w.1)]))), (some (.mp u.w.2.1)), (some (.mp u.w.2.2))]))
def Fbs.l3.r {α : Type} (mk0 : Int → Int → LA → LA → α) (n : Nat) (rc : Int → Int → LA → Int → Int → LA → LA → Option α)  (x0 x1 : Int) (x2 : LA) (x3 x4 : Int) (x5 x6 : LA) : Option α :=
 if (decide (x0 < x1)) = true then
 if 0 ≤ x0 then
 if x0 < (x2.length : Int) then
 zD (tkAgg 2 (List.getD x2 (Int.toNat x0) AV.any)) fun r10 =>
 zD (tkInts .u8 20 (List.getD r10 0 AV.any)) fun r12 =>
 zD (tkAgg 4 (List.getD r10 1 AV.any)) fun r14 =>
 zD (tkInt .u64 (List.getD r14 0 AV.any)) fun r16 =>
 zD (tkInts .u64 4 (List.getD r14 1 AV.any)) fun r18 =>
 zD (tkRints .u8 (List.getD r14 2 AV.any)) fun r20 =>
 zD (tkRobjs 74 8 (List.getD r14 3 AV.any)) fun r22 =>
 zD (Fp.m n (r12, x3, x4, x5, x6)) fun r24 =>
 zD (Go.Abs.mputL (AV.ints .u8 20 r12) (AV.agg [(AV.int .u64 r16), (AV.ints .u64 4 r18), (AV.str (Go.Abs.strOf r20))]) r24.2.2.1) fun r26 =>
 zD (Fbs.l8.m n n (0, (r22.length : Int), r22, x0, x1, x2, r24.1, r24.2.1, r12, r16, r18, r20, r22, r26, r24.2.2.2)) fun r28 =>
 rc (IntKind.wrap .i64 (r28.1 + 1)) r28.2.1 r28.2.2.1 r28.2.2.2.1 r28.w.1 r28.w.2.1 r28.w.2.2
 else
 none
 else
 none
 else
 some (mk0 x3 x4 x5 x6)
def Fbs.l3.g {α : Type} (mk0 : Int → Int → LA → LA → α) (n : Nat) : Nat → Int → Int → LA → Int → Int → LA → LA → Option α
 | 0, _, _, _, _, _, _, _ => none
 | m + 1, x0, x1, x2, x3, x4, x5, x6 => Fbs.l3.r mk0 n (fun y0 y1 y2 y3 y4 y5 y6 => Fbs.l3.g mk0 n m y0 y1 y2 y3 y4 y5 y6)  x0 x1 x2 x3 x4 x5 x6
def Fbs.l3.m (n m : Nat) (t : zJL) : Option (Int × (Int × (LA × LA))) := Fbs.l3.g (fun a0 a1 a2 a3 => (a0, a1, a2, a3)) n m t.1 t.2.1 t.2.2.1 t.2.2.2.1 t.w.1 t.w.2.1 t.w.2.2
def Fbs.l3.pat : St → Option zJL
 | (St.mk [(.int .i64 x0), (.int .i64 x1), (.robjs 53 27 x2), (.ptr 0 [])] [(some (.var (.agg [(.own 1 0), (.own 2 0), (.raw (.map none)), (.raw (.map none)), (.raw (.map none)), (.raw (.map none)), (.int .i64 x3), .snil, .snil, .snil, (.int .i64 x4)]))), (some (.mp x5)), (some (.mp x6))]) => some (x0, x1, x2, x3, x4, x5, x6)
 | _ => none
def Fbs.l3.shape (t : zJL) : St := (St.mk [(.int .i64 t.1), (.int .i64 t.2.1), (.robjs 53 27 t.2.2.1), (.ptr 0 [])] [(some (.var (.agg [(.own 1 0), (.own 2 0), (.raw (.map none)), (.raw (.map none)), (.raw (.map none)), (.raw (.map none)), (.int .i64 t.2.2.2.1), .snil, .snil, .snil, (.int .i64 t.w.1)]))), (some (.mp t.w.2.1)), (some (.mp t.w.2.2))])
def Fbs.l3.res : (Int × (Int × (LA × LA))) → Ex × St
 | u => ((.exit 0), (St.mk [(.ptr 0 [])] [(some (.var (.agg [(.own 1 0), (.own 2 0), (.raw (.map none)), (.raw (.map none)), (.raw (.map none)), (.raw (.map none)), (.int .i64 u.1), .snil, .snil, .snil, (.int .i64 u.2.1)]))), (some (.mp u.2.2.1)), (some (.mp u.2.2.2))]))
noncomputable def Fbs.A (n : Nat) : Ann := ⟨Tryz.f6.ntmps, 0, Fbs.live, [(12, (.objs 53 27)), (41, (.objs 74 8))], [(some (.agg [none, none, none, none, none, none, none, none, (some (.objs 104 36)), (some (.objs 83 2))]))], fun k => match k with
 | 8 => some (.mk' Fbs.l8.pat (Fbs.l8.m n n) (zQ Fbs.l8.res))
 | 3 => some (.mk' Fbs.l3.pat (Fbs.l3.m n n) (zQ Fbs.l3.res))
 | _ => none, zV, zW []⟩
noncomputable def Fbs.b0 : Code := (zK (Tryz.f6.body.getD .skip)).getD 0 .skip
noncomputable def Fbs.b1 : Code := (zK (Tryz.f6.body.getD .skip)).getD 1 .skip
def Fbs.g {α : Type} (mk0 : Int → Int → LA → LA → LA → LA → LA → α) (n : Nat) (a0 : LA) : Option α :=
 zD (Fbs.l3.m n n (0, (a0.length : Int), a0, 0, 0, [], [])) fun r2 =>
 zD (Fu.m n (r2.1, r2.2.1, r2.2.2.1, r2.2.2.2)) fun r4 =>
 some (mk0 r4.1 r4.2.1 r4.2.2.1 r4.2.2.2.1 r4.w [] [])
def Fbs.m (n : Nat) (t : LA) : Option zBk := Fbs.g (fun a0 a1 a2 a3 a4 a5 a6 => (a0, a1, a2, a3, a4, a5, a6)) n t
def Fbs.pat : List AV → zC → Option LA
 | [(.robjs 53 27 a0)], [] => some a0
 | _, _ => none
def Fbs.shape (t : LA) : List AV × zC := ([(.robjs 53 27 t)], [])
def Fbs.res : zBk → AV × zC
 | u => ((.ptr 0 []), [(some (.var (.agg [(.own 1 0), (.own 2 0), (.rmap []), (.rmap []), (.own 3 0), (.rmap []), (.int .i64 u.1), .snil, (.own 4 36), (.own 5 2), (.int .i64 u.2.1)]))), (some (.mp u.2.2.1)), (some (.mp u.2.2.2.1)), (some (.mp u.w.1)), (some (.objs 104 36 u.w.2.1)), (some (.objs 83 2 u.w.2.2))])
def Fbs.c (n : Nat) : Abs.Callee := .mk' [] [(some (.objs 53 27))] Fbs.pat (Fbs.m n) (zO Fbs.res)
noncomputable def Fbt.C (n : Nat) : Ctx := ⟨Tryz.prog, zI, zU [(10, Fbj.c n), (6, Fbs.c n), (14, Fbr.c n), (18, Fak.c n), (19, Fan.c n), (21, Fce.c n), (20, Fba.c n), (8, Fbx.c n), (12, Fi.c n), (7, Fav.c n)], fun t => t == 3008000 || t == 3008008⟩
noncomputable def Fbt.A (n : Nat) : Ann := ⟨Tryz.f5.ntmps, 0, zV, [], [none], fun k => match k with
 | _ => none, zV, zW []⟩
def Fbt.g {α : Type} (mk0 : Bool → α) (n : Nat)  : Option α :=
 zD (Fbj.m n Unit.unit) fun r2 =>
 zD (Fbs.m n [(AV.agg [(AV.ints .u8 20 r2), (AV.agg [(AV.int .u64 0), (AV.ints .u64 4 [5, 0, 0, 0]), AV.snil, AV.snil])])]) fun r4 =>
 zD (Fbr.m n (0, ([1, 0, 0, 0, 0, 0, 0, 0, 0, 0, 0, 0, 0, 0, 0, 0, 0, 0, 0, 0] : List Int), [5, 0, 0, 0], [], false, r4.1, r4.2.1, r4.2.2.1, r4.2.2.2.1, r4.w.1, r4.w.2.1, r4.w.2.2)) fun r6 =>
 zD (Fak.m n (([1, 0, 0, 0, 0, 0, 0, 0, 0, 0, 0, 0, 0, 0, 0, 0, 0, 0, 0, 0] : List Int), r6.2.1, r6.2.2.1, r6.2.2.2.1, r6.w.1, r6.w.2.1, r6.x, r6.w.2.2.1)) fun r8 =>
 zD (Fan.m n (b8 [119, 105, 116, 104, 100, 114, 97, 119, 84, 111, 40, 97, 100, 100, 114, 101, 115, 115, 44, 117, 105, 110, 116, 50, 53, 54, 41])) fun r10 =>
 zD (Fce.m n ([2, 0, 0, 0, 0, 0, 0, 0, 0, 0, 0, 0, 0, 0, 0, 0, 0, 0, 0, 0] : List Int)) fun r12 =>
 zD (Fba.m n [(AV.agg [(AV.bool false), (AV.ints .u64 4 r12), AV.snil]), (AV.agg [(AV.bool false), (AV.ints .u64 4 [3, 0, 0, 0]), AV.snil])]) fun r14 =>
 if ((((List.length r10) + (List.length r14)) * 1) ≤ 70368744177664 ∧ ((List.length r10) + (List.length r14)) ≤ 9223372036854775807) then
 zD (Fbr.m n (0, ([1, 0, 0, 0, 0, 0, 0, 0, 0, 0, 0, 0, 0, 0, 0, 0, 0, 0, 0, 0] : List Int), [0, 0, 0, 0], (r10 ++ r14), false, r8.2.1, r8.2.2.1, r8.2.2.2.1, r8.w.1, r8.w.2.1, r8.w.2.2.1, r8.w.2.2.2)) fun r18 =>
 zD (Fbx.m n (([1, 0, 0, 0, 0, 0, 0, 0, 0, 0, 0, 0, 0, 0, 0, 0, 0, 0, 0, 0] : List Int), [0, 0, 0, 0], r18.2.1, r18.2.2.1, r18.2.2.2.1, r18.w.1, r18.w.2.1, r18.x, r18.w.2.2.1)) fun r20 =>
 zD (Fbx.m n (([1, 0, 0, 0, 0, 0, 0, 0, 0, 0, 0, 0, 0, 0, 0, 0, 0, 0, 0, 0] : List Int), [0, 0, 0, 0], r20.2.1, r20.2.2.1, r20.2.2.2.1, r20.w.1, r20.w.2.1, r20.w.2.2.2, r20.w.2.2.1)) fun r22 =>
 if r6.1 = true then
 if r18.1 = true then
 if r20.1 = true then
 if (!r22.1) = true then
 if (r8.1 == [5, 0, 0, 0]) = true then
 zD (Fak.m n (([1, 0, 0, 0, 0, 0, 0, 0, 0, 0, 0, 0, 0, 0, 0, 0, 0, 0, 0, 0] : List Int), r22.2.1, r22.2.2.1, r22.2.2.2.1, r22.w.1, r22.w.2.1, r22.w.2.2.2, r22.w.2.2.1)) fun r34 =>
 if (r34.1 == [2, 0, 0, 0]) = true then
 zD (Fi.m n (([2, 0, 0, 0, 0, 0, 0, 0, 0, 0, 0, 0, 0, 0, 0, 0, 0, 0, 0, 0] : List Int), r34.2.1, r34.2.2.1, r34.2.2.2.1, r34.w.1, r34.w.2.1, r34.w.2.2.1, r34.w.2.2.2)) fun r38 =>
 if (r38.1 == [3, 0, 0, 0]) = true then
 zD (Fav.m n (([1, 0, 0, 0, 0, 0, 0, 0, 0, 0, 0, 0, 0, 0, 0, 0, 0, 0, 0, 0] : List Int), [0, 0, 0, 0], r38.2.1, r38.2.2.1, r38.2.2.2.1, r38.w.1, r38.w.2.1, r38.w.2.2.1, r38.w.2.2.2)) fun r42 =>
 some (mk0 (r42.1 == [1, 0, 0, 0]))
 else
 some (mk0 false)
 else
 some (mk0 false)
 else
 some (mk0 false)
 else
 some (mk0 false)
 else
 some (mk0 false)
 else
 some (mk0 false)
 else
 some (mk0 false)
 else
 none
def Fbt.m (n : Nat) (t : Unit) : Option Bool := Fbt.g (fun a0 => a0) n 
def Fbt.pat : List AV → zC → Option Unit
 | [], [] => some ()
 | _, _ => none
def Fbt.shape (t : Unit) : List AV × zC := ([], [])
def Fbt.res : Bool → AV × zC
 | u => ((.bool u), [])
def Fbt.c (n : Nat) : Abs.Callee := .mk' [] [] Fbt.pat (Fbt.m n) (zO Fbt.res)
noncomputable def Far.C (n : Nat) : Ctx := ⟨Tryz.prog, zI, zU [], fun _ => false⟩
def Far.live : NL := fun k => match k with
 | 3 => ([6, 0, 5, 1], [5])
 | _ => ([], [])
def Far.l3.r {α : Type} (mk0 : Int → α) (n : Nat) (rc : Int → LA → Int → Int → Option α)  (x0 : Int) (x1 : LA) (x2 x3 : Int) : Option α :=
 if (decide (x0 < (x1.length : Int))) = true then
 if (decide (x2 ≤ x3)) = true then
 if 0 ≤ x0 then
 if x0 < (x1.length : Int) then
 zD (tkAgg 2 (List.getD x1 (Int.toNat x0) AV.any)) fun r12 =>
 zD (tkInts .u8 20 (List.getD r12 0 AV.any)) fun r14 =>
 zD (tkAgg 4 (List.getD r12 1 AV.any)) fun r16 =>
 zD (tkInt .u64 (List.getD r16 0 AV.any)) fun r18 =>
 zD (tkInts .u64 4 (List.getD r16 1 AV.any)) fun r20 =>
 zD (tkRints .u8 (List.getD r16 2 AV.any)) fun r22 =>
 zD (tkRobjs 74 8 (List.getD r16 3 AV.any)) fun r24 =>
 if 0 ≤ x0 then
 if x0 < (x1.length : Int) then
 zD (tkAgg 2 (List.getD x1 (Int.toNat x0) AV.any)) fun r30 =>
 zD (tkInts .u8 20 (List.getD r30 0 AV.any)) fun r32 =>
 zD (tkAgg 4 (List.getD r30 1 AV.any)) fun r34 =>
 zD (tkInt .u64 (List.getD r34 0 AV.any)) fun r36 =>
 zD (tkInts .u64 4 (List.getD r34 1 AV.any)) fun r38 =>
 zD (tkRints .u8 (List.getD r34 2 AV.any)) fun r40 =>
 zD (tkRobjs 74 8 (List.getD r34 3 AV.any)) fun r42 =>
 rc (IntKind.wrap .i64 (x0 + 1)) x1 (IntKind.wrap .i64 (x2 + (IntKind.wrap .i64 ((IntKind.wrap .i64 (1 + (IntKind.wrap .i64 (Int.tdiv (r22.length : Int) 16)))) + (r42.length : Int))))) x3
 else
 none
 else
 none
 else
 none
 else
 none
 else
 some (mk0 x2)
 else
 some (mk0 x2)
def Far.l3.g {α : Type} (mk0 : Int → α) (n : Nat) : Nat → Int → LA → Int → Int → Option α
 | 0, _, _, _, _ => none
 | m + 1, x0, x1, x2, x3 => Far.l3.r mk0 n (fun y0 y1 y2 y3 => Far.l3.g mk0 n m y0 y1 y2 y3)  x0 x1 x2 x3
def Far.l3.m (n m : Nat) (t : (Int × (LA × (Int × Int)))) : Option Int := Far.l3.g (fun a0 => a0) n m t.1 t.2.1 t.2.2.1 t.2.2.2
def Far.l3.pat : St → Option (Int × (LA × (Int × Int)))
 | (St.mk [(.int .i64 x0), (.robjs 53 27 x1), (.int .i64 x2), (.int .i64 x3)] []) => some (x0, x1, x2, x3)
 | _ => none
def Far.l3.shape (t : (Int × (LA × (Int × Int)))) : St := (St.mk [(.int .i64 t.1), (.robjs 53 27 t.2.1), (.int .i64 t.2.2.1), (.int .i64 t.2.2.2)] [])
def Far.l3.res : Int → Ex × St
 | u => ((.exit 0), (St.mk [(.int .i64 u)] []))
noncomputable def Far.A (n : Nat) : Ann := ⟨Tryz.f28.ntmps, 0, Far.live, [(0, (.objs 53 27))], [none], fun k => match k with
 | 3 => some (.mk' Far.l3.pat (Far.l3.m n n) (zQ Far.l3.res))
 | _ => none, zV, zW []⟩
noncomputable def Far.b0 : Code := (zK (Tryz.f28.body.getD .skip)).getD 0 .skip
def Far.g {α : Type} (mk0 : Int → α) (n : Nat) (a0 : LA) (a1 : Int) : Option α :=
 zD (Far.l3.m n n (0, a0, 0, a1)) fun r2 =>
 some (mk0 r2)
def Far.m (n : Nat) (t : (LA × Int)) : Option Int := Far.g (fun a0 => a0) n t.1 t.2
def Far.pat : List AV → zC → Option (LA × Int)
 | [(.robjs 53 27 a0), (.int .i64 a1)], [] => some (a0, a1)
 | _, _ => none
def Far.shape (t : (LA × Int)) : List AV × zC := ([(.robjs 53 27 t.1), (.int .i64 t.2)], [])
def Far.res : Int → AV × zC
 | u => ((.int .i64 u), [])
def Far.c (n : Nat) : Abs.Callee := .mk' [] [(some (.objs 53 27)), none] Far.pat (Far.m n) (zO Far.res)
noncomputable def Fbu.C (n : Nat) : Ctx := ⟨Tryz.prog, zI, zU [(28, Far.c n)], fun _ => false⟩
def Fbu.live : NL := fun k => match k with
 | 4 => ([5, 1], [4])
 | _ => ([], [])
def Fbu.l4.r {α : Type} (mk0 : Bool → α) (mk1 : α) (n : Nat) (rc : Int → LA → Option α)  (x0 : Int) (x1 : LA) : Option α :=
 if (decide (x0 < (x1.length : Int))) = true then
 if 0 ≤ x0 then
 if x0 < (x1.length : Int) then
 zD (tkAgg 11 (List.getD x1 (Int.toNat x0) AV.any)) fun r10 =>
 zD (tkInt .u8 (List.getD r10 0 AV.any)) fun r12 =>
 zD (tkInts .u8 20 (List.getD r10 1 AV.any)) fun r14 =>
 zD (tkInts .u8 20 (List.getD r10 2 AV.any)) fun r16 =>
 zD (tkInts .u64 4 (List.getD r10 3 AV.any)) fun r18 =>
 zD (tkInt .u8 (List.getD r10 4 AV.any)) fun r20 =>
 zD (tkInt .u8 (List.getD r10 5 AV.any)) fun r22 =>
 zD (tkInts .u64 4 (List.getD r10 6 AV.any)) fun r24 =>
 zD (tkInts .u64 4 (List.getD r10 7 AV.any)) fun r26 =>
 zD (tkInt .u64 (List.getD r10 8 AV.any)) fun r28 =>
 zD (tkBool (List.getD r10 9 AV.any)) fun r30 =>
 zD (tkRints .u8 (List.getD r10 10 AV.any)) fun r32 =>
 if (decide ((r32.length : Int) > 200)) = true then
 some (mk0 true)
 else
 rc (IntKind.wrap .i64 (x0 + 1)) x1
 else
 none
 else
 none
 else
 some (mk1)
def Fbu.l4.g {α : Type} (mk0 : Bool → α) (mk1 : α) (n : Nat) : Nat → Int → LA → Option α
 | 0, _, _ => none
 | m + 1, x0, x1 => Fbu.l4.r mk0 mk1 n (fun y0 y1 => Fbu.l4.g mk0 mk1 n m y0 y1)  x0 x1
def Fbu.l4.m (n m : Nat) (t : (Int × LA)) : Option (Bool ⊕ Unit) := Fbu.l4.g (fun a0 => (.inl a0)) (.inr ()) n m t.1 t.2
def Fbu.l4.pat : St → Option (Int × LA)
 | (St.mk [(.int .i64 x0), (.robjs 39 58 x1)] []) => some (x0, x1)
 | _ => none
def Fbu.l4.shape (t : (Int × LA)) : St := (St.mk [(.int .i64 t.1), (.robjs 39 58 t.2)] [])
def Fbu.l4.res : (Bool ⊕ Unit) → Ex × St
 | (.inl u) => (.ret, (St.mk [(.bool u)] []))
 | (.inr u) => ((.exit 0), (St.mk [.any] []))
def Fbu.l4.resK {R : Type} (u : (Bool ⊕ Unit)) (K : Ex → St → Option R) : Option R := match u with
 | (.inl u) => (fun p : Ex × St => K p.1 p.2) (.ret, (St.mk [(.bool u)] []))
 | (.inr u) => (fun p : Ex × St => K p.1 p.2) ((.exit 0), (St.mk [.any] []))
noncomputable def Fbu.A (n : Nat) : Ann := ⟨Tryz.f9.ntmps, 0, Fbu.live, [(1, (.objs 39 58))], [none], fun k => match k with
 | 4 => some (.mk' Fbu.l4.pat (Fbu.l4.m n n) Fbu.l4.resK)
 | _ => none, zV, zW []⟩
noncomputable def Fbu.b0 : Code := (zK (Tryz.f9.body.getD .skip)).getD 0 .skip
def Fbu.g {α : Type} (mk0 : Bool → α) (n : Nat) (a0 a1 : LA) : Option α :=
 zD (Far.m n (a0, 200)) fun r2 =>
  if (decide (r2 > 200)) = true then
   some (mk0 true)
  else
   if (decide ((a1.length : Int) > 40)) = true then
    some (mk0 true)
   else
    zD (Fbu.l4.m n n (0, a1)) fun r8 => match r8 with
     | (.inl r8) =>
      some (mk0 r8)
     | (.inr r8) =>
      some (mk0 false)
def Fbu.m (n : Nat) (t : (LA × LA)) : Option Bool := Fbu.g (fun a0 => a0) n t.1 t.2
def Fbu.pat : List AV → zC → Option (LA × LA)
 | [(.robjs 53 27 a0), (.robjs 39 58 a1)], [] => some (a0, a1)
 | _, _ => none
def Fbu.shape (t : (LA × LA)) : List AV × zC := ([(.robjs 53 27 t.1), (.robjs 39 58 t.2)], [])
def Fbu.res : Bool → AV × zC
 | u => ((.bool u), [])
def Fbu.c (n : Nat) : Abs.Callee := .mk' [] [(some (.objs 53 27)), (some (.objs 39 58))] Fbu.pat (Fbu.m n) (zO Fbu.res)
noncomputable def Fag.C (n : Nat) : Ctx := ⟨Tryz.prog, zI, zU [(9, Fbu.c n), (5, Fbt.c n), (6, Fbs.c n), (10, Fbj.c n), (11, Fab.c n), (12, Fi.c n), (13, Ff.c n), (15, Fbn.c n), (14, Fbr.c n), (16, Faa.c n), (17, Fbc.c n)], fun t => t == 2000015⟩
def Fag.live : NL := fun k => match k with
 | 7 => ([6, 0, 4, 5, 3], [2])
 | _ => ([], [])
def Fag.jlive : NL := fun k => match k with
 | 18 => ([7, 3, 8, 9, 5, 6, 0, 4], [7, 3, 8, 9, 5, 6, 0, 4])
 | _ => ([], [])
noncomputable def Fag.jc0 : Code := ((kM (Tryz.f4.body.getD .skip)).filter fun a => zBs a == 18).getD 0 .skip
def Fag.j18.g {α : Type} (mk0 : Int → Int → LA → Int → LI → LI → LI → Int → Int → LI → LI → Int → Bool → LI → Int → Int → LI → LA → LI → LA → LA → LA → LA → LA → α) (n : Nat) (x0 x1 : Int) (x2 : LA) (x3 : Int) (x4 x5 x6 : LI) (x7 x8 : Int) (x9 x10 : LI) (x11 : Int) (x12 : Bool) (x13 : LI) (x14 x15 : Int) (x16 : LI) (x17 : LA) (x18 : LI) (x19 x20 : LA) (x21 x22 x23 : LA) : Option α :=
 if ((Int.tmod x7 9) == 3) = true then
 some (mk0 x0 x1 x2 x3 x4 x5 x6 x7 1 x9 x10 x11 x12 x13 x14 x15 x16 x17 x18 x19 x20 x21 x22 x23)
 else
 if ((Int.tmod x7 9) == 4) = true then
 some (mk0 x0 x1 x2 x3 x4 x5 x6 x7 1 x9 x10 x11 x12 x13 x14 x15 x16 x17 x18 x19 x20 x21 x22 x23)
 else
 some (mk0 x0 x1 x2 x3 x4 x5 x6 x7 x8 x9 x10 x11 x12 x13 x14 x15 x16 x17 x18 x19 x20 x21 x22 x23)
def Fag.j18.m (n : Nat) (t : Ty0) : Option Ty0 := Fag.j18.g (fun a0 a1 a2 a3 a4 a5 a6 a7 a8 a9 a10 a11 a12 a13 a14 a15 a16 a17 a18 a19 a20 a21 a22 a23 => (a0, a1, a2, a3, a4, a5, a6, a7, a8, a9, a10, a11, a12, a13, a14, a15, a16, a17, a18, a19, a20, a21, a22, a23)) n t.1 t.2.1 t.2.2.1 t.2.2.2.1 t.w.1 t.w.2.1 t.w.2.2.1 t.w.2.2.2.1 t.x.1 t.x.2.1 t.x.2.2.1 t.x.2.2.2.1 t.x.w.1 t.x.w.2.1 t.x.w.2.2.1 t.x.w.2.2.2.1 t.y.1 t.y.2.1 t.y.2.2.1 t.y.2.2.2.1 t.y.w.1 t.y.w.2.1 t.y.w.2.2.1 t.y.w.2.2.2
def Fag.j18.pat : St → Option Ty0
 | (St.mk [(.ptr 0 []), (.ptr 1 []), (.ptr 2 []), (.int .i64 x0), (.own 3 20), (.int .i64 x1), (.robjs 39 58 x2), (.ptr 4 [])] [(some (.var (.agg [(.int .u8 x3), (.ints .u8 20 x4), (.ints .u8 20 x5), (.ints .u64 4 x6), (.int .u8 x7), (.int .u8 x8), (.ints .u64 4 x9), (.ints .u64 4 x10), (.int .u64 x11), (.bool x12), (.rints .u8 x13)]))), (some (.var (.agg [(.own 5 0), (.own 6 0), (.rmap []), (.rmap []), (.own 7 0), (.rmap []), (.int .i64 x14), .snil, (.own 8 36), (.own 9 2), (.int .i64 x15)]))), (some (.var (.ints .u64 4 x16))), (some (.objs 23 20 x17)), (some (.var (.ints .u8 20 x18))), (some (.mp x19)), (some (.mp x20)), (some (.mp x21)), (some (.objs 104 36 x22)), (some (.objs 83 2 x23))]) => some (x0, x1, x2, x3, x4, x5, x6, x7, x8, x9, x10, x11, x12, x13, x14, x15, x16, x17, x18, x19, x20, x21, x22, x23)
 | _ => none
def Fag.j18.shape (t : Ty0) : St := (St.mk [(.ptr 0 []), (.ptr 1 []), (.ptr 2 []), (.int .i64 t.1), (.own 3 20), (.int .i64 t.2.1), (.robjs 39 58 t.2.2.1), (.ptr 4 [])] [(some (.var (.agg [(.int .u8 t.2.2.2.1), (.ints .u8 20 t.w.1), (.ints .u8 20 t.w.2.1), (.ints .u64 4 t.w.2.2.1), (.int .u8 t.w.2.2.2.1), (.int .u8 t.x.1), (.ints .u64 4 t.x.2.1), (.ints .u64 4 t.x.2.2.1), (.int .u64 t.x.2.2.2.1), (.bool t.x.w.1), (.rints .u8 t.x.w.2.1)]))), (some (.var (.agg [(.own 5 0), (.own 6 0), (.rmap []), (.rmap []), (.own 7 0), (.rmap []), (.int .i64 t.x.w.2.2.1), .snil, (.own 8 36), (.own 9 2), (.int .i64 t.x.w.2.2.2.1)]))), (some (.var (.ints .u64 4 t.y.1))), (some (.objs 23 20 t.y.2.1)), (some (.var (.ints .u8 20 t.y.2.2.1))), (some (.mp t.y.2.2.2.1)), (some (.mp t.y.w.1)), (some (.mp t.y.w.2.1)), (some (.objs 104 36 t.y.w.2.2.1)), (some (.objs 83 2 t.y.w.2.2.2))])
def Fag.j18.res : Ty0 → Ex × St
 | u => (.normal, (St.mk [(.ptr 0 []), (.ptr 1 []), (.ptr 2 []), (.int .i64 u.1), (.own 3 20), (.int .i64 u.2.1), (.robjs 39 58 u.2.2.1), (.ptr 4 [])] [(some (.var (.agg [(.int .u8 u.2.2.2.1), (.ints .u8 20 u.w.1), (.ints .u8 20 u.w.2.1), (.ints .u64 4 u.w.2.2.1), (.int .u8 u.w.2.2.2.1), (.int .u8 u.x.1), (.ints .u64 4 u.x.2.1), (.ints .u64 4 u.x.2.2.1), (.int .u64 u.x.2.2.2.1), (.bool u.x.w.1), (.rints .u8 u.x.w.2.1)]))), (some (.var (.agg [(.own 5 0), (.own 6 0), (.rmap []), (.rmap []), (.own 7 0), (.rmap []), (.int .i64 u.x.w.2.2.1), .snil, (.own 8 36), (.own 9 2), (.int .i64 u.x.w.2.2.2.1)]))), (some (.var (.ints .u64 4 u.y.1))), (some (.objs 23 20 u.y.2.1)), (some (.var (.ints .u8 20 u.y.2.2.1))), (some (.mp u.y.2.2.2.1)), (some (.mp u.y.w.1)), (some (.mp u.y.w.2.1)), (some (.objs 104 36 u.y.w.2.2.1)), (some (.objs 83 2 u.y.w.2.2.2))]))
def Fag.l7.r {α : Type} (mk0 : Bool → α) (mk1 : α) (n : Nat) (rc : Int → LA → LI → LA → Int → Int → LA → LA → LA → LA → LA → Option α)  (x0 : Int) (x1 : LA) (x2 : LI) (x3 : LA) (x4 x5 : Int) (x6 x7 : LA) (x8 x9 x10 : LA) : Option α :=
 if (decide (x0 < (x1.length : Int))) = true then
 if 0 ≤ x0 then
 if x0 < (x1.length : Int) then
 zD (tkAgg 11 (List.getD x1 (Int.toNat x0) AV.any)) fun r10 =>
 zD (tkInt .u8 (List.getD r10 0 AV.any)) fun r12 =>
 zD (tkInts .u8 20 (List.getD r10 1 AV.any)) fun r14 =>
 zD (tkInts .u8 20 (List.getD r10 2 AV.any)) fun r16 =>
 zD (tkInts .u64 4 (List.getD r10 3 AV.any)) fun r18 =>
 zD (tkInt .u8 (List.getD r10 4 AV.any)) fun r20 =>
 zD (tkInt .u8 (List.getD r10 5 AV.any)) fun r22 =>
 zD (tkInts .u64 4 (List.getD r10 6 AV.any)) fun r24 =>
 zD (tkInts .u64 4 (List.getD r10 7 AV.any)) fun r26 =>
 zD (tkInt .u64 (List.getD r10 8 AV.any)) fun r28 =>
 zD (tkBool (List.getD r10 9 AV.any)) fun r30 =>
 zD (tkRints .u8 (List.getD r10 10 AV.any)) fun r32 =>
 if (r14 == x2) = true then
 some (mk0 true)
 else
 if (r16 == x2) = true then
 some (mk0 true)
 else
 if ((((List.length x3) + 2) * 20) ≤ 70368744177664 ∧ ((List.length x3) + 2) ≤ 9223372036854775807) then
 zD (Fab.m n (x4, x5, x6, x7, x8, x9, x10)) fun r40 =>
 zD (Fi.m n (x2, r40.2.1, r40.2.2.1, r40.2.2.2.1, r40.w.1, r40.w.2.1, r40.w.2.2.1, r40.w.2.2.2)) fun r42 =>
 zD (Ff.m n (x2, [(IntKind.wrap .u64 ((List.getD r42.1 0 0) + (Int.tmod (List.getD r18 0 0) 1099511627776))), (List.getD r42.1 1 0), 0, 0], r42.2.1, r42.2.2.1, r42.2.2.2.1, r42.w.1, r42.w.2.1, r42.w.2.2.1, r42.w.2.2.2)) fun r44 =>
 zD (Fag.j18.m n (r40.1, x0, x1, r12, r14, r16, r18, r20, 0, r24, r26, r28, r30, r32, r44.1, r44.2.1, [(Int.tmod (List.getD r18 0 0) 1099511627776), 0, 0, 0], (x3 ++ [(AV.ints .u8 20 r14), (AV.ints .u8 20 r16)]), x2, r44.2.2.1, r44.2.2.2.1, r44.w.1, r44.w.2.2, r44.w.2.1)) fun r46 =>
 if ((Int.tmod r46.w.2.2.2.1 9) == 8) = true then
 zD (Fbn.m n (r46.2.2.2.1, r46.w.1, r46.w.2.1, r46.w.2.2.1, r46.w.2.2.2.1, r46.x.1, [(Int.tmod (List.getD r46.x.2.1 0 0) 1048576), 0, 0, 0], [(Int.tmod (List.getD r46.x.2.2.1 0 0) 2199023255552), 0, 0, 0], r46.x.2.2.2.1, r46.x.w.1, [])) fun r50 =>
 zD (Fbr.m n (r46.x.2.2.2.1, r46.w.1, r46.y.1, r50, r46.x.w.1, r46.x.w.2.2.1, r46.x.w.2.2.2.1, r46.y.2.2.2.1, r46.y.w.1, r46.y.w.2.1, r46.y.w.2.2.1, r46.y.w.2.2.2)) fun r52 =>
 if (!r52.1) = true then
 zD (Faa.m n (r46.1, r52.2.1, r52.2.2.1, r52.2.2.2.1, r52.w.1, r52.w.2.1, r52.x, r52.w.2.2.1)) fun r56 =>
 zD (Fbc.m n (r56.1, r56.2.1, r46.y.2.1, r56.2.2.1, r56.2.2.2.1, r56.w.1, r56.w.2.1, r56.w.2.2)) fun r58 =>
 if (!r58.1) = true then
 some (mk0 false)
 else
 rc (IntKind.wrap .i64 (r46.2.1 + 1)) r46.2.2.1 r46.y.2.2.1 r58.2.2.2.1 r58.2.1 r58.2.2.1 r58.w.1 r58.w.2.1 r58.w.2.2.1 r58.w.2.2.2.1 r58.x
 else
 zD (Fbc.m n (r52.2.1, r52.2.2.1, r46.y.2.1, r52.2.2.2.1, r52.w.1, r52.w.2.1, r52.x, r52.w.2.2.1)) fun r56 =>
 if (!r56.1) = true then
 some (mk0 false)
 else
 rc (IntKind.wrap .i64 (r46.2.1 + 1)) r46.2.2.1 r46.y.2.2.1 r56.2.2.2.1 r56.2.1 r56.2.2.1 r56.w.1 r56.w.2.1 r56.w.2.2.1 r56.w.2.2.2.1 r56.x
 else
 zD (Fbn.m n (r46.2.2.2.1, r46.w.1, r46.w.2.1, r46.w.2.2.1, r46.w.2.2.2.1, r46.x.1, [(Int.tmod (List.getD r46.x.2.1 0 0) 1048576), 0, 0, 0], [(Int.tmod (List.getD r46.x.2.2.1 0 0) 2199023255552), 0, 0, 0], r46.x.2.2.2.1, r46.x.w.1, r46.x.w.2.1)) fun r50 =>
 zD (Fbr.m n (r46.x.2.2.2.1, r46.w.1, r46.y.1, r50, r46.x.w.1, r46.x.w.2.2.1, r46.x.w.2.2.2.1, r46.y.2.2.2.1, r46.y.w.1, r46.y.w.2.1, r46.y.w.2.2.1, r46.y.w.2.2.2)) fun r52 =>
 if (!r52.1) = true then
 zD (Faa.m n (r46.1, r52.2.1, r52.2.2.1, r52.2.2.2.1, r52.w.1, r52.w.2.1, r52.x, r52.w.2.2.1)) fun r56 =>
 zD (Fbc.m n (r56.1, r56.2.1, r46.y.2.1, r56.2.2.1, r56.2.2.2.1, r56.w.1, r56.w.2.1, r56.w.2.2)) fun r58 =>
 if (!r58.1) = true then
 some (mk0 false)
 else
 rc (IntKind.wrap .i64 (r46.2.1 + 1)) r46.2.2.1 r46.y.2.2.1 r58.2.2.2.1 r58.2.1 r58.2.2.1 r58.w.1 r58.w.2.1 r58.w.2.2.1 r58.w.2.2.2.1 r58.x
 else
 zD (Fbc.m n (r52.2.1, r52.2.2.1, r46.y.2.1, r52.2.2.2.1, r52.w.1, r52.w.2.1, r52.x, r52.w.2.2.1)) fun r56 =>
 if (!r56.1) = true then
 some (mk0 false)
 else
 rc (IntKind.wrap .i64 (r46.2.1 + 1)) r46.2.2.1 r46.y.2.2.1 r56.2.2.2.1 r56.2.1 r56.2.2.1 r56.w.1 r56.w.2.1 r56.w.2.2.1 r56.w.2.2.2.1 r56.x
 else
 none
 else
 none
 else
 none
 else
 some (mk1)
def Fag.l7.g {α : Type} (mk0 : Bool → α) (mk1 : α) (n : Nat) : Nat → Int → LA → LI → LA → Int → Int → LA → LA → LA → LA → LA → Option α
 | 0, _, _, _, _, _, _, _, _, _, _, _ => none
 | m + 1, x0, x1, x2, x3, x4, x5, x6, x7, x8, x9, x10 => Fag.l7.r mk0 mk1 n (fun y0 y1 y2 y3 y4 y5 y6 y7 y8 y9 y10 => Fag.l7.g mk0 mk1 n m y0 y1 y2 y3 y4 y5 y6 y7 y8 y9 y10)  x0 x1 x2 x3 x4 x5 x6 x7 x8 x9 x10
def Fag.l7.m (n m : Nat) (t : zLP) : Option (Bool ⊕ Unit) := Fag.l7.g (fun a0 => (.inl a0)) (.inr ()) n m t.1 t.2.1 t.2.2.1 t.2.2.2.1 t.w.1 t.w.2.1 t.w.2.2.1 t.w.2.2.2.1 t.x.1 t.x.2.1 t.x.2.2
def Fag.l7.pat : St → Option zLP
 | (St.mk [(.int .i64 x0), (.robjs 39 58 x1), (.ptr 0 []), (.own 1 20), (.ptr 2 [])] [(some (.var (.ints .u8 20 x2))), (some (.objs 23 20 x3)), (some (.var (.agg [(.own 3 0), (.own 4 0), (.rmap []), (.rmap []), (.own 5 0), (.rmap []), (.int .i64 x4), .snil, (.own 6 36), (.own 7 2), (.int .i64 x5)]))), (some (.mp x6)), (some (.mp x7)), (some (.mp x8)), (some (.objs 104 36 x9)), (some (.objs 83 2 x10))]) => some (x0, x1, x2, x3, x4, x5, x6, x7, x8, x9, x10)
 | _ => none
def Fag.l7.shape (t : zLP) : St := (St.mk [(.int .i64 t.1), (.robjs 39 58 t.2.1), (.ptr 0 []), (.own 1 20), (.ptr 2 [])] [(some (.var (.ints .u8 20 t.2.2.1))), (some (.objs 23 20 t.2.2.2.1)), (some (.var (.agg [(.own 3 0), (.own 4 0), (.rmap []), (.rmap []), (.own 5 0), (.rmap []), (.int .i64 t.w.1), .snil, (.own 6 36), (.own 7 2), (.int .i64 t.w.2.1)]))), (some (.mp t.w.2.2.1)), (some (.mp t.w.2.2.2.1)), (some (.mp t.x.1)), (some (.objs 104 36 t.x.2.1)), (some (.objs 83 2 t.x.2.2))])
def Fag.l7.res : (Bool ⊕ Unit) → Ex × St
 | (.inl u) => (.ret, (St.mk [(.bool u)] []))
 | (.inr u) => ((.exit 0), (St.mk [.any] []))
def Fag.l7.resK {R : Type} (u : (Bool ⊕ Unit)) (K : Ex → St → Option R) : Option R := match u with
 | (.inl u) => (fun p : Ex × St => K p.1 p.2) (.ret, (St.mk [(.bool u)] []))
 | (.inr u) => (fun p : Ex × St => K p.1 p.2) ((.exit 0), (St.mk [.any] []))
noncomputable def Fag.A (n : Nat) : Ann := ⟨Tryz.f4.ntmps, 0, Fag.live, [(0, (.objs 39 58)), (5, (.objs 23 20))], [none], fun k => match k with
 | 7 => some (.mk' Fag.l7.pat (Fag.l7.m n n) Fag.l7.resK)
 | _ => none, Fag.jlive, zW [(18, .mk' Fag.j18.pat (Fag.j18.m n) (zQ Fag.j18.res))]⟩
noncomputable def Fag.b0 : Code := (zK (Tryz.f4.body.getD .skip)).getD 0 .skip
def Fag.g {α : Type} (mk0 : Bool → α) (n : Nat) (a0 : LA) : Option α :=
 zD (Fbu.m n ([], a0)) fun r2 =>
  if r2 = true then
   zD (Fbt.m n Unit.unit) fun r6 =>
    some (mk0 r6)
  else
   zD (Fbt.m n Unit.unit) fun r6 =>
    if (!r6) = true then
     zD (Fbt.m n Unit.unit) fun r10 =>
      some (mk0 r10)
    else
     zD (Fbs.m n []) fun r10 =>
      zD (Fbj.m n Unit.unit) fun r12 =>
       zD (Fag.l7.m n n (0, a0, r12, [], r10.1, r10.2.1, r10.2.2.1, r10.2.2.2.1, r10.w.1, r10.w.2.1, r10.w.2.2)) fun r14 => match r14 with
        | (.inl r14) =>
         some (mk0 r14)
        | (.inr r14) =>
         some (mk0 true)
def Fag.m (n : Nat) (t : LA) : Option Bool := Fag.g (fun a0 => a0) n t
def Fag.shape (t : LA) : List AV × zC := ([(.robjs 39 58 t)], [])
def Fag.res : Bool → AV × zC
 | u => ((.bool u), [])
noncomputable abbrev Far.R0 (n : Nat) := zT (Far.C n) (Far.A n) n Far.b0
def Far.l3.T {α : Type} (mk0 : Int → α) (n : Nat) (f : (Int × (LA × (Int × Int))) → Option α) (t : (Int × (LA × (Int × Int)))) : Option α := Far.l3.r mk0 n (fun y0 y1 y2 y3 => f (y0, y1, y2, y3)) t.1 t.2.1 t.2.2.1 t.2.2.2
theorem Far.l3.e : (Far.l3.T (fun a0 => a0) n f t).map Far.l3.res = Far.l3.T (fun a0 => Far.l3.res a0) n (fun y => (f y).map Far.l3.res) t := by
  unfold Far.l3.T Far.l3.r
  exact Eq.symm (zB (zB (zB (zB (zA fun r12 => (zA fun r14 => (zA fun r16 => (zA fun r18 => (zA fun r20 => (zA fun r22 => (zA fun r24 => (zB (zB (zA fun r30 => (zA fun r32 => (zA fun r34 => (zA fun r36 => (zA fun r38 => (zA fun r40 => (zA fun r42 => rfl))))))) rfl) rfl)))))))) rfl) rfl) rfl) rfl)
theorem Far.l3.q : ∀ st t, Far.l3.pat st = some t → st = Far.l3.shape t := fun _ _ h => by unfold Far.l3.pat at h; split at h <;> cases h; rfl
theorem Far.l3.d : Far.R0 n rc (Far.l3.shape t) = Far.l3.T (fun a0 => Far.l3.res a0) n (fun y => rc (Far.l3.shape y)) t := by kernel_rfl
theorem Far.l3.loop (n m : Nat) (t : (Int × (LA × (Int × Int)))) : zS (Far.R0 n) m (Far.l3.shape t) = (Far.l3.m n m t).map Far.l3.res :=
  zN (fun _ _ => Far.l3.e) (fun _ _ => Far.l3.d) (fun _ => rfl) (fun _ _ => by kernel_rfl) m t
theorem Far.run : yC (Far.C n) (Far.A n) n Tryz.f28 (Far.shape t) = (Far.m n t).map Far.res :=
  (show _ = Far.g (fun a0 => Far.res a0) n t.1 t.2 from by kernel_rfl).trans (by
    unfold Far.m Far.g
    exact (zA fun r2 => rfl))
theorem Far.s (hmix : HM) (n : Nat) : zE Tryz.prog zI 28 (Far.c n) :=
  .mkF (res := Far.res) (shape := Far.shape) (C := Far.C n) (A := Far.A n) (fun R u K => rfl) (fun _ _ _ h => by unfold Far.pat at h; split at h <;> cases h; rfl) rfl .nil hmix Tryz.func28 (by kernel_rfl) (lp := [Far.b0]) (by kernel_rfl) (.cons (show (Far.A n).loop (key Far.b0) = some (.mk' Far.l3.pat (Far.l3.m n n) (zQ Far.l3.res)) by kernel_rfl) (z5.of (res := Far.l3.res) (fun R u K => rfl) Far.l3.q fun t => Far.l3.loop n n t)
  .nil)
  (nj rfl) (by decide) (fun _ => rfl) rfl (fun _ => by show 2 ≤ Tryz.f28.ntmps; decide) (fun _ => Far.run)
noncomputable abbrev Fbu.R0 (n : Nat) := zT (Fbu.C n) (Fbu.A n) n Fbu.b0
def Fbu.l4.T {α : Type} (mk0 : Bool → α) (mk1 : α) (n : Nat) (f : (Int × LA) → Option α) (t : (Int × LA)) : Option α := Fbu.l4.r mk0 mk1 n (fun y0 y1 => f (y0, y1)) t.1 t.2
theorem Fbu.l4.e : (Fbu.l4.T (fun a0 => (.inl a0)) (.inr ()) n f t).map Fbu.l4.res = Fbu.l4.T (fun a0 => Fbu.l4.res (.inl a0)) (Fbu.l4.res (.inr ())) n (fun y => (f y).map Fbu.l4.res) t := by
  unfold Fbu.l4.T Fbu.l4.r
  exact Eq.symm (zB (zB (zB (zA fun r10 => (zA fun r12 => (zA fun r14 => (zA fun r16 => (zA fun r18 => (zA fun r20 => (zA fun r22 => (zA fun r24 => (zA fun r26 => (zA fun r28 => (zA fun r30 => (zA fun r32 => (zB rfl rfl))))))))))))) rfl) rfl) rfl)
theorem Fbu.l4.q : ∀ st t, Fbu.l4.pat st = some t → st = Fbu.l4.shape t := fun _ _ h => by unfold Fbu.l4.pat at h; split at h <;> cases h; rfl
theorem Fbu.l4.d : Fbu.R0 n rc (Fbu.l4.shape t) = Fbu.l4.T (fun a0 => Fbu.l4.res (.inl a0)) (Fbu.l4.res (.inr ())) n (fun y => rc (Fbu.l4.shape y)) t := by kernel_rfl
theorem Fbu.l4.loop (n m : Nat) (t : (Int × LA)) : zS (Fbu.R0 n) m (Fbu.l4.shape t) = (Fbu.l4.m n m t).map Fbu.l4.res :=
  zN (fun _ _ => Fbu.l4.e) (fun _ _ => Fbu.l4.d) (fun _ => rfl) (fun _ _ => by kernel_rfl) m t
theorem Fbu.run : yC (Fbu.C n) (Fbu.A n) n Tryz.f9 (Fbu.shape t) = (Fbu.m n t).map Fbu.res :=
  (show _ = Fbu.g (fun a0 => Fbu.res a0) n t.1 t.2 from by kernel_rfl).trans (by
    unfold Fbu.m Fbu.g
    exact (zA fun r2 => (zB rfl (zB rfl (zA fun r8 => match r8 with | (.inl r8) => rfl | (.inr r8) => rfl)))))
theorem Fbu.s (hmix : HM) (n : Nat) : zE Tryz.prog zI 9 (Fbu.c n) :=
  .mkF (res := Fbu.res) (shape := Fbu.shape) (C := Fbu.C n) (A := Fbu.A n) (fun R u K => rfl) (fun _ _ _ h => by unfold Fbu.pat at h; split at h <;> cases h; rfl) rfl (.cons (Far.s hmix n) .nil) hmix Tryz.func9 (by kernel_rfl) (lp := [Fbu.b0]) (by kernel_rfl) (.cons (show (Fbu.A n).loop (key Fbu.b0) = some (.mk' Fbu.l4.pat (Fbu.l4.m n n) Fbu.l4.resK) by kernel_rfl) (z5.of (res := Fbu.l4.res) (fun R u K => by rcases u with u | u <;> rfl) Fbu.l4.q fun t => Fbu.l4.loop n n t)
  .nil)
  (nj rfl) (by decide) (fun _ => rfl) rfl (fun _ => by show 2 ≤ Tryz.f9.ntmps; decide) (fun _ => Fbu.run)
theorem Fbj.run : yC (Fbj.C n) (Fbj.A n) n Tryz.f10 (Fbj.shape t) = (Fbj.m n t).map Fbj.res :=
  (show _ = Fbj.g (fun a0 => Fbj.res a0) n  from by kernel_rfl).trans (by
    unfold Fbj.m Fbj.g
    exact rfl)
theorem Fbj.s (hmix : HM) (n : Nat) : zE Tryz.prog zI 10 (Fbj.c n) :=
  .mkF (res := Fbj.res) (shape := Fbj.shape) (C := Fbj.C n) (A := Fbj.A n) (fun R u K => rfl) (fun _ _ _ h => by unfold Fbj.pat at h; split at h <;> cases h; rfl) rfl .nil hmix Tryz.func10 (by kernel_rfl) (lp := []) (by kernel_rfl) .nil
  (nj rfl) (by decide) (fun _ => rfl) rfl (fun _ => by show 0 ≤ Tryz.f10.ntmps; decide) (fun _ => Fbj.run)
theorem Fg.run : yC (Fg.C n) (Fg.A n) n Tryz.f46 (Fg.shape t) = (Fg.m n t).map Fg.res :=
  (show _ = Fg.g (fun a0 => Fg.res a0) n t.1 t.2.1 t.2.2.1 t.2.2.2 from by kernel_rfl).trans (by
    unfold Fg.m Fg.g
    exact rfl)
theorem Fg.s (hmix : HM) (n : Nat) : zE Tryz.prog zI 46 (Fg.c n) :=
  .mkF (res := Fg.res) (shape := Fg.shape) (C := Fg.C n) (A := Fg.A n) (fun R u K => rfl) (fun _ _ _ h => by unfold Fg.pat at h; split at h <;> cases h; rfl) rfl .nil hmix Tryz.func46 (by kernel_rfl) (lp := []) (by kernel_rfl) .nil
  (nj rfl) (by decide) (fun _ => rfl) rfl (fun _ => by show 3 ≤ Tryz.f46.ntmps; decide) (fun _ => Fg.run)
section
namespace Go.Abs
open Go Go.Proofs
def zCh : Code → Code
 | .seq _ b => b
 | c => c
def zEu : Code → Code
 | .seq a _ => a
 | c => c
def zMQ : Code → Code
 | .block _ b => b
 | c => c
def zOa : Code → Code
 | .loop b => b
 | c => c
def zFc : Code → Array Oper
 | .region _ ops _ => ops
 | _ => #[]
noncomputable def zMK : Code := Tryz.f45.body.getD .skip
noncomputable def dfLp : Code := zOa (zMQ (zCh zMK))
noncomputable def dfO0 : Array Oper := zFc (zEu zMK)
noncomputable def zMJ : Array Oper := zFc (zEu dfLp)
noncomputable def dfIn : Code := zCh (zCh dfLp)
theorem zNA : Tryz.f45.body = some (.seq (.region 0 dfO0 false) (.block 0 (.loop (.seq (.region 1 zMJ false) (.seq (.cond (.tmp 9) .skip (.exit 0)) dfIn))))) := by kernel_rfl
noncomputable def dfN : Oper := zMJ.getD 0 default
noncomputable def dfX : Oper := zMJ.getD 1 default
noncomputable def dfM0 : Oper := dfO0.getD 0 default
noncomputable def dfR0 : Oper := dfO0.getD 1 default
theorem zND : dfO0.toList = [dfM0, dfR0] := by kernel_rfl
theorem zNC : zMJ.toList = [dfN, dfX] := by kernel_rfl
theorem zOr : (dfN.op, dfN.dst, dfN.guard) = (.next (.tmp 7) false, some 8, none) := by kernel_rfl
theorem zOq : (dfX.op, dfX.dst, dfX.guard) = (.extract (.tmp 8) 0, some 9, none) := by kernel_rfl
theorem zNE : (dfM0.op, dfM0.dst, dfM0.guard) = (.move (.tmp 0), some 6, none) := by kernel_rfl
theorem zNB : (dfR0.op, dfR0.dst, dfR0.guard) = (.range 62 (.tmp 6), some 7, none) := by kernel_rfl
theorem zNz : Tryz.prog.underlying 62 = some (.map 76 26) := by kernel_rfl
theorem zDT {a : Act} {d : Nat} {v : Value} (h : d < a.tmps.size) : (a.put (some d) v).eval (.tmp d) = v := by
 show (a.put (some d) v).tmps.getD d undef = v
 rw [zCQ, if_pos ⟨rfl, h⟩]
theorem zHP {P : Program} {w : World} {vs : Array Value} {v : Value} (h : vs[0]? = some v) : (Instr.extract (.tuple vs) 0).run P w = .ok v w := by
 simp [Instr.extract, h]
theorem zKm {Q : Exit → Act → World → Prop} {act2 : Act} {W : World} {it r c0 : Nat} (sz2 : act2.tmps.size = 19) (e7 : act2.eval (.tmp 7) = .pointer (some ⟨it, 0, none⟩))
  (hi : W.heap[it]? = some (.mapIter (some r) c0 #[] c0)) (hh2 : W.heap[r]? = some (.map #[] c0)) (hq : ∀ a, a.defers = act2.defers → Q (.exit 0) a W) :
  Code.rounds Tryz.prog (.seq (.region 1 zMJ false) (.seq (.cond (.tmp 9) .skip (.exit 0)) dfIn)) Q 1 act2 W := by
 have hN := zOr
 have hX := zOq
 simp only [Prod.mk.injEq] at hN hX
 rw [rounds_succ]
 refine wp_seq (wp_region_list ?_)
 rw [zNC]
 rcases run_next_at (P := Tryz.prog) W dfN.type it r c0 c0 #[] #[] c0 hi hh2 (fun x hx => by simp at hx) (Nat.le_refl _) with ⟨h0, hrun⟩ | ⟨e, he, w1, hw1, hrun⟩
 ·refine zAn hN.2.2 (v := .tuple #[.bool false]) (W' := W) (by simp only [execOp, hN.1, e7, Sem.run_bind, hrun, Result.andThen_ok, Sem.run_pure]) ?_
  rw [hN.2.1]
  have e8 : (act2.put (some 8) (.tuple #[.bool false])).eval (.tmp 8) = .tuple #[.bool false] := zDT (by rw [sz2]; decide)
  refine zAn hX.2.2 (v := .bool false) (W' := W) (by simp only [execOp, hX.1, e8, Sem.run_bind, zHP (vs := #[.bool false]) (v := .bool false) rfl, Result.andThen_ok, Sem.run_pure]) ?_
  rw [hX.2.1]
  have e9 : ((act2.put (some 8) (.tuple #[.bool false])).put (some 9) (.bool false)).eval (.tmp 9) = .bool false := zDT (by rw [jO, sz2]; decide)
  refine wpList_nil ?_
  show Code.wp _ _ _ _ _
  refine wp_seq (wp_cond_false e9 (wp_exit ?_))
  show Q (.exit 0) _ _
  exact hq _ (by rw [qB, qB])
 ·simp [leftOf] at he
set_option maxHeartbeats 2000000 in
theorem zOp (x : AV) : FnC Tryz.prog zI 45 [.own 0 0, x] [some (.mp [])] (.tup []) [some (.mp [])] := by
 intro E vs hbl m g ha
 have hsz : vs.size = 2 := ha.size
 obtain ⟨v0, v1, rfl⟩ : ∃ v0 v1, vs = #[v0, v1] := by
  match vs, hsz with
  | ⟨[x, y]⟩, _ => exact ⟨x, y, rfl⟩
 have h0 := ha.vr 0 _ v0 rfl rfl
 have hb0 : zF E.bl 0 = some (.mp []) := by rw [hbl]; rfl
 obtain ⟨es, c0, rfl, hh, hs, hst, hen, hat⟩ := zHW m hb0 h0
 have hes : es = #[] := by
  cases es with | mk l => cases l with | nil => rfl | cons y r => simp at hs
 subst hes
 refine calls_of_wp Tryz.func45 zNA ?_
 refine wp_seq (wp_region_list ?_)
 rw [zND]
 have hM := zNE
 have hR := zNB
 simp only [Prod.mk.injEq] at hM hR
 generalize hact : ({ tmps := #[.map (some (E.loc 0).1), v1] ++ Array.replicate (Tryz.f45.ntmps - (#[.map (some (E.loc 0).1), v1] : Array Value).size) undef, defers := [] } : Act) = act
 have hT : Tryz.f45.ntmps = 19 := by kernel_rfl
 rw [hT] at hact
 have a0 : act.eval (.tmp 0) = .map (some (E.loc 0).1) := by
  subst hact
  rfl
 have asz : act.tmps.size = 19 := by subst hact; simp
 have adf : act.defers = [] := by subst hact; rfl
 refine zAn hM.2.2 (v := .map (some (E.loc 0).1)) (W' := E.w) (by simp only [execOp, hM.1, a0, Sem.run_pure]) ?_
 rw [hM.2.1]
 have e6 : (act.put (some 6) (.map (some (E.loc 0).1))).eval (.tmp 6) = .map (some (E.loc 0).1) := zDT (by rw [asz]; decide)
 refine zAn hR.2.2 (v := .pointer (some ⟨E.w.heap.size, 0, none⟩)) (W' := E.w.alloc (.mapIter (some (E.loc 0).1) c0 #[] c0)) (by simp only [execOp, hR.1, e6, Sem.run_bind, run_range_map E.w 62 76 26 _ #[] c0 zNz hh, Result.andThen_ok, Sem.run_pure]) ?_
 rw [hR.2.1]
 refine wpList_nil ?_
 show Code.wp _ _ _ _ _
 refine wp_block (wp_loop_rounds 1 ?_)
 have hB : RowKit.Below E.w.heap.size E.w (E.w.alloc (.mapIter (some (E.loc 0).1) c0 #[] c0)) := (RowKit.Below.refl _ _).alloc (Nat.le_refl _) _
 have g1 : Go E { E with w := E.w.alloc (.mapIter (some (E.loc 0).1) c0 #[] c0) } := Go.below m hB
 generalize hact2 : ((act.put (some 6) (.map (some (E.loc 0).1))).put (some 7) (.pointer (some ⟨E.w.heap.size, 0, none⟩))) = act2
 have sz2 : act2.tmps.size = 19 := by subst hact2; rw [jO, jO, asz]
 have df2 : act2.defers = [] := by subst hact2; rw [qB, qB, adf]
 have e7 : act2.eval (.tmp 7) = .pointer (some ⟨E.w.heap.size, 0, none⟩) := by subst hact2; exact zDT (by rw [jO, asz]; decide)
 have hi : (E.w.alloc (.mapIter (some (E.loc 0).1) c0 #[] c0)).heap[E.w.heap.size]? = some (.mapIter (some (E.loc 0).1) c0 #[] c0) := by
  show (E.w.heap.push _)[E.w.heap.size]? = _
  simp
 have hh2 : (E.w.alloc (.mapIter (some (E.loc 0).1) c0 #[] c0)).heap[(E.loc 0).1]? = some (.map #[] c0) := (hB.block _ (Array.getElem?_eq_some_iff.1 hh).1).trans hh
 refine zKm sz2 e7 hi hh2 fun a ha => ?_
 simp only [Exit.inBlock, if_true, bodyPost]
 exact ⟨by rw [ha, df2], .tuple #[], by rw [show results Tryz.f45 _ = pure (.tuple #[]) by kernel_rfl]; rfl, .tuple #[], rfl, { E with w := E.w.alloc (.mapIter (some (E.loc 0).1) c0 #[] c0) }, rfl, hbl, g1, .tup _ _ _ rfl fun j x c h => by simp at h⟩
end Go.Abs
end
theorem Fa.ok (hmix : HM) (n : Nat) (t) (u) (h : Fa.m n t = some u) : zEB Tryz.prog zI 45 (Fa.shape t).1 (Fa.shape t).2 (Fa.res u).1 (Fa.res u).2 := by
  obtain ⟨a, l⟩ := t
  cases l with
  | nil => cases h; exact (zOp _).ok Tryz.func45 (by decide) (by kernel_rfl)
  | cons x r => cases h
theorem Fa.s (hmix : HM) (n : Nat) : zE Tryz.prog zI 45 (Fa.c n) :=
  zE.of (res := Fa.res) (shape := Fa.shape) (fun R u K => rfl) (fun args lent t h => by
    unfold Fa.pat at h
    split at h
    · cases h; rfl
    · cases h) fun t u h => Fa.ok hmix n t u h
theorem Fp.run : yC (Fp.C n) (Fp.A n) n Tryz.f22 (Fp.shape t) = (Fp.m n t).map Fp.res :=
  (show _ = Fp.g (fun a0 a1 a2 a3 => Fp.res (a0, a1, a2, a3)) n t.1 t.2.1 t.2.2.1 t.2.2.2.1 t.w from by kernel_rfl).trans (by
    unfold Fp.m Fp.g
    exact (zA fun r2 => (zA fun r4 => rfl)))
theorem Fp.s (hmix : HM) (n : Nat) : zE Tryz.prog zI 22 (Fp.c n) :=
  .mkF (res := Fp.res) (shape := Fp.shape) (C := Fp.C n) (A := Fp.A n) (fun R u K => rfl) (fun _ _ _ h => by unfold Fp.pat at h; split at h <;> cases h; rfl) rfl (.cons (Fg.s hmix n) (.cons (Fa.s hmix n) .nil)) hmix Tryz.func22 (by kernel_rfl) (lp := []) (by kernel_rfl) .nil
  (nj rfl) (by decide) (fun _ => rfl) rfl (fun _ => by show 2 ≤ Tryz.f22.ntmps; decide) (fun _ => Fp.run)
theorem Fu.run : yC (Fu.C n) (Fu.A n) n Tryz.f23 (Fu.shape t) = (Fu.m n t).map Fu.res :=
  (show _ = Fu.g (fun a0 a1 a2 a3 a4 => Fu.res (a0, a1, a2, a3, a4)) n t.1 t.2.1 t.2.2.1 t.2.2.2 from by kernel_rfl).trans (by
    unfold Fu.m Fu.g
    exact rfl)
theorem Fu.s (hmix : HM) (n : Nat) : zE Tryz.prog zI 23 (Fu.c n) :=
  .mkF (res := Fu.res) (shape := Fu.shape) (C := Fu.C n) (A := Fu.A n) (fun R u K => rfl) (fun _ _ _ h => by unfold Fu.pat at h; split at h <;> cases h; rfl) rfl .nil hmix Tryz.func23 (by kernel_rfl) (lp := []) (by kernel_rfl) .nil
  (nj rfl) (by decide) (fun _ => rfl) rfl (fun _ => by show 1 ≤ Tryz.f23.ntmps; decide) (fun _ => Fu.run)
