/- What the program's functions compute, as plain functions, each with its proof: the function does just that. Condition: the plain function has an answer. -/
import Derived.Test.YtkknbhapkdgcjaaDoorAbsP8
import Derived.Test.YtkknbhapkdgcjaaDoorProg
import Derived.Test.YtkknbhapkdgcjaaDoorFnRulesStakes1
import Derived.Test.YtkknbhapkdgcjaaDoorFnRulesStakes2
set_option linter.unusedVariables false
set_option linter.unusedSimpArgs false
set_option maxRecDepth 100000
open Go Go.Abs Go.Proofs
set_option autoImplicit true
set_option relaxedAutoImplicit true
noncomputable section
noncomputable def Fbw.C (n : Nat) : Ctx := ⟨Tryd.prog, kecG, lookC [(86, Fbv.c n)], fun _ => false⟩
def Fbw.live : NL := fun k => match k with
 | 3 => ([4, 3, 1, 2], [3, 2])
 | _ => ([], [])
def Fbw.l3_0.r {α : Type} (mk0 : LI → LI → α) (n : Nat) (rc : Int → LI → LI → LI → Option α)  (x0 : Int) (x1 x2 x3 : LI) : Option α :=
 if (decide (x0 < 20)) = true then
 if 0 ≤ x0 then
 if x0 < 20 then
 if ((((List.length x1) + 1) * 1) ≤ 70368744177664 ∧ ((List.length x1) + 1) ≤ 9223372036854775807) then
 rc (IntKind.wrap .i64 (x0 + 1)) (x1 ++ [(List.getD x2 (Int.toNat x0) 0)]) x2 x3
 else
 none
 else
 none
 else
 none
 else
 some (mk0 x1 x3)
def Fbw.l3_0.g {α : Type} (mk0 : LI → LI → α) (n : Nat) : Nat → Int → LI → LI → LI → Option α
 | 0, _, _, _, _ => none
 | m + 1, x0, x1, x2, x3 => Fbw.l3_0.r mk0 n (fun y0 y1 y2 y3 => Fbw.l3_0.g mk0 n m y0 y1 y2 y3)  x0 x1 x2 x3
def Fbw.l3_0.m (n m : Nat) (t : (Int × (LI × (LI × LI)))) : Option (LI × LI) := Fbw.l3_0.g (fun a0 a1 => (a0, a1)) n m t.1 t.2.1 t.2.2.1 t.2.2.2
def Fbw.l3_0.pat : St → Option (Int × (LI × (LI × LI)))
 | (St.mk [(.int .i64 x0), (.own 0 1), (.ptr 1 []), (.ptr 2 [])] [(some (.ints .u8 x1)), (some (.var (.ints .u8 20 x2))), (some (.var (.ints .u64 4 x3)))]) => some (x0, x1, x2, x3)
 | _ => none
def Fbw.l3_0.shape (t : (Int × (LI × (LI × LI)))) : St := (St.mk [(.int .i64 t.1), (.own 0 1), (.ptr 1 []), (.ptr 2 [])] [(some (.ints .u8 t.2.1)), (some (.var (.ints .u8 20 t.2.2.1))), (some (.var (.ints .u64 4 t.2.2.2)))])
def Fbw.l3_0.res : (LI × LI) → Ex × St
 | u => ((.exit 0), (St.mk [(.own 0 1), (.ptr 1 [])] [(some (.ints .u8 u.1)), (some (.var (.ints .u64 4 u.2)))]))
noncomputable def Fbw.A (n : Nat) : Ann := ⟨Tryd.f81.ntmps, 0, Fbw.live, [(3, (.ints .u8))], [none], fun k => match k with
 | 3 => some (.mk' Fbw.l3_0.pat (Fbw.l3_0.m n n) (resKl Fbw.l3_0.res))
 | _ => none, noNL, lookJ []⟩
noncomputable def Fbw.b0 : Code := (loopsIn (Tryd.f81.body.getD .skip)).getD 0 .skip
def Fbw.g {α : Type} (mk0 : LI → α) (n : Nat) (a0 : LI) : Option α :=
 bindO (Fbw.l3_0.m n n (0, [], a0, [0, 0, 0, 0])) fun r2 =>
 bindO (Fbv.m n r2.1) fun r4 =>
 some (mk0 r4)
def Fbw.m (n : Nat) (t : LI) : Option LI := Fbw.g (fun a0 => a0) n t
def Fbw.pat : List AV → Blks → Option LI
 | [(.ints .u8 20 a0)], [] => some a0
 | _, _ => none
def Fbw.shape (t : LI) : List AV × Blks := ([(.ints .u8 20 t)], [])
def Fbw.res : LI → AV × Blks
 | u => ((.ints .u64 4 u), [])
def Fbw.c (n : Nat) : Abs.Callee := .mk' [] [none] Fbw.pat (Fbw.m n) (resKof Fbw.res)
noncomputable def Fbx.C (n : Nat) : Ctx := ⟨Tryd.prog, kecG, lookC [(46, Fbr.c n)], fun _ => false⟩
noncomputable def Fbx.A (n : Nat) : Ann := ⟨Tryd.f23.ntmps, 0, noNL, [], [none], fun k => match k with
 | _ => none, noNL, lookJ []⟩
def Fbx.g {α : Type} (mk0 : Int → α) (n : Nat) (a0 a1 : LI) : Option α :=
 bindO (Fbr.m n (a0, a1)) fun r2 =>
 if r2.2 = true then
 some (mk0 (-1))
 else
 if (a0 == a1) = true then
 some (mk0 0)
 else
 some (mk0 1)
def Fbx.m (n : Nat) (t : (LI × LI)) : Option Int := Fbx.g (fun a0 => a0) n t.1 t.2
def Fbx.pat : List AV → Blks → Option (LI × LI)
 | [(.ints .u64 4 a0), (.ints .u64 4 a1)], [] => some (a0, a1)
 | _, _ => none
def Fbx.shape (t : (LI × LI)) : List AV × Blks := ([(.ints .u64 4 t.1), (.ints .u64 4 t.2)], [])
def Fbx.res : Int → AV × Blks
 | u => ((.int .i64 u), [])
def Fbx.c (n : Nat) : Abs.Callee := .mk' [] [none, none] Fbx.pat (Fbx.m n) (resKof Fbx.res)
noncomputable def Fby.C (n : Nat) : Ctx := ⟨Tryd.prog, kecG, lookC [], fun _ => false⟩
noncomputable def Fby.A (n : Nat) : Ann := ⟨Tryd.f29.ntmps, 0, noNL, [], [(some (.ints .u8))], fun k => match k with
 | _ => none, noNL, lookJ []⟩
def Fby.g {α : Type} (mk0 : LI → α) (n : Nat) (a0 : LI) : Option α :=
 if (((List.length a0) * 1) ≤ 70368744177664 ∧ (List.length a0) ≤ 9223372036854775807) then
 some (mk0 a0)
 else
 none
def Fby.m (n : Nat) (t : LI) : Option LI := Fby.g (fun a0 => a0) n t
def Fby.pat : List AV → Blks → Option LI
 | [(.rints .u8 a0)], [] => some a0
 | _, _ => none
def Fby.shape (t : LI) : List AV × Blks := ([(.rints .u8 t)], [])
def Fby.res : LI → AV × Blks
 | u => ((.own 0 1), [(some (.ints .u8 u))])
def Fby.c (n : Nat) : Abs.Callee := .mk' [] [(some (.ints .u8))] Fby.pat (Fby.m n) (resKof Fby.res)
noncomputable def Fbz.C (n : Nat) : Ctx := ⟨Tryd.prog, kecG, lookC [], fun _ => false⟩
def Fbz.live : NL := fun k => match k with
 | 2 => ([5, 2, 3], [4])
 | _ => ([], [])
def Fbz.l2_0.r {α : Type} (mk0 : Bool → α) (mk1 : α) (n : Nat) (rc : Int → LI → LI → Option α)  (x0 : Int) (x1 x2 : LI) : Option α :=
 if (decide (x0 < 20)) = true then
 if 0 ≤ x0 then
 if x0 < 20 then
 if 0 ≤ x0 then
 if x0 < 20 then
 if ((List.getD x1 (Int.toNat x0) 0) != (List.getD x2 (Int.toNat x0) 0)) = true then
 if 0 ≤ x0 then
 if x0 < 20 then
 if 0 ≤ x0 then
 if x0 < 20 then
 some (mk0 (decide ((List.getD x1 (Int.toNat x0) 0) < (List.getD x2 (Int.toNat x0) 0))))
 else
 none
 else
 none
 else
 none
 else
 none
 else
 rc (IntKind.wrap .i64 (x0 + 1)) x1 x2
 else
 none
 else
 none
 else
 none
 else
 none
 else
 some (mk1)
def Fbz.l2_0.g {α : Type} (mk0 : Bool → α) (mk1 : α) (n : Nat) : Nat → Int → LI → LI → Option α
 | 0, _, _, _ => none
 | m + 1, x0, x1, x2 => Fbz.l2_0.r mk0 mk1 n (fun y0 y1 y2 => Fbz.l2_0.g mk0 mk1 n m y0 y1 y2)  x0 x1 x2
def Fbz.l2_0.m (n m : Nat) (t : (Int × (LI × LI))) : Option (Bool ⊕ Unit) := Fbz.l2_0.g (fun a0 => (.inl a0)) (.inr ()) n m t.1 t.2.1 t.2.2
def Fbz.l2_0.pat : St → Option (Int × (LI × LI))
 | (St.mk [(.int .i64 x0), (.ptr 0 []), (.ptr 1 [])] [(some (.var (.ints .u8 20 x1))), (some (.var (.ints .u8 20 x2)))]) => some (x0, x1, x2)
 | _ => none
def Fbz.l2_0.shape (t : (Int × (LI × LI))) : St := (St.mk [(.int .i64 t.1), (.ptr 0 []), (.ptr 1 [])] [(some (.var (.ints .u8 20 t.2.1))), (some (.var (.ints .u8 20 t.2.2)))])
def Fbz.l2_0.res : (Bool ⊕ Unit) → Ex × St
 | (.inl u) => (.ret, (St.mk [(.bool u)] []))
 | (.inr u) => ((.exit 0), (St.mk [.any] []))
def Fbz.l2_0.resK {R : Type} (u : (Bool ⊕ Unit)) (K : Ex → St → Option R) : Option R := match u with
 | (.inl u) => (fun p : Ex × St => K p.1 p.2) (.ret, (St.mk [(.bool u)] []))
 | (.inr u) => (fun p : Ex × St => K p.1 p.2) ((.exit 0), (St.mk [.any] []))
noncomputable def Fbz.A (n : Nat) : Ann := ⟨Tryd.f49.ntmps, 0, Fbz.live, [], [none], fun k => match k with
 | 2 => some (.mk' Fbz.l2_0.pat (Fbz.l2_0.m n n) Fbz.l2_0.resK)
 | _ => none, noNL, lookJ []⟩
noncomputable def Fbz.b0 : Code := (loopsIn (Tryd.f49.body.getD .skip)).getD 0 .skip
def Fbz.g {α : Type} (mk0 : Bool → α) (n : Nat) (a0 a1 : LI) : Option α :=
 bindO (Fbz.l2_0.m n n (0, a0, a1)) fun r2 => match r2 with
  | (.inl r2) =>
   some (mk0 r2)
  | (.inr r2) =>
   some (mk0 false)
def Fbz.m (n : Nat) (t : (LI × LI)) : Option Bool := Fbz.g (fun a0 => a0) n t.1 t.2
def Fbz.pat : List AV → Blks → Option (LI × LI)
 | [(.ints .u8 20 a0), (.ints .u8 20 a1)], [] => some (a0, a1)
 | _, _ => none
def Fbz.shape (t : (LI × LI)) : List AV × Blks := ([(.ints .u8 20 t.1), (.ints .u8 20 t.2)], [])
def Fbz.res : Bool → AV × Blks
 | u => ((.bool u), [])
def Fbz.c (n : Nat) : Abs.Callee := .mk' [] [none, none] Fbz.pat (Fbz.m n) (resKof Fbz.res)
noncomputable def Fal.C (n : Nat) : Ctx := ⟨Tryd.prog, kecG, lookC [(49, Fbz.c n)], fun t => t == 3013000 || t == 3013007⟩
def Fal.live : NL := fun k => match k with
 | 4 => ([8, 0, 7, 4, 6, 5], [7, 6, 4, 5, 0])
 | _ => ([], [])
def Fal.l4_0.r {α : Type} (mk0 : Bool → LA → Int → Int → LA → LI → Int → LI → LI → LA → α) (n : Nat) (rc : Int → Bool → LA → Int → Int → LI → LA → Int → LI → LI → LA → Option α)  (x0 : Int) (x1 : Bool) (x2 : LA) (x3 x4 : Int) (x5 : LI) (x6 : LA) (x7 : Int) (x8 x9 : LI) (x10 : LA) : Option α :=
 if (decide (x0 < (x2.length : Int))) = true then
 if (!x1) = true then
 if 0 ≤ x0 then
 if x0 < (x2.length : Int) then
 bindO (tkAgg 2 (List.getD x2 (Int.toNat x0) AV.any)) fun r12 =>
 bindO (tkInts .u8 20 (List.getD r12 0 AV.any)) fun r14 =>
 bindO (tkAgg 4 (List.getD r12 1 AV.any)) fun r16 =>
 bindO (tkInt .u64 (List.getD r16 0 AV.any)) fun r18 =>
 bindO (tkInts .u64 4 (List.getD r16 1 AV.any)) fun r20 =>
 bindO (tkRints .u8 (List.getD r16 2 AV.any)) fun r22 =>
 bindO (tkRobjs 77 8 (List.getD r16 3 AV.any)) fun r24 =>
 bindO (Fbz.m n (r14, x5)) fun r26 =>
 if (!r26) = true then
 if ((((List.length x6) + 1) * 112) ≤ 70368744177664 ∧ ((List.length x6) + 1) ≤ 9223372036854775807) then
 if 0 ≤ x0 then
 if x0 < (x2.length : Int) then
 bindO (tkAgg 2 (List.getD x2 (Int.toNat x0) AV.any)) fun r36 =>
 bindO (tkInts .u8 20 (List.getD r36 0 AV.any)) fun r38 =>
 bindO (tkAgg 4 (List.getD r36 1 AV.any)) fun r40 =>
 bindO (tkInt .u64 (List.getD r40 0 AV.any)) fun r42 =>
 bindO (tkInts .u64 4 (List.getD r40 1 AV.any)) fun r44 =>
 bindO (tkRints .u8 (List.getD r40 2 AV.any)) fun r46 =>
 bindO (tkRobjs 77 8 (List.getD r40 3 AV.any)) fun r48 =>
 if (!(r38 == x5)) = true then
 if 0 ≤ x0 then
 if x0 < (x2.length : Int) then
 bindO (tkAgg 2 (List.getD x2 (Int.toNat x0) AV.any)) fun r56 =>
 bindO (tkInts .u8 20 (List.getD r56 0 AV.any)) fun r58 =>
 bindO (tkAgg 4 (List.getD r56 1 AV.any)) fun r60 =>
 bindO (tkInt .u64 (List.getD r60 0 AV.any)) fun r62 =>
 bindO (tkInts .u64 4 (List.getD r60 1 AV.any)) fun r64 =>
 bindO (tkRints .u8 (List.getD r60 2 AV.any)) fun r66 =>
 bindO (tkRobjs 77 8 (List.getD r60 3 AV.any)) fun r68 =>
 if ((((List.length (x6 ++ [(AV.agg [(AV.ints .u8 20 x5), (AV.agg [(AV.int .u64 x7), (AV.ints .u64 4 x8), (AV.rints .u8 x9), (AV.robjs 77 8 x10)])])])) + 1) * 112) ≤ 70368744177664 ∧ ((List.length (x6 ++ [(AV.agg [(AV.ints .u8 20 x5), (AV.agg [(AV.int .u64 x7), (AV.ints .u64 4 x8), (AV.rints .u8 x9), (AV.robjs 77 8 x10)])])])) + 1) ≤ 9223372036854775807) then
 rc (IntKind.wrap .i64 (x0 + 1)) true x2 x3 x4 x5 ((x6 ++ [(AV.agg [(AV.ints .u8 20 x5), (AV.agg [(AV.int .u64 x7), (AV.ints .u64 4 x8), (AV.rints .u8 x9), (AV.robjs 77 8 x10)])])]) ++ [(AV.agg [(AV.ints .u8 20 r58), (AV.agg [(AV.int .u64 r62), (AV.ints .u64 4 r64), (AV.rints .u8 r66), (AV.robjs 77 8 r68)])])]) x7 x8 x9 x10
 else
 none
 else
 none
 else
 none
 else
 rc (IntKind.wrap .i64 (x0 + 1)) true x2 x3 x4 x5 (x6 ++ [(AV.agg [(AV.ints .u8 20 x5), (AV.agg [(AV.int .u64 x7), (AV.ints .u64 4 x8), (AV.rints .u8 x9), (AV.robjs 77 8 x10)])])]) x7 x8 x9 x10
 else
 none
 else
 none
 else
 none
 else
 if 0 ≤ x0 then
 if x0 < (x2.length : Int) then
 bindO (tkAgg 2 (List.getD x2 (Int.toNat x0) AV.any)) fun r34 =>
 bindO (tkInts .u8 20 (List.getD r34 0 AV.any)) fun r36 =>
 bindO (tkAgg 4 (List.getD r34 1 AV.any)) fun r38 =>
 bindO (tkInt .u64 (List.getD r38 0 AV.any)) fun r40 =>
 bindO (tkInts .u64 4 (List.getD r38 1 AV.any)) fun r42 =>
 bindO (tkRints .u8 (List.getD r38 2 AV.any)) fun r44 =>
 bindO (tkRobjs 77 8 (List.getD r38 3 AV.any)) fun r46 =>
 if (!(r36 == x5)) = true then
 if 0 ≤ x0 then
 if x0 < (x2.length : Int) then
 bindO (tkAgg 2 (List.getD x2 (Int.toNat x0) AV.any)) fun r54 =>
 bindO (tkInts .u8 20 (List.getD r54 0 AV.any)) fun r56 =>
 bindO (tkAgg 4 (List.getD r54 1 AV.any)) fun r58 =>
 bindO (tkInt .u64 (List.getD r58 0 AV.any)) fun r60 =>
 bindO (tkInts .u64 4 (List.getD r58 1 AV.any)) fun r62 =>
 bindO (tkRints .u8 (List.getD r58 2 AV.any)) fun r64 =>
 bindO (tkRobjs 77 8 (List.getD r58 3 AV.any)) fun r66 =>
 if ((((List.length x6) + 1) * 112) ≤ 70368744177664 ∧ ((List.length x6) + 1) ≤ 9223372036854775807) then
 rc (IntKind.wrap .i64 (x0 + 1)) x1 x2 x3 x4 x5 (x6 ++ [(AV.agg [(AV.ints .u8 20 r56), (AV.agg [(AV.int .u64 r60), (AV.ints .u64 4 r62), (AV.rints .u8 r64), (AV.robjs 77 8 r66)])])]) x7 x8 x9 x10
 else
 none
 else
 none
 else
 none
 else
 rc (IntKind.wrap .i64 (x0 + 1)) x1 x2 x3 x4 x5 x6 x7 x8 x9 x10
 else
 none
 else
 none
 else
 none
 else
 none
 else
 if 0 ≤ x0 then
 if x0 < (x2.length : Int) then
 bindO (tkAgg 2 (List.getD x2 (Int.toNat x0) AV.any)) fun r12 =>
 bindO (tkInts .u8 20 (List.getD r12 0 AV.any)) fun r14 =>
 bindO (tkAgg 4 (List.getD r12 1 AV.any)) fun r16 =>
 bindO (tkInt .u64 (List.getD r16 0 AV.any)) fun r18 =>
 bindO (tkInts .u64 4 (List.getD r16 1 AV.any)) fun r20 =>
 bindO (tkRints .u8 (List.getD r16 2 AV.any)) fun r22 =>
 bindO (tkRobjs 77 8 (List.getD r16 3 AV.any)) fun r24 =>
 if (!(r14 == x5)) = true then
 if 0 ≤ x0 then
 if x0 < (x2.length : Int) then
 bindO (tkAgg 2 (List.getD x2 (Int.toNat x0) AV.any)) fun r32 =>
 bindO (tkInts .u8 20 (List.getD r32 0 AV.any)) fun r34 =>
 bindO (tkAgg 4 (List.getD r32 1 AV.any)) fun r36 =>
 bindO (tkInt .u64 (List.getD r36 0 AV.any)) fun r38 =>
 bindO (tkInts .u64 4 (List.getD r36 1 AV.any)) fun r40 =>
 bindO (tkRints .u8 (List.getD r36 2 AV.any)) fun r42 =>
 bindO (tkRobjs 77 8 (List.getD r36 3 AV.any)) fun r44 =>
 if ((((List.length x6) + 1) * 112) ≤ 70368744177664 ∧ ((List.length x6) + 1) ≤ 9223372036854775807) then
 rc (IntKind.wrap .i64 (x0 + 1)) x1 x2 x3 x4 x5 (x6 ++ [(AV.agg [(AV.ints .u8 20 r34), (AV.agg [(AV.int .u64 r38), (AV.ints .u64 4 r40), (AV.rints .u8 r42), (AV.robjs 77 8 r44)])])]) x7 x8 x9 x10
 else
 none
 else
 none
 else
 none
 else
 rc (IntKind.wrap .i64 (x0 + 1)) x1 x2 x3 x4 x5 x6 x7 x8 x9 x10
 else
 none
 else
 none
 else
 some (mk0 x1 x2 x3 x4 x6 x5 x7 x8 x9 x10)
def Fal.l4_0.g {α : Type} (mk0 : Bool → LA → Int → Int → LA → LI → Int → LI → LI → LA → α) (n : Nat) : Nat → Int → Bool → LA → Int → Int → LI → LA → Int → LI → LI → LA → Option α
 | 0, _, _, _, _, _, _, _, _, _, _, _ => none
 | m + 1, x0, x1, x2, x3, x4, x5, x6, x7, x8, x9, x10 => Fal.l4_0.r mk0 n (fun y0 y1 y2 y3 y4 y5 y6 y7 y8 y9 y10 => Fal.l4_0.g mk0 n m y0 y1 y2 y3 y4 y5 y6 y7 y8 y9 y10)  x0 x1 x2 x3 x4 x5 x6 x7 x8 x9 x10
def Fal.l4_0.m (n m : Nat) (t : Ty17) : Option Ty19 := Fal.l4_0.g (fun a0 a1 a2 a3 a4 a5 a6 a7 a8 a9 => (a0, a1, a2, a3, a4, a5, a6, a7, a8, a9)) n m t.1 t.2.1 t.2.2.1 t.2.2.2.1 t.w.1 t.w.2.1 t.w.2.2.1 t.w.2.2.2.1 t.x.1 t.x.2.1 t.x.2.2
def Fal.l4_0.pat : St → Option Ty17
 | (St.mk [(.int .i64 x0), (.ptr 0 []), (.bool x1), (.ptr 1 []), (.own 2 27), (.ptr 3 [])] [(some (.var (.agg [(.robjs 72 27 x2), .snil, .snil, .snil, (.int .i64 x3), .snil, .snil, (.int .i64 x4), .snil, .snil]))), (some (.var (.ints .u8 20 x5))), (some (.objs 72 27 x6)), (some (.var (.agg [(.int .u64 x7), (.ints .u64 4 x8), (.rints .u8 x9), (.robjs 77 8 x10)])))]) => some (x0, x1, x2, x3, x4, x5, x6, x7, x8, x9, x10)
 | _ => none
def Fal.l4_0.shape (t : Ty17) : St := (St.mk [(.int .i64 t.1), (.ptr 0 []), (.bool t.2.1), (.ptr 1 []), (.own 2 27), (.ptr 3 [])] [(some (.var (.agg [(.robjs 72 27 t.2.2.1), .snil, .snil, .snil, (.int .i64 t.2.2.2.1), .snil, .snil, (.int .i64 t.w.1), .snil, .snil]))), (some (.var (.ints .u8 20 t.w.2.1))), (some (.objs 72 27 t.w.2.2.1)), (some (.var (.agg [(.int .u64 t.w.2.2.2.1), (.ints .u64 4 t.x.1), (.rints .u8 t.x.2.1), (.robjs 77 8 t.x.2.2)])))])
def Fal.l4_0.res : Ty19 → Ex × St
 | u => ((.exit 0), (St.mk [(.bool u.1), (.own 1 27), (.ptr 2 []), (.ptr 3 []), (.ptr 0 [])] [(some (.var (.agg [(.robjs 72 27 u.2.1), .snil, .snil, .snil, (.int .i64 u.2.2.1), .snil, .snil, (.int .i64 u.2.2.2.1), .snil, .snil]))), (some (.objs 72 27 u.w.1)), (some (.var (.ints .u8 20 u.w.2.1))), (some (.var (.agg [(.int .u64 u.w.2.2.1), (.ints .u64 4 u.w.2.2.2.1), (.rints .u8 u.x.1), (.robjs 77 8 u.x.2)])))]))
noncomputable def Fal.A (n : Nat) : Ann := ⟨Tryd.f28.ntmps, 1, Fal.live, [(6, (.objs 72 27))], [], fun k => match k with
 | 4 => some (.mk' Fal.l4_0.pat (Fal.l4_0.m n n) (resKl Fal.l4_0.res))
 | _ => none, noNL, lookJ []⟩
noncomputable def Fal.b0 : Code := (loopsIn (Tryd.f28.body.getD .skip)).getD 0 .skip
def Fal.g {α : Type} (mk0 : LA → Int → Int → α) (n : Nat) (a : LI) (nn : Int) (b c : LI) (s l : LA) (g x : Int) : Option α :=
 bindO (Fal.l4_0.m n n (0, false, l, g, x, a, [], nn, b, c, s)) fun r2 =>
 if (!r2.1) = true then
 if ((((List.length r2.w.1) + 1) * 112) ≤ 70368744177664 ∧ ((List.length r2.w.1) + 1) ≤ 9223372036854775807) then
 some (mk0 (r2.w.1 ++ [(AV.agg [(AV.ints .u8 20 r2.w.2.1), (AV.agg [(AV.int .u64 r2.w.2.2.1), (AV.ints .u64 4 r2.w.2.2.2.1), (AV.rints .u8 r2.x.1), (AV.robjs 77 8 r2.x.2)])])]) r2.2.2.1 r2.2.2.2.1)
 else
 none
 else
 some (mk0 r2.w.1 r2.2.2.1 r2.2.2.2.1)
def Fal.m (n : Nat) (t : Ty23) : Option (LA × (Int × Int)) := Fal.g (fun a0 a1 a2 => (a0, a1, a2)) n t.1 t.2.1 t.2.2.1 t.2.2.2.1 t.w.1 t.w.2.1 t.w.2.2.1 t.w.2.2.2
def Fal.pat : List AV → Blks → Option Ty23
 | [(.ptr 0 []), (.ints .u8 20 a), (.agg [(.int .u64 nn), (.ints .u64 4 b), (.rints .u8 c), (.robjs 77 8 s)])], [(some (.var (.agg [(.robjs 72 27 l), .snil, .snil, .snil, (.int .i64 g), .snil, .snil, (.int .i64 x), .snil, .snil])))] => some (a, nn, b, c, s, l, g, x)
 | _, _ => none
def Fal.shape (t : Ty23) : List AV × Blks := ([(.ptr 0 []), (.ints .u8 20 t.1), (.agg [(.int .u64 t.2.1), (.ints .u64 4 t.2.2.1), (.rints .u8 t.2.2.2.1), (.robjs 77 8 t.w.1)])], [(some (.var (.agg [(.robjs 72 27 t.w.2.1), .snil, .snil, .snil, (.int .i64 t.w.2.2.1), .snil, .snil, (.int .i64 t.w.2.2.2), .snil, .snil])))])
def Fal.res : (LA × (Int × Int)) → AV × Blks
 | u => ((.tup []), [(some (.var (.agg [(.robjs 72 27 u.1), .snil, .snil, .snil, (.int .i64 u.2.1), .snil, .snil, (.int .i64 u.2.2), .snil, .snil])))])
def Fal.c (n : Nat) : Abs.Callee := .mk' [true, false, false] [none, none, (some (.agg [none, none, (some (.ints .u8)), (some (.objs 77 8))]))] Fal.pat (Fal.m n) (resKof Fal.res)
noncomputable def Fap.C (n : Nat) : Ctx := ⟨Tryd.prog, kecG, lookC [], fun _ => false⟩
def Fap.live : NL := fun k => match k with
 | 2 => ([5, 0, 3], [4])
 | _ => ([], [])
def Fap.l2_0.r {α : Type} (mk0 : Int → α) (mk1 : α) (n : Nat) (rc : Int → LA → Int → Int → LI → Option α)  (x0 : Int) (x1 : LA) (x2 x3 : Int) (x4 : LI) : Option α :=
 if (decide (x0 < (x1.length : Int))) = true then
 if 0 ≤ x0 then
 if x0 < (x1.length : Int) then
 bindO (tkAgg 2 (List.getD x1 (Int.toNat x0) AV.any)) fun r10 =>
 bindO (tkInts .u8 20 (List.getD r10 0 AV.any)) fun r12 =>
 bindO (tkAgg 4 (List.getD r10 1 AV.any)) fun r14 =>
 bindO (tkInt .u64 (List.getD r14 0 AV.any)) fun r16 =>
 bindO (tkInts .u64 4 (List.getD r14 1 AV.any)) fun r18 =>
 bindO (tkRints .u8 (List.getD r14 2 AV.any)) fun r20 =>
 bindO (tkRobjs 77 8 (List.getD r14 3 AV.any)) fun r22 =>
 if (r12 == x4) = true then
 some (mk0 x0)
 else
 rc (IntKind.wrap .i64 (x0 + 1)) x1 x2 x3 x4
 else
 none
 else
 none
 else
 some (mk1)
def Fap.l2_0.g {α : Type} (mk0 : Int → α) (mk1 : α) (n : Nat) : Nat → Int → LA → Int → Int → LI → Option α
 | 0, _, _, _, _, _ => none
 | m + 1, x0, x1, x2, x3, x4 => Fap.l2_0.r mk0 mk1 n (fun y0 y1 y2 y3 y4 => Fap.l2_0.g mk0 mk1 n m y0 y1 y2 y3 y4)  x0 x1 x2 x3 x4
def Fap.l2_0.m (n m : Nat) (t : (Int × (LA × (Int × (Int × LI))))) : Option (Int ⊕ Unit) := Fap.l2_0.g (fun a0 => (.inl a0)) (.inr ()) n m t.1 t.2.1 t.2.2.1 t.2.2.2.1 t.w
def Fap.l2_0.pat : St → Option (Int × (LA × (Int × (Int × LI))))
 | (St.mk [(.int .i64 x0), (.rptr (.agg [(.robjs 72 27 x1), .snil, .snil, .snil, (.int .i64 x2), .snil, .snil, (.int .i64 x3), .snil, .snil])), (.ptr 0 [])] [(some (.var (.ints .u8 20 x4)))]) => some (x0, x1, x2, x3, x4)
 | _ => none
def Fap.l2_0.shape (t : (Int × (LA × (Int × (Int × LI))))) : St := (St.mk [(.int .i64 t.1), (.rptr (.agg [(.robjs 72 27 t.2.1), .snil, .snil, .snil, (.int .i64 t.2.2.1), .snil, .snil, (.int .i64 t.2.2.2.1), .snil, .snil])), (.ptr 0 [])] [(some (.var (.ints .u8 20 t.w)))])
def Fap.l2_0.res : (Int ⊕ Unit) → Ex × St
 | (.inl u) => (.ret, (St.mk [(.int .i64 u)] []))
 | (.inr u) => ((.exit 0), (St.mk [.any] []))
def Fap.l2_0.resK {R : Type} (u : (Int ⊕ Unit)) (K : Ex → St → Option R) : Option R := match u with
 | (.inl u) => (fun p : Ex × St => K p.1 p.2) (.ret, (St.mk [(.int .i64 u)] []))
 | (.inr u) => (fun p : Ex × St => K p.1 p.2) ((.exit 0), (St.mk [.any] []))
noncomputable def Fap.A (n : Nat) : Ann := ⟨Tryd.f70.ntmps, 0, Fap.live, [], [none], fun k => match k with
 | 2 => some (.mk' Fap.l2_0.pat (Fap.l2_0.m n n) Fap.l2_0.resK)
 | _ => none, noNL, lookJ []⟩
noncomputable def Fap.b0 : Code := (loopsIn (Tryd.f70.body.getD .skip)).getD 0 .skip
def Fap.g {α : Type} (mk0 : Int → α) (n : Nat) (l : LA) (g x : Int) (a : LI) : Option α :=
 bindO (Fap.l2_0.m n n (0, l, g, x, a)) fun r2 => match r2 with
  | (.inl r2) =>
   some (mk0 r2)
  | (.inr r2) =>
   some (mk0 (-1))
def Fap.m (n : Nat) (t : (LA × (Int × (Int × LI)))) : Option Int := Fap.g (fun a0 => a0) n t.1 t.2.1 t.2.2.1 t.2.2.2
def Fap.pat : List AV → Blks → Option (LA × (Int × (Int × LI)))
 | [(.rptr (.agg [(.robjs 72 27 l), .snil, .snil, .snil, (.int .i64 g), .snil, .snil, (.int .i64 x), .snil, .snil])), (.ints .u8 20 a)], [] => some (l, g, x, a)
 | _, _ => none
def Fap.shape (t : (LA × (Int × (Int × LI)))) : List AV × Blks := ([(.rptr (.agg [(.robjs 72 27 t.1), .snil, .snil, .snil, (.int .i64 t.2.1), .snil, .snil, (.int .i64 t.2.2.1), .snil, .snil])), (.ints .u8 20 t.2.2.2)], [])
def Fap.res : Int → AV × Blks
 | u => ((.int .i64 u), [])
def Fap.c (n : Nat) : Abs.Callee := .mk' [] [none, none] Fap.pat (Fap.m n) (resKof Fap.res)
noncomputable def Fam.C (n : Nat) : Ctx := ⟨Tryd.prog, kecG, lookC [(70, Fap.c n)], fun _ => false⟩
noncomputable def Fam.A (n : Nat) : Ann := ⟨Tryd.f50.ntmps, 1, noNL, [], [none], fun k => match k with
 | _ => none, noNL, lookJ []⟩
def Fam.g {α : Type} (mk0 : Int → LI → LA → Int → Int → α) (mk1 : Int → LI → LI → LA → LA → Int → Int → α) (n : Nat) (a : LI) (l : LA) (g x : Int) : Option α :=
 bindO (Fap.m n (l, g, x, a)) fun r2 =>
 if (decide (r2 < 0)) = true then
 some (mk0 0 [0, 0, 0, 0] l g x)
 else
 if 0 ≤ r2 then
 if r2 < (l.length : Int) then
 bindO (tkAgg 2 (List.getD l (Int.toNat r2) AV.any)) fun r10 =>
 bindO (tkInts .u8 20 (List.getD r10 0 AV.any)) fun r12 =>
 bindO (tkAgg 4 (List.getD r10 1 AV.any)) fun r14 =>
 bindO (tkInt .u64 (List.getD r14 0 AV.any)) fun r16 =>
 bindO (tkInts .u64 4 (List.getD r14 1 AV.any)) fun r18 =>
 bindO (tkRints .u8 (List.getD r14 2 AV.any)) fun r20 =>
 bindO (tkRobjs 77 8 (List.getD r14 3 AV.any)) fun r22 =>
 some (mk1 r16 r18 r20 r22 l g x)
 else
 none
 else
 none
def Fam.m (n : Nat) (t : (LI × (LA × (Int × Int)))) : Option ((Int × (LI × (LA × (Int × Int)))) ⊕ Ty26) := Fam.g (fun a0 a1 a2 a3 a4 => (.inl (a0, a1, a2, a3, a4))) (fun a0 a1 a2 a3 a4 a5 a6 => (.inr (a0, a1, a2, a3, a4, a5, a6))) n t.1 t.2.1 t.2.2.1 t.2.2.2
def Fam.pat : List AV → Blks → Option (LI × (LA × (Int × Int)))
 | [(.ptr 0 []), (.ints .u8 20 a)], [(some (.var (.agg [(.robjs 72 27 l), .snil, .snil, .snil, (.int .i64 g), .snil, .snil, (.int .i64 x), .snil, .snil])))] => some (a, l, g, x)
 | _, _ => none
def Fam.shape (t : (LI × (LA × (Int × Int)))) : List AV × Blks := ([(.ptr 0 []), (.ints .u8 20 t.1)], [(some (.var (.agg [(.robjs 72 27 t.2.1), .snil, .snil, .snil, (.int .i64 t.2.2.1), .snil, .snil, (.int .i64 t.2.2.2), .snil, .snil])))])
def Fam.res : ((Int × (LI × (LA × (Int × Int)))) ⊕ Ty26) → AV × Blks
 | (.inl u) => ((.agg [(.int .u64 u.1), (.ints .u64 4 u.2.1), .snil, .snil]), [(some (.var (.agg [(.robjs 72 27 u.2.2.1), .snil, .snil, .snil, (.int .i64 u.2.2.2.1), .snil, .snil, (.int .i64 u.w), .snil, .snil])))])
 | (.inr u) => ((.agg [(.int .u64 u.1), (.ints .u64 4 u.2.1), (.rints .u8 u.2.2.1), (.robjs 77 8 u.2.2.2.1)]), [(some (.var (.agg [(.robjs 72 27 u.w.1), .snil, .snil, .snil, (.int .i64 u.w.2.1), .snil, .snil, (.int .i64 u.w.2.2), .snil, .snil])))])
def Fam.resK {R : Type} (u : ((Int × (LI × (LA × (Int × Int)))) ⊕ Ty26)) (K : AV → Blks → Option R) : Option R := match u with
 | (.inl u) => (fun p : AV × Blks => K p.1 p.2) ((.agg [(.int .u64 u.1), (.ints .u64 4 u.2.1), .snil, .snil]), [(some (.var (.agg [(.robjs 72 27 u.2.2.1), .snil, .snil, .snil, (.int .i64 u.2.2.2.1), .snil, .snil, (.int .i64 u.w), .snil, .snil])))])
 | (.inr u) => (fun p : AV × Blks => K p.1 p.2) ((.agg [(.int .u64 u.1), (.ints .u64 4 u.2.1), (.rints .u8 u.2.2.1), (.robjs 77 8 u.2.2.2.1)]), [(some (.var (.agg [(.robjs 72 27 u.w.1), .snil, .snil, .snil, (.int .i64 u.w.2.1), .snil, .snil, (.int .i64 u.w.2.2), .snil, .snil])))])
def Fam.c (n : Nat) : Abs.Callee := .mk' [true, false] [none, none] Fam.pat (Fam.m n) Fam.resK
noncomputable def Fy.C (n : Nat) : Ctx := ⟨Tryd.prog, kecG, lookC [(50, Fam.c n), (26, Fcf.c n), (28, Fal.c n)], fun t => t == 3015000 || t == 3015010⟩
def Fy.live : NL := fun k => match k with
 | 5 => ([11, 8, 6, 10, 9, 7, 0, 5], [10, 9, 6, 7, 8, 0, 5])
 | _ => ([], [])
def Fy.l5_0.r {α : Type} (mk0 : Bool → LA → Int → Int → LA → LI → LI → Int → LI → LI → α) (n : Nat) (rc : Int → Bool → LA → Int → Int → Int → LI → LI → LA → LI → LI → Option α)  (x0 : Int) (x1 : Bool) (x2 : LA) (x3 x4 x5 : Int) (x6 x7 : LI) (x8 : LA) (x9 x10 : LI) : Option α :=
 if (decide (x0 < 0)) = true then
 none
 else
 some (mk0 x1 x2 x3 x4 x8 x7 x9 x5 x6 x10)
def Fy.l5_0.g {α : Type} (mk0 : Bool → LA → Int → Int → LA → LI → LI → Int → LI → LI → α) (n : Nat) : Nat → Int → Bool → LA → Int → Int → Int → LI → LI → LA → LI → LI → Option α
 | 0, _, _, _, _, _, _, _, _, _, _, _ => none
 | m + 1, x0, x1, x2, x3, x4, x5, x6, x7, x8, x9, x10 => Fy.l5_0.r mk0 n (fun y0 y1 y2 y3 y4 y5 y6 y7 y8 y9 y10 => Fy.l5_0.g mk0 n m y0 y1 y2 y3 y4 y5 y6 y7 y8 y9 y10)  x0 x1 x2 x3 x4 x5 x6 x7 x8 x9 x10
def Fy.l5_0.m (n m : Nat) (t : Ty18) : Option Ty20 := Fy.l5_0.g (fun a0 a1 a2 a3 a4 a5 a6 a7 a8 a9 => (a0, a1, a2, a3, a4, a5, a6, a7, a8, a9)) n m t.1 t.2.1 t.2.2.1 t.2.2.2.1 t.w.1 t.w.2.1 t.w.2.2.1 t.w.2.2.2.1 t.x.1 t.x.2.1 t.x.2.2
def Fy.l5_0.pat : St → Option Ty18
 | (St.mk [(.int .i64 x0), (.ptr 1 []), (.ptr 2 []), (.bool x1), (.own 3 8), (.ptr 4 []), (.ptr 0 []), (.ptr 5 [])] [(some (.var (.agg [(.robjs 72 27 x2), .snil, .snil, .snil, (.int .i64 x3), .snil, .snil, (.int .i64 x4), .snil, .snil]))), (some (.var (.agg [(.int .u64 x5), (.ints .u64 4 x6), .snil, .snil]))), (some (.var (.ints .u64 4 x7))), (some (.objs 77 8 x8)), (some (.var (.ints .u64 4 x9))), (some (.var (.ints .u8 20 x10)))]) => some (x0, x1, x2, x3, x4, x5, x6, x7, x8, x9, x10)
 | _ => none
def Fy.l5_0.shape (t : Ty18) : St := (St.mk [(.int .i64 t.1), (.ptr 1 []), (.ptr 2 []), (.bool t.2.1), (.own 3 8), (.ptr 4 []), (.ptr 0 []), (.ptr 5 [])] [(some (.var (.agg [(.robjs 72 27 t.2.2.1), .snil, .snil, .snil, (.int .i64 t.2.2.2.1), .snil, .snil, (.int .i64 t.w.1), .snil, .snil]))), (some (.var (.agg [(.int .u64 t.w.2.1), (.ints .u64 4 t.w.2.2.1), .snil, .snil]))), (some (.var (.ints .u64 4 t.w.2.2.2.1))), (some (.objs 77 8 t.x.1)), (some (.var (.ints .u64 4 t.x.2.1))), (some (.var (.ints .u8 20 t.x.2.2)))])
def Fy.l5_0.res : Ty20 → Ex × St
 | u => ((.exit 0), (St.mk [(.bool u.1), (.own 1 8), (.ptr 2 []), (.ptr 3 []), (.ptr 4 []), (.ptr 0 []), (.ptr 5 [])] [(some (.var (.agg [(.robjs 72 27 u.2.1), .snil, .snil, .snil, (.int .i64 u.2.2.1), .snil, .snil, (.int .i64 u.2.2.2.1), .snil, .snil]))), (some (.objs 77 8 u.w.1)), (some (.var (.ints .u64 4 u.w.2.1))), (some (.var (.ints .u64 4 u.w.2.2.1))), (some (.var (.agg [(.int .u64 u.w.2.2.2.1), (.ints .u64 4 u.x.1), .snil, .snil]))), (some (.var (.ints .u8 20 u.x.2)))]))
def Fy.l5v1_0.r {α : Type} (mk0 : Bool → LA → Int → Int → LA → LI → LI → Int → LI → LI → LA → LI → α) (n : Nat) (rc : Int → Bool → LA → Int → Int → Int → LI → LI → LA → LI → LA → LI → LI → Option α)  (x0 : Int) (x1 : Bool) (x2 : LA) (x3 x4 x5 : Int) (x6 x7 : LI) (x8 : LA) (x9 : LI) (x10 : LA) (x11 x12 : LI) : Option α :=
 if (decide (x0 < (x8.length : Int))) = true then
 if 0 ≤ x0 then
 if x0 < (x8.length : Int) then
 bindO (tkAgg 2 (List.getD x8 (Int.toNat x0) AV.any)) fun r10 =>
 bindO (tkInts .u64 4 (List.getD r10 0 AV.any)) fun r12 =>
 bindO (tkInts .u64 4 (List.getD r10 1 AV.any)) fun r14 =>
 bindO (Fcf.m n (r12, x9)) fun r16 =>
 if (!x1) = true then
 if (decide (r16 ≥ 0)) = true then
 if ((((List.length x10) + 1) * 64) ≤ 70368744177664 ∧ ((List.length x10) + 1) ≤ 9223372036854775807) then
 if (r16 != 0) = true then
 if 0 ≤ x0 then
 if x0 < (x8.length : Int) then
 bindO (tkAgg 2 (List.getD x8 (Int.toNat x0) AV.any)) fun r30 =>
 bindO (tkInts .u64 4 (List.getD r30 0 AV.any)) fun r32 =>
 bindO (tkInts .u64 4 (List.getD r30 1 AV.any)) fun r34 =>
 if ((((List.length (x10 ++ [(AV.agg [(AV.ints .u64 4 x9), (AV.ints .u64 4 x11)])])) + 1) * 64) ≤ 70368744177664 ∧ ((List.length (x10 ++ [(AV.agg [(AV.ints .u64 4 x9), (AV.ints .u64 4 x11)])])) + 1) ≤ 9223372036854775807) then
 rc (IntKind.wrap .i64 (x0 + 1)) true x2 x3 x4 x5 x6 x7 x8 x9 ((x10 ++ [(AV.agg [(AV.ints .u64 4 x9), (AV.ints .u64 4 x11)])]) ++ [(AV.agg [(AV.ints .u64 4 r32), (AV.ints .u64 4 r34)])]) x11 x12
 else
 none
 else
 none
 else
 none
 else
 rc (IntKind.wrap .i64 (x0 + 1)) true x2 x3 x4 x5 x6 x7 x8 x9 (x10 ++ [(AV.agg [(AV.ints .u64 4 x9), (AV.ints .u64 4 x11)])]) x11 x12
 else
 none
 else
 if (r16 != 0) = true then
 if 0 ≤ x0 then
 if x0 < (x8.length : Int) then
 bindO (tkAgg 2 (List.getD x8 (Int.toNat x0) AV.any)) fun r28 =>
 bindO (tkInts .u64 4 (List.getD r28 0 AV.any)) fun r30 =>
 bindO (tkInts .u64 4 (List.getD r28 1 AV.any)) fun r32 =>
 if ((((List.length x10) + 1) * 64) ≤ 70368744177664 ∧ ((List.length x10) + 1) ≤ 9223372036854775807) then
 rc (IntKind.wrap .i64 (x0 + 1)) x1 x2 x3 x4 x5 x6 x7 x8 x9 (x10 ++ [(AV.agg [(AV.ints .u64 4 r30), (AV.ints .u64 4 r32)])]) x11 x12
 else
 none
 else
 none
 else
 none
 else
 rc (IntKind.wrap .i64 (x0 + 1)) x1 x2 x3 x4 x5 x6 x7 x8 x9 x10 x11 x12
 else
 if (r16 != 0) = true then
 if 0 ≤ x0 then
 if x0 < (x8.length : Int) then
 bindO (tkAgg 2 (List.getD x8 (Int.toNat x0) AV.any)) fun r26 =>
 bindO (tkInts .u64 4 (List.getD r26 0 AV.any)) fun r28 =>
 bindO (tkInts .u64 4 (List.getD r26 1 AV.any)) fun r30 =>
 if ((((List.length x10) + 1) * 64) ≤ 70368744177664 ∧ ((List.length x10) + 1) ≤ 9223372036854775807) then
 rc (IntKind.wrap .i64 (x0 + 1)) x1 x2 x3 x4 x5 x6 x7 x8 x9 (x10 ++ [(AV.agg [(AV.ints .u64 4 r28), (AV.ints .u64 4 r30)])]) x11 x12
 else
 none
 else
 none
 else
 none
 else
 rc (IntKind.wrap .i64 (x0 + 1)) x1 x2 x3 x4 x5 x6 x7 x8 x9 x10 x11 x12
 else
 none
 else
 none
 else
 some (mk0 x1 x2 x3 x4 x10 x9 x11 x5 x6 x7 x8 x12)
def Fy.l5v1_0.g {α : Type} (mk0 : Bool → LA → Int → Int → LA → LI → LI → Int → LI → LI → LA → LI → α) (n : Nat) : Nat → Int → Bool → LA → Int → Int → Int → LI → LI → LA → LI → LA → LI → LI → Option α
 | 0, _, _, _, _, _, _, _, _, _, _, _, _, _ => none
 | m + 1, x0, x1, x2, x3, x4, x5, x6, x7, x8, x9, x10, x11, x12 => Fy.l5v1_0.r mk0 n (fun y0 y1 y2 y3 y4 y5 y6 y7 y8 y9 y10 y11 y12 => Fy.l5v1_0.g mk0 n m y0 y1 y2 y3 y4 y5 y6 y7 y8 y9 y10 y11 y12)  x0 x1 x2 x3 x4 x5 x6 x7 x8 x9 x10 x11 x12
def Fy.l5v1_0.m (n m : Nat) (t : Ty14) : Option Ty15 := Fy.l5v1_0.g (fun a0 a1 a2 a3 a4 a5 a6 a7 a8 a9 a10 a11 => (a0, a1, a2, a3, a4, a5, a6, a7, a8, a9, a10, a11)) n m t.1 t.2.1 t.2.2.1 t.2.2.2.1 t.w.1 t.w.2.1 t.w.2.2.1 t.w.2.2.2.1 t.x.1 t.x.2.1 t.x.2.2.1 t.x.2.2.2.1 t.x.w
def Fy.l5v1_0.pat : St → Option Ty14
 | (St.mk [(.int .i64 x0), (.ptr 1 []), (.ptr 2 []), (.bool x1), (.own 3 8), (.ptr 4 []), (.ptr 0 []), (.ptr 5 [])] [(some (.var (.agg [(.robjs 72 27 x2), .snil, .snil, .snil, (.int .i64 x3), .snil, .snil, (.int .i64 x4), .snil, .snil]))), (some (.var (.agg [(.int .u64 x5), (.ints .u64 4 x6), (.rints .u8 x7), (.robjs 77 8 x8)]))), (some (.var (.ints .u64 4 x9))), (some (.objs 77 8 x10)), (some (.var (.ints .u64 4 x11))), (some (.var (.ints .u8 20 x12)))]) => some (x0, x1, x2, x3, x4, x5, x6, x7, x8, x9, x10, x11, x12)
 | _ => none
def Fy.l5v1_0.shape (t : Ty14) : St := (St.mk [(.int .i64 t.1), (.ptr 1 []), (.ptr 2 []), (.bool t.2.1), (.own 3 8), (.ptr 4 []), (.ptr 0 []), (.ptr 5 [])] [(some (.var (.agg [(.robjs 72 27 t.2.2.1), .snil, .snil, .snil, (.int .i64 t.2.2.2.1), .snil, .snil, (.int .i64 t.w.1), .snil, .snil]))), (some (.var (.agg [(.int .u64 t.w.2.1), (.ints .u64 4 t.w.2.2.1), (.rints .u8 t.w.2.2.2.1), (.robjs 77 8 t.x.1)]))), (some (.var (.ints .u64 4 t.x.2.1))), (some (.objs 77 8 t.x.2.2.1)), (some (.var (.ints .u64 4 t.x.2.2.2.1))), (some (.var (.ints .u8 20 t.x.w)))])
def Fy.l5v1_0.res : Ty15 → Ex × St
 | u => ((.exit 0), (St.mk [(.bool u.1), (.own 1 8), (.ptr 2 []), (.ptr 3 []), (.ptr 4 []), (.ptr 0 []), (.ptr 5 [])] [(some (.var (.agg [(.robjs 72 27 u.2.1), .snil, .snil, .snil, (.int .i64 u.2.2.1), .snil, .snil, (.int .i64 u.2.2.2.1), .snil, .snil]))), (some (.objs 77 8 u.w.1)), (some (.var (.ints .u64 4 u.w.2.1))), (some (.var (.ints .u64 4 u.w.2.2.1))), (some (.var (.agg [(.int .u64 u.w.2.2.2.1), (.ints .u64 4 u.x.1), (.rints .u8 u.x.2.1), (.robjs 77 8 u.x.2.2.1)]))), (some (.var (.ints .u8 20 u.x.2.2.2)))]))
noncomputable def Fy.A (n : Nat) : Ann := ⟨Tryd.f30.ntmps, 1, Fy.live, [(9, (.objs 77 8))], [], fun k => match k with
 | 5 => some (.alt Fy.l5_0.pat (.mk' Fy.l5_0.pat (Fy.l5_0.m n n) (resKl Fy.l5_0.res)) (.mk' Fy.l5v1_0.pat (Fy.l5v1_0.m n n) (resKl Fy.l5v1_0.res)))
 | _ => none, noNL, lookJ []⟩
noncomputable def Fy.b0 : Code := (loopsIn (Tryd.f30.body.getD .skip)).getD 0 .skip
def Fy.g {α : Type} (mk0 : LA → Int → Int → α) (n : Nat) (a k v : LI) (l : LA) (g x : Int) : Option α :=
 bindO (Fam.m n (a, l, g, x)) fun r2 => match r2 with
  | (.inl r2) =>
   bindO (Fy.l5_0.m n n (0, (v == [0, 0, 0, 0]), r2.2.2.1, r2.2.2.2.1, r2.w, r2.1, r2.2.1, k, [], v, a)) fun r6 =>
    if (!r6.1) = true then
     if ((((List.length r6.w.1) + 1) * 64) ≤ 70368744177664 ∧ ((List.length r6.w.1) + 1) ≤ 9223372036854775807) then
      bindO (Fal.m n (r6.x.2, r6.w.2.2.2.1, r6.x.1, [], (r6.w.1 ++ [(AV.agg [(AV.ints .u64 4 r6.w.2.1), (AV.ints .u64 4 r6.w.2.2.1)])]), r6.2.1, r6.2.2.1, r6.2.2.2.1)) fun r12 =>
       some (mk0 r12.1 r12.2.1 r12.2.2)
     else
      none
    else
     bindO (Fal.m n (r6.x.2, r6.w.2.2.2.1, r6.x.1, [], r6.w.1, r6.2.1, r6.2.2.1, r6.2.2.2.1)) fun r10 =>
      some (mk0 r10.1 r10.2.1 r10.2.2)
  | (.inr r2) =>
   bindO (Fy.l5v1_0.m n n (0, (v == [0, 0, 0, 0]), r2.w.1, r2.w.2.1, r2.w.2.2, r2.1, r2.2.1, r2.2.2.1, r2.2.2.2.1, k, [], v, a)) fun r6 =>
    if (!r6.1) = true then
     if ((((List.length r6.w.1) + 1) * 64) ≤ 70368744177664 ∧ ((List.length r6.w.1) + 1) ≤ 9223372036854775807) then
      bindO (Fal.m n (r6.x.2.2.2, r6.w.2.2.2.1, r6.x.1, r6.x.2.1, (r6.w.1 ++ [(AV.agg [(AV.ints .u64 4 r6.w.2.1), (AV.ints .u64 4 r6.w.2.2.1)])]), r6.2.1, r6.2.2.1, r6.2.2.2.1)) fun r12 =>
       some (mk0 r12.1 r12.2.1 r12.2.2)
     else
      none
    else
     bindO (Fal.m n (r6.x.2.2.2, r6.w.2.2.2.1, r6.x.1, r6.x.2.1, r6.w.1, r6.2.1, r6.2.2.1, r6.2.2.2.1)) fun r10 =>
      some (mk0 r10.1 r10.2.1 r10.2.2)
def Fy.m (n : Nat) (t : (LI × (LI × (LI × (LA × (Int × Int)))))) : Option (LA × (Int × Int)) := Fy.g (fun a0 a1 a2 => (a0, a1, a2)) n t.1 t.2.1 t.2.2.1 t.2.2.2.1 t.w.1 t.w.2
def Fy.pat : List AV → Blks → Option (LI × (LI × (LI × (LA × (Int × Int)))))
 | [(.ptr 0 []), (.ints .u8 20 a), (.ints .u64 4 k), (.ints .u64 4 v)], [(some (.var (.agg [(.robjs 72 27 l), .snil, .snil, .snil, (.int .i64 g), .snil, .snil, (.int .i64 x), .snil, .snil])))] => some (a, k, v, l, g, x)
 | _, _ => none
def Fy.shape (t : (LI × (LI × (LI × (LA × (Int × Int)))))) : List AV × Blks := ([(.ptr 0 []), (.ints .u8 20 t.1), (.ints .u64 4 t.2.1), (.ints .u64 4 t.2.2.1)], [(some (.var (.agg [(.robjs 72 27 t.2.2.2.1), .snil, .snil, .snil, (.int .i64 t.w.1), .snil, .snil, (.int .i64 t.w.2), .snil, .snil])))])
def Fy.res : (LA × (Int × Int)) → AV × Blks
 | u => ((.tup []), [(some (.var (.agg [(.robjs 72 27 u.1), .snil, .snil, .snil, (.int .i64 u.2.1), .snil, .snil, (.int .i64 u.2.2), .snil, .snil])))])
def Fy.c (n : Nat) : Abs.Callee := .mk' [true, false, false, false] [none, none, none, none] Fy.pat (Fy.m n) (resKof Fy.res)
noncomputable def Fca.C (n : Nat) : Ctx := ⟨Tryd.prog, kecG, lookC [(29, Fby.c n)], fun _ => false⟩
def Fca.live : NL := fun k => match k with
 | 3 => ([4, 0, 3], [3])
 | _ => ([], [])
def Fca.l3_0.r {α : Type} (mk0 : LA → α) (n : Nat) (rc : Int → LA → LA → Option α)  (x0 : Int) (x1 x2 : LA) : Option α :=
 if (decide (x0 < (x1.length : Int))) = true then
 if 0 ≤ x0 then
 if x0 < (x1.length : Int) then
 bindO (tkAgg 2 (List.getD x1 (Int.toNat x0) AV.any)) fun r10 =>
 bindO (tkInts .u8 20 (List.getD r10 0 AV.any)) fun r12 =>
 bindO (tkAgg 4 (List.getD r10 1 AV.any)) fun r14 =>
 bindO (tkInt .u64 (List.getD r14 0 AV.any)) fun r16 =>
 bindO (tkInts .u64 4 (List.getD r14 1 AV.any)) fun r18 =>
 bindO (tkRints .u8 (List.getD r14 2 AV.any)) fun r20 =>
 bindO (tkRobjs 77 8 (List.getD r14 3 AV.any)) fun r22 =>
 bindO (Fby.m n r20) fun r24 =>
 if (((List.length r22) * 64) ≤ 70368744177664 ∧ (List.length r22) ≤ 9223372036854775807) then
 if ((((List.length x2) + 1) * 112) ≤ 70368744177664 ∧ ((List.length x2) + 1) ≤ 9223372036854775807) then
 rc (IntKind.wrap .i64 (x0 + 1)) x1 (x2 ++ [(AV.agg [(AV.ints .u8 20 r12), (AV.agg [(AV.int .u64 r16), (AV.ints .u64 4 r18), (AV.rints .u8 r24), (AV.robjs 77 8 r22)])])])
 else
 none
 else
 none
 else
 none
 else
 none
 else
 some (mk0 x2)
def Fca.l3_0.g {α : Type} (mk0 : LA → α) (n : Nat) : Nat → Int → LA → LA → Option α
 | 0, _, _, _ => none
 | m + 1, x0, x1, x2 => Fca.l3_0.r mk0 n (fun y0 y1 y2 => Fca.l3_0.g mk0 n m y0 y1 y2)  x0 x1 x2
def Fca.l3_0.m (n m : Nat) (t : (Int × (LA × LA))) : Option LA := Fca.l3_0.g (fun a0 => a0) n m t.1 t.2.1 t.2.2
def Fca.l3_0.pat : St → Option (Int × (LA × LA))
 | (St.mk [(.int .i64 x0), (.robjs 72 27 x1), (.own 0 27)] [(some (.objs 72 27 x2))]) => some (x0, x1, x2)
 | _ => none
def Fca.l3_0.shape (t : (Int × (LA × LA))) : St := (St.mk [(.int .i64 t.1), (.robjs 72 27 t.2.1), (.own 0 27)] [(some (.objs 72 27 t.2.2))])
def Fca.l3_0.res : LA → Ex × St
 | u => ((.exit 0), (St.mk [(.own 0 27)] [(some (.objs 72 27 u))]))
noncomputable def Fca.A (n : Nat) : Ann := ⟨Tryd.f51.ntmps, 0, Fca.live, [(0, (.objs 72 27)), (3, (.objs 72 27))], [(some (.objs 72 27))], fun k => match k with
 | 3 => some (.mk' Fca.l3_0.pat (Fca.l3_0.m n n) (resKl Fca.l3_0.res))
 | _ => none, noNL, lookJ []⟩
noncomputable def Fca.b0 : Code := (loopsIn (Tryd.f51.body.getD .skip)).getD 0 .skip
def Fca.g {α : Type} (mk0 : LA → α) (n : Nat) (a0 : LA) : Option α :=
 bindO (Fca.l3_0.m n n (0, a0, [])) fun r2 =>
 some (mk0 r2)
def Fca.m (n : Nat) (t : LA) : Option LA := Fca.g (fun a0 => a0) n t
def Fca.pat : List AV → Blks → Option LA
 | [(.robjs 72 27 a0)], [] => some a0
 | _, _ => none
def Fca.shape (t : LA) : List AV × Blks := ([(.robjs 72 27 t)], [])
def Fca.res : LA → AV × Blks
 | u => ((.own 0 27), [(some (.objs 72 27 u))])
def Fca.c (n : Nat) : Abs.Callee := .mk' [] [(some (.objs 72 27))] Fca.pat (Fca.m n) (resKof Fca.res)
noncomputable def Fah.C (n : Nat) : Ctx := ⟨Tryd.prog, kecG, lookC [(51, Fca.c n)], fun t => t == 2000051⟩
noncomputable def Fah.A (n : Nat) : Ann := ⟨Tryd.f31.ntmps, 1, noNL, [], [], fun k => match k with
 | _ => none, noNL, lookJ []⟩
def Fah.g {α : Type} (mk0 : LA → LA → Int → Int → α) (n : Nat) (l : LA) (g x : Int) : Option α :=
 bindO (Fca.m n l) fun r2 =>
 some (mk0 l r2 0 0)
def Fah.m (n : Nat) (t : (LA × (Int × Int))) : Option (LA × (LA × (Int × Int))) := Fah.g (fun a0 a1 a2 a3 => (a0, a1, a2, a3)) n t.1 t.2.1 t.2.2
def Fah.pat : List AV → Blks → Option (LA × (Int × Int))
 | [(.ptr 0 [])], [(some (.var (.agg [(.robjs 72 27 l), .snil, .snil, .snil, (.int .i64 g), .snil, .snil, (.int .i64 x), .snil, .snil])))] => some (l, g, x)
 | _, _ => none
def Fah.shape (t : (LA × (Int × Int))) : List AV × Blks := ([(.ptr 0 [])], [(some (.var (.agg [(.robjs 72 27 t.1), .snil, .snil, .snil, (.int .i64 t.2.1), .snil, .snil, (.int .i64 t.2.2), .snil, .snil])))])
def Fah.res : (LA × (LA × (Int × Int))) → AV × Blks
 | u => ((.tup []), [(some (.var (.agg [(.robjs 72 27 u.1), (.robjs 72 27 u.2.1), .snil, .snil, (.int .i64 u.2.2.1), .snil, .snil, (.int .i64 u.2.2.2), .snil, .snil])))])
def Fah.c (n : Nat) : Abs.Callee := .mk' [true] [none] Fah.pat (Fah.m n) (resKof Fah.res)
noncomputable def Fcj.C (n : Nat) : Ctx := ⟨Tryd.prog, kecG, lookC [(29, Fby.c n), (28, Fal.c n), (30, Fy.c n), (31, Fah.c n)], fun t => t == 2000029 || t == 3013000 || t == 3013004⟩
def Fcj.live : NL := fun k => match k with
 | 3 => ([4, 0, 3], [3])
 | 9 => ([7, 5, 3, 6, 4, 0], [4, 0, 3])
 | _ => ([], [])
def Fcj.l9_0.r {α : Type} (mk0 : Int → LA → LA → Int → Int → α) (n : Nat) (rc : Int → Int → LA → LI → Int → LI → LI → LA → LA → Int → Int → LI → Option α)  (x0 x1 : Int) (x2 : LA) (x3 : LI) (x4 : Int) (x5 x6 : LI) (x7 x8 : LA) (x9 x10 : Int) (x11 : LI) : Option α :=
 if (decide (x0 < (x7.length : Int))) = true then
 if 0 ≤ x0 then
 if x0 < (x7.length : Int) then
 bindO (tkAgg 2 (List.getD x7 (Int.toNat x0) AV.any)) fun r10 =>
 bindO (tkInts .u64 4 (List.getD r10 0 AV.any)) fun r12 =>
 bindO (tkInts .u64 4 (List.getD r10 1 AV.any)) fun r14 =>
 if 0 ≤ x0 then
 if x0 < (x7.length : Int) then
 bindO (tkAgg 2 (List.getD x7 (Int.toNat x0) AV.any)) fun r20 =>
 bindO (tkInts .u64 4 (List.getD r20 0 AV.any)) fun r22 =>
 bindO (tkInts .u64 4 (List.getD r20 1 AV.any)) fun r24 =>
 bindO (Fy.m n (x11, r12, r24, x8, x9, x10)) fun r26 =>
 rc (IntKind.wrap .i64 (x0 + 1)) x1 x2 x3 x4 x5 x6 x7 r26.1 r26.2.1 r26.2.2 x11
 else
 none
 else
 none
 else
 none
 else
 none
 else
 some (mk0 x1 x2 x8 x9 x10)
def Fcj.l9_0.g {α : Type} (mk0 : Int → LA → LA → Int → Int → α) (n : Nat) : Nat → Int → Int → LA → LI → Int → LI → LI → LA → LA → Int → Int → LI → Option α
 | 0, _, _, _, _, _, _, _, _, _, _, _, _ => none
 | m + 1, x0, x1, x2, x3, x4, x5, x6, x7, x8, x9, x10, x11 => Fcj.l9_0.r mk0 n (fun y0 y1 y2 y3 y4 y5 y6 y7 y8 y9 y10 y11 => Fcj.l9_0.g mk0 n m y0 y1 y2 y3 y4 y5 y6 y7 y8 y9 y10 y11)  x0 x1 x2 x3 x4 x5 x6 x7 x8 x9 x10 x11
def Fcj.l9_0.m (n m : Nat) (t : Ty16) : Option (Int × (LA × (LA × (Int × Int)))) := Fcj.l9_0.g (fun a0 a1 a2 a3 a4 => (a0, a1, a2, a3, a4)) n m t.1 t.2.1 t.2.2.1 t.2.2.2.1 t.w.1 t.w.2.1 t.w.2.2.1 t.w.2.2.2.1 t.x.1 t.x.2.1 t.x.2.2.1 t.x.2.2.2
def Fcj.l9_0.pat : St → Option Ty16
 | (St.mk [(.int .i64 x0), (.ptr 0 []), (.ptr 1 []), (.ptr 2 []), (.int .i64 x1), (.robjs 72 27 x2)] [(some (.var (.agg [(.ints .u8 20 x3), (.agg [(.int .u64 x4), (.ints .u64 4 x5), (.rints .u8 x6), (.robjs 77 8 x7)])]))), (some (.var (.agg [(.robjs 72 27 x8), .snil, .snil, .snil, (.int .i64 x9), .snil, .snil, (.int .i64 x10), .snil, .snil]))), (some (.var (.ints .u8 20 x11)))]) => some (x0, x1, x2, x3, x4, x5, x6, x7, x8, x9, x10, x11)
 | _ => none
def Fcj.l9_0.shape (t : Ty16) : St := (St.mk [(.int .i64 t.1), (.ptr 0 []), (.ptr 1 []), (.ptr 2 []), (.int .i64 t.2.1), (.robjs 72 27 t.2.2.1)] [(some (.var (.agg [(.ints .u8 20 t.2.2.2.1), (.agg [(.int .u64 t.w.1), (.ints .u64 4 t.w.2.1), (.rints .u8 t.w.2.2.1), (.robjs 77 8 t.w.2.2.2.1)])]))), (some (.var (.agg [(.robjs 72 27 t.x.1), .snil, .snil, .snil, (.int .i64 t.x.2.1), .snil, .snil, (.int .i64 t.x.2.2.1), .snil, .snil]))), (some (.var (.ints .u8 20 t.x.2.2.2)))])
def Fcj.l9_0.res : (Int × (LA × (LA × (Int × Int)))) → Ex × St
 | u => ((.exit 2), (St.mk [(.int .i64 u.1), (.robjs 72 27 u.2.1), (.ptr 0 [])] [(some (.var (.agg [(.robjs 72 27 u.2.2.1), .snil, .snil, .snil, (.int .i64 u.2.2.2.1), .snil, .snil, (.int .i64 u.w), .snil, .snil])))]))
def Fcj.l3_0.r {α : Type} (mk0 : LA → Int → Int → α) (n : Nat) (rc : Int → LA → LA → Int → Int → Option α)  (x0 : Int) (x1 x2 : LA) (x3 x4 : Int) : Option α :=
 if (decide (x0 < (x1.length : Int))) = true then
 if 0 ≤ x0 then
 if x0 < (x1.length : Int) then
 bindO (tkAgg 2 (List.getD x1 (Int.toNat x0) AV.any)) fun r10 =>
 bindO (tkInts .u8 20 (List.getD r10 0 AV.any)) fun r12 =>
 bindO (tkAgg 4 (List.getD r10 1 AV.any)) fun r14 =>
 bindO (tkInt .u64 (List.getD r14 0 AV.any)) fun r16 =>
 bindO (tkInts .u64 4 (List.getD r14 1 AV.any)) fun r18 =>
 bindO (tkRints .u8 (List.getD r14 2 AV.any)) fun r20 =>
 bindO (tkRobjs 77 8 (List.getD r14 3 AV.any)) fun r22 =>
 bindO (Fby.m n r20) fun r24 =>
 bindO (Fal.m n (r12, r16, r18, r24, [], x2, x3, x4)) fun r26 =>
 bindO (Fcj.l9_0.m n n (0, x0, x1, r12, r16, r18, r20, r22, r26.1, r26.2.1, r26.2.2, r12)) fun r28 =>
 rc (IntKind.wrap .i64 (r28.1 + 1)) r28.2.1 r28.2.2.1 r28.2.2.2.1 r28.w
 else
 none
 else
 none
 else
 some (mk0 x2 x3 x4)
def Fcj.l3_0.g {α : Type} (mk0 : LA → Int → Int → α) (n : Nat) : Nat → Int → LA → LA → Int → Int → Option α
 | 0, _, _, _, _, _ => none
 | m + 1, x0, x1, x2, x3, x4 => Fcj.l3_0.r mk0 n (fun y0 y1 y2 y3 y4 => Fcj.l3_0.g mk0 n m y0 y1 y2 y3 y4)  x0 x1 x2 x3 x4
def Fcj.l3_0.m (n m : Nat) (t : (Int × (LA × (LA × (Int × Int))))) : Option (LA × (Int × Int)) := Fcj.l3_0.g (fun a0 a1 a2 => (a0, a1, a2)) n m t.1 t.2.1 t.2.2.1 t.2.2.2.1 t.w
def Fcj.l3_0.pat : St → Option (Int × (LA × (LA × (Int × Int))))
 | (St.mk [(.int .i64 x0), (.robjs 72 27 x1), (.ptr 0 [])] [(some (.var (.agg [(.robjs 72 27 x2), .snil, .snil, .snil, (.int .i64 x3), .snil, .snil, (.int .i64 x4), .snil, .snil])))]) => some (x0, x1, x2, x3, x4)
 | _ => none
def Fcj.l3_0.shape (t : (Int × (LA × (LA × (Int × Int))))) : St := (St.mk [(.int .i64 t.1), (.robjs 72 27 t.2.1), (.ptr 0 [])] [(some (.var (.agg [(.robjs 72 27 t.2.2.1), .snil, .snil, .snil, (.int .i64 t.2.2.2.1), .snil, .snil, (.int .i64 t.w), .snil, .snil])))])
def Fcj.l3_0.res : (LA × (Int × Int)) → Ex × St
 | u => ((.exit 0), (St.mk [(.ptr 0 [])] [(some (.var (.agg [(.robjs 72 27 u.1), .snil, .snil, .snil, (.int .i64 u.2.1), .snil, .snil, (.int .i64 u.2.2), .snil, .snil])))]))
noncomputable def Fcj.A (n : Nat) : Ann := ⟨Tryd.f15.ntmps, 0, Fcj.live, [(0, (.objs 72 27)), (3, (.agg [(some (.objs 72 27))]))], [none], fun k => match k with
 | 9 => some (.mk' Fcj.l9_0.pat (Fcj.l9_0.m n n) (resKl Fcj.l9_0.res))
 | 3 => some (.mk' Fcj.l3_0.pat (Fcj.l3_0.m n n) (resKl Fcj.l3_0.res))
 | _ => none, noNL, lookJ []⟩
noncomputable def Fcj.b0 : Code := (loopsIn (Tryd.f15.body.getD .skip)).getD 0 .skip
noncomputable def Fcj.b1 : Code := (loopsIn (Tryd.f15.body.getD .skip)).getD 1 .skip
def Fcj.g {α : Type} (mk0 : LA → LA → Int → Int → α) (n : Nat) (a0 : LA) : Option α :=
 bindO (Fcj.l3_0.m n n (0, a0, [], 0, 0)) fun r2 =>
 bindO (Fah.m n (r2.1, r2.2.1, r2.2.2)) fun r4 =>
 some (mk0 r4.1 r4.2.1 r4.2.2.1 r4.2.2.2)
def Fcj.m (n : Nat) (t : LA) : Option (LA × (LA × (Int × Int))) := Fcj.g (fun a0 a1 a2 a3 => (a0, a1, a2, a3)) n t
def Fcj.pat : List AV → Blks → Option LA
 | [(.robjs 72 27 a0)], [] => some a0
 | _, _ => none
def Fcj.shape (t : LA) : List AV × Blks := ([(.robjs 72 27 t)], [])
def Fcj.res : (LA × (LA × (Int × Int))) → AV × Blks
 | u => ((.rptr (.agg [(.robjs 72 27 u.1), (.robjs 72 27 u.2.1), .snil, .snil, (.int .i64 u.2.2.1), .snil, .snil, (.int .i64 u.2.2.2), .snil, .snil])), [])
def Fcj.c (n : Nat) : Abs.Callee := .mk' [] [(some (.objs 72 27))] Fcj.pat (Fcj.m n) (resKof Fcj.res)
noncomputable def Fcl.C (n : Nat) : Ctx := ⟨Tryd.prog, kecG, lookC [], fun _ => false⟩
def Fcl.live : NL := fun k => match k with
 | 2 => ([7, 0, 4, 5, 6], [6])
 | 5 => ([0, 7, 4, 8, 5, 6], [6, 7, 0, 4, 5])
 | _ => ([], [])
def Fcl.l5_0.r {α : Type} (mk0 : Int → LA → LI → LI → LI → α) (mk1 : Int → LA → LI → LI → LI → α) (n : Nat) (rc : LA → Int → Int → LI → LI → LI → Option α)  (x0 : LA) (x1 x2 : Int) (x3 x4 x5 : LI) : Option α :=
 if 0 ≤ x1 then
 if x1 < (x0.length : Int) then
 bindO (tkAgg 2 (List.getD x0 (Int.toNat x1) AV.any)) fun r8 =>
 bindO (tkInts .u8 20 (List.getD r8 0 AV.any)) fun r10 =>
 bindO (tkAgg 4 (List.getD r8 1 AV.any)) fun r12 =>
 bindO (tkInt .u64 (List.getD r12 0 AV.any)) fun r14 =>
 bindO (tkInts .u64 4 (List.getD r12 1 AV.any)) fun r16 =>
 bindO (tkRints .u8 (List.getD r12 2 AV.any)) fun r18 =>
 bindO (tkRobjs 77 8 (List.getD r12 3 AV.any)) fun r20 =>
 if (r10 == x3) = true then
 if 0 ≤ x1 then
 if x1 < (x0.length : Int) then
 bindO (tkAgg 2 (List.getD x0 (Int.toNat x1) AV.any)) fun r28 =>
 bindO (tkInts .u8 20 (List.getD r28 0 AV.any)) fun r30 =>
 bindO (tkAgg 4 (List.getD r28 1 AV.any)) fun r32 =>
 bindO (tkInt .u64 (List.getD r32 0 AV.any)) fun r34 =>
 bindO (tkInts .u64 4 (List.getD r32 1 AV.any)) fun r36 =>
 bindO (tkRints .u8 (List.getD r32 2 AV.any)) fun r38 =>
 bindO (tkRobjs 77 8 (List.getD r32 3 AV.any)) fun r40 =>
 if (decide (x2 < (r40.length : Int))) = true then
 if 0 ≤ x1 then
 if x1 < (x0.length : Int) then
 bindO (tkAgg 2 (List.getD x0 (Int.toNat x1) AV.any)) fun r48 =>
 bindO (tkInts .u8 20 (List.getD r48 0 AV.any)) fun r50 =>
 bindO (tkAgg 4 (List.getD r48 1 AV.any)) fun r52 =>
 bindO (tkInt .u64 (List.getD r52 0 AV.any)) fun r54 =>
 bindO (tkInts .u64 4 (List.getD r52 1 AV.any)) fun r56 =>
 bindO (tkRints .u8 (List.getD r52 2 AV.any)) fun r58 =>
 bindO (tkRobjs 77 8 (List.getD r52 3 AV.any)) fun r60 =>
 if 0 ≤ x2 then
 if x2 < (r60.length : Int) then
 bindO (tkAgg 2 (List.getD r60 (Int.toNat x2) AV.any)) fun r66 =>
 bindO (tkInts .u64 4 (List.getD r66 0 AV.any)) fun r68 =>
 bindO (tkInts .u64 4 (List.getD r66 1 AV.any)) fun r70 =>
 if (r68 == x4) = true then
 if 0 ≤ x1 then
 if x1 < (x0.length : Int) then
 bindO (tkAgg 2 (List.getD x0 (Int.toNat x1) AV.any)) fun r78 =>
 bindO (tkInts .u8 20 (List.getD r78 0 AV.any)) fun r80 =>
 bindO (tkAgg 4 (List.getD r78 1 AV.any)) fun r82 =>
 bindO (tkInt .u64 (List.getD r82 0 AV.any)) fun r84 =>
 bindO (tkInts .u64 4 (List.getD r82 1 AV.any)) fun r86 =>
 bindO (tkRints .u8 (List.getD r82 2 AV.any)) fun r88 =>
 bindO (tkRobjs 77 8 (List.getD r82 3 AV.any)) fun r90 =>
 if 0 ≤ x2 then
 if x2 < (r90.length : Int) then
 bindO (tkAgg 2 (List.getD r90 (Int.toNat x2) AV.any)) fun r96 =>
 bindO (tkInts .u64 4 (List.getD r96 0 AV.any)) fun r98 =>
 bindO (tkInts .u64 4 (List.getD r96 1 AV.any)) fun r100 =>
 some (mk0 x1 x0 r100 x3 x4)
 else
 none
 else
 none
 else
 none
 else
 none
 else
 rc x0 x1 (IntKind.wrap .i64 (x2 + 1)) x3 x4 x5
 else
 none
 else
 none
 else
 none
 else
 none
 else
 some (mk1 x1 x0 x5 x3 x4)
 else
 none
 else
 none
 else
 some (mk1 x1 x0 x5 x3 x4)
 else
 none
 else
 none
def Fcl.l5_0.g {α : Type} (mk0 : Int → LA → LI → LI → LI → α) (mk1 : Int → LA → LI → LI → LI → α) (n : Nat) : Nat → LA → Int → Int → LI → LI → LI → Option α
 | 0, _, _, _, _, _, _ => none
 | m + 1, x0, x1, x2, x3, x4, x5 => Fcl.l5_0.r mk0 mk1 n (fun y0 y1 y2 y3 y4 y5 => Fcl.l5_0.g mk0 mk1 n m y0 y1 y2 y3 y4 y5)  x0 x1 x2 x3 x4 x5
def Fcl.l5_0.m (n m : Nat) (t : (LA × (Int × (Int × (LI × (LI × LI)))))) : Option ((Int × (LA × (LI × (LI × LI)))) ⊕ (Int × (LA × (LI × (LI × LI))))) := Fcl.l5_0.g (fun a0 a1 a2 a3 a4 => (.inl (a0, a1, a2, a3, a4))) (fun a0 a1 a2 a3 a4 => (.inr (a0, a1, a2, a3, a4))) n m t.1 t.2.1 t.2.2.1 t.2.2.2.1 t.w.1 t.w.2
def Fcl.l5_0.pat : St → Option (LA × (Int × (Int × (LI × (LI × LI)))))
 | (St.mk [(.robjs 72 27 x0), (.int .i64 x1), (.ptr 0 []), (.int .i64 x2), (.ptr 1 []), (.ptr 2 [])] [(some (.var (.ints .u8 20 x3))), (some (.var (.ints .u64 4 x4))), (some (.var (.ints .u64 4 x5)))]) => some (x0, x1, x2, x3, x4, x5)
 | _ => none
def Fcl.l5_0.shape (t : (LA × (Int × (Int × (LI × (LI × LI)))))) : St := (St.mk [(.robjs 72 27 t.1), (.int .i64 t.2.1), (.ptr 0 []), (.int .i64 t.2.2.1), (.ptr 1 []), (.ptr 2 [])] [(some (.var (.ints .u8 20 t.2.2.2.1))), (some (.var (.ints .u64 4 t.w.1))), (some (.var (.ints .u64 4 t.w.2)))])
def Fcl.l5_0.res : ((Int × (LA × (LI × (LI × LI)))) ⊕ (Int × (LA × (LI × (LI × LI))))) → Ex × St
 | (.inl u) => (.ret, (St.mk [(.ptr 0 []), (.int .i64 u.1), (.robjs 72 27 u.2.1), (.ptr 1 []), (.ptr 2 [])] [(some (.var (.ints .u64 4 u.2.2.1))), (some (.var (.ints .u8 20 u.2.2.2.1))), (some (.var (.ints .u64 4 u.w)))]))
 | (.inr u) => ((.exit 2), (St.mk [(.ptr 0 []), (.int .i64 u.1), (.robjs 72 27 u.2.1), (.ptr 1 []), (.ptr 2 [])] [(some (.var (.ints .u64 4 u.2.2.1))), (some (.var (.ints .u8 20 u.2.2.2.1))), (some (.var (.ints .u64 4 u.w)))]))
def Fcl.l5_0.resK {R : Type} (u : ((Int × (LA × (LI × (LI × LI)))) ⊕ (Int × (LA × (LI × (LI × LI)))))) (K : Ex → St → Option R) : Option R := match u with
 | (.inl u) => (fun p : Ex × St => K p.1 p.2) (.ret, (St.mk [(.ptr 0 []), (.int .i64 u.1), (.robjs 72 27 u.2.1), (.ptr 1 []), (.ptr 2 [])] [(some (.var (.ints .u64 4 u.2.2.1))), (some (.var (.ints .u8 20 u.2.2.2.1))), (some (.var (.ints .u64 4 u.w)))]))
 | (.inr u) => (fun p : Ex × St => K p.1 p.2) ((.exit 2), (St.mk [(.ptr 0 []), (.int .i64 u.1), (.robjs 72 27 u.2.1), (.ptr 1 []), (.ptr 2 [])] [(some (.var (.ints .u64 4 u.2.2.1))), (some (.var (.ints .u8 20 u.2.2.2.1))), (some (.var (.ints .u64 4 u.w)))]))
def Fcl.l2_0.r {α : Type} (mk0 : LI → α) (mk1 : LI → α) (n : Nat) (rc : Int → LA → LI → LI → LI → Option α)  (x0 : Int) (x1 : LA) (x2 x3 x4 : LI) : Option α :=
  if (decide (x0 < (x1.length : Int))) = true then
   bindO (Fcl.l5_0.m n n (x1, x0, 0, x2, x3, x4)) fun r6 => match r6 with
    | (.inl r6) =>
     some (mk0 r6.2.2.1)
    | (.inr r6) =>
     rc (IntKind.wrap .i64 (r6.1 + 1)) r6.2.1 r6.2.2.2.1 r6.w r6.2.2.1
  else
   some (mk1 x4)
def Fcl.l2_0.g {α : Type} (mk0 : LI → α) (mk1 : LI → α) (n : Nat) : Nat → Int → LA → LI → LI → LI → Option α
 | 0, _, _, _, _, _ => none
 | m + 1, x0, x1, x2, x3, x4 => Fcl.l2_0.r mk0 mk1 n (fun y0 y1 y2 y3 y4 => Fcl.l2_0.g mk0 mk1 n m y0 y1 y2 y3 y4)  x0 x1 x2 x3 x4
def Fcl.l2_0.m (n m : Nat) (t : (Int × (LA × (LI × (LI × LI))))) : Option (LI ⊕ LI) := Fcl.l2_0.g (fun a0 => (.inl a0)) (fun a0 => (.inr a0)) n m t.1 t.2.1 t.2.2.1 t.2.2.2.1 t.w
def Fcl.l2_0.pat : St → Option (Int × (LA × (LI × (LI × LI))))
 | (St.mk [(.int .i64 x0), (.robjs 72 27 x1), (.ptr 0 []), (.ptr 1 []), (.ptr 2 [])] [(some (.var (.ints .u8 20 x2))), (some (.var (.ints .u64 4 x3))), (some (.var (.ints .u64 4 x4)))]) => some (x0, x1, x2, x3, x4)
 | _ => none
def Fcl.l2_0.shape (t : (Int × (LA × (LI × (LI × LI))))) : St := (St.mk [(.int .i64 t.1), (.robjs 72 27 t.2.1), (.ptr 0 []), (.ptr 1 []), (.ptr 2 [])] [(some (.var (.ints .u8 20 t.2.2.1))), (some (.var (.ints .u64 4 t.2.2.2.1))), (some (.var (.ints .u64 4 t.w)))])
def Fcl.l2_0.res : (LI ⊕ LI) → Ex × St
 | (.inl u) => (.ret, (St.mk [(.ptr 0 [])] [(some (.var (.ints .u64 4 u)))]))
 | (.inr u) => ((.exit 0), (St.mk [(.ptr 0 [])] [(some (.var (.ints .u64 4 u)))]))
def Fcl.l2_0.resK {R : Type} (u : (LI ⊕ LI)) (K : Ex → St → Option R) : Option R := match u with
 | (.inl u) => (fun p : Ex × St => K p.1 p.2) (.ret, (St.mk [(.ptr 0 [])] [(some (.var (.ints .u64 4 u)))]))
 | (.inr u) => (fun p : Ex × St => K p.1 p.2) ((.exit 0), (St.mk [(.ptr 0 [])] [(some (.var (.ints .u64 4 u)))]))
noncomputable def Fcl.A (n : Nat) : Ann := ⟨Tryd.f79.ntmps, 0, Fcl.live, [(0, (.objs 72 27))], [none], fun k => match k with
 | 5 => some (.mk' Fcl.l5_0.pat (Fcl.l5_0.m n n) Fcl.l5_0.resK)
 | 2 => some (.mk' Fcl.l2_0.pat (Fcl.l2_0.m n n) Fcl.l2_0.resK)
 | _ => none, noNL, lookJ []⟩
noncomputable def Fcl.b0 : Code := (loopsIn (Tryd.f79.body.getD .skip)).getD 0 .skip
noncomputable def Fcl.b1 : Code := (loopsIn (Tryd.f79.body.getD .skip)).getD 1 .skip
def Fcl.g {α : Type} (mk0 : LI → α) (n : Nat) (a0 : LA) (a1 a2 : LI) : Option α :=
 bindO (Fcl.l2_0.m n n (0, a0, a1, a2, [0, 0, 0, 0])) fun r2 => match r2 with
  | (.inl r2) =>
   some (mk0 r2)
  | (.inr r2) =>
   some (mk0 [0, 0, 0, 0])
def Fcl.m (n : Nat) (t : (LA × (LI × LI))) : Option LI := Fcl.g (fun a0 => a0) n t.1 t.2.1 t.2.2
def Fcl.pat : List AV → Blks → Option (LA × (LI × LI))
 | [(.robjs 72 27 a0), (.ints .u8 20 a1), (.ints .u64 4 a2)], [] => some (a0, a1, a2)
 | _, _ => none
def Fcl.shape (t : (LA × (LI × LI))) : List AV × Blks := ([(.robjs 72 27 t.1), (.ints .u8 20 t.2.1), (.ints .u64 4 t.2.2)], [])
def Fcl.res : LI → AV × Blks
 | u => ((.ints .u64 4 u), [])
def Fcl.c (n : Nat) : Abs.Callee := .mk' [] [(some (.objs 72 27)), none, none] Fcl.pat (Fcl.m n) (resKof Fcl.res)
noncomputable def Fae.C (n : Nat) : Ctx := ⟨Tryd.prog, kecG, lookC [], fun _ => false⟩
noncomputable def Fae.A (n : Nat) : Ann := ⟨Tryd.f43.ntmps, 0, noNL, [], [none], fun k => match k with
 | _ => none, noNL, lookJ []⟩
def Fae.g {α : Type} (mk0 : LI → α) (n : Nat) (vd vk : LA) (wa wc : Int) (a1 a2 : LI) : Option α :=
 bindO (Go.Abs.mgetL (AV.agg [(AV.ints .u8 20 a1), (AV.ints .u64 4 a2)]) (AV.ints .u64 4 [0, 0, 0, 0]) vk) fun r2 =>
 bindO (tkInts .u64 4 r2.1) fun r4 =>
 some (mk0 r4)
def Fae.m (n : Nat) (t : (LA × (LA × (Int × (Int × (LI × LI)))))) : Option LI := Fae.g (fun a0 => a0) n t.1 t.2.1 t.2.2.1 t.2.2.2.1 t.w.1 t.w.2
def Fae.pat : List AV → Blks → Option (LA × (LA × (Int × (Int × (LI × LI)))))
 | [(.rptr (.agg [(.rmap vd), (.rmap vk), (.rmap []), (.rmap []), (.rmap []), (.rmap []), (.int .i64 wa), .snil, .snil, .snil, (.int .i64 wc)])), (.ints .u8 20 a1), (.ints .u64 4 a2)], [] => some (vd, vk, wa, wc, a1, a2)
 | _, _ => none
def Fae.shape (t : (LA × (LA × (Int × (Int × (LI × LI)))))) : List AV × Blks := ([(.rptr (.agg [(.rmap t.1), (.rmap t.2.1), (.rmap []), (.rmap []), (.rmap []), (.rmap []), (.int .i64 t.2.2.1), .snil, .snil, .snil, (.int .i64 t.2.2.2.1)])), (.ints .u8 20 t.w.1), (.ints .u64 4 t.w.2)], [])
def Fae.res : LI → AV × Blks
 | u => ((.ints .u64 4 u), [])
def Fae.c (n : Nat) : Abs.Callee := .mk' [] [none, none, none] Fae.pat (Fae.m n) (resKof Fae.res)
noncomputable def Fz.C (n : Nat) : Ctx := ⟨Tryd.prog, kecG, lookC [], fun _ => false⟩
noncomputable def Fz.A (n : Nat) : Ann := ⟨Tryd.f19.ntmps, 3, noNL, [], [], fun k => match k with
 | _ => none, noNL, lookJ []⟩
def Fz.g {α : Type} (mk0 : Int → Int → LA → LA → α) (n : Nat) (r x : Int) (p q : LA) : Option α :=
 some (mk0 0 0 p q)
def Fz.m (n : Nat) (t : (Int × (Int × (LA × LA)))) : Option (Int × (Int × (LA × LA))) := Fz.g (fun a0 a1 a2 a3 => (a0, a1, a2, a3)) n t.1 t.2.1 t.2.2.1 t.2.2.2
def Fz.pat : List AV → Blks → Option (Int × (Int × (LA × LA)))
 | [(.ptr 0 [])], [(some (.var (.agg [(.own 1 0), (.own 2 0), (.raw (.map none)), (.raw (.map none)), (.raw (.map none)), (.raw (.map none)), (.int .i64 r), .snil, .snil, .snil, (.int .i64 x)]))), (some (.mp p)), (some (.mp q))] => some (r, x, p, q)
 | _, _ => none
def Fz.shape (t : (Int × (Int × (LA × LA)))) : List AV × Blks := ([(.ptr 0 [])], [(some (.var (.agg [(.own 1 0), (.own 2 0), (.raw (.map none)), (.raw (.map none)), (.raw (.map none)), (.raw (.map none)), (.int .i64 t.1), .snil, .snil, .snil, (.int .i64 t.2.1)]))), (some (.mp t.2.2.1)), (some (.mp t.2.2.2))])
def Fz.res : (Int × (Int × (LA × LA))) → AV × Blks
 | u => ((.tup []), [(some (.var (.agg [(.own 1 0), (.own 2 0), (.rmap []), (.rmap []), (.rmap []), (.rmap []), (.int .i64 u.1), .snil, .snil, .snil, (.int .i64 u.2.1)]))), (some (.mp u.2.2.1)), (some (.mp u.2.2.2))])
def Fz.c (n : Nat) : Abs.Callee := .mk' [true] [none] Fz.pat (Fz.m n) (resKof Fz.res)
noncomputable def Fbm.C (n : Nat) : Ctx := ⟨Tryd.prog, kecG, lookC [(18, Fp.c n), (19, Fz.c n)], fun t => t == 7000059 || t == 7000060 || t == 3014000 || t == 3014004⟩
def Fbm.live : NL := fun k => match k with
 | 3 => ([14, 13, 12, 3], [3])
 | 8 => ([43, 42, 41, 3, 5, 14, 13, 12], [14, 13, 12, 3])
 | _ => ([], [])
def Fbm.l8_0.r {α : Type} (mk0 : Int → Int → LA → Int → Int → LA → LA → α) (n : Nat) (rc : Int → Int → LA → Int → Int → LA → Int → Int → LI → Int → LI → LI → LA → LA → LA → Option α)  (x0 x1 : Int) (x2 : LA) (x3 x4 : Int) (x5 : LA) (x6 x7 : Int) (x8 : LI) (x9 : Int) (x10 x11 : LI) (x12 x13 x14 : LA) : Option α :=
 if (decide (x0 < x1)) = true then
 if 0 ≤ x0 then
 if x0 < (x2.length : Int) then
 bindO (tkAgg 2 (List.getD x2 (Int.toNat x0) AV.any)) fun r10 =>
 bindO (tkInts .u64 4 (List.getD r10 0 AV.any)) fun r12 =>
 bindO (tkInts .u64 4 (List.getD r10 1 AV.any)) fun r14 =>
 bindO (Go.Abs.mputL (AV.agg [(AV.ints .u8 20 x8), (AV.ints .u64 4 r12)]) (AV.ints .u64 4 r14) x14) fun r16 =>
 rc (IntKind.wrap .i64 (x0 + 1)) x1 x2 x3 x4 x5 x6 x7 x8 x9 x10 x11 x12 x13 r16
 else
 none
 else
 none
 else
 some (mk0 x3 x4 x5 x6 x7 x13 x14)
def Fbm.l8_0.g {α : Type} (mk0 : Int → Int → LA → Int → Int → LA → LA → α) (n : Nat) : Nat → Int → Int → LA → Int → Int → LA → Int → Int → LI → Int → LI → LI → LA → LA → LA → Option α
 | 0, _, _, _, _, _, _, _, _, _, _, _, _, _, _, _ => none
 | m + 1, x0, x1, x2, x3, x4, x5, x6, x7, x8, x9, x10, x11, x12, x13, x14 => Fbm.l8_0.r mk0 n (fun y0 y1 y2 y3 y4 y5 y6 y7 y8 y9 y10 y11 y12 y13 y14 => Fbm.l8_0.g mk0 n m y0 y1 y2 y3 y4 y5 y6 y7 y8 y9 y10 y11 y12 y13 y14)  x0 x1 x2 x3 x4 x5 x6 x7 x8 x9 x10 x11 x12 x13 x14
def Fbm.l8_0.m (n m : Nat) (t : Ty13) : Option Ty24 := Fbm.l8_0.g (fun a0 a1 a2 a3 a4 a5 a6 => (a0, a1, a2, a3, a4, a5, a6)) n m t.1 t.2.1 t.2.2.1 t.2.2.2.1 t.w.1 t.w.2.1 t.w.2.2.1 t.w.2.2.2.1 t.x.1 t.x.2.1 t.x.2.2.1 t.x.2.2.2.1 t.x.w.1 t.x.w.2.1 t.x.w.2.2
def Fbm.l8_0.pat : St → Option Ty13
 | (St.mk [(.int .i64 x0), (.int .i64 x1), (.robjs 77 8 x2), (.ptr 0 []), (.ptr 1 []), (.int .i64 x3), (.int .i64 x4), (.robjs 72 27 x5)] [(some (.var (.agg [(.own 2 0), (.own 3 0), (.raw (.map none)), (.raw (.map none)), (.raw (.map none)), (.raw (.map none)), (.int .i64 x6), .snil, .snil, .snil, (.int .i64 x7)]))), (some (.var (.agg [(.ints .u8 20 x8), (.agg [(.int .u64 x9), (.ints .u64 4 x10), (.rints .u8 x11), (.robjs 77 8 x12)])]))), (some (.mp x13)), (some (.mp x14))]) => some (x0, x1, x2, x3, x4, x5, x6, x7, x8, x9, x10, x11, x12, x13, x14)
 | _ => none
def Fbm.l8_0.shape (t : Ty13) : St := (St.mk [(.int .i64 t.1), (.int .i64 t.2.1), (.robjs 77 8 t.2.2.1), (.ptr 0 []), (.ptr 1 []), (.int .i64 t.2.2.2.1), (.int .i64 t.w.1), (.robjs 72 27 t.w.2.1)] [(some (.var (.agg [(.own 2 0), (.own 3 0), (.raw (.map none)), (.raw (.map none)), (.raw (.map none)), (.raw (.map none)), (.int .i64 t.w.2.2.1), .snil, .snil, .snil, (.int .i64 t.w.2.2.2.1)]))), (some (.var (.agg [(.ints .u8 20 t.x.1), (.agg [(.int .u64 t.x.2.1), (.ints .u64 4 t.x.2.2.1), (.rints .u8 t.x.2.2.2.1), (.robjs 77 8 t.x.w.1)])]))), (some (.mp t.x.w.2.1)), (some (.mp t.x.w.2.2))])
def Fbm.l8_0.res : Ty24 → Ex × St
 | u => ((.exit 2), (St.mk [(.int .i64 u.1), (.int .i64 u.2.1), (.robjs 72 27 u.2.2.1), (.ptr 0 [])] [(some (.var (.agg [(.own 1 0), (.own 2 0), (.raw (.map none)), (.raw (.map none)), (.raw (.map none)), (.raw (.map none)), (.int .i64 u.2.2.2.1), .snil, .snil, .snil, (.int .i64 u.w.1)]))), (some (.mp u.w.2.1)), (some (.mp u.w.2.2))]))
def Fbm.l3_0.r {α : Type} (mk0 : Int → Int → LA → LA → α) (n : Nat) (rc : Int → Int → LA → Int → Int → LA → LA → Option α)  (x0 x1 : Int) (x2 : LA) (x3 x4 : Int) (x5 x6 : LA) : Option α :=
 if (decide (x0 < x1)) = true then
 if 0 ≤ x0 then
 if x0 < (x2.length : Int) then
 bindO (tkAgg 2 (List.getD x2 (Int.toNat x0) AV.any)) fun r10 =>
 bindO (tkInts .u8 20 (List.getD r10 0 AV.any)) fun r12 =>
 bindO (tkAgg 4 (List.getD r10 1 AV.any)) fun r14 =>
 bindO (tkInt .u64 (List.getD r14 0 AV.any)) fun r16 =>
 bindO (tkInts .u64 4 (List.getD r14 1 AV.any)) fun r18 =>
 bindO (tkRints .u8 (List.getD r14 2 AV.any)) fun r20 =>
 bindO (tkRobjs 77 8 (List.getD r14 3 AV.any)) fun r22 =>
 bindO (Fp.m n (r12, x3, x4, x5, x6)) fun r24 =>
 bindO (Go.Abs.mputL (AV.ints .u8 20 r12) (AV.agg [(AV.int .u64 r16), (AV.ints .u64 4 r18), (AV.str (Go.Abs.strOf r20))]) r24.2.2.1) fun r26 =>
 bindO (Fbm.l8_0.m n n (0, (r22.length : Int), r22, x0, x1, x2, r24.1, r24.2.1, r12, r16, r18, r20, r22, r26, r24.2.2.2)) fun r28 =>
 rc (IntKind.wrap .i64 (r28.1 + 1)) r28.2.1 r28.2.2.1 r28.2.2.2.1 r28.w.1 r28.w.2.1 r28.w.2.2
 else
 none
 else
 none
 else
 some (mk0 x3 x4 x5 x6)
def Fbm.l3_0.g {α : Type} (mk0 : Int → Int → LA → LA → α) (n : Nat) : Nat → Int → Int → LA → Int → Int → LA → LA → Option α
 | 0, _, _, _, _, _, _, _ => none
 | m + 1, x0, x1, x2, x3, x4, x5, x6 => Fbm.l3_0.r mk0 n (fun y0 y1 y2 y3 y4 y5 y6 => Fbm.l3_0.g mk0 n m y0 y1 y2 y3 y4 y5 y6)  x0 x1 x2 x3 x4 x5 x6
def Fbm.l3_0.m (n m : Nat) (t : Ty24) : Option (Int × (Int × (LA × LA))) := Fbm.l3_0.g (fun a0 a1 a2 a3 => (a0, a1, a2, a3)) n m t.1 t.2.1 t.2.2.1 t.2.2.2.1 t.w.1 t.w.2.1 t.w.2.2
def Fbm.l3_0.pat : St → Option Ty24
 | (St.mk [(.int .i64 x0), (.int .i64 x1), (.robjs 72 27 x2), (.ptr 0 [])] [(some (.var (.agg [(.own 1 0), (.own 2 0), (.raw (.map none)), (.raw (.map none)), (.raw (.map none)), (.raw (.map none)), (.int .i64 x3), .snil, .snil, .snil, (.int .i64 x4)]))), (some (.mp x5)), (some (.mp x6))]) => some (x0, x1, x2, x3, x4, x5, x6)
 | _ => none
def Fbm.l3_0.shape (t : Ty24) : St := (St.mk [(.int .i64 t.1), (.int .i64 t.2.1), (.robjs 72 27 t.2.2.1), (.ptr 0 [])] [(some (.var (.agg [(.own 1 0), (.own 2 0), (.raw (.map none)), (.raw (.map none)), (.raw (.map none)), (.raw (.map none)), (.int .i64 t.2.2.2.1), .snil, .snil, .snil, (.int .i64 t.w.1)]))), (some (.mp t.w.2.1)), (some (.mp t.w.2.2))])
def Fbm.l3_0.res : (Int × (Int × (LA × LA))) → Ex × St
 | u => ((.exit 0), (St.mk [(.ptr 0 [])] [(some (.var (.agg [(.own 1 0), (.own 2 0), (.raw (.map none)), (.raw (.map none)), (.raw (.map none)), (.raw (.map none)), (.int .i64 u.1), .snil, .snil, .snil, (.int .i64 u.2.1)]))), (some (.mp u.2.2.1)), (some (.mp u.2.2.2))]))
noncomputable def Fbm.A (n : Nat) : Ann := ⟨Tryd.f9.ntmps, 0, Fbm.live, [(12, (.objs 72 27)), (41, (.objs 77 8))], [none], fun k => match k with
 | 8 => some (.mk' Fbm.l8_0.pat (Fbm.l8_0.m n n) (resKl Fbm.l8_0.res))
 | 3 => some (.mk' Fbm.l3_0.pat (Fbm.l3_0.m n n) (resKl Fbm.l3_0.res))
 | _ => none, noNL, lookJ []⟩
noncomputable def Fbm.b0 : Code := (loopsIn (Tryd.f9.body.getD .skip)).getD 0 .skip
noncomputable def Fbm.b1 : Code := (loopsIn (Tryd.f9.body.getD .skip)).getD 1 .skip
def Fbm.g {α : Type} (mk0 : LA → LA → Int → Int → α) (n : Nat) (a0 : LA) : Option α :=
 bindO (Fbm.l3_0.m n n (0, (a0.length : Int), a0, 0, 0, [], [])) fun r2 =>
 bindO (Fz.m n (r2.1, r2.2.1, r2.2.2.1, r2.2.2.2)) fun r4 =>
 some (mk0 r4.2.2.1 r4.2.2.2 r4.1 r4.2.1)
def Fbm.m (n : Nat) (t : LA) : Option (LA × (LA × (Int × Int))) := Fbm.g (fun a0 a1 a2 a3 => (a0, a1, a2, a3)) n t
def Fbm.pat : List AV → Blks → Option LA
 | [(.robjs 72 27 a0)], [] => some a0
 | _, _ => none
def Fbm.shape (t : LA) : List AV × Blks := ([(.robjs 72 27 t)], [])
def Fbm.res : (LA × (LA × (Int × Int))) → AV × Blks
 | u => ((.rptr (.agg [(.rmap u.1), (.rmap u.2.1), (.rmap []), (.rmap []), (.rmap []), (.rmap []), (.int .i64 u.2.2.1), .snil, .snil, .snil, (.int .i64 u.2.2.2)])), [])
def Fbm.c (n : Nat) : Abs.Callee := .mk' [] [(some (.objs 72 27))] Fbm.pat (Fbm.m n) (resKof Fbm.res)
noncomputable def Fbn.C (n : Nat) : Ctx := ⟨Tryd.prog, kecG, lookC [], fun _ => false⟩
noncomputable def Fbn.A (n : Nat) : Ann := ⟨Tryd.f24.ntmps, 0, noNL, [], [none], fun k => match k with
 | _ => none, noNL, lookJ []⟩
def Fbn.g {α : Type} (mk0 : LI → α) (n : Nat) (a0 : Int) : Option α :=
 some (mk0 [a0, 0, 0, 0])
def Fbn.m (n : Nat) (t : Int) : Option LI := Fbn.g (fun a0 => a0) n t
def Fbn.pat : List AV → Blks → Option Int
 | [(.int .u64 a0)], [] => some a0
 | _, _ => none
def Fbn.shape (t : Int) : List AV × Blks := ([(.int .u64 t)], [])
def Fbn.res : LI → AV × Blks
 | u => ((.ints .u64 4 u), [])
def Fbn.c (n : Nat) : Abs.Callee := .mk' [] [none] Fbn.pat (Fbn.m n) (resKof Fbn.res)
noncomputable def Fbo.C (n : Nat) : Ctx := ⟨Tryd.prog, kecG, lookC [(24, Fbn.c n), (57, Fbh.c n), (65, Fbu.c n)], fun _ => false⟩
noncomputable def Fbo.A (n : Nat) : Ann := ⟨Tryd.f45.ntmps, 0, noNL, [], [none], fun k => match k with
 | _ => none, noNL, lookJ []⟩
def Fbo.g {α : Type} (mk0 : LI → α) (n : Nat) (a0 : LI) (a1 a2 : Int) : Option α :=
 bindO (Fbn.m n 96) fun r2 =>
 bindO (Fbh.m n a0) fun r4 =>
 bindO (Fbu.m n (r2, r4)) fun r6 =>
 some (mk0 (List.set (List.set r6 0 a2) 1 (ibits BinOp.or .u64 (List.getD r6 1 0) a1)))
def Fbo.m (n : Nat) (t : (LI × (Int × Int))) : Option LI := Fbo.g (fun a0 => a0) n t.1 t.2.1 t.2.2
def Fbo.pat : List AV → Blks → Option (LI × (Int × Int))
 | [(.ints .u8 20 a0), (.int .u64 a1), (.int .u64 a2)], [] => some (a0, a1, a2)
 | _, _ => none
def Fbo.shape (t : (LI × (Int × Int))) : List AV × Blks := ([(.ints .u8 20 t.1), (.int .u64 t.2.1), (.int .u64 t.2.2)], [])
def Fbo.res : LI → AV × Blks
 | u => ((.ints .u64 4 u), [])
def Fbo.c (n : Nat) : Abs.Callee := .mk' [] [none, none, none] Fbo.pat (Fbo.m n) (resKof Fbo.res)
noncomputable def Faq.C (n : Nat) : Ctx := ⟨Tryd.prog, kecG, lookC [(44, Fbi.c n), (45, Fbo.c n), (43, Fae.c n)], fun _ => false⟩
noncomputable def Faq.A (n : Nat) : Ann := ⟨Tryd.f22.ntmps, 0, noNL, [], [none], fun k => match k with
 | _ => none, noNL, lookJ []⟩
def Faq.g {α : Type} (mk0 : LI → Int → Int → α) (n : Nat) (vd vk : LA) (wa wc : Int) (a1 : LI) : Option α :=
 bindO (Fbi.m n Unit.unit) fun r2 =>
 bindO (Fbo.m n (a1, 2, 0)) fun r4 =>
 bindO (Fae.m n (vd, vk, wa, wc, r2, r4)) fun r6 =>
 bindO (Fbi.m n Unit.unit) fun r8 =>
 bindO (Fbo.m n (a1, 1, 0)) fun r10 =>
 bindO (Fae.m n (vd, vk, wa, wc, r8, r10)) fun r12 =>
 some (mk0 r12 (List.getD r6 1 0) (List.getD r6 0 0))
def Faq.m (n : Nat) (t : (LA × (LA × (Int × (Int × LI))))) : Option (LI × (Int × Int)) := Faq.g (fun a0 a1 a2 => (a0, a1, a2)) n t.1 t.2.1 t.2.2.1 t.2.2.2.1 t.w
def Faq.pat : List AV → Blks → Option (LA × (LA × (Int × (Int × LI))))
 | [(.rptr (.agg [(.rmap vd), (.rmap vk), (.rmap []), (.rmap []), (.rmap []), (.rmap []), (.int .i64 wa), .snil, .snil, .snil, (.int .i64 wc)])), (.ints .u8 20 a1)], [] => some (vd, vk, wa, wc, a1)
 | _, _ => none
def Faq.shape (t : (LA × (LA × (Int × (Int × LI))))) : List AV × Blks := ([(.rptr (.agg [(.rmap t.1), (.rmap t.2.1), (.rmap []), (.rmap []), (.rmap []), (.rmap []), (.int .i64 t.2.2.1), .snil, .snil, .snil, (.int .i64 t.2.2.2.1)])), (.ints .u8 20 t.w)], [])
def Faq.res : (LI × (Int × Int)) → AV × Blks
 | u => ((.agg [(.ints .u64 4 u.1), (.int .u64 u.2.1), (.int .u64 u.2.2)]), [])
def Faq.c (n : Nat) : Abs.Callee := .mk' [] [none, none] Faq.pat (Faq.m n) (resKof Faq.res)
noncomputable def Fcb.C (n : Nat) : Ctx := ⟨Tryd.prog, kecG, lookC [], fun _ => false⟩
noncomputable def Fcb.A (n : Nat) : Ann := ⟨Tryd.f27.ntmps, 0, noNL, [], [none], fun k => match k with
 | _ => none, noNL, lookJ []⟩
def Fcb.g {α : Type} (mk0 : LI → α) (n : Nat) (a0 : Int) : Option α :=
 some (mk0 [a0, 0, 0, 0])
def Fcb.m (n : Nat) (t : Int) : Option LI := Fcb.g (fun a0 => a0) n t
def Fcb.pat : List AV → Blks → Option Int
 | [(.int .u64 a0)], [] => some a0
 | _, _ => none
def Fcb.shape (t : Int) : List AV × Blks := ([(.int .u64 t)], [])
def Fcb.res : LI → AV × Blks
 | u => ((.ints .u64 4 u), [])
def Fcb.c (n : Nat) : Abs.Callee := .mk' [] [none] Fcb.pat (Fcb.m n) (resKof Fcb.res)
noncomputable def Fbp.C (n : Nat) : Ctx := ⟨Tryd.prog, kecG, lookC [(27, Fcb.c n), (81, Fbw.c n), (80, Fci.c n), (82, Fce.c n)], fun _ => false⟩
noncomputable def Fbp.A (n : Nat) : Ann := ⟨Tryd.f69.ntmps, 0, noNL, [], [none], fun k => match k with
 | _ => none, noNL, lookJ []⟩
def Fbp.g {α : Type} (mk0 : LI → α) (n : Nat) (a0 : LI) (a1 a2 : Int) : Option α :=
 bindO (Fcb.m n 96) fun r2 =>
 bindO (Fbw.m n a0) fun r4 =>
 bindO (Fci.m n (r2, r4)) fun r6 =>
 bindO (Fce.m n (r6, [a2, a1, 0, 0])) fun r8 =>
 some (mk0 r8.1)
def Fbp.m (n : Nat) (t : (LI × (Int × Int))) : Option LI := Fbp.g (fun a0 => a0) n t.1 t.2.1 t.2.2
def Fbp.pat : List AV → Blks → Option (LI × (Int × Int))
 | [(.ints .u8 20 a0), (.int .u64 a1), (.int .u64 a2)], [] => some (a0, a1, a2)
 | _, _ => none
def Fbp.shape (t : (LI × (Int × Int))) : List AV × Blks := ([(.ints .u8 20 t.1), (.int .u64 t.2.1), (.int .u64 t.2.2)], [])
def Fbp.res : LI → AV × Blks
 | u => ((.ints .u64 4 u), [])
def Fbp.c (n : Nat) : Abs.Callee := .mk' [] [none, none, none] Fbp.pat (Fbp.m n) (resKof Fbp.res)
noncomputable def Fcc.C (n : Nat) : Ctx := ⟨Tryd.prog, kecG, lookC [(69, Fbp.c n)], fun _ => false⟩
noncomputable def Fcc.A (n : Nat) : Ann := ⟨Tryd.f48.ntmps, 0, noNL, [], [none], fun k => match k with
 | _ => none, noNL, lookJ []⟩
def Fcc.g {α : Type} (mk0 : LI → α) (n : Nat) (a0 : LI) (a1 : Int) : Option α :=
 bindO (Fbp.m n (a0, a1, 0)) fun r2 =>
 some (mk0 r2)
def Fcc.m (n : Nat) (t : (LI × Int)) : Option LI := Fcc.g (fun a0 => a0) n t.1 t.2
def Fcc.pat : List AV → Blks → Option (LI × Int)
 | [(.ints .u8 20 a0), (.int .u64 a1)], [] => some (a0, a1)
 | _, _ => none
def Fcc.shape (t : (LI × Int)) : List AV × Blks := ([(.ints .u8 20 t.1), (.int .u64 t.2)], [])
def Fcc.res : LI → AV × Blks
 | u => ((.ints .u64 4 u), [])
def Fcc.c (n : Nat) : Abs.Callee := .mk' [] [none, none] Fcc.pat (Fcc.m n) (resKof Fcc.res)
noncomputable def Fcd.C (n : Nat) : Ctx := ⟨Tryd.prog, kecG, lookC [], fun _ => false⟩
noncomputable def Fcd.A (n : Nat) : Ann := ⟨Tryd.f68.ntmps, 0, noNL, [], [none], fun k => match k with
 | _ => none, noNL, lookJ []⟩
def Fcd.g {α : Type} (mk0 : LI → α) (n : Nat)  : Option α :=
 some (mk0 ([0, 0, 0, 0, 113, 114, 125, 226, 46, 94, 157, 139, 175, 14, 218, 198, 243, 125, 160, 50] : List Int))
def Fcd.m (n : Nat) (t : Unit) : Option LI := Fcd.g (fun a0 => a0) n 
def Fcd.pat : List AV → Blks → Option Unit
 | [], [] => some ()
 | _, _ => none
def Fcd.shape (t : Unit) : List AV × Blks := ([], [])
def Fcd.res : LI → AV × Blks
 | u => ((.ints .u8 20 u), [])
def Fcd.c (n : Nat) : Abs.Callee := .mk' [] [] Fcd.pat (Fcd.m n) (resKof Fcd.res)
noncomputable def Faj.C (n : Nat) : Ctx := ⟨Tryd.prog, kecG, lookC [(79, Fcl.c n)], fun _ => false⟩
noncomputable def Faj.A (n : Nat) : Ann := ⟨Tryd.f67.ntmps, 0, noNL, [], [none], fun k => match k with
 | _ => none, noNL, lookJ []⟩
def Faj.g {α : Type} (mk0 : LI → α) (n : Nat) (vd vk : LA) (wb wd : Int) (a1 a2 : LI) : Option α :=
 bindO (Fcl.m n (vd, a1, a2)) fun r2 =>
 some (mk0 r2)
def Faj.m (n : Nat) (t : (LA × (LA × (Int × (Int × (LI × LI)))))) : Option LI := Faj.g (fun a0 => a0) n t.1 t.2.1 t.2.2.1 t.2.2.2.1 t.w.1 t.w.2
def Faj.pat : List AV → Blks → Option (LA × (LA × (Int × (Int × (LI × LI)))))
 | [(.rptr (.agg [(.robjs 72 27 vd), (.robjs 72 27 vk), .snil, .snil, (.int .i64 wb), .snil, .snil, (.int .i64 wd), .snil, .snil])), (.ints .u8 20 a1), (.ints .u64 4 a2)], [] => some (vd, vk, wb, wd, a1, a2)
 | _, _ => none
def Faj.shape (t : (LA × (LA × (Int × (Int × (LI × LI)))))) : List AV × Blks := ([(.rptr (.agg [(.robjs 72 27 t.1), (.robjs 72 27 t.2.1), .snil, .snil, (.int .i64 t.2.2.1), .snil, .snil, (.int .i64 t.2.2.2.1), .snil, .snil])), (.ints .u8 20 t.w.1), (.ints .u64 4 t.w.2)], [])
def Faj.res : LI → AV × Blks
 | u => ((.ints .u64 4 u), [])
def Faj.c (n : Nat) : Abs.Callee := .mk' [] [none, none, none] Faj.pat (Faj.m n) (resKof Faj.res)
noncomputable def Fck.C (n : Nat) : Ctx := ⟨Tryd.prog, kecG, lookC [(68, Fcd.c n), (67, Faj.c n)], fun _ => false⟩
noncomputable def Fck.A (n : Nat) : Ann := ⟨Tryd.f47.ntmps, 0, noNL, [], [none], fun k => match k with
 | _ => none, noNL, lookJ []⟩
def Fck.g {α : Type} (mk0 : LI → α) (n : Nat) (vd vk : LA) (wb wd : Int) (a1 : LI) : Option α :=
 bindO (Fcd.m n Unit.unit) fun r2 =>
 bindO (Faj.m n (vd, vk, wb, wd, r2, a1)) fun r4 =>
 some (mk0 r4)
def Fck.m (n : Nat) (t : (LA × (LA × (Int × (Int × LI))))) : Option LI := Fck.g (fun a0 => a0) n t.1 t.2.1 t.2.2.1 t.2.2.2.1 t.w
def Fck.pat : List AV → Blks → Option (LA × (LA × (Int × (Int × LI))))
 | [(.rptr (.agg [(.robjs 72 27 vd), (.robjs 72 27 vk), .snil, .snil, (.int .i64 wb), .snil, .snil, (.int .i64 wd), .snil, .snil])), (.ints .u64 4 a1)], [] => some (vd, vk, wb, wd, a1)
 | _, _ => none
def Fck.shape (t : (LA × (LA × (Int × (Int × LI))))) : List AV × Blks := ([(.rptr (.agg [(.robjs 72 27 t.1), (.robjs 72 27 t.2.1), .snil, .snil, (.int .i64 t.2.2.1), .snil, .snil, (.int .i64 t.2.2.2.1), .snil, .snil])), (.ints .u64 4 t.w)], [])
def Fck.res : LI → AV × Blks
 | u => ((.ints .u64 4 u), [])
def Fck.c (n : Nat) : Abs.Callee := .mk' [] [none, none] Fck.pat (Fck.m n) (resKof Fck.res)
