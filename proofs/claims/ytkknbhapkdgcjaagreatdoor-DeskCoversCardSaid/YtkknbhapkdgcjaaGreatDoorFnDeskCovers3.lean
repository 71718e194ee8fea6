/- What the program's functions compute, as plain functions, each with its proof: the function does just that. Condition: the plain function has an answer. -/
import Derived.Test.YtkknbhapkdgcjaaGreatDoorAbsC8
import Derived.Test.YtkknbhapkdgcjaaGreatDoorProg
import Derived.Test.YtkknbhapkdgcjaaGreatDoorFnDeskCovers1
import Derived.Test.YtkknbhapkdgcjaaGreatDoorFnDeskCovers2
set_option linter.unusedVariables false
set_option linter.unusedSimpArgs false
set_option maxRecDepth 100000
open Go Go.Abs Go.Proofs
set_option autoImplicit true
set_option relaxedAutoImplicit true
noncomputable section
noncomputable def Fl.C (n : Nat) : Ctx := ⟨Tryz.prog, zI, zU [(40, Fal.c n), (51, Fca.c n), (24, Fao.c n), (89, Fah.c n)], fun _ => false⟩
noncomputable def Fl.A (n : Nat) : Ann := ⟨Tryz.f74.ntmps, 8, zV, [], [none, (some (.agg [(some (.ints .u8))]))], fun k => match k with
 | _ => none, zV, zW []⟩
def Fl.g {α : Type} (mk0 : Nat → Int → LI → LI → Int → Int → LA → LA → LA → LA → LA → LA → α) (mk1 : Int → LI → LI → Int → Int → LA → LA → LA → LA → LA → LA → α) (n : Nat) (t : Int) (c v : LI) (r x : Int) (l p : LA) (q o : LA) (j z : LA) : Option α :=
 zD (Fal.m n (c, r, x, p, q, o, j, z)) fun r2 =>
 if 0 < (l.length : Int) then
 zD (tkInts .u64 4 (List.getD l 0 AV.any)) fun r6 =>
 zD (Fca.m n (r2.1, v)) fun r8 =>
 zD (Fao.m n (r6, 32)) fun r10 =>
 if (!r10) = true then
 some (mk0 2 t c v r2.2.2.2.1 r2.w.1 l r2.w.2.1 r2.w.2.2.1 r2.w.2.2.2.1 r2.x.2 r2.x.1)
 else
 if ((List.getD r6 0 0) == 0) = true then
 some (mk0 2 t c v r2.2.2.2.1 r2.w.1 l r2.w.2.1 r2.w.2.2.1 r2.w.2.2.2.1 r2.x.2 r2.x.1)
 else
 if (decide ((List.getD r6 0 0) < r2.2.1)) = true then
 some (mk0 2 t c v r2.2.2.2.1 r2.w.1 l r2.w.2.1 r2.w.2.2.1 r2.w.2.2.2.1 r2.x.2 r2.x.1)
 else
 if r8.2 = true then
 some (mk0 2 t c v r2.2.2.2.1 r2.w.1 l r2.w.2.1 r2.w.2.2.1 r2.w.2.2.2.1 r2.x.2 r2.x.1)
 else
 if (r8.1 == [0, 0, 0, 0]) = true then
 some (mk0 2 t c v r2.2.2.2.1 r2.w.1 l r2.w.2.1 r2.w.2.2.1 r2.w.2.2.2.1 r2.x.2 r2.x.1)
 else
 zD (Fah.m n (c, r8.1, (List.getD r6 0 0), 0, r2.2.2.2.1, r2.w.1, r2.w.2.1, r2.w.2.2.1, r2.w.2.2.2.1, r2.x.1, r2.x.2)) fun r22 =>
 some (mk1 t c v r22.1 r22.2.1 l r22.2.2.1 r22.2.2.2.1 r22.w.1 r22.w.2.1 r22.w.2.2)
 else
 none
def Fl.m (n : Nat) (t : kG) : Option ((Nat × kG) ⊕ kG) := Fl.g (fun a0 a1 a2 a3 a4 a5 a6 a7 a8 a9 a10 a11 => (.inl (a0, a1, a2, a3, a4, a5, a6, a7, a8, a9, a10, a11))) (fun a0 a1 a2 a3 a4 a5 a6 a7 a8 a9 a10 => (.inr (a0, a1, a2, a3, a4, a5, a6, a7, a8, a9, a10))) n t.1 t.2.1 t.2.2.1 t.2.2.2.1 t.w.1 t.w.2.1 t.w.2.2.1 t.w.2.2.2.1 t.x.1 t.x.2.1 t.x.2.2
def Fl.pat : List AV → zC → Option kG
 | [(.ptr 0 [])], [(some (.var (.agg [(.ptr 1 []), (.int .u64 t), (.ints .u8 20 c), (.ints .u64 4 v), (.own 2 4)]))), (some (.var (.agg [(.own 3 0), (.own 4 0), (.rmap []), (.rmap []), (.own 5 0), (.rmap []), (.int .i64 r), .snil, (.own 6 36), (.own 7 2), (.int .i64 x)]))), (some (.objs 26 4 l)), (some (.mp p)), (some (.mp q)), (some (.mp o)), (some (.objs 104 36 j)), (some (.objs 83 2 z))] => some (t, c, v, r, x, l, p, q, o, j, z)
 | _, _ => none
def Fl.shape (t : kG) : List AV × zC := ([(.ptr 0 [])], [(some (.var (.agg [(.ptr 1 []), (.int .u64 t.1), (.ints .u8 20 t.2.1), (.ints .u64 4 t.2.2.1), (.own 2 4)]))), (some (.var (.agg [(.own 3 0), (.own 4 0), (.rmap []), (.rmap []), (.own 5 0), (.rmap []), (.int .i64 t.2.2.2.1), .snil, (.own 6 36), (.own 7 2), (.int .i64 t.w.1)]))), (some (.objs 26 4 t.w.2.1)), (some (.mp t.w.2.2.1)), (some (.mp t.w.2.2.2.1)), (some (.mp t.x.1)), (some (.objs 104 36 t.x.2.1)), (some (.objs 83 2 t.x.2.2))])
def Fl.res : ((Nat × kG) ⊕ kG) → AV × zC
 | (.inl u) => ((.errv 124 201 u.1), [(some (.var (.agg [(.ptr 1 []), (.int .u64 u.2.1), (.ints .u8 20 u.2.2.1), (.ints .u64 4 u.2.2.2.1), (.own 2 4)]))), (some (.var (.agg [(.own 3 0), (.own 4 0), (.rmap []), (.rmap []), (.own 5 0), (.rmap []), (.int .i64 u.w.1), .snil, (.own 8 36), (.own 7 2), (.int .i64 u.w.2.1)]))), (some (.objs 26 4 u.w.2.2.1)), (some (.mp u.w.2.2.2.1)), (some (.mp u.x.1)), (some (.mp u.x.2.1)), none, (some (.objs 83 2 u.x.2.2.1)), (some (.objs 104 36 u.x.2.2.2))])
 | (.inr u) => (.nili, [(some (.var (.agg [(.ptr 1 []), (.int .u64 u.1), (.ints .u8 20 u.2.1), (.ints .u64 4 u.2.2.1), (.own 2 4)]))), (some (.var (.agg [(.own 3 0), (.own 4 0), (.rmap []), (.rmap []), (.own 5 0), (.rmap []), (.int .i64 u.2.2.2.1), .snil, (.own 8 36), (.own 7 2), (.int .i64 u.w.1)]))), (some (.objs 26 4 u.w.2.1)), (some (.mp u.w.2.2.1)), (some (.mp u.w.2.2.2.1)), (some (.mp u.x.1)), none, (some (.objs 83 2 u.x.2.1)), (some (.objs 104 36 u.x.2.2))])
def Fl.resK {R : Type} (u : ((Nat × kG) ⊕ kG)) (K : AV → zC → Option R) : Option R := match u with
 | (.inl u) => (fun p : AV × zC => K p.1 p.2) ((.errv 124 201 u.1), [(some (.var (.agg [(.ptr 1 []), (.int .u64 u.2.1), (.ints .u8 20 u.2.2.1), (.ints .u64 4 u.2.2.2.1), (.own 2 4)]))), (some (.var (.agg [(.own 3 0), (.own 4 0), (.rmap []), (.rmap []), (.own 5 0), (.rmap []), (.int .i64 u.w.1), .snil, (.own 8 36), (.own 7 2), (.int .i64 u.w.2.1)]))), (some (.objs 26 4 u.w.2.2.1)), (some (.mp u.w.2.2.2.1)), (some (.mp u.x.1)), (some (.mp u.x.2.1)), none, (some (.objs 83 2 u.x.2.2.1)), (some (.objs 104 36 u.x.2.2.2))])
 | (.inr u) => (fun p : AV × zC => K p.1 p.2) (.nili, [(some (.var (.agg [(.ptr 1 []), (.int .u64 u.1), (.ints .u8 20 u.2.1), (.ints .u64 4 u.2.2.1), (.own 2 4)]))), (some (.var (.agg [(.own 3 0), (.own 4 0), (.rmap []), (.rmap []), (.own 5 0), (.rmap []), (.int .i64 u.2.2.2.1), .snil, (.own 8 36), (.own 7 2), (.int .i64 u.w.1)]))), (some (.objs 26 4 u.w.2.1)), (some (.mp u.w.2.2.1)), (some (.mp u.w.2.2.2.1)), (some (.mp u.x.1)), none, (some (.objs 83 2 u.x.2.1)), (some (.objs 104 36 u.x.2.2))])
def Fl.c (n : Nat) : Abs.Callee := .mk' [true] [none] Fl.pat (Fl.m n) Fl.resK
noncomputable def Ft.C (n : Nat) : Ctx := ⟨Tryz.prog, zI, zU [(40, Fal.c n), (89, Fah.c n)], fun _ => false⟩
noncomputable def Ft.A (n : Nat) : Ann := ⟨Tryz.f75.ntmps, 8, zV, [], [none, (some (.agg [(some (.ints .u8))]))], fun k => match k with
 | _ => none, zV, zW []⟩
def Ft.g {α : Type} (mk0 : Nat → Int → LI → LI → Int → Int → LA → LA → LA → LA → LA → LA → α) (mk1 : Int → LI → LI → Int → Int → LA → LA → LA → LA → LA → LA → α) (n : Nat) (t : Int) (c v : LI) (r x : Int) (l p : LA) (q o : LA) (j z : LA) : Option α :=
 zD (Fal.m n (c, r, x, p, q, o, j, z)) fun r2 =>
 if (r2.2.1 == 0) = true then
 some (mk0 2 t c v r2.2.2.2.1 r2.w.1 l r2.w.2.1 r2.w.2.2.1 r2.w.2.2.2.1 r2.x.2 r2.x.1)
 else
 if (r2.2.2.1 != 0) = true then
 some (mk0 2 t c v r2.2.2.2.1 r2.w.1 l r2.w.2.1 r2.w.2.2.1 r2.w.2.2.2.1 r2.x.2 r2.x.1)
 else
 if (decide ((IntKind.wrap .u64 (t + r2.2.1)) < t)) = true then
 some (mk0 2 t c v r2.2.2.2.1 r2.w.1 l r2.w.2.1 r2.w.2.2.1 r2.w.2.2.2.1 r2.x.2 r2.x.1)
 else
 zD (Fah.m n (c, r2.1, r2.2.1, (IntKind.wrap .u64 (t + r2.2.1)), r2.2.2.2.1, r2.w.1, r2.w.2.1, r2.w.2.2.1, r2.w.2.2.2.1, r2.x.1, r2.x.2)) fun r10 =>
 some (mk1 t c v r10.1 r10.2.1 l r10.2.2.1 r10.2.2.2.1 r10.w.1 r10.w.2.1 r10.w.2.2)
def Ft.m (n : Nat) (t : kG) : Option ((Nat × kG) ⊕ kG) := Ft.g (fun a0 a1 a2 a3 a4 a5 a6 a7 a8 a9 a10 a11 => (.inl (a0, a1, a2, a3, a4, a5, a6, a7, a8, a9, a10, a11))) (fun a0 a1 a2 a3 a4 a5 a6 a7 a8 a9 a10 => (.inr (a0, a1, a2, a3, a4, a5, a6, a7, a8, a9, a10))) n t.1 t.2.1 t.2.2.1 t.2.2.2.1 t.w.1 t.w.2.1 t.w.2.2.1 t.w.2.2.2.1 t.x.1 t.x.2.1 t.x.2.2
def Ft.pat : List AV → zC → Option kG
 | [(.ptr 0 [])], [(some (.var (.agg [(.ptr 1 []), (.int .u64 t), (.ints .u8 20 c), (.ints .u64 4 v), (.own 2 4)]))), (some (.var (.agg [(.own 3 0), (.own 4 0), (.rmap []), (.rmap []), (.own 5 0), (.rmap []), (.int .i64 r), .snil, (.own 6 36), (.own 7 2), (.int .i64 x)]))), (some (.objs 26 4 l)), (some (.mp p)), (some (.mp q)), (some (.mp o)), (some (.objs 104 36 j)), (some (.objs 83 2 z))] => some (t, c, v, r, x, l, p, q, o, j, z)
 | _, _ => none
def Ft.shape (t : kG) : List AV × zC := ([(.ptr 0 [])], [(some (.var (.agg [(.ptr 1 []), (.int .u64 t.1), (.ints .u8 20 t.2.1), (.ints .u64 4 t.2.2.1), (.own 2 4)]))), (some (.var (.agg [(.own 3 0), (.own 4 0), (.rmap []), (.rmap []), (.own 5 0), (.rmap []), (.int .i64 t.2.2.2.1), .snil, (.own 6 36), (.own 7 2), (.int .i64 t.w.1)]))), (some (.objs 26 4 t.w.2.1)), (some (.mp t.w.2.2.1)), (some (.mp t.w.2.2.2.1)), (some (.mp t.x.1)), (some (.objs 104 36 t.x.2.1)), (some (.objs 83 2 t.x.2.2))])
def Ft.res : ((Nat × kG) ⊕ kG) → AV × zC
 | (.inl u) => ((.errv 124 201 u.1), [(some (.var (.agg [(.ptr 1 []), (.int .u64 u.2.1), (.ints .u8 20 u.2.2.1), (.ints .u64 4 u.2.2.2.1), (.own 2 4)]))), (some (.var (.agg [(.own 3 0), (.own 4 0), (.rmap []), (.rmap []), (.own 5 0), (.rmap []), (.int .i64 u.w.1), .snil, (.own 8 36), (.own 7 2), (.int .i64 u.w.2.1)]))), (some (.objs 26 4 u.w.2.2.1)), (some (.mp u.w.2.2.2.1)), (some (.mp u.x.1)), (some (.mp u.x.2.1)), none, (some (.objs 83 2 u.x.2.2.1)), (some (.objs 104 36 u.x.2.2.2))])
 | (.inr u) => (.nili, [(some (.var (.agg [(.ptr 1 []), (.int .u64 u.1), (.ints .u8 20 u.2.1), (.ints .u64 4 u.2.2.1), (.own 2 4)]))), (some (.var (.agg [(.own 3 0), (.own 4 0), (.rmap []), (.rmap []), (.own 5 0), (.rmap []), (.int .i64 u.2.2.2.1), .snil, (.own 8 36), (.own 7 2), (.int .i64 u.w.1)]))), (some (.objs 26 4 u.w.2.1)), (some (.mp u.w.2.2.1)), (some (.mp u.w.2.2.2.1)), (some (.mp u.x.1)), none, (some (.objs 83 2 u.x.2.1)), (some (.objs 104 36 u.x.2.2))])
def Ft.resK {R : Type} (u : ((Nat × kG) ⊕ kG)) (K : AV → zC → Option R) : Option R := match u with
 | (.inl u) => (fun p : AV × zC => K p.1 p.2) ((.errv 124 201 u.1), [(some (.var (.agg [(.ptr 1 []), (.int .u64 u.2.1), (.ints .u8 20 u.2.2.1), (.ints .u64 4 u.2.2.2.1), (.own 2 4)]))), (some (.var (.agg [(.own 3 0), (.own 4 0), (.rmap []), (.rmap []), (.own 5 0), (.rmap []), (.int .i64 u.w.1), .snil, (.own 8 36), (.own 7 2), (.int .i64 u.w.2.1)]))), (some (.objs 26 4 u.w.2.2.1)), (some (.mp u.w.2.2.2.1)), (some (.mp u.x.1)), (some (.mp u.x.2.1)), none, (some (.objs 83 2 u.x.2.2.1)), (some (.objs 104 36 u.x.2.2.2))])
 | (.inr u) => (fun p : AV × zC => K p.1 p.2) (.nili, [(some (.var (.agg [(.ptr 1 []), (.int .u64 u.1), (.ints .u8 20 u.2.1), (.ints .u64 4 u.2.2.1), (.own 2 4)]))), (some (.var (.agg [(.own 3 0), (.own 4 0), (.rmap []), (.rmap []), (.own 5 0), (.rmap []), (.int .i64 u.2.2.2.1), .snil, (.own 8 36), (.own 7 2), (.int .i64 u.w.1)]))), (some (.objs 26 4 u.w.2.1)), (some (.mp u.w.2.2.1)), (some (.mp u.w.2.2.2.1)), (some (.mp u.x.1)), none, (some (.objs 83 2 u.x.2.1)), (some (.objs 104 36 u.x.2.2))])
def Ft.c (n : Nat) : Abs.Callee := .mk' [true] [none] Ft.pat (Ft.m n) Ft.resK
noncomputable def Faf.C (n : Nat) : Ctx := ⟨Tryz.prog, zI, zU [(70, Fn.c n), (10, Fbj.c n), (95, Fad.c n), (73, Fbl.c n)], fun _ => false⟩
noncomputable def Faf.A (n : Nat) : Ann := ⟨Tryz.f90.ntmps, 8, zV, [], [none, (some (.agg [(some (.ints .u8))]))], fun k => match k with
 | _ => none, zV, zW []⟩
def Faf.g {α : Type} (mk0 : Nat → Int → LI → LI → Int → Int → LA → LA → LA → LA → LA → LA → α) (mk1 : Int → LI → LI → Int → Int → LA → LA → LA → LA → LA → LA → α) (n : Nat) (k : LI) (t : Int) (c v : LI) (r x : Int) (l p : LA) (q o : LA) (j z : LA) : Option α :=
 zD (Fn.m n (t, c, v, r, x, l, p, q, o, j, z)) fun r2 => match r2 with
  | (.inl r2) =>
   some (mk0 r2.2.1 r2.2.2.1 r2.2.2.2.1 r2.w.1 r2.w.2.1 r2.w.2.2.1 r2.w.2.2.2.1 r2.x.1 r2.x.2.1 r2.x.2.2.1 r2.x.w r2.x.2.2.2.1)
  | (.inr r2) =>
   zD (Fbj.m n Unit.unit) fun r6 =>
    zD (Fad.m n (r6, r2.1, k, r2.w.1, r2.w.2.1, r2.w.2.2.2.1, r2.x.1, r2.x.2.1, r2.x.2.2.1, r2.x.2.2.2)) fun r8 =>
     zD (Fbl.m n r8.1) fun r10 => match r10 with
      | (.inl r10) =>
       some (mk1 r2.2.1 r2.2.2.1 r2.2.2.2.1 r8.2.1 r8.2.2.1 r2.w.2.2.1 r8.2.2.2.1 r8.w.1 r8.w.2.1 r8.w.2.2.1 r8.w.2.2.2)
      | (.inr r10) =>
       some (mk0 r10 r2.2.1 r2.2.2.1 r2.2.2.2.1 r8.2.1 r8.2.2.1 r2.w.2.2.1 r8.2.2.2.1 r8.w.1 r8.w.2.1 r8.w.2.2.1 r8.w.2.2.2)
def Faf.m (n : Nat) (t : Ty9) : Option ((Nat × kG) ⊕ kG) := Faf.g (fun a0 a1 a2 a3 a4 a5 a6 a7 a8 a9 a10 a11 => (.inl (a0, a1, a2, a3, a4, a5, a6, a7, a8, a9, a10, a11))) (fun a0 a1 a2 a3 a4 a5 a6 a7 a8 a9 a10 => (.inr (a0, a1, a2, a3, a4, a5, a6, a7, a8, a9, a10))) n t.1 t.2.1 t.2.2.1 t.2.2.2.1 t.w.1 t.w.2.1 t.w.2.2.1 t.w.2.2.2.1 t.x.1 t.x.2.1 t.x.2.2.1 t.x.2.2.2
def Faf.pat : List AV → zC → Option Ty9
 | [(.ptr 0 []), (.ints .u64 4 k)], [(some (.var (.agg [(.ptr 1 []), (.int .u64 t), (.ints .u8 20 c), (.ints .u64 4 v), (.own 2 4)]))), (some (.var (.agg [(.own 3 0), (.own 4 0), (.rmap []), (.rmap []), (.own 5 0), (.rmap []), (.int .i64 r), .snil, (.own 6 36), (.own 7 2), (.int .i64 x)]))), (some (.objs 26 4 l)), (some (.mp p)), (some (.mp q)), (some (.mp o)), (some (.objs 104 36 j)), (some (.objs 83 2 z))] => some (k, t, c, v, r, x, l, p, q, o, j, z)
 | _, _ => none
def Faf.shape (t : Ty9) : List AV × zC := ([(.ptr 0 []), (.ints .u64 4 t.1)], [(some (.var (.agg [(.ptr 1 []), (.int .u64 t.2.1), (.ints .u8 20 t.2.2.1), (.ints .u64 4 t.2.2.2.1), (.own 2 4)]))), (some (.var (.agg [(.own 3 0), (.own 4 0), (.rmap []), (.rmap []), (.own 5 0), (.rmap []), (.int .i64 t.w.1), .snil, (.own 6 36), (.own 7 2), (.int .i64 t.w.2.1)]))), (some (.objs 26 4 t.w.2.2.1)), (some (.mp t.w.2.2.2.1)), (some (.mp t.x.1)), (some (.mp t.x.2.1)), (some (.objs 104 36 t.x.2.2.1)), (some (.objs 83 2 t.x.2.2.2))])
def Faf.res : ((Nat × kG) ⊕ kG) → AV × zC
 | (.inl u) => ((.errv 124 201 u.1), [(some (.var (.agg [(.ptr 1 []), (.int .u64 u.2.1), (.ints .u8 20 u.2.2.1), (.ints .u64 4 u.2.2.2.1), (.own 2 4)]))), (some (.var (.agg [(.own 3 0), (.own 4 0), (.rmap []), (.rmap []), (.own 5 0), (.rmap []), (.int .i64 u.w.1), .snil, (.own 8 36), (.own 7 2), (.int .i64 u.w.2.1)]))), (some (.objs 26 4 u.w.2.2.1)), (some (.mp u.w.2.2.2.1)), (some (.mp u.x.1)), (some (.mp u.x.2.1)), none, (some (.objs 83 2 u.x.2.2.1)), (some (.objs 104 36 u.x.2.2.2))])
 | (.inr u) => (.nili, [(some (.var (.agg [(.ptr 1 []), (.int .u64 u.1), (.ints .u8 20 u.2.1), (.ints .u64 4 u.2.2.1), (.own 2 4)]))), (some (.var (.agg [(.own 3 0), (.own 4 0), (.rmap []), (.rmap []), (.own 5 0), (.rmap []), (.int .i64 u.2.2.2.1), .snil, (.own 8 36), (.own 7 2), (.int .i64 u.w.1)]))), (some (.objs 26 4 u.w.2.1)), (some (.mp u.w.2.2.1)), (some (.mp u.w.2.2.2.1)), (some (.mp u.x.1)), none, (some (.objs 83 2 u.x.2.1)), (some (.objs 104 36 u.x.2.2))])
def Faf.resK {R : Type} (u : ((Nat × kG) ⊕ kG)) (K : AV → zC → Option R) : Option R := match u with
 | (.inl u) => (fun p : AV × zC => K p.1 p.2) ((.errv 124 201 u.1), [(some (.var (.agg [(.ptr 1 []), (.int .u64 u.2.1), (.ints .u8 20 u.2.2.1), (.ints .u64 4 u.2.2.2.1), (.own 2 4)]))), (some (.var (.agg [(.own 3 0), (.own 4 0), (.rmap []), (.rmap []), (.own 5 0), (.rmap []), (.int .i64 u.w.1), .snil, (.own 8 36), (.own 7 2), (.int .i64 u.w.2.1)]))), (some (.objs 26 4 u.w.2.2.1)), (some (.mp u.w.2.2.2.1)), (some (.mp u.x.1)), (some (.mp u.x.2.1)), none, (some (.objs 83 2 u.x.2.2.1)), (some (.objs 104 36 u.x.2.2.2))])
 | (.inr u) => (fun p : AV × zC => K p.1 p.2) (.nili, [(some (.var (.agg [(.ptr 1 []), (.int .u64 u.1), (.ints .u8 20 u.2.1), (.ints .u64 4 u.2.2.1), (.own 2 4)]))), (some (.var (.agg [(.own 3 0), (.own 4 0), (.rmap []), (.rmap []), (.own 5 0), (.rmap []), (.int .i64 u.2.2.2.1), .snil, (.own 8 36), (.own 7 2), (.int .i64 u.w.1)]))), (some (.objs 26 4 u.w.2.1)), (some (.mp u.w.2.2.1)), (some (.mp u.w.2.2.2.1)), (some (.mp u.x.1)), none, (some (.objs 83 2 u.x.2.1)), (some (.objs 104 36 u.x.2.2))])
def Faf.c (n : Nat) : Abs.Callee := .mk' [true, false] [none, none] Faf.pat (Faf.m n) Faf.resK
noncomputable def Fe.C (n : Nat) : Ctx := ⟨Tryz.prog, zI, zU [(40, Fal.c n), (89, Fah.c n), (90, Faf.c n)], fun _ => false⟩
noncomputable def Fe.A (n : Nat) : Ann := ⟨Tryz.f76.ntmps, 8, zV, [], [none, (some (.agg [(some (.ints .u8))]))], fun k => match k with
 | _ => none, zV, zW []⟩
def Fe.g {α : Type} (mk0 : Nat → Int → LI → LI → Int → Int → LA → LA → LA → LA → LA → LA → α) (mk1 : Int → LI → LI → Int → Int → LA → LA → LA → LA → LA → LA → α) (n : Nat) (t : Int) (c v : LI) (r x : Int) (l p : LA) (q o : LA) (j z : LA) : Option α :=
 zD (Fal.m n (c, r, x, p, q, o, j, z)) fun r2 =>
  if (r2.1 == [0, 0, 0, 0]) = true then
   some (mk0 2 t c v r2.2.2.2.1 r2.w.1 l r2.w.2.1 r2.w.2.2.1 r2.w.2.2.2.1 r2.x.2 r2.x.1)
  else
   if (r2.2.2.1 == 0) = true then
    some (mk0 2 t c v r2.2.2.2.1 r2.w.1 l r2.w.2.1 r2.w.2.2.1 r2.w.2.2.2.1 r2.x.2 r2.x.1)
   else
    if (decide (r2.2.2.1 > t)) = true then
     some (mk0 2 t c v r2.2.2.2.1 r2.w.1 l r2.w.2.1 r2.w.2.2.1 r2.w.2.2.2.1 r2.x.2 r2.x.1)
    else
     zD (Fah.m n (c, [0, 0, 0, 0], 0, 0, r2.2.2.2.1, r2.w.1, r2.w.2.1, r2.w.2.2.1, r2.w.2.2.2.1, r2.x.1, r2.x.2)) fun r10 =>
      zD (Faf.m n (r2.1, t, c, v, r10.1, r10.2.1, l, r10.2.2.1, r10.2.2.2.1, r10.w.1, r10.w.2.2, r10.w.2.1)) fun r12 => match r12 with
       | (.inl r12) =>
        some (mk0 r12.1 r12.2.1 r12.2.2.1 r12.2.2.2.1 r12.w.1 r12.w.2.1 r12.w.2.2.1 r12.w.2.2.2.1 r12.x.1 r12.x.2.1 r12.x.2.2.1 r12.x.2.2.2)
       | (.inr r12) =>
        some (mk1 r12.1 r12.2.1 r12.2.2.1 r12.2.2.2.1 r12.w.1 r12.w.2.1 r12.w.2.2.1 r12.w.2.2.2.1 r12.x.1 r12.x.2.1 r12.x.2.2)
def Fe.m (n : Nat) (t : kG) : Option ((Nat × kG) ⊕ kG) := Fe.g (fun a0 a1 a2 a3 a4 a5 a6 a7 a8 a9 a10 a11 => (.inl (a0, a1, a2, a3, a4, a5, a6, a7, a8, a9, a10, a11))) (fun a0 a1 a2 a3 a4 a5 a6 a7 a8 a9 a10 => (.inr (a0, a1, a2, a3, a4, a5, a6, a7, a8, a9, a10))) n t.1 t.2.1 t.2.2.1 t.2.2.2.1 t.w.1 t.w.2.1 t.w.2.2.1 t.w.2.2.2.1 t.x.1 t.x.2.1 t.x.2.2
def Fe.pat : List AV → zC → Option kG
 | [(.ptr 0 [])], [(some (.var (.agg [(.ptr 1 []), (.int .u64 t), (.ints .u8 20 c), (.ints .u64 4 v), (.own 2 4)]))), (some (.var (.agg [(.own 3 0), (.own 4 0), (.rmap []), (.rmap []), (.own 5 0), (.rmap []), (.int .i64 r), .snil, (.own 6 36), (.own 7 2), (.int .i64 x)]))), (some (.objs 26 4 l)), (some (.mp p)), (some (.mp q)), (some (.mp o)), (some (.objs 104 36 j)), (some (.objs 83 2 z))] => some (t, c, v, r, x, l, p, q, o, j, z)
 | _, _ => none
def Fe.shape (t : kG) : List AV × zC := ([(.ptr 0 [])], [(some (.var (.agg [(.ptr 1 []), (.int .u64 t.1), (.ints .u8 20 t.2.1), (.ints .u64 4 t.2.2.1), (.own 2 4)]))), (some (.var (.agg [(.own 3 0), (.own 4 0), (.rmap []), (.rmap []), (.own 5 0), (.rmap []), (.int .i64 t.2.2.2.1), .snil, (.own 6 36), (.own 7 2), (.int .i64 t.w.1)]))), (some (.objs 26 4 t.w.2.1)), (some (.mp t.w.2.2.1)), (some (.mp t.w.2.2.2.1)), (some (.mp t.x.1)), (some (.objs 104 36 t.x.2.1)), (some (.objs 83 2 t.x.2.2))])
def Fe.res : ((Nat × kG) ⊕ kG) → AV × zC
 | (.inl u) => ((.errv 124 201 u.1), [(some (.var (.agg [(.ptr 1 []), (.int .u64 u.2.1), (.ints .u8 20 u.2.2.1), (.ints .u64 4 u.2.2.2.1), (.own 2 4)]))), (some (.var (.agg [(.own 3 0), (.own 4 0), (.rmap []), (.rmap []), (.own 5 0), (.rmap []), (.int .i64 u.w.1), .snil, (.own 8 36), (.own 7 2), (.int .i64 u.w.2.1)]))), (some (.objs 26 4 u.w.2.2.1)), (some (.mp u.w.2.2.2.1)), (some (.mp u.x.1)), (some (.mp u.x.2.1)), none, (some (.objs 83 2 u.x.2.2.1)), (some (.objs 104 36 u.x.2.2.2))])
 | (.inr u) => (.nili, [(some (.var (.agg [(.ptr 1 []), (.int .u64 u.1), (.ints .u8 20 u.2.1), (.ints .u64 4 u.2.2.1), (.own 2 4)]))), (some (.var (.agg [(.own 3 0), (.own 4 0), (.rmap []), (.rmap []), (.own 5 0), (.rmap []), (.int .i64 u.2.2.2.1), .snil, (.own 8 36), (.own 7 2), (.int .i64 u.w.1)]))), (some (.objs 26 4 u.w.2.1)), (some (.mp u.w.2.2.1)), (some (.mp u.w.2.2.2.1)), (some (.mp u.x.1)), none, (some (.objs 83 2 u.x.2.1)), (some (.objs 104 36 u.x.2.2))])
def Fe.resK {R : Type} (u : ((Nat × kG) ⊕ kG)) (K : AV → zC → Option R) : Option R := match u with
 | (.inl u) => (fun p : AV × zC => K p.1 p.2) ((.errv 124 201 u.1), [(some (.var (.agg [(.ptr 1 []), (.int .u64 u.2.1), (.ints .u8 20 u.2.2.1), (.ints .u64 4 u.2.2.2.1), (.own 2 4)]))), (some (.var (.agg [(.own 3 0), (.own 4 0), (.rmap []), (.rmap []), (.own 5 0), (.rmap []), (.int .i64 u.w.1), .snil, (.own 8 36), (.own 7 2), (.int .i64 u.w.2.1)]))), (some (.objs 26 4 u.w.2.2.1)), (some (.mp u.w.2.2.2.1)), (some (.mp u.x.1)), (some (.mp u.x.2.1)), none, (some (.objs 83 2 u.x.2.2.1)), (some (.objs 104 36 u.x.2.2.2))])
 | (.inr u) => (fun p : AV × zC => K p.1 p.2) (.nili, [(some (.var (.agg [(.ptr 1 []), (.int .u64 u.1), (.ints .u8 20 u.2.1), (.ints .u64 4 u.2.2.1), (.own 2 4)]))), (some (.var (.agg [(.own 3 0), (.own 4 0), (.rmap []), (.rmap []), (.own 5 0), (.rmap []), (.int .i64 u.2.2.2.1), .snil, (.own 8 36), (.own 7 2), (.int .i64 u.w.1)]))), (some (.objs 26 4 u.w.2.1)), (some (.mp u.w.2.2.1)), (some (.mp u.w.2.2.2.1)), (some (.mp u.x.1)), none, (some (.objs 83 2 u.x.2.1)), (some (.objs 104 36 u.x.2.2))])
def Fe.c (n : Nat) : Abs.Callee := .mk' [true] [none] Fe.pat (Fe.m n) Fe.resK
noncomputable def Fm.C (n : Nat) : Ctx := ⟨Tryz.prog, zI, zU [(70, Fn.c n), (91, Fay.c n), (73, Fbl.c n), (90, Faf.c n)], fun _ => false⟩
noncomputable def Fm.A (n : Nat) : Ann := ⟨Tryz.f77.ntmps, 8, zV, [], [none, (some (.agg [(some (.ints .u8))]))], fun k => match k with
 | _ => none, zV, zW []⟩
def Fm.g {α : Type} (mk0 : Nat → Int → LI → LI → Int → Int → LA → LA → LA → LA → LA → LA → α) (mk1 : Int → LI → LI → Int → Int → LA → LA → LA → LA → LA → LA → α) (n : Nat) (t : Int) (c v : LI) (r x : Int) (l p : LA) (q o : LA) (j z : LA) : Option α :=
 zD (Fn.m n (t, c, v, r, x, l, p, q, o, j, z)) fun r2 => match r2 with
  | (.inl r2) =>
   some (mk0 r2.2.1 r2.2.2.1 r2.2.2.2.1 r2.w.1 r2.w.2.1 r2.w.2.2.1 r2.w.2.2.2.1 r2.x.1 r2.x.2.1 r2.x.2.2.1 r2.x.w r2.x.2.2.2.1)
  | (.inr r2) =>
   if 1 < (((List.length r2.w.2.2.1) : Nat) : Int) then
    zD (tkInts .u64 4 (List.getD r2.w.2.2.1 1 AV.any)) fun r8 =>
     zD (Fay.m n (r2.2.2.1, r8, r2.w.1, r2.w.2.1, r2.w.2.2.2.1, r2.x.1, r2.x.2.1, r2.x.2.2.1, r2.x.2.2.2)) fun r10 =>
      zD (Fbl.m n r10.1) fun r12 => match r12 with
       | (.inl r12) =>
        if 1 < (((List.length r2.w.2.2.1) : Nat) : Int) then
         zD (tkInts .u64 4 (List.getD r2.w.2.2.1 1 AV.any)) fun r18 =>
          zD (Faf.m n (r18, r2.2.1, r2.2.2.1, r2.2.2.2.1, r10.2.1, r10.2.2.1, r2.w.2.2.1, r10.2.2.2.1, r10.w.1, r10.w.2.1, r10.w.2.2.2, r10.w.2.2.1)) fun r20 => match r20 with
           | (.inl r20) =>
            some (mk0 r20.1 r20.2.1 r20.2.2.1 r20.2.2.2.1 r20.w.1 r20.w.2.1 r20.w.2.2.1 r20.w.2.2.2.1 r20.x.1 r20.x.2.1 r20.x.2.2.1 r20.x.2.2.2)
           | (.inr r20) =>
            some (mk1 r20.1 r20.2.1 r20.2.2.1 r20.2.2.2.1 r20.w.1 r20.w.2.1 r20.w.2.2.1 r20.w.2.2.2.1 r20.x.1 r20.x.2.1 r20.x.2.2)
        else
         none
       | (.inr r12) =>
        some (mk0 r12 r2.2.1 r2.2.2.1 r2.2.2.2.1 r10.2.1 r10.2.2.1 r2.w.2.2.1 r10.2.2.2.1 r10.w.1 r10.w.2.1 r10.w.2.2.1 r10.w.2.2.2)
   else
    none
def Fm.m (n : Nat) (t : kG) : Option ((Nat × kG) ⊕ kG) := Fm.g (fun a0 a1 a2 a3 a4 a5 a6 a7 a8 a9 a10 a11 => (.inl (a0, a1, a2, a3, a4, a5, a6, a7, a8, a9, a10, a11))) (fun a0 a1 a2 a3 a4 a5 a6 a7 a8 a9 a10 => (.inr (a0, a1, a2, a3, a4, a5, a6, a7, a8, a9, a10))) n t.1 t.2.1 t.2.2.1 t.2.2.2.1 t.w.1 t.w.2.1 t.w.2.2.1 t.w.2.2.2.1 t.x.1 t.x.2.1 t.x.2.2
def Fm.pat : List AV → zC → Option kG
 | [(.ptr 0 [])], [(some (.var (.agg [(.ptr 1 []), (.int .u64 t), (.ints .u8 20 c), (.ints .u64 4 v), (.own 2 4)]))), (some (.var (.agg [(.own 3 0), (.own 4 0), (.rmap []), (.rmap []), (.own 5 0), (.rmap []), (.int .i64 r), .snil, (.own 6 36), (.own 7 2), (.int .i64 x)]))), (some (.objs 26 4 l)), (some (.mp p)), (some (.mp q)), (some (.mp o)), (some (.objs 104 36 j)), (some (.objs 83 2 z))] => some (t, c, v, r, x, l, p, q, o, j, z)
 | _, _ => none
def Fm.shape (t : kG) : List AV × zC := ([(.ptr 0 [])], [(some (.var (.agg [(.ptr 1 []), (.int .u64 t.1), (.ints .u8 20 t.2.1), (.ints .u64 4 t.2.2.1), (.own 2 4)]))), (some (.var (.agg [(.own 3 0), (.own 4 0), (.rmap []), (.rmap []), (.own 5 0), (.rmap []), (.int .i64 t.2.2.2.1), .snil, (.own 6 36), (.own 7 2), (.int .i64 t.w.1)]))), (some (.objs 26 4 t.w.2.1)), (some (.mp t.w.2.2.1)), (some (.mp t.w.2.2.2.1)), (some (.mp t.x.1)), (some (.objs 104 36 t.x.2.1)), (some (.objs 83 2 t.x.2.2))])
def Fm.res : ((Nat × kG) ⊕ kG) → AV × zC
 | (.inl u) => ((.errv 124 201 u.1), [(some (.var (.agg [(.ptr 1 []), (.int .u64 u.2.1), (.ints .u8 20 u.2.2.1), (.ints .u64 4 u.2.2.2.1), (.own 2 4)]))), (some (.var (.agg [(.own 3 0), (.own 4 0), (.rmap []), (.rmap []), (.own 5 0), (.rmap []), (.int .i64 u.w.1), .snil, (.own 8 36), (.own 7 2), (.int .i64 u.w.2.1)]))), (some (.objs 26 4 u.w.2.2.1)), (some (.mp u.w.2.2.2.1)), (some (.mp u.x.1)), (some (.mp u.x.2.1)), none, (some (.objs 83 2 u.x.2.2.1)), (some (.objs 104 36 u.x.2.2.2))])
 | (.inr u) => (.nili, [(some (.var (.agg [(.ptr 1 []), (.int .u64 u.1), (.ints .u8 20 u.2.1), (.ints .u64 4 u.2.2.1), (.own 2 4)]))), (some (.var (.agg [(.own 3 0), (.own 4 0), (.rmap []), (.rmap []), (.own 5 0), (.rmap []), (.int .i64 u.2.2.2.1), .snil, (.own 8 36), (.own 7 2), (.int .i64 u.w.1)]))), (some (.objs 26 4 u.w.2.1)), (some (.mp u.w.2.2.1)), (some (.mp u.w.2.2.2.1)), (some (.mp u.x.1)), none, (some (.objs 83 2 u.x.2.1)), (some (.objs 104 36 u.x.2.2))])
def Fm.resK {R : Type} (u : ((Nat × kG) ⊕ kG)) (K : AV → zC → Option R) : Option R := match u with
 | (.inl u) => (fun p : AV × zC => K p.1 p.2) ((.errv 124 201 u.1), [(some (.var (.agg [(.ptr 1 []), (.int .u64 u.2.1), (.ints .u8 20 u.2.2.1), (.ints .u64 4 u.2.2.2.1), (.own 2 4)]))), (some (.var (.agg [(.own 3 0), (.own 4 0), (.rmap []), (.rmap []), (.own 5 0), (.rmap []), (.int .i64 u.w.1), .snil, (.own 8 36), (.own 7 2), (.int .i64 u.w.2.1)]))), (some (.objs 26 4 u.w.2.2.1)), (some (.mp u.w.2.2.2.1)), (some (.mp u.x.1)), (some (.mp u.x.2.1)), none, (some (.objs 83 2 u.x.2.2.1)), (some (.objs 104 36 u.x.2.2.2))])
 | (.inr u) => (fun p : AV × zC => K p.1 p.2) (.nili, [(some (.var (.agg [(.ptr 1 []), (.int .u64 u.1), (.ints .u8 20 u.2.1), (.ints .u64 4 u.2.2.1), (.own 2 4)]))), (some (.var (.agg [(.own 3 0), (.own 4 0), (.rmap []), (.rmap []), (.own 5 0), (.rmap []), (.int .i64 u.2.2.2.1), .snil, (.own 8 36), (.own 7 2), (.int .i64 u.w.1)]))), (some (.objs 26 4 u.w.2.1)), (some (.mp u.w.2.2.1)), (some (.mp u.w.2.2.2.1)), (some (.mp u.x.1)), none, (some (.objs 83 2 u.x.2.1)), (some (.objs 104 36 u.x.2.2))])
def Fm.c (n : Nat) : Abs.Callee := .mk' [true] [none] Fm.pat (Fm.m n) Fm.resK
noncomputable def Fae.C (n : Nat) : Ctx := ⟨Tryz.prog, zI, zU [(70, Fn.c n), (18, Fak.c n), (71, Fat.c n), (30, Fap.c n), (72, Fk.c n), (24, Fao.c n), (7, Fav.c n), (8, Fbx.c n), (73, Fbl.c n), (74, Fl.c n), (75, Ft.c n), (76, Fe.c n), (77, Fm.c n)], fun _ => false⟩
noncomputable def Fae.A (n : Nat) : Ann := ⟨Tryz.f54.ntmps, 8, zV, [], [(some (.ints .u8)), none, (some (.agg [(some (.ints .u8))]))], fun k => match k with
 | _ => none, zV, zW []⟩
def Fae.g {α : Type} (mk0 : Nat → Int → LI → LI → Int → Int → LA → LA → LA → LA → LA → LI → LA → α) (mk1 : Int → LI → LI → Int → Int → LA → LA → LA → LA → LA → LI → LA → α) (n : Nat) (s : ByteArray) (t : Int) (c v : LI) (r x : Int) (l p : LA) (q o : LA) (j z : LA) : Option α :=
 if ((ByteArray.toList s) == (ByteArray.toList (b8 [100, 101, 112, 111, 115, 105, 116, 84, 111, 40, 97, 100, 100, 114, 101, 115, 115, 41]))) = true then
  zD (Fn.m n (t, c, v, r, x, l, p, q, o, j, z)) fun r4 => match r4 with
   | (.inl r4) =>
    some (mk0 r4.2.1 r4.2.2.1 r4.2.2.2.1 r4.w.1 r4.w.2.1 r4.w.2.2.1 r4.w.2.2.2.1 r4.x.1 r4.x.2.1 r4.x.2.2.1 r4.x.w [] r4.x.2.2.2.1)
   | (.inr r4) =>
    if ((ByteArray.toList s) == (ByteArray.toList (b8 [98, 97, 108, 97, 110, 99, 101, 79, 102, 40, 97, 100, 100, 114, 101, 115, 115, 41]))) = true then
     zD (Fak.m n (r4.1, r4.w.1, r4.w.2.1, r4.w.2.2.2.1, r4.x.1, r4.x.2.1, r4.x.2.2.1, r4.x.2.2.2)) fun r10 =>
      zD (Fat.m n r10.1) fun r12 =>
       some (mk1 r4.2.1 r4.2.2.1 r4.2.2.2.1 r10.2.1 r10.2.2.1 r4.w.2.2.1 r10.2.2.2.1 r10.w.1 r10.w.2.1 r10.w.2.2.2 r12 r10.w.2.2.1)
    else
     zD (Fap.m n (r4.1, r4.2.2.2.1, r4.w.1, r4.w.2.1, r4.w.2.2.2.1, r4.x.1, r4.x.2.1, r4.x.2.2.1, r4.x.2.2.2)) fun r10 =>
      some (mk1 r4.2.1 r4.2.2.1 r4.2.2.2.1 r10.1 r10.2.1 r4.w.2.2.1 r10.2.2.1 r10.2.2.2.1 r10.w.1 r10.w.2.1 [] r10.w.2.2)
 else
  if ((ByteArray.toList s) == (ByteArray.toList (b8 [98, 97, 108, 97, 110, 99, 101, 79, 102, 40, 97, 100, 100, 114, 101, 115, 115, 41]))) = true then
   zD (Fn.m n (t, c, v, r, x, l, p, q, o, j, z)) fun r6 => match r6 with
    | (.inl r6) =>
     some (mk0 r6.2.1 r6.2.2.1 r6.2.2.2.1 r6.w.1 r6.w.2.1 r6.w.2.2.1 r6.w.2.2.2.1 r6.x.1 r6.x.2.1 r6.x.2.2.1 r6.x.w [] r6.x.2.2.2.1)
    | (.inr r6) =>
     if ((ByteArray.toList s) == (ByteArray.toList (b8 [98, 97, 108, 97, 110, 99, 101, 79, 102, 40, 97, 100, 100, 114, 101, 115, 115, 41]))) = true then
      zD (Fak.m n (r6.1, r6.w.1, r6.w.2.1, r6.w.2.2.2.1, r6.x.1, r6.x.2.1, r6.x.2.2.1, r6.x.2.2.2)) fun r12 =>
       zD (Fat.m n r12.1) fun r14 =>
        some (mk1 r6.2.1 r6.2.2.1 r6.2.2.2.1 r12.2.1 r12.2.2.1 r6.w.2.2.1 r12.2.2.2.1 r12.w.1 r12.w.2.1 r12.w.2.2.2 r14 r12.w.2.2.1)
     else
      zD (Fap.m n (r6.1, r6.2.2.2.1, r6.w.1, r6.w.2.1, r6.w.2.2.2.1, r6.x.1, r6.x.2.1, r6.x.2.2.1, r6.x.2.2.2)) fun r12 =>
       some (mk1 r6.2.1 r6.2.2.1 r6.2.2.2.1 r12.1 r12.2.1 r6.w.2.2.1 r12.2.2.1 r12.2.2.2.1 r12.w.1 r12.w.2.1 [] r12.w.2.2)
  else
   if ((ByteArray.toList s) == (ByteArray.toList (b8 [103, 101, 116, 78, 111, 110, 99, 101, 40, 97, 100, 100, 114, 101, 115, 115, 44, 117, 105, 110, 116, 49, 57, 50, 41]))) = true then
    zD (Fk.m n (t, c, v, r, x, l, p, q, o, j, z)) fun r8 => match r8 with
     | (.inl r8) =>
      some (mk0 r8.1 r8.2.1 r8.2.2.1 r8.2.2.2.1 r8.w.1 r8.w.2.1 r8.w.2.2.1 r8.w.2.2.2.1 r8.x.1 r8.x.2.1 r8.x.2.2.2.1 r8.x.w r8.x.2.2.1)
     | (.inr r8) =>
      some (mk1 r8.1 r8.2.1 r8.2.2.1 r8.2.2.2.1 r8.w.1 r8.w.2.1 r8.w.2.2.1 r8.w.2.2.2.1 r8.x.1 r8.x.2.2.1 r8.x.2.2.2 r8.x.2.1)
   else
    if ((ByteArray.toList s) == (ByteArray.toList (b8 [105, 110, 99, 114, 101, 109, 101, 110, 116, 78, 111, 110, 99, 101, 40, 117, 105, 110, 116, 49, 57, 50, 41]))) = true then
     if 0 < (l.length : Int) then
      zD (tkInts .u64 4 (List.getD l 0 AV.any)) fun r12 =>
       zD (Fao.m n (r12, 64)) fun r14 =>
        if r14 = true then
         if 0 < (l.length : Int) then
          zD (tkInts .u64 4 (List.getD l 0 AV.any)) fun r20 =>
           zD (Fav.m n (c, r20, r, x, p, q, o, j, z)) fun r22 =>
            zD (Fbx.m n (c, r22.1, r22.2.1, r22.2.2.1, r22.2.2.2.1, r22.w.1, r22.w.2.1, r22.w.2.2.1, r22.w.2.2.2)) fun r24 =>
             zD (Fbl.m n r24.1) fun r26 => match r26 with
              | (.inl r26) =>
               some (mk1 t c v r24.2.1 r24.2.2.1 l r24.2.2.2.1 r24.w.1 r24.w.2.1 r24.w.2.2.1 [] r24.w.2.2.2)
              | (.inr r26) =>
               some (mk0 r26 t c v r24.2.1 r24.2.2.1 l r24.2.2.2.1 r24.w.1 r24.w.2.1 r24.w.2.2.1 [] r24.w.2.2.2)
         else
          none
        else
         zD (Fbl.m n false) fun r18 => match r18 with
          | (.inl r18) =>
           some (mk1 t c v r x l p q o z [] j)
          | (.inr r18) =>
           some (mk0 r18 t c v r x l p q o z [] j)
     else
      none
    else
     if ((ByteArray.toList s) == (ByteArray.toList (b8 [97, 100, 100, 83, 116, 97, 107, 101, 40, 117, 105, 110, 116, 51, 50, 41]))) = true then
      zD (Fl.m n (t, c, v, r, x, l, p, q, o, j, z)) fun r12 => match r12 with
       | (.inl r12) =>
        some (mk0 r12.1 r12.2.1 r12.2.2.1 r12.2.2.2.1 r12.w.1 r12.w.2.1 r12.w.2.2.1 r12.w.2.2.2.1 r12.x.1 r12.x.2.1 r12.x.2.2.1 [] r12.x.2.2.2)
       | (.inr r12) =>
        some (mk1 r12.1 r12.2.1 r12.2.2.1 r12.2.2.2.1 r12.w.1 r12.w.2.1 r12.w.2.2.1 r12.w.2.2.2.1 r12.x.1 r12.x.2.1 [] r12.x.2.2)
     else
      if ((ByteArray.toList s) == (ByteArray.toList (b8 [117, 110, 108, 111, 99, 107, 83, 116, 97, 107, 101, 40, 41]))) = true then
       zD (Ft.m n (t, c, v, r, x, l, p, q, o, j, z)) fun r14 => match r14 with
        | (.inl r14) =>
         some (mk0 r14.1 r14.2.1 r14.2.2.1 r14.2.2.2.1 r14.w.1 r14.w.2.1 r14.w.2.2.1 r14.w.2.2.2.1 r14.x.1 r14.x.2.1 r14.x.2.2.1 [] r14.x.2.2.2)
        | (.inr r14) =>
         some (mk1 r14.1 r14.2.1 r14.2.2.1 r14.2.2.2.1 r14.w.1 r14.w.2.1 r14.w.2.2.1 r14.w.2.2.2.1 r14.x.1 r14.x.2.1 [] r14.x.2.2)
      else
       if ((ByteArray.toList s) == (ByteArray.toList (b8 [119, 105, 116, 104, 100, 114, 97, 119, 83, 116, 97, 107, 101, 40, 97, 100, 100, 114, 101, 115, 115, 41]))) = true then
        zD (Fe.m n (t, c, v, r, x, l, p, q, o, j, z)) fun r16 => match r16 with
         | (.inl r16) =>
          some (mk0 r16.1 r16.2.1 r16.2.2.1 r16.2.2.2.1 r16.w.1 r16.w.2.1 r16.w.2.2.1 r16.w.2.2.2.1 r16.x.1 r16.x.2.1 r16.x.2.2.1 [] r16.x.2.2.2)
         | (.inr r16) =>
          some (mk1 r16.1 r16.2.1 r16.2.2.1 r16.2.2.2.1 r16.w.1 r16.w.2.1 r16.w.2.2.1 r16.w.2.2.2.1 r16.x.1 r16.x.2.1 [] r16.x.2.2)
       else
        zD (Fm.m n (t, c, v, r, x, l, p, q, o, j, z)) fun r16 => match r16 with
         | (.inl r16) =>
          some (mk0 r16.1 r16.2.1 r16.2.2.1 r16.2.2.2.1 r16.w.1 r16.w.2.1 r16.w.2.2.1 r16.w.2.2.2.1 r16.x.1 r16.x.2.1 r16.x.2.2.1 [] r16.x.2.2.2)
         | (.inr r16) =>
          some (mk1 r16.1 r16.2.1 r16.2.2.1 r16.2.2.2.1 r16.w.1 r16.w.2.1 r16.w.2.2.1 r16.w.2.2.2.1 r16.x.1 r16.x.2.1 [] r16.x.2.2)
def Fae.m (n : Nat) (t : (ByteArray × kG)) : Option ((Nat × zLS) ⊕ zLS) := Fae.g (fun a0 a1 a2 a3 a4 a5 a6 a7 a8 a9 a10 a11 a12 => (.inl (a0, a1, a2, a3, a4, a5, a6, a7, a8, a9, a10, a11, a12))) (fun a0 a1 a2 a3 a4 a5 a6 a7 a8 a9 a10 a11 => (.inr (a0, a1, a2, a3, a4, a5, a6, a7, a8, a9, a10, a11))) n t.1 t.2.1 t.2.2.1 t.2.2.2.1 t.w.1 t.w.2.1 t.w.2.2.1 t.w.2.2.2.1 t.x.1 t.x.2.1 t.x.2.2.1 t.x.2.2.2
def Fae.pat : List AV → zC → Option (ByteArray × kG)
 | [(.ptr 0 []), (.str s)], [(some (.var (.agg [(.ptr 1 []), (.int .u64 t), (.ints .u8 20 c), (.ints .u64 4 v), (.own 2 4)]))), (some (.var (.agg [(.own 3 0), (.own 4 0), (.rmap []), (.rmap []), (.own 5 0), (.rmap []), (.int .i64 r), .snil, (.own 6 36), (.own 7 2), (.int .i64 x)]))), (some (.objs 26 4 l)), (some (.mp p)), (some (.mp q)), (some (.mp o)), (some (.objs 104 36 j)), (some (.objs 83 2 z))] => some (s, t, c, v, r, x, l, p, q, o, j, z)
 | _, _ => none
def Fae.shape (t : (ByteArray × kG)) : List AV × zC := ([(.ptr 0 []), (.str t.1)], [(some (.var (.agg [(.ptr 1 []), (.int .u64 t.2.1), (.ints .u8 20 t.2.2.1), (.ints .u64 4 t.2.2.2.1), (.own 2 4)]))), (some (.var (.agg [(.own 3 0), (.own 4 0), (.rmap []), (.rmap []), (.own 5 0), (.rmap []), (.int .i64 t.w.1), .snil, (.own 6 36), (.own 7 2), (.int .i64 t.w.2.1)]))), (some (.objs 26 4 t.w.2.2.1)), (some (.mp t.w.2.2.2.1)), (some (.mp t.x.1)), (some (.mp t.x.2.1)), (some (.objs 104 36 t.x.2.2.1)), (some (.objs 83 2 t.x.2.2.2))])
def Fae.res : ((Nat × zLS) ⊕ zLS) → AV × zC
 | (.inl u) => ((.tup [(.own 8 1), (.errv 124 201 u.1)]), [(some (.var (.agg [(.ptr 1 []), (.int .u64 u.2.1), (.ints .u8 20 u.2.2.1), (.ints .u64 4 u.2.2.2.1), (.own 2 4)]))), (some (.var (.agg [(.own 3 0), (.own 4 0), (.rmap []), (.rmap []), (.own 5 0), (.rmap []), (.int .i64 u.w.1), .snil, (.own 9 36), (.own 7 2), (.int .i64 u.w.2.1)]))), (some (.objs 26 4 u.w.2.2.1)), (some (.mp u.w.2.2.2.1)), (some (.mp u.x.1)), (some (.mp u.x.2.1)), none, (some (.objs 83 2 u.x.2.2.1)), (some (.ints .u8 u.x.2.2.2.1)), (some (.objs 104 36 u.x.w))])
 | (.inr u) => ((.tup [(.own 8 1), .nili]), [(some (.var (.agg [(.ptr 1 []), (.int .u64 u.1), (.ints .u8 20 u.2.1), (.ints .u64 4 u.2.2.1), (.own 2 4)]))), (some (.var (.agg [(.own 3 0), (.own 4 0), (.rmap []), (.rmap []), (.own 5 0), (.rmap []), (.int .i64 u.2.2.2.1), .snil, (.own 9 36), (.own 7 2), (.int .i64 u.w.1)]))), (some (.objs 26 4 u.w.2.1)), (some (.mp u.w.2.2.1)), (some (.mp u.w.2.2.2.1)), (some (.mp u.x.1)), none, (some (.objs 83 2 u.x.2.1)), (some (.ints .u8 u.x.2.2.1)), (some (.objs 104 36 u.x.2.2.2))])
def Fae.resK {R : Type} (u : ((Nat × zLS) ⊕ zLS)) (K : AV → zC → Option R) : Option R := match u with
 | (.inl u) => (fun p : AV × zC => K p.1 p.2) ((.tup [(.own 8 1), (.errv 124 201 u.1)]), [(some (.var (.agg [(.ptr 1 []), (.int .u64 u.2.1), (.ints .u8 20 u.2.2.1), (.ints .u64 4 u.2.2.2.1), (.own 2 4)]))), (some (.var (.agg [(.own 3 0), (.own 4 0), (.rmap []), (.rmap []), (.own 5 0), (.rmap []), (.int .i64 u.w.1), .snil, (.own 9 36), (.own 7 2), (.int .i64 u.w.2.1)]))), (some (.objs 26 4 u.w.2.2.1)), (some (.mp u.w.2.2.2.1)), (some (.mp u.x.1)), (some (.mp u.x.2.1)), none, (some (.objs 83 2 u.x.2.2.1)), (some (.ints .u8 u.x.2.2.2.1)), (some (.objs 104 36 u.x.w))])
 | (.inr u) => (fun p : AV × zC => K p.1 p.2) ((.tup [(.own 8 1), .nili]), [(some (.var (.agg [(.ptr 1 []), (.int .u64 u.1), (.ints .u8 20 u.2.1), (.ints .u64 4 u.2.2.1), (.own 2 4)]))), (some (.var (.agg [(.own 3 0), (.own 4 0), (.rmap []), (.rmap []), (.own 5 0), (.rmap []), (.int .i64 u.2.2.2.1), .snil, (.own 9 36), (.own 7 2), (.int .i64 u.w.1)]))), (some (.objs 26 4 u.w.2.1)), (some (.mp u.w.2.2.1)), (some (.mp u.w.2.2.2.1)), (some (.mp u.x.1)), none, (some (.objs 83 2 u.x.2.1)), (some (.ints .u8 u.x.2.2.1)), (some (.objs 104 36 u.x.2.2.2))])
def Fae.c (n : Nat) : Abs.Callee := .mk' [true, false] [none, none] Fae.pat (Fae.m n) Fae.resK
noncomputable def Fai.C (n : Nat) : Ctx := ⟨Tryz.prog, zI, zU [], fun _ => false⟩
noncomputable def Fai.A (n : Nat) : Ann := ⟨Tryz.f33.ntmps, 0, zV, [], [(some (.ints .u8))], fun k => match k with
 | _ => none, zV, zW []⟩
def Fai.g {α : Type} (mk0 : LI → α) (n : Nat) (a0 : LI) : Option α :=
 if (((List.length a0) * 1) ≤ 70368744177664 ∧ (List.length a0) ≤ 9223372036854775807) then
 some (mk0 a0)
 else
 none
def Fai.m (n : Nat) (t : LI) : Option LI := Fai.g (fun a0 => a0) n t
def Fai.pat : List AV → zC → Option LI
 | [(.rints .u8 a0)], [] => some a0
 | _, _ => none
def Fai.shape (t : LI) : List AV × zC := ([(.rints .u8 t)], [])
def Fai.res : LI → AV × zC
 | u => ((.own 0 1), [(some (.ints .u8 u))])
def Fai.c (n : Nat) : Abs.Callee := .mk' [] [(some (.ints .u8))] Fai.pat (Fai.m n) (zO Fai.res)
noncomputable def Fce.C (n : Nat) : Ctx := ⟨Tryz.prog, zI, zU [], fun _ => false⟩
def Fce.live : NL := fun k => match k with
 | 3 => ([4, 3, 1, 2], [3, 2])
 | _ => ([], [])
def Fce.l3.r {α : Type} (mk0 : LI → LI → α) (n : Nat) (rc : Int → LI → LI → LI → Option α)  (x0 : Int) (x1 x2 x3 : LI) : Option α :=
 if (decide (x0 < 20)) = true then
 if 0 ≤ (IntKind.wrap .i64 (Int.tdiv (IntKind.wrap .i64 (19 - x0)) 8)) then
 if (IntKind.wrap .i64 (Int.tdiv (IntKind.wrap .i64 (19 - x0)) 8)) < 4 then
 if 0 ≤ x0 then
 if x0 < 20 then
 if 0 ≤ (IntKind.wrap .u64 (IntKind.wrap .i64 ((Int.tmod (IntKind.wrap .i64 (19 - x0)) 8) * 8))) then
 if 0 ≤ (IntKind.wrap .i64 (Int.tdiv (IntKind.wrap .i64 (19 - x0)) 8)) then
 if (IntKind.wrap .i64 (Int.tdiv (IntKind.wrap .i64 (19 - x0)) 8)) < 4 then
 rc (IntKind.wrap .i64 (x0 + 1)) (List.set x1 (Int.toNat (IntKind.wrap .i64 (Int.tdiv (IntKind.wrap .i64 (19 - x0)) 8))) (ibits BinOp.or .u64 (List.getD x1 (Int.toNat (IntKind.wrap .i64 (Int.tdiv (IntKind.wrap .i64 (19 - x0)) 8))) 0) (ishl .u64 (IntKind.wrap .u64 (List.getD x2 (Int.toNat x0) 0)) (IntKind.wrap .u64 (IntKind.wrap .i64 ((Int.tmod (IntKind.wrap .i64 (19 - x0)) 8) * 8)))))) x2 x3
 else
 none
 else
 none
 else
 none
 else
 none
 else
 none
 else
 none
 else
 none
 else
 some (mk0 x1 x3)
def Fce.l3.g {α : Type} (mk0 : LI → LI → α) (n : Nat) : Nat → Int → LI → LI → LI → Option α
 | 0, _, _, _, _ => none
 | m + 1, x0, x1, x2, x3 => Fce.l3.r mk0 n (fun y0 y1 y2 y3 => Fce.l3.g mk0 n m y0 y1 y2 y3)  x0 x1 x2 x3
def Fce.l3.m (n m : Nat) (t : (Int × (LI × (LI × LI)))) : Option (LI × LI) := Fce.l3.g (fun a0 a1 => (a0, a1)) n m t.1 t.2.1 t.2.2.1 t.2.2.2
def Fce.l3.pat : St → Option (Int × (LI × (LI × LI)))
 | (St.mk [(.int .i64 x0), (.ptr 0 []), (.ptr 1 []), (.ptr 2 [])] [(some (.var (.ints .u64 4 x1))), (some (.var (.ints .u8 20 x2))), (some (.var (.ints .u64 4 x3)))]) => some (x0, x1, x2, x3)
 | _ => none
def Fce.l3.shape (t : (Int × (LI × (LI × LI)))) : St := (St.mk [(.int .i64 t.1), (.ptr 0 []), (.ptr 1 []), (.ptr 2 [])] [(some (.var (.ints .u64 4 t.2.1))), (some (.var (.ints .u8 20 t.2.2.1))), (some (.var (.ints .u64 4 t.2.2.2)))])
def Fce.l3.res : (LI × LI) → Ex × St
 | u => ((.exit 0), (St.mk [(.ptr 0 []), (.ptr 1 [])] [(some (.var (.ints .u64 4 u.1))), (some (.var (.ints .u64 4 u.2)))]))
noncomputable def Fce.A (n : Nat) : Ann := ⟨Tryz.f21.ntmps, 0, Fce.live, [], [none], fun k => match k with
 | 3 => some (.mk' Fce.l3.pat (Fce.l3.m n n) (zQ Fce.l3.res))
 | _ => none, zV, zW []⟩
noncomputable def Fce.b0 : Code := (zK (Tryz.f21.body.getD .skip)).getD 0 .skip
def Fce.g {α : Type} (mk0 : LI → α) (n : Nat) (a0 : LI) : Option α :=
 zD (Fce.l3.m n n (0, [0, 0, 0, 0], a0, [0, 0, 0, 0])) fun r2 =>
 some (mk0 r2.1)
def Fce.m (n : Nat) (t : LI) : Option LI := Fce.g (fun a0 => a0) n t
def Fce.pat : List AV → zC → Option LI
 | [(.ints .u8 20 a0)], [] => some a0
 | _, _ => none
def Fce.shape (t : LI) : List AV × zC := ([(.ints .u8 20 t)], [])
def Fce.res : LI → AV × zC
 | u => ((.ints .u64 4 u), [])
def Fce.c (n : Nat) : Abs.Callee := .mk' [] [none] Fce.pat (Fce.m n) (zO Fce.res)
noncomputable def Fbm.C (n : Nat) : Ctx := ⟨Tryz.prog, zI, zU [], fun _ => false⟩
noncomputable def Fbm.A (n : Nat) : Ann := ⟨Tryz.f34.ntmps, 0, zV, [], [(some (.objs 9 1))], fun k => match k with
 | _ => none, zV, zW []⟩
def Fbm.g {α : Type} (mk0 : LA → α) (n : Nat)  : Option α :=
 some (mk0 [(AV.str (b8 [100, 101, 112, 111, 115, 105, 116, 84, 111, 40, 97, 100, 100, 114, 101, 115, 115, 41])), (AV.str (b8 [98, 97, 108, 97, 110, 99, 101, 79, 102, 40, 97, 100, 100, 114, 101, 115, 115, 41])), (AV.str (b8 [103, 101, 116, 78, 111, 110, 99, 101, 40, 97, 100, 100, 114, 101, 115, 115, 44, 117, 105, 110, 116, 49, 57, 50, 41])), (AV.str (b8 [105, 110, 99, 114, 101, 109, 101, 110, 116, 78, 111, 110, 99, 101, 40, 117, 105, 110, 116, 49, 57, 50, 41])), (AV.str (b8 [97, 100, 100, 83, 116, 97, 107, 101, 40, 117, 105, 110, 116, 51, 50, 41])), (AV.str (b8 [117, 110, 108, 111, 99, 107, 83, 116, 97, 107, 101, 40, 41])), (AV.str (b8 [119, 105, 116, 104, 100, 114, 97, 119, 83, 116, 97, 107, 101, 40, 97, 100, 100, 114, 101, 115, 115, 41])), (AV.str (b8 [119, 105, 116, 104, 100, 114, 97, 119, 84, 111, 40, 97, 100, 100, 114, 101, 115, 115, 44, 117, 105, 110, 116, 50, 53, 54, 41]))])
def Fbm.m (n : Nat) (t : Unit) : Option LA := Fbm.g (fun a0 => a0) n 
def Fbm.pat : List AV → zC → Option Unit
 | [], [] => some ()
 | _, _ => none
def Fbm.shape (t : Unit) : List AV × zC := ([], [])
def Fbm.res : LA → AV × zC
 | u => ((.robjs 9 1 u), [])
def Fbm.c (n : Nat) : Abs.Callee := .mk' [] [] Fbm.pat (Fbm.m n) (zO Fbm.res)
noncomputable def Fcf.C (n : Nat) : Ctx := ⟨Tryz.prog, zI, zU [], fun _ => false⟩
noncomputable def Fcf.A (n : Nat) : Ann := ⟨Tryz.f44.ntmps, 0, zV, [], [none], fun k => match k with
 | _ => none, zV, zW []⟩
def Fcf.g {α : Type} (mk0 : LI → α) (n : Nat) (a0 : Int) : Option α :=
 some (mk0 [a0, 0, 0, 0])
def Fcf.m (n : Nat) (t : Int) : Option LI := Fcf.g (fun a0 => a0) n t
def Fcf.pat : List AV → zC → Option Int
 | [(.int .u64 a0)], [] => some a0
 | _, _ => none
def Fcf.shape (t : Int) : List AV × zC := ([(.int .u64 t)], [])
def Fcf.res : LI → AV × zC
 | u => ((.ints .u64 4 u), [])
def Fcf.c (n : Nat) : Abs.Callee := .mk' [] [none] Fcf.pat (Fcf.m n) (zO Fcf.res)
noncomputable def Fba.C (n : Nat) : Ctx := ⟨Tryz.prog, zI, zU [(42, Fbg.c n), (44, Fcf.c n)], fun _ => false⟩
def Fba.live : NL := fun k => match k with
 | 3 => ([5, 0, 3, 4], [3, 4])
 | 11 => ([4, 5, 0, 3], [5, 0, 3, 4])
 | _ => ([], [])
def Fba.l11.r {α : Type} (mk0 : Int → LA → LI → LI → α) (n : Nat) (rc : Int → LA → LI → LI → Option α)  (x0 : Int) (x1 : LA) (x2 x3 : LI) : Option α :=
 if ((Int.tmod (x2.length : Int) 32) != 0) = true then
 if ((((List.length x2) + 1) * 1) ≤ 70368744177664 ∧ ((List.length x2) + 1) ≤ 9223372036854775807) then
 rc x0 x1 (x2 ++ [0]) x3
 else
 none
 else
 some (mk0 x0 x1 x3 x2)
def Fba.l11.g {α : Type} (mk0 : Int → LA → LI → LI → α) (n : Nat) : Nat → Int → LA → LI → LI → Option α
 | 0, _, _, _, _ => none
 | m + 1, x0, x1, x2, x3 => Fba.l11.r mk0 n (fun y0 y1 y2 y3 => Fba.l11.g mk0 n m y0 y1 y2 y3)  x0 x1 x2 x3
def Fba.l11.m (n m : Nat) (t : (Int × (LA × (LI × LI)))) : Option (Int × (LA × (LI × LI))) := Fba.l11.g (fun a0 a1 a2 a3 => (a0, a1, a2, a3)) n m t.1 t.2.1 t.2.2.1 t.2.2.2
def Fba.l11.pat : St → Option (Int × (LA × (LI × LI)))
 | (St.mk [(.own 0 1), (.int .i64 x0), (.robjs 59 6 x1), (.own 1 1)] [(some (.ints .u8 x2)), (some (.ints .u8 x3))]) => some (x0, x1, x2, x3)
 | _ => none
def Fba.l11.shape (t : (Int × (LA × (LI × LI)))) : St := (St.mk [(.own 0 1), (.int .i64 t.1), (.robjs 59 6 t.2.1), (.own 1 1)] [(some (.ints .u8 t.2.2.1)), (some (.ints .u8 t.2.2.2))])
def Fba.l11.res : (Int × (LA × (LI × LI))) → Ex × St
 | u => ((.exit 2), (St.mk [(.int .i64 u.1), (.robjs 59 6 u.2.1), (.own 0 1), (.own 1 1)] [(some (.ints .u8 u.2.2.1)), (some (.ints .u8 u.2.2.2))]))
def Fba.l3.r {α : Type} (mk0 : LI → LI → α) (n : Nat) (rc : Int → LA → LI → LI → Option α)  (x0 : Int) (x1 : LA) (x2 x3 : LI) : Option α :=
 if (decide (x0 < (x1.length : Int))) = true then
 if 0 ≤ x0 then
 if x0 < (x1.length : Int) then
 zD (tkAgg 3 (List.getD x1 (Int.toNat x0) AV.any)) fun r10 =>
 zD (tkBool (List.getD r10 0 AV.any)) fun r12 =>
 zD (tkInts .u64 4 (List.getD r10 1 AV.any)) fun r14 =>
 zD (tkRints .u8 (List.getD r10 2 AV.any)) fun r16 =>
 if (!r12) = true then
 if 0 ≤ x0 then
 if x0 < (x1.length : Int) then
 zD (tkAgg 3 (List.getD x1 (Int.toNat x0) AV.any)) fun r24 =>
 zD (tkBool (List.getD r24 0 AV.any)) fun r26 =>
 zD (tkInts .u64 4 (List.getD r24 1 AV.any)) fun r28 =>
 zD (tkRints .u8 (List.getD r24 2 AV.any)) fun r30 =>
 zD (Fbg.m n r28) fun r32 =>
 if ((((List.length x2) + (List.length r32)) * 1) ≤ 70368744177664 ∧ ((List.length x2) + (List.length r32)) ≤ 9223372036854775807) then
 rc (IntKind.wrap .i64 (x0 + 1)) x1 (x2 ++ r32) x3
 else
 none
 else
 none
 else
 none
 else
 zD (Fcf.m n (IntKind.wrap .u64 (IntKind.wrap .i64 ((IntKind.wrap .i64 (32 * (x1.length : Int))) + (x3.length : Int))))) fun r20 =>
 zD (Fbg.m n r20) fun r22 =>
 if ((((List.length x2) + (List.length r22)) * 1) ≤ 70368744177664 ∧ ((List.length x2) + (List.length r22)) ≤ 9223372036854775807) then
 if 0 ≤ x0 then
 if x0 < (x1.length : Int) then
 zD (tkAgg 3 (List.getD x1 (Int.toNat x0) AV.any)) fun r30 =>
 zD (tkBool (List.getD r30 0 AV.any)) fun r32 =>
 zD (tkInts .u64 4 (List.getD r30 1 AV.any)) fun r34 =>
 zD (tkRints .u8 (List.getD r30 2 AV.any)) fun r36 =>
 zD (Fcf.m n (IntKind.wrap .u64 (r36.length : Int))) fun r38 =>
 zD (Fbg.m n r38) fun r40 =>
 if ((((List.length x3) + (List.length r40)) * 1) ≤ 70368744177664 ∧ ((List.length x3) + (List.length r40)) ≤ 9223372036854775807) then
 if 0 ≤ x0 then
 if x0 < (x1.length : Int) then
 zD (tkAgg 3 (List.getD x1 (Int.toNat x0) AV.any)) fun r48 =>
 zD (tkBool (List.getD r48 0 AV.any)) fun r50 =>
 zD (tkInts .u64 4 (List.getD r48 1 AV.any)) fun r52 =>
 zD (tkRints .u8 (List.getD r48 2 AV.any)) fun r54 =>
 if ((((List.length (x3 ++ r40)) + (List.length r54)) * 1) ≤ 70368744177664 ∧ ((List.length (x3 ++ r40)) + (List.length r54)) ≤ 9223372036854775807) then
 zD (Fba.l11.m n n (x0, x1, ((x3 ++ r40) ++ r54), (x2 ++ r22))) fun r58 =>
 rc (IntKind.wrap .i64 (r58.1 + 1)) r58.2.1 r58.2.2.1 r58.2.2.2
 else
 none
 else
 none
 else
 none
 else
 none
 else
 none
 else
 none
 else
 none
 else
 none
 else
 none
 else
 some (mk0 x2 x3)
def Fba.l3.g {α : Type} (mk0 : LI → LI → α) (n : Nat) : Nat → Int → LA → LI → LI → Option α
 | 0, _, _, _, _ => none
 | m + 1, x0, x1, x2, x3 => Fba.l3.r mk0 n (fun y0 y1 y2 y3 => Fba.l3.g mk0 n m y0 y1 y2 y3)  x0 x1 x2 x3
def Fba.l3.m (n m : Nat) (t : (Int × (LA × (LI × LI)))) : Option (LI × LI) := Fba.l3.g (fun a0 a1 => (a0, a1)) n m t.1 t.2.1 t.2.2.1 t.2.2.2
def Fba.l3.pat : St → Option (Int × (LA × (LI × LI)))
 | (St.mk [(.int .i64 x0), (.robjs 59 6 x1), (.own 0 1), (.own 1 1)] [(some (.ints .u8 x2)), (some (.ints .u8 x3))]) => some (x0, x1, x2, x3)
 | _ => none
def Fba.l3.shape (t : (Int × (LA × (LI × LI)))) : St := (St.mk [(.int .i64 t.1), (.robjs 59 6 t.2.1), (.own 0 1), (.own 1 1)] [(some (.ints .u8 t.2.2.1)), (some (.ints .u8 t.2.2.2))])
def Fba.l3.res : (LI × LI) → Ex × St
 | u => ((.exit 0), (St.mk [(.own 0 1), (.own 1 1)] [(some (.ints .u8 u.1)), (some (.ints .u8 u.2))]))
noncomputable def Fba.A (n : Nat) : Ann := ⟨Tryz.f20.ntmps, 0, Fba.live, [(0, (.objs 59 6)), (3, (.ints .u8)), (4, (.ints .u8))], [(some (.ints .u8))], fun k => match k with
 | 11 => some (.mk' Fba.l11.pat (Fba.l11.m n n) (zQ Fba.l11.res))
 | 3 => some (.mk' Fba.l3.pat (Fba.l3.m n n) (zQ Fba.l3.res))
 | _ => none, zV, zW []⟩
noncomputable def Fba.b0 : Code := (zK (Tryz.f20.body.getD .skip)).getD 0 .skip
noncomputable def Fba.b1 : Code := (zK (Tryz.f20.body.getD .skip)).getD 1 .skip
def Fba.g {α : Type} (mk0 : LI → α) (n : Nat) (a0 : LA) : Option α :=
 zD (Fba.l3.m n n (0, a0, [], [])) fun r2 =>
 if ((((List.length r2.1) + (List.length r2.2)) * 1) ≤ 70368744177664 ∧ ((List.length r2.1) + (List.length r2.2)) ≤ 9223372036854775807) then
 some (mk0 (r2.1 ++ r2.2))
 else
 none
def Fba.m (n : Nat) (t : LA) : Option LI := Fba.g (fun a0 => a0) n t
def Fba.pat : List AV → zC → Option LA
 | [(.robjs 59 6 a0)], [] => some a0
 | _, _ => none
def Fba.shape (t : LA) : List AV × zC := ([(.robjs 59 6 t)], [])
def Fba.res : LI → AV × zC
 | u => ((.own 0 1), [(some (.ints .u8 u))])
def Fba.c (n : Nat) : Abs.Callee := .mk' [] [(some (.objs 59 6))] Fba.pat (Fba.m n) (zO Fba.res)
noncomputable def Fbn.C (n : Nat) : Ctx := ⟨Tryz.prog, zI, zU [(33, Fai.c n), (21, Fce.c n), (34, Fbm.c n), (19, Fan.c n), (20, Fba.c n)], fun _ => false⟩
noncomputable def Fbn.A (n : Nat) : Ann := ⟨Tryz.f15.ntmps, 0, zV, [], [(some (.ints .u8))], fun k => match k with
 | _ => none, zV, zW []⟩
def Fbn.g {α : Type} (mk0 : LI → α) (n : Nat) (vg : Int) (vh vd vi : LI) (va vb : Int) (ve vc : LI) (vj : Int) (vk : Bool) (vf : LI) : Option α :=
 if ((Int.tmod va 9) == 8) = true then
 zD (Fai.m n vf) fun r4 =>
 some (mk0 r4)
 else
 if ((Int.tmod vb 2) == 0) = true then
 zD (Fce.m n vd) fun r6 =>
 zD (Fbm.m n Unit.unit) fun r8 =>
 if 0 ≤ (IntKind.wrap .i64 (Int.tmod va 9)) then
 if (IntKind.wrap .i64 (Int.tmod va 9)) < (r8.length : Int) then
 zD (tkStr (List.getD r8 (Int.toNat (IntKind.wrap .i64 (Int.tmod va 9))) AV.any)) fun r14 =>
 zD (Fan.m n r14) fun r16 =>
 zD (Fba.m n [(AV.agg [(AV.bool false), (AV.ints .u64 4 r6), AV.snil]), (AV.agg [(AV.bool false), (AV.ints .u64 4 vc), AV.snil])]) fun r18 =>
 if ((((List.length r16) + (List.length r18)) * 1) ≤ 70368744177664 ∧ ((List.length r16) + (List.length r18)) ≤ 9223372036854775807) then
 if 0 ≤ (IntKind.wrap .i64 ((((List.length (r16 ++ r18)) : Nat) : Int) - (Int.tmod (IntKind.wrap .i64 (IntKind.wrap .u8 (Int.tdiv vb 2))) 68))) then
 if (IntKind.wrap .i64 ((((List.length (r16 ++ r18)) : Nat) : Int) - (Int.tmod (IntKind.wrap .i64 (IntKind.wrap .u8 (Int.tdiv vb 2))) 68))) ≤ (((List.length (r16 ++ r18)) : Nat) : Int) then
 some (mk0 (Go.Abs.partL (r16 ++ r18) 0 (Go.Abs.span (List.length (r16 ++ r18)) 0 (Option.some (Int.toNat (IntKind.wrap .i64 ((((List.length (r16 ++ r18)) : Nat) : Int) - (Int.tmod (IntKind.wrap .i64 (IntKind.wrap .u8 (Int.tdiv vb 2))) 68))))))))
 else
 none
 else
 none
 else
 none
 else
 none
 else
 none
 else
 zD (Fbm.m n Unit.unit) fun r6 =>
 if 0 ≤ (IntKind.wrap .i64 (Int.tmod va 9)) then
 if (IntKind.wrap .i64 (Int.tmod va 9)) < (r6.length : Int) then
 zD (tkStr (List.getD r6 (Int.toNat (IntKind.wrap .i64 (Int.tmod va 9))) AV.any)) fun r12 =>
 zD (Fan.m n r12) fun r14 =>
 zD (Fba.m n [(AV.agg [(AV.bool false), (AV.ints .u64 4 ve), AV.snil]), (AV.agg [(AV.bool false), (AV.ints .u64 4 vc), AV.snil])]) fun r16 =>
 if ((((List.length r14) + (List.length r16)) * 1) ≤ 70368744177664 ∧ ((List.length r14) + (List.length r16)) ≤ 9223372036854775807) then
 if 0 ≤ (IntKind.wrap .i64 ((((List.length (r14 ++ r16)) : Nat) : Int) - (Int.tmod (IntKind.wrap .i64 (IntKind.wrap .u8 (Int.tdiv vb 2))) 68))) then
 if (IntKind.wrap .i64 ((((List.length (r14 ++ r16)) : Nat) : Int) - (Int.tmod (IntKind.wrap .i64 (IntKind.wrap .u8 (Int.tdiv vb 2))) 68))) ≤ (((List.length (r14 ++ r16)) : Nat) : Int) then
 some (mk0 (Go.Abs.partL (r14 ++ r16) 0 (Go.Abs.span (List.length (r14 ++ r16)) 0 (Option.some (Int.toNat (IntKind.wrap .i64 ((((List.length (r14 ++ r16)) : Nat) : Int) - (Int.tmod (IntKind.wrap .i64 (IntKind.wrap .u8 (Int.tdiv vb 2))) 68))))))))
 else
 none
 else
 none
 else
 none
 else
 none
 else
 none
def Fbn.m (n : Nat) (t : Ty13) : Option LI := Fbn.g (fun a0 => a0) n t.1 t.2.1 t.2.2.1 t.2.2.2.1 t.w.1 t.w.2.1 t.w.2.2.1 t.w.2.2.2.1 t.x.1 t.x.2.1 t.x.2.2
def Fbn.pat : List AV → zC → Option Ty13
 | [(.agg [(.int .u8 vg), (.ints .u8 20 vh), (.ints .u8 20 vd), (.ints .u64 4 vi), (.int .u8 va), (.int .u8 vb), (.ints .u64 4 ve), (.ints .u64 4 vc), (.int .u64 vj), (.bool vk), (.rints .u8 vf)])], [] => some (vg, vh, vd, vi, va, vb, ve, vc, vj, vk, vf)
 | _, _ => none
def Fbn.shape (t : Ty13) : List AV × zC := ([(.agg [(.int .u8 t.1), (.ints .u8 20 t.2.1), (.ints .u8 20 t.2.2.1), (.ints .u64 4 t.2.2.2.1), (.int .u8 t.w.1), (.int .u8 t.w.2.1), (.ints .u64 4 t.w.2.2.1), (.ints .u64 4 t.w.2.2.2.1), (.int .u64 t.x.1), (.bool t.x.2.1), (.rints .u8 t.x.2.2)])], [])
def Fbn.res : LI → AV × zC
 | u => ((.own 0 1), [(some (.ints .u8 u))])
def Fbn.c (n : Nat) : Abs.Callee := .mk' [] [(some (.agg [none, none, none, none, none, none, none, none, none, none, (some (.ints .u8))]))] Fbn.pat (Fbn.m n) (zO Fbn.res)
noncomputable def Fbb.C (n : Nat) : Ctx := ⟨Tryz.prog, zI, zU [(64, Fbd.c n)], fun _ => false⟩
def Fbb.live : NL := fun k => match k with
 | 5 => ([21, 20, 19, 1, 6], [4, 5, 6])
 | _ => ([], [])
def Fbb.l5.r {α : Type} (mk0 : LA → α) (n : Nat) (rc : Int → Int → LA → LI → LA → Option α)  (x0 x1 : Int) (x2 : LA) (x3 : LI) (x4 : LA) : Option α :=
 if (decide (x0 < x1)) = true then
 if 0 ≤ x0 then
 if x0 < (x2.length : Int) then
 zD (tkBool (List.getD x2 (Int.toNat x0) AV.any)) fun r10 =>
 if (!r10) = true then
 if 0 ≤ (IntKind.wrap .i64 (32 * (IntKind.wrap .i64 (x0 + 1)))) then
 if (IntKind.wrap .i64 (32 * (IntKind.wrap .i64 (x0 + 1)))) ≤ (x3.length : Int) then
 if 0 ≤ (IntKind.wrap .i64 (32 * x0)) then
 if (IntKind.wrap .i64 (32 * x0)) ≤ (IntKind.wrap .i64 (32 * (IntKind.wrap .i64 (x0 + 1)))) then
 zD (Fbd.m n (Go.Abs.cut x3 (Int.toNat (IntKind.wrap .i64 (32 * x0))) (Option.some (Int.toNat (IntKind.wrap .i64 (32 * (IntKind.wrap .i64 (x0 + 1)))))))) fun r22 =>
 if ((((List.length x4) + 1) * 64) ≤ 70368744177664 ∧ ((List.length x4) + 1) ≤ 9223372036854775807) then
 rc (IntKind.wrap .i64 (x0 + 1)) x1 x2 x3 (x4 ++ [(AV.agg [(AV.bool r10), (AV.ints .u64 4 r22), AV.snil])])
 else
 none
 else
 none
 else
 none
 else
 none
 else
 none
 else
 none
 else
 none
 else
 none
 else
 some (mk0 x4)
def Fbb.l5.g {α : Type} (mk0 : LA → α) (n : Nat) : Nat → Int → Int → LA → LI → LA → Option α
 | 0, _, _, _, _, _ => none
 | m + 1, x0, x1, x2, x3, x4 => Fbb.l5.r mk0 n (fun y0 y1 y2 y3 y4 => Fbb.l5.g mk0 n m y0 y1 y2 y3 y4)  x0 x1 x2 x3 x4
def Fbb.l5.m (n m : Nat) (t : (Int × (Int × (LA × (LI × LA))))) : Option LA := Fbb.l5.g (fun a0 => a0) n m t.1 t.2.1 t.2.2.1 t.2.2.2.1 t.w
def Fbb.l5.pat : St → Option (Int × (Int × (LA × (LI × LA))))
 | (St.mk [(.int .i64 x0), (.int .i64 x1), (.robjs 4 1 x2), (.rints .u8 x3), (.own 0 6)] [(some (.objs 59 6 x4))]) => some (x0, x1, x2, x3, x4)
 | _ => none
def Fbb.l5.shape (t : (Int × (Int × (LA × (LI × LA))))) : St := (St.mk [(.int .i64 t.1), (.int .i64 t.2.1), (.robjs 4 1 t.2.2.1), (.rints .u8 t.2.2.2.1), (.own 0 6)] [(some (.objs 59 6 t.w))])
def Fbb.l5.res : LA → Ex × St
 | u => ((.exit 0), (St.mk [.any, .any, (.own 0 6)] [(some (.objs 59 6 u))]))
noncomputable def Fbb.A (n : Nat) : Ann := ⟨Tryz.f53.ntmps, 0, Fbb.live, [(1, (.ints .u8)), (19, (.objs 4 1)), (4, (.objs 59 6)), (6, (.objs 59 6))], [(some (.objs 59 6)), none], fun k => match k with
 | 5 => some (.mk' Fbb.l5.pat (Fbb.l5.m n n) (zQ Fbb.l5.res))
 | _ => none, zV, zW []⟩
noncomputable def Fbb.b0 : Code := (zK (Tryz.f53.body.getD .skip)).getD 0 .skip
def Fbb.g {α : Type} (mk0 : Int → LA → α) (n : Nat) (a0 : LA) (a1 : LI) : Option α :=
 if (decide ((IntKind.wrap .i64 (Int.tdiv (a1.length : Int) 32)) < (a0.length : Int))) = true then
 some (mk0 50 [])
 else
 zD (Fbb.l5.m n n (0, (a0.length : Int), a0, a1, [])) fun r4 =>
 some (mk0 0 r4)
def Fbb.m (n : Nat) (t : (LA × LI)) : Option (Int × LA) := Fbb.g (fun a0 a1 => (a0, a1)) n t.1 t.2
def Fbb.pat : List AV → zC → Option (LA × LI)
 | [(.robjs 4 1 a0), (.rints .u8 a1)], [] => some (a0, a1)
 | _, _ => none
def Fbb.shape (t : (LA × LI)) : List AV × zC := ([(.robjs 4 1 t.1), (.rints .u8 t.2)], [])
def Fbb.res : (Int × LA) → AV × zC
 | u => ((.tup [(.own 0 6), (.int .u16 u.1)]), [(some (.objs 59 6 u.2))])
def Fbb.c (n : Nat) : Abs.Callee := .mk' [] [(some (.objs 4 1)), (some (.ints .u8))] Fbb.pat (Fbb.m n) (zO Fbb.res)
noncomputable def Fbo.C (n : Nat) : Ctx := ⟨Tryz.prog, zI, zU [], fun _ => false⟩
noncomputable def Fbo.A (n : Nat) : Ann := ⟨Tryz.f66.ntmps, 0, zV, [], [(some (.objs 120 4))], fun k => match k with
 | _ => none, zV, zW []⟩
def Fbo.g {α : Type} (mk0 : LA → α) (n : Nat)  : Option α :=
 some (mk0 [(AV.agg [(AV.str (b8 [100, 101, 112, 111, 115, 105, 116, 84, 111, 40, 97, 100, 100, 114, 101, 115, 115, 41])), (AV.int .i64 1), (AV.bool false), (AV.bool true)]), (AV.agg [(AV.str (b8 [98, 97, 108, 97, 110, 99, 101, 79, 102, 40, 97, 100, 100, 114, 101, 115, 115, 41])), (AV.int .i64 1), (AV.bool true), (AV.bool false)]), (AV.agg [(AV.str (b8 [103, 101, 116, 78, 111, 110, 99, 101, 40, 97, 100, 100, 114, 101, 115, 115, 44, 117, 105, 110, 116, 49, 57, 50, 41])), (AV.int .i64 2), (AV.bool true), (AV.bool false)]), (AV.agg [(AV.str (b8 [105, 110, 99, 114, 101, 109, 101, 110, 116, 78, 111, 110, 99, 101, 40, 117, 105, 110, 116, 49, 57, 50, 41])), (AV.int .i64 1), (AV.bool false), (AV.bool false)]), (AV.agg [(AV.str (b8 [97, 100, 100, 83, 116, 97, 107, 101, 40, 117, 105, 110, 116, 51, 50, 41])), (AV.int .i64 1), (AV.bool false), (AV.bool true)]), (AV.agg [(AV.str (b8 [117, 110, 108, 111, 99, 107, 83, 116, 97, 107, 101, 40, 41])), (AV.int .i64 0), (AV.bool false), (AV.bool false)]), (AV.agg [(AV.str (b8 [119, 105, 116, 104, 100, 114, 97, 119, 83, 116, 97, 107, 101, 40, 97, 100, 100, 114, 101, 115, 115, 41])), (AV.int .i64 1), (AV.bool false), (AV.bool false)]), (AV.agg [(AV.str (b8 [119, 105, 116, 104, 100, 114, 97, 119, 84, 111, 40, 97, 100, 100, 114, 101, 115, 115, 44, 117, 105, 110, 116, 50, 53, 54, 41])), (AV.int .i64 2), (AV.bool false), (AV.bool false)])])
def Fbo.m (n : Nat) (t : Unit) : Option LA := Fbo.g (fun a0 => a0) n 
def Fbo.pat : List AV → zC → Option Unit
 | [], [] => some ()
 | _, _ => none
def Fbo.shape (t : Unit) : List AV × zC := ([], [])
def Fbo.res : LA → AV × zC
 | u => ((.robjs 120 4 u), [])
def Fbo.c (n : Nat) : Abs.Callee := .mk' [] [] Fbo.pat (Fbo.m n) (zO Fbo.res)
noncomputable def Fbp.C (n : Nat) : Ctx := ⟨Tryz.prog, zI, zU [(66, Fbo.c n), (67, Fam.c n)], fun _ => false⟩
def Fbp.live : NL := fun k => match k with
 | 2 => ([8, 7, 6, 0, 2], [2, 3])
 | _ => ([], [])
def Fbp.l2.r {α : Type} (mk0 : Bool → ByteArray → Int → Bool → Bool → α) (mk1 : ByteArray → Int → Bool → Bool → α) (n : Nat) (rc : Int → Int → LA → LI → ByteArray → Int → Bool → Bool → Option α)  (x0 x1 : Int) (x2 : LA) (x3 : LI) (x4 : ByteArray) (x5 : Int) (x6 x7 : Bool) : Option α :=
 if (decide (x0 < x1)) = true then
 if 0 ≤ x0 then
 if x0 < (x2.length : Int) then
 zD (tkAgg 4 (List.getD x2 (Int.toNat x0) AV.any)) fun r10 =>
 zD (tkStr (List.getD r10 0 AV.any)) fun r12 =>
 zD (tkInt .i64 (List.getD r10 1 AV.any)) fun r14 =>
 zD (tkBool (List.getD r10 2 AV.any)) fun r16 =>
 zD (tkBool (List.getD r10 3 AV.any)) fun r18 =>
 if (decide ((x3.length : Int) ≥ 4)) = true then
 if 4 ≤ (x3.length : Int) then
 zD (Fam.m n r12) fun r24 =>
 if ((ByteArray.toList (Go.Abs.strOf (Go.Abs.cut x3 0 (Option.some 4)))) == (ByteArray.toList (Go.Abs.strOf r24))) = true then
 some (mk0 true r12 r14 r16 r18)
 else
 rc (IntKind.wrap .i64 (x0 + 1)) x1 x2 x3 x4 x5 x6 x7
 else
 none
 else
 rc (IntKind.wrap .i64 (x0 + 1)) x1 x2 x3 x4 x5 x6 x7
 else
 none
 else
 none
 else
 some (mk1 x4 x5 x6 x7)
def Fbp.l2.g {α : Type} (mk0 : Bool → ByteArray → Int → Bool → Bool → α) (mk1 : ByteArray → Int → Bool → Bool → α) (n : Nat) : Nat → Int → Int → LA → LI → ByteArray → Int → Bool → Bool → Option α
 | 0, _, _, _, _, _, _, _, _ => none
 | m + 1, x0, x1, x2, x3, x4, x5, x6, x7 => Fbp.l2.r mk0 mk1 n (fun y0 y1 y2 y3 y4 y5 y6 y7 => Fbp.l2.g mk0 mk1 n m y0 y1 y2 y3 y4 y5 y6 y7)  x0 x1 x2 x3 x4 x5 x6 x7
def Fbp.l2.m (n m : Nat) (t : zLN) : Option (Ty42 ⊕ (ByteArray × (Int × (Bool × Bool)))) := Fbp.l2.g (fun a0 a1 a2 a3 a4 => (.inl (a0, a1, a2, a3, a4))) (fun a0 a1 a2 a3 => (.inr (a0, a1, a2, a3))) n m t.1 t.2.1 t.2.2.1 t.2.2.2.1 t.w.1 t.w.2.1 t.w.2.2.1 t.w.2.2.2
def Fbp.l2.pat : St → Option zLN
 | (St.mk [(.int .i64 x0), (.int .i64 x1), (.robjs 120 4 x2), (.rints .u8 x3), (.ptr 0 [])] [(some (.var (.agg [(.str x4), (.int .i64 x5), (.bool x6), (.bool x7)])))]) => some (x0, x1, x2, x3, x4, x5, x6, x7)
 | _ => none
def Fbp.l2.shape (t : zLN) : St := (St.mk [(.int .i64 t.1), (.int .i64 t.2.1), (.robjs 120 4 t.2.2.1), (.rints .u8 t.2.2.2.1), (.ptr 0 [])] [(some (.var (.agg [(.str t.w.1), (.int .i64 t.w.2.1), (.bool t.w.2.2.1), (.bool t.w.2.2.2)])))])
def Fbp.l2.res : (Ty42 ⊕ (ByteArray × (Int × (Bool × Bool)))) → Ex × St
 | (.inl u) => (.ret, (St.mk [(.ptr 0 []), (.bool u.1)] [(some (.var (.agg [(.str u.2.1), (.int .i64 u.2.2.1), (.bool u.2.2.2.1), (.bool u.w)])))]))
 | (.inr u) => ((.exit 0), (St.mk [(.ptr 0 []), .any] [(some (.var (.agg [(.str u.1), (.int .i64 u.2.1), (.bool u.2.2.1), (.bool u.2.2.2)])))]))
def Fbp.l2.resK {R : Type} (u : (Ty42 ⊕ (ByteArray × (Int × (Bool × Bool))))) (K : Ex → St → Option R) : Option R := match u with
 | (.inl u) => (fun p : Ex × St => K p.1 p.2) (.ret, (St.mk [(.ptr 0 []), (.bool u.1)] [(some (.var (.agg [(.str u.2.1), (.int .i64 u.2.2.1), (.bool u.2.2.2.1), (.bool u.w)])))]))
 | (.inr u) => (fun p : Ex × St => K p.1 p.2) ((.exit 0), (St.mk [(.ptr 0 []), .any] [(some (.var (.agg [(.str u.1), (.int .i64 u.2.1), (.bool u.2.2.1), (.bool u.2.2.2)])))]))
noncomputable def Fbp.A (n : Nat) : Ann := ⟨Tryz.f52.ntmps, 0, Fbp.live, [(0, (.ints .u8)), (6, (.objs 120 4))], [none, none], fun k => match k with
 | 2 => some (.mk' Fbp.l2.pat (Fbp.l2.m n n) Fbp.l2.resK)
 | _ => none, zV, zW []⟩
noncomputable def Fbp.b0 : Code := (zK (Tryz.f52.body.getD .skip)).getD 0 .skip
def Fbp.g {α : Type} (mk0 : ByteArray → Int → Bool → Bool → Bool → α) (n : Nat) (a0 : LI) : Option α :=
 zD (Fbo.m n Unit.unit) fun r2 =>
  zD (Fbp.l2.m n n (0, (r2.length : Int), r2, a0, ByteArray.empty, 0, false, false)) fun r4 => match r4 with
   | (.inl r4) =>
    some (mk0 r4.2.1 r4.2.2.1 r4.2.2.2.1 r4.w r4.1)
   | (.inr r4) =>
    some (mk0 ByteArray.empty 0 false false false)
def Fbp.m (n : Nat) (t : LI) : Option (ByteArray × (Int × (Bool × (Bool × Bool)))) := Fbp.g (fun a0 a1 a2 a3 a4 => (a0, a1, a2, a3, a4)) n t
def Fbp.pat : List AV → zC → Option LI
 | [(.rints .u8 a0)], [] => some a0
 | _, _ => none
def Fbp.shape (t : LI) : List AV × zC := ([(.rints .u8 t)], [])
def Fbp.res : (ByteArray × (Int × (Bool × (Bool × Bool)))) → AV × zC
 | u => ((.tup [(.agg [(.str u.1), (.int .i64 u.2.1), (.bool u.2.2.1), (.bool u.2.2.2.1)]), (.bool u.w)]), [])
def Fbp.c (n : Nat) : Abs.Callee := .mk' [] [(some (.ints .u8))] Fbp.pat (Fbp.m n) (zO Fbp.res)
noncomputable def Fy.C (n : Nat) : Ctx := ⟨Tryz.prog, zI, zU [(52, Fbp.c n), (53, Fbb.c n), (54, Fae.c n)], fun t => t == 1000053⟩
def Fy.live : NL := fun k => match k with
 | 10 => ([68, 67, 66, 0, 8], [0, 8])
 | _ => ([], [])
def Fy.l10.r {α : Type} (mk0 : Int → LI → LI → Int → Int → LA → LA → LA → LA → LA → ByteArray → Int → Bool → Bool → LA → α) (n : Nat) (rc : Int → Int → Int → LI → LI → Int → Int → LA → LA → LA → LA → LA → LA → ByteArray → Int → Bool → Bool → LA → Option α)  (x0 x1 x2 : Int) (x3 x4 : LI) (x5 x6 : Int) (x7 x8 : LA) (x9 x10 : LA) (x11 x12 : LA) (x13 : ByteArray) (x14 : Int) (x15 x16 : Bool) (x17 : LA) : Option α :=
 if (decide (x0 < x1)) = true then
 if 0 ≤ x0 then
 if x0 < (x12.length : Int) then
 zD (tkAgg 3 (List.getD x12 (Int.toNat x0) AV.any)) fun r10 =>
 zD (tkBool (List.getD r10 0 AV.any)) fun r12 =>
 zD (tkInts .u64 4 (List.getD r10 1 AV.any)) fun r14 =>
 zD (tkRints .u8 (List.getD r10 2 AV.any)) fun r16 =>
 if ((((List.length x17) + 1) * 32) ≤ 70368744177664 ∧ ((List.length x17) + 1) ≤ 9223372036854775807) then
 rc (IntKind.wrap .i64 (x0 + 1)) x1 x2 x3 x4 x5 x6 x7 x8 x9 x10 x11 x12 x13 x14 x15 x16 (x17 ++ [(AV.ints .u64 4 r14)])
 else
 none
 else
 none
 else
 none
 else
 some (mk0 x2 x3 x4 x5 x6 x7 x8 x9 x10 x11 x13 x14 x15 x16 x17)
def Fy.l10.g {α : Type} (mk0 : Int → LI → LI → Int → Int → LA → LA → LA → LA → LA → ByteArray → Int → Bool → Bool → LA → α) (n : Nat) : Nat → Int → Int → Int → LI → LI → Int → Int → LA → LA → LA → LA → LA → LA → ByteArray → Int → Bool → Bool → LA → Option α
 | 0, _, _, _, _, _, _, _, _, _, _, _, _, _, _, _, _, _, _ => none
 | m + 1, x0, x1, x2, x3, x4, x5, x6, x7, x8, x9, x10, x11, x12, x13, x14, x15, x16, x17 => Fy.l10.r mk0 n (fun y0 y1 y2 y3 y4 y5 y6 y7 y8 y9 y10 y11 y12 y13 y14 y15 y16 y17 => Fy.l10.g mk0 n m y0 y1 y2 y3 y4 y5 y6 y7 y8 y9 y10 y11 y12 y13 y14 y15 y16 y17)  x0 x1 x2 x3 x4 x5 x6 x7 x8 x9 x10 x11 x12 x13 x14 x15 x16 x17
def Fy.l10.m (n m : Nat) (t : Ty1) : Option Ty2 := Fy.l10.g (fun a0 a1 a2 a3 a4 a5 a6 a7 a8 a9 a10 a11 a12 a13 a14 => (a0, a1, a2, a3, a4, a5, a6, a7, a8, a9, a10, a11, a12, a13, a14)) n m t.1 t.2.1 t.2.2.1 t.2.2.2.1 t.w.1 t.w.2.1 t.w.2.2.1 t.w.2.2.2.1 t.x.1 t.x.2.1 t.x.2.2.1 t.x.2.2.2.1 t.x.w.1 t.x.w.2.1 t.x.w.2.2.1 t.x.w.2.2.2.1 t.y.1 t.y.2
def Fy.l10.pat : St → Option Ty1
 | (St.mk [(.int .i64 x0), (.int .i64 x1), (.own 7 6), (.ptr 0 []), (.ptr 8 [])] [(some (.var (.agg [(.ptr 1 []), (.int .u64 x2), (.ints .u8 20 x3), (.ints .u64 4 x4), (.own 9 4)]))), (some (.var (.agg [(.own 2 0), (.own 3 0), (.rmap []), (.rmap []), (.own 4 0), (.rmap []), (.int .i64 x5), .snil, (.own 5 36), (.own 6 2), (.int .i64 x6)]))), (some (.mp x7)), (some (.mp x8)), (some (.mp x9)), (some (.objs 104 36 x10)), (some (.objs 83 2 x11)), (some (.objs 59 6 x12)), (some (.var (.agg [(.str x13), (.int .i64 x14), (.bool x15), (.bool x16)]))), (some (.objs 26 4 x17))]) => some (x0, x1, x2, x3, x4, x5, x6, x7, x8, x9, x10, x11, x12, x13, x14, x15, x16, x17)
 | _ => none
def Fy.l10.shape (t : Ty1) : St := (St.mk [(.int .i64 t.1), (.int .i64 t.2.1), (.own 7 6), (.ptr 0 []), (.ptr 8 [])] [(some (.var (.agg [(.ptr 1 []), (.int .u64 t.2.2.1), (.ints .u8 20 t.2.2.2.1), (.ints .u64 4 t.w.1), (.own 9 4)]))), (some (.var (.agg [(.own 2 0), (.own 3 0), (.rmap []), (.rmap []), (.own 4 0), (.rmap []), (.int .i64 t.w.2.1), .snil, (.own 5 36), (.own 6 2), (.int .i64 t.w.2.2.1)]))), (some (.mp t.w.2.2.2.1)), (some (.mp t.x.1)), (some (.mp t.x.2.1)), (some (.objs 104 36 t.x.2.2.1)), (some (.objs 83 2 t.x.2.2.2.1)), (some (.objs 59 6 t.x.w.1)), (some (.var (.agg [(.str t.x.w.2.1), (.int .i64 t.x.w.2.2.1), (.bool t.x.w.2.2.2.1), (.bool t.y.1)]))), (some (.objs 26 4 t.y.2))])
def Fy.l10.res : Ty2 → Ex × St
 | u => ((.exit 0), (St.mk [(.ptr 0 []), (.ptr 7 [])] [(some (.var (.agg [(.ptr 1 []), (.int .u64 u.1), (.ints .u8 20 u.2.1), (.ints .u64 4 u.2.2.1), (.own 8 4)]))), (some (.var (.agg [(.own 2 0), (.own 3 0), (.rmap []), (.rmap []), (.own 4 0), (.rmap []), (.int .i64 u.2.2.2.1), .snil, (.own 5 36), (.own 6 2), (.int .i64 u.w.1)]))), (some (.mp u.w.2.1)), (some (.mp u.w.2.2.1)), (some (.mp u.w.2.2.2.1)), (some (.objs 104 36 u.x.1)), (some (.objs 83 2 u.x.2.1)), (some (.var (.agg [(.str u.x.2.2.1), (.int .i64 u.x.2.2.2.1), (.bool u.x.w.1), (.bool u.x.w.2.1)]))), (some (.objs 26 4 u.x.w.2.2))]))
noncomputable def Fy.A (n : Nat) : Ann := ⟨Tryz.f31.ntmps, 7, Fy.live, [(0, (.agg [none, none, none, none, (some (.objs 26 4))])), (66, (.objs 59 6))], [(some (.ints .u8)), none, (some (.agg [(some (.ints .u8))]))], fun k => match k with
 | 10 => some (.mk' Fy.l10.pat (Fy.l10.m n n) (zQ Fy.l10.res))
 | _ => none, zV, zW []⟩
noncomputable def Fy.b0 : Code := (zK (Tryz.f31.body.getD .skip)).getD 0 .skip
def Fy.g {α : Type} (mk0 : ByteArray → Nat → Int → LI → LI → Int → Int → LA → LA → LA → LA → LI → LA → α) (mk1 : ByteArray → Nat → Int → LI → LI → Int → Int → LA → LA → LA → LA → LI → LA → LA → α) (mk2 : Int → LI → LI → Int → Int → LA → LA → LA → LA → LI → LA → LA → α) (n : Nat) (b : LI) (s : Bool) (t : Int) (c v : LI) (r x : Int) (p q : LA) (o j z : LA) : Option α :=
 zD (Fbp.m n b) fun r2 =>
  if (!r2.w) = true then
   some (mk0 (b8 [117, 110, 107, 110, 111, 119, 110]) 0 t c v r x p q o z [] j)
  else
   if 0 ≤ r2.2.1 then
    if r2.2.1 ≤ r2.2.1 then
     if (r2.2.1 * ((1 : Nat) : Int)) ≤ 140737488355328 then
      if r2.2.1 ≤ 1152921504606846976 then
       if 4 ≤ (b.length : Int) then
        zD (Fbb.m n ((List.replicate (Int.toNat r2.2.1) (AV.bool false)), (Go.Abs.cut b 4 (Option.none)))) fun r16 =>
         if (r16.1 != 0) = true then
          some (mk0 r2.1 0 t c v r x p q o z [] j)
         else
          if s = true then
           if (!r2.2.2.1) = true then
            some (mk0 r2.1 1 t c v r x p q o z [] j)
           else
            if (!r2.2.2.2.1) = true then
             if (!(v == [0, 0, 0, 0])) = true then
              some (mk0 r2.1 1 t c v r x p q o z [] j)
             else
              zD (Fy.l10.m n n (0, (((List.length r16.2) : Nat) : Int), t, c, v, r, x, p, q, o, j, z, r16.2, r2.1, r2.2.1, r2.2.2.1, r2.2.2.2.1, [])) fun r28 =>
               zD (Fae.m n (r28.x.2.2.1, r28.1, r28.2.1, r28.2.2.1, r28.2.2.2.1, r28.w.1, r28.x.w.2.2, r28.w.2.1, r28.w.2.2.1, r28.w.2.2.2.1, r28.x.1, r28.x.2.1)) fun r30 => match r30 with
                | (.inl r30) =>
                 some (mk1 r28.x.2.2.1 r30.1 r30.2.1 r30.2.2.1 r30.2.2.2.1 r30.w.1 r30.w.2.1 r30.w.2.2.2.1 r30.x.1 r30.x.2.1 r30.x.2.2.1 [] r30.w.2.2.1 r30.x.w)
                | (.inr r30) =>
                 some (mk2 r30.1 r30.2.1 r30.2.2.1 r30.2.2.2.1 r30.w.1 r30.w.2.2.1 r30.w.2.2.2.1 r30.x.1 r30.x.2.1 r30.x.2.2.1 r30.w.2.1 r30.x.2.2.2)
            else
             zD (Fy.l10.m n n (0, (((List.length r16.2) : Nat) : Int), t, c, v, r, x, p, q, o, j, z, r16.2, r2.1, r2.2.1, r2.2.2.1, r2.2.2.2.1, [])) fun r26 =>
              zD (Fae.m n (r26.x.2.2.1, r26.1, r26.2.1, r26.2.2.1, r26.2.2.2.1, r26.w.1, r26.x.w.2.2, r26.w.2.1, r26.w.2.2.1, r26.w.2.2.2.1, r26.x.1, r26.x.2.1)) fun r28 => match r28 with
               | (.inl r28) =>
                some (mk1 r26.x.2.2.1 r28.1 r28.2.1 r28.2.2.1 r28.2.2.2.1 r28.w.1 r28.w.2.1 r28.w.2.2.2.1 r28.x.1 r28.x.2.1 r28.x.2.2.1 [] r28.w.2.2.1 r28.x.w)
               | (.inr r28) =>
                some (mk2 r28.1 r28.2.1 r28.2.2.1 r28.2.2.2.1 r28.w.1 r28.w.2.2.1 r28.w.2.2.2.1 r28.x.1 r28.x.2.1 r28.x.2.2.1 r28.w.2.1 r28.x.2.2.2)
          else
           if (!r2.2.2.2.1) = true then
            if (!(v == [0, 0, 0, 0])) = true then
             some (mk0 r2.1 1 t c v r x p q o z [] j)
            else
             zD (Fy.l10.m n n (0, (((List.length r16.2) : Nat) : Int), t, c, v, r, x, p, q, o, j, z, r16.2, r2.1, r2.2.1, r2.2.2.1, r2.2.2.2.1, [])) fun r26 =>
              zD (Fae.m n (r26.x.2.2.1, r26.1, r26.2.1, r26.2.2.1, r26.2.2.2.1, r26.w.1, r26.x.w.2.2, r26.w.2.1, r26.w.2.2.1, r26.w.2.2.2.1, r26.x.1, r26.x.2.1)) fun r28 => match r28 with
               | (.inl r28) =>
                some (mk1 r26.x.2.2.1 r28.1 r28.2.1 r28.2.2.1 r28.2.2.2.1 r28.w.1 r28.w.2.1 r28.w.2.2.2.1 r28.x.1 r28.x.2.1 r28.x.2.2.1 [] r28.w.2.2.1 r28.x.w)
               | (.inr r28) =>
                some (mk2 r28.1 r28.2.1 r28.2.2.1 r28.2.2.2.1 r28.w.1 r28.w.2.2.1 r28.w.2.2.2.1 r28.x.1 r28.x.2.1 r28.x.2.2.1 r28.w.2.1 r28.x.2.2.2)
           else
            zD (Fy.l10.m n n (0, (((List.length r16.2) : Nat) : Int), t, c, v, r, x, p, q, o, j, z, r16.2, r2.1, r2.2.1, r2.2.2.1, r2.2.2.2.1, [])) fun r24 =>
             zD (Fae.m n (r24.x.2.2.1, r24.1, r24.2.1, r24.2.2.1, r24.2.2.2.1, r24.w.1, r24.x.w.2.2, r24.w.2.1, r24.w.2.2.1, r24.w.2.2.2.1, r24.x.1, r24.x.2.1)) fun r26 => match r26 with
              | (.inl r26) =>
               some (mk1 r24.x.2.2.1 r26.1 r26.2.1 r26.2.2.1 r26.2.2.2.1 r26.w.1 r26.w.2.1 r26.w.2.2.2.1 r26.x.1 r26.x.2.1 r26.x.2.2.1 [] r26.w.2.2.1 r26.x.w)
              | (.inr r26) =>
               some (mk2 r26.1 r26.2.1 r26.2.2.1 r26.2.2.2.1 r26.w.1 r26.w.2.2.1 r26.w.2.2.2.1 r26.x.1 r26.x.2.1 r26.x.2.2.1 r26.w.2.1 r26.x.2.2.2)
       else
        none
      else
       none
     else
      none
    else
     none
   else
    none
def Fy.m (n : Nat) (t : Ty6) : Option ((ByteArray × (Nat × Ty18)) ⊕ ((ByteArray × (Nat × zLR)) ⊕ zLR)) := Fy.g (fun a0 a1 a2 a3 a4 a5 a6 a7 a8 a9 a10 a11 a12 => (.inl (a0, a1, a2, a3, a4, a5, a6, a7, a8, a9, a10, a11, a12))) (fun a0 a1 a2 a3 a4 a5 a6 a7 a8 a9 a10 a11 a12 a13 => (.inr (.inl (a0, a1, a2, a3, a4, a5, a6, a7, a8, a9, a10, a11, a12, a13)))) (fun a0 a1 a2 a3 a4 a5 a6 a7 a8 a9 a10 a11 => (.inr (.inr (a0, a1, a2, a3, a4, a5, a6, a7, a8, a9, a10, a11)))) n t.1 t.2.1 t.2.2.1 t.2.2.2.1 t.w.1 t.w.2.1 t.w.2.2.1 t.w.2.2.2.1 t.x.1 t.x.2.1 t.x.2.2.1 t.x.2.2.2
def Fy.pat : List AV → zC → Option Ty6
 | [(.ptr 0 []), (.rints .u8 b), (.bool s)], [(some (.var (.agg [(.ptr 1 []), (.int .u64 t), (.ints .u8 20 c), (.ints .u64 4 v), .snil]))), (some (.var (.agg [(.own 2 0), (.own 3 0), (.rmap []), (.rmap []), (.own 4 0), (.rmap []), (.int .i64 r), .snil, (.own 5 36), (.own 6 2), (.int .i64 x)]))), (some (.mp p)), (some (.mp q)), (some (.mp o)), (some (.objs 104 36 j)), (some (.objs 83 2 z))] => some (b, s, t, c, v, r, x, p, q, o, j, z)
 | _, _ => none
def Fy.shape (t : Ty6) : List AV × zC := ([(.ptr 0 []), (.rints .u8 t.1), (.bool t.2.1)], [(some (.var (.agg [(.ptr 1 []), (.int .u64 t.2.2.1), (.ints .u8 20 t.2.2.2.1), (.ints .u64 4 t.w.1), .snil]))), (some (.var (.agg [(.own 2 0), (.own 3 0), (.rmap []), (.rmap []), (.own 4 0), (.rmap []), (.int .i64 t.w.2.1), .snil, (.own 5 36), (.own 6 2), (.int .i64 t.w.2.2.1)]))), (some (.mp t.w.2.2.2.1)), (some (.mp t.x.1)), (some (.mp t.x.2.1)), (some (.objs 104 36 t.x.2.2.1)), (some (.objs 83 2 t.x.2.2.2))])
def Fy.res : ((ByteArray × (Nat × Ty18)) ⊕ ((ByteArray × (Nat × zLR)) ⊕ zLR)) → AV × zC
 | (.inl u) => ((.tup [(.own 7 1), (.iface 124 (.agg [(.str u.1), (.errv 124 201 u.2.1)]))]), [(some (.var (.agg [(.ptr 1 []), (.int .u64 u.2.2.1), (.ints .u8 20 u.2.2.2.1), (.ints .u64 4 u.w.1), .snil]))), (some (.var (.agg [(.own 2 0), (.own 3 0), (.rmap []), (.rmap []), (.own 4 0), (.rmap []), (.int .i64 u.w.2.1), .snil, (.own 8 36), (.own 6 2), (.int .i64 u.w.2.2.1)]))), (some (.mp u.w.2.2.2.1)), (some (.mp u.x.1)), (some (.mp u.x.2.1)), none, (some (.objs 83 2 u.x.2.2.1)), (some (.ints .u8 u.x.2.2.2.1)), (some (.objs 104 36 u.x.w))])
 | (.inr (.inl u)) => ((.tup [(.own 7 1), (.iface 124 (.agg [(.str u.1), (.errv 124 201 u.2.1)]))]), [(some (.var (.agg [(.ptr 1 []), (.int .u64 u.2.2.1), (.ints .u8 20 u.2.2.2.1), (.ints .u64 4 u.w.1), (.own 8 4)]))), (some (.var (.agg [(.own 2 0), (.own 3 0), (.rmap []), (.rmap []), (.own 4 0), (.rmap []), (.int .i64 u.w.2.1), .snil, (.own 9 36), (.own 6 2), (.int .i64 u.w.2.2.1)]))), (some (.mp u.w.2.2.2.1)), (some (.mp u.x.1)), (some (.mp u.x.2.1)), none, (some (.objs 83 2 u.x.2.2.1)), (some (.ints .u8 u.x.2.2.2.1)), (some (.objs 26 4 u.x.w.1)), (some (.objs 104 36 u.x.w.2))])
 | (.inr (.inr u)) => ((.tup [(.own 7 1), .nili]), [(some (.var (.agg [(.ptr 1 []), (.int .u64 u.1), (.ints .u8 20 u.2.1), (.ints .u64 4 u.2.2.1), (.own 8 4)]))), (some (.var (.agg [(.own 2 0), (.own 3 0), (.rmap []), (.rmap []), (.own 4 0), (.rmap []), (.int .i64 u.2.2.2.1), .snil, (.own 9 36), (.own 6 2), (.int .i64 u.w.1)]))), (some (.mp u.w.2.1)), (some (.mp u.w.2.2.1)), (some (.mp u.w.2.2.2.1)), none, (some (.objs 83 2 u.x.1)), (some (.ints .u8 u.x.2.1)), (some (.objs 26 4 u.x.2.2.1)), (some (.objs 104 36 u.x.2.2.2))])
def Fy.resK {R : Type} (u : ((ByteArray × (Nat × Ty18)) ⊕ ((ByteArray × (Nat × zLR)) ⊕ zLR))) (K : AV → zC → Option R) : Option R := match u with
 | (.inl u) => (fun p : AV × zC => K p.1 p.2) ((.tup [(.own 7 1), (.iface 124 (.agg [(.str u.1), (.errv 124 201 u.2.1)]))]), [(some (.var (.agg [(.ptr 1 []), (.int .u64 u.2.2.1), (.ints .u8 20 u.2.2.2.1), (.ints .u64 4 u.w.1), .snil]))), (some (.var (.agg [(.own 2 0), (.own 3 0), (.rmap []), (.rmap []), (.own 4 0), (.rmap []), (.int .i64 u.w.2.1), .snil, (.own 8 36), (.own 6 2), (.int .i64 u.w.2.2.1)]))), (some (.mp u.w.2.2.2.1)), (some (.mp u.x.1)), (some (.mp u.x.2.1)), none, (some (.objs 83 2 u.x.2.2.1)), (some (.ints .u8 u.x.2.2.2.1)), (some (.objs 104 36 u.x.w))])
 | (.inr (.inl u)) => (fun p : AV × zC => K p.1 p.2) ((.tup [(.own 7 1), (.iface 124 (.agg [(.str u.1), (.errv 124 201 u.2.1)]))]), [(some (.var (.agg [(.ptr 1 []), (.int .u64 u.2.2.1), (.ints .u8 20 u.2.2.2.1), (.ints .u64 4 u.w.1), (.own 8 4)]))), (some (.var (.agg [(.own 2 0), (.own 3 0), (.rmap []), (.rmap []), (.own 4 0), (.rmap []), (.int .i64 u.w.2.1), .snil, (.own 9 36), (.own 6 2), (.int .i64 u.w.2.2.1)]))), (some (.mp u.w.2.2.2.1)), (some (.mp u.x.1)), (some (.mp u.x.2.1)), none, (some (.objs 83 2 u.x.2.2.1)), (some (.ints .u8 u.x.2.2.2.1)), (some (.objs 26 4 u.x.w.1)), (some (.objs 104 36 u.x.w.2))])
 | (.inr (.inr u)) => (fun p : AV × zC => K p.1 p.2) ((.tup [(.own 7 1), .nili]), [(some (.var (.agg [(.ptr 1 []), (.int .u64 u.1), (.ints .u8 20 u.2.1), (.ints .u64 4 u.2.2.1), (.own 8 4)]))), (some (.var (.agg [(.own 2 0), (.own 3 0), (.rmap []), (.rmap []), (.own 4 0), (.rmap []), (.int .i64 u.2.2.2.1), .snil, (.own 9 36), (.own 6 2), (.int .i64 u.w.1)]))), (some (.mp u.w.2.1)), (some (.mp u.w.2.2.1)), (some (.mp u.w.2.2.2.1)), none, (some (.objs 83 2 u.x.1)), (some (.ints .u8 u.x.2.1)), (some (.objs 26 4 u.x.2.2.1)), (some (.objs 104 36 u.x.2.2.2))])
def Fy.c (n : Nat) : Abs.Callee := .mk' [true, false, false] [none, (some (.ints .u8)), none] Fy.pat (Fy.m n) Fy.resK
def errors_Is0.m (n t : Nat) : Option Bool := if t ≤ 2 then some false else none
def errors_Is0.pat : List AV → zC → Option Nat
 | [.nili, .errv 124 201 k], [] => some k
 | _, _ => none
def errors_Is0.shape (t : Nat) : List AV × zC := ([.nili, .errv 124 201 t], [])
def errors_Is0.res : Bool → AV × zC
 | u => ((.bool u), [])
def errors_Is0.c (n : Nat) : Abs.Callee := .mk' [] [none, none] errors_Is0.pat (errors_Is0.m n) (zO errors_Is0.res)
def errors_Is1.m (n : Nat) (t : ByteArray × Nat × Nat) : Option Bool := if t.2.1 ≤ 2 then (if t.2.2 ≤ 2 then some (decide (t.2.1 = t.2.2)) else none) else none
def errors_Is1.pat : List AV → zC → Option (ByteArray × Nat × Nat)
 | [.iface 124 (.agg [.str s, .errv 124 201 j]), .errv 124 201 k], [] => some (s, j, k)
 | _, _ => none
def errors_Is1.shape (t : ByteArray × Nat × Nat) : List AV × zC := ([.iface 124 (.agg [.str t.1, .errv 124 201 t.2.1]), .errv 124 201 t.2.2], [])
def errors_Is1.res : Bool → AV × zC
 | u => ((.bool u), [])
def errors_Is1.c (n : Nat) : Abs.Callee := .mk' [] [none, none] errors_Is1.pat (errors_Is1.m n) (zO errors_Is1.res)
def Fbq.isNil : List AV → Bool
 | .nili :: _ => true
 | _ => false
def Fbq.c (n : Nat) : Abs.Callee := .pick Fbq.isNil (errors_Is0.c n) (errors_Is1.c n)
noncomputable def Fbr.C (n : Nat) : Ctx := ⟨Tryz.prog, zI, zU [(30, Fap.c n), (31, Fy.c n), (32, Fbq.c n)], fun _ => false⟩
noncomputable def Fbr.A (n : Nat) : Ann := ⟨Tryz.f14.ntmps, 6, zV, [], [(some (.ints .u8)), none, (some (.agg [(some (.ints .u8))]))], fun k => match k with
 | _ => none, zV, zW []⟩
def Fbr.g {α : Type} (mk0 : Bool → Int → Int → LA → LA → LA → LA → LI → LA → α) (n : Nat) (t : Int) (c v b : LI) (s : Bool) (r x : Int) (p q : LA) (o j z : LA) : Option α :=
 if ((b.length : Int) == 0) = true then
  if (!s) = true then
   zD (Fap.m n (c, v, r, x, p, q, o, j, z)) fun r6 =>
    some (mk0 (!s) r6.1 r6.2.1 r6.2.2.1 r6.2.2.2.1 r6.w.1 r6.w.2.1 [] r6.w.2.2)
  else
   some (mk0 (!s) r x p q o z [] j)
 else
  zD (Fy.m n (b, s, t, c, v, r, x, p, q, o, j, z)) fun r4 => match r4 with
   | (.inl r4) =>
    zD (errors_Is1.m n (r4.1, r4.2.1, 0)) fun r8 =>
     if r8 = true then
      some (mk0 false r4.w.2.1 r4.w.2.2.1 r4.w.2.2.2.1 r4.x.1 r4.x.2.1 r4.x.2.2.1 [] r4.x.w)
     else
      zD (errors_Is1.m n (r4.1, r4.2.1, 1)) fun r12 =>
       if r12 = true then
        some (mk0 false r4.w.2.1 r4.w.2.2.1 r4.w.2.2.2.1 r4.x.1 r4.x.2.1 r4.x.2.2.1 [] r4.x.w)
       else
        zD (errors_Is1.m n (r4.1, r4.2.1, 2)) fun r16 =>
         if r16 = true then
          some (mk0 false r4.w.2.1 r4.w.2.2.1 r4.w.2.2.2.1 r4.x.1 r4.x.2.1 r4.x.2.2.1 [] r4.x.w)
         else
          some (mk0 true r4.w.2.1 r4.w.2.2.1 r4.w.2.2.2.1 r4.x.1 r4.x.2.1 r4.x.2.2.1 r4.x.2.2.2.1 r4.x.w)
   | (.inr (.inl r4)) =>
    zD (errors_Is1.m n (r4.1, r4.2.1, 0)) fun r8 =>
     if r8 = true then
      some (mk0 false r4.w.2.1 r4.w.2.2.1 r4.w.2.2.2.1 r4.x.1 r4.x.2.1 r4.x.2.2.1 [] r4.x.w.2)
     else
      zD (errors_Is1.m n (r4.1, r4.2.1, 1)) fun r12 =>
       if r12 = true then
        some (mk0 false r4.w.2.1 r4.w.2.2.1 r4.w.2.2.2.1 r4.x.1 r4.x.2.1 r4.x.2.2.1 [] r4.x.w.2)
       else
        zD (errors_Is1.m n (r4.1, r4.2.1, 2)) fun r16 =>
         if r16 = true then
          some (mk0 false r4.w.2.1 r4.w.2.2.1 r4.w.2.2.2.1 r4.x.1 r4.x.2.1 r4.x.2.2.1 [] r4.x.w.2)
         else
          some (mk0 true r4.w.2.1 r4.w.2.2.1 r4.w.2.2.2.1 r4.x.1 r4.x.2.1 r4.x.2.2.1 r4.x.2.2.2.1 r4.x.w.2)
   | (.inr (.inr r4)) =>
    zD (errors_Is0.m n 0) fun r8 =>
     if r8 = true then
      some (mk0 false r4.2.2.2.1 r4.w.1 r4.w.2.1 r4.w.2.2.1 r4.w.2.2.2.1 r4.x.1 [] r4.x.2.2.2)
     else
      zD (errors_Is0.m n 1) fun r12 =>
       if r12 = true then
        some (mk0 false r4.2.2.2.1 r4.w.1 r4.w.2.1 r4.w.2.2.1 r4.w.2.2.2.1 r4.x.1 [] r4.x.2.2.2)
       else
        zD (errors_Is0.m n 2) fun r16 =>
         if r16 = true then
          some (mk0 false r4.2.2.2.1 r4.w.1 r4.w.2.1 r4.w.2.2.1 r4.w.2.2.2.1 r4.x.1 [] r4.x.2.2.2)
         else
          some (mk0 true r4.2.2.2.1 r4.w.1 r4.w.2.1 r4.w.2.2.1 r4.w.2.2.2.1 r4.x.1 r4.x.2.1 r4.x.2.2.2)
def Fbr.m (n : Nat) (t : Ty7) : Option Ty27 := Fbr.g (fun a0 a1 a2 a3 a4 a5 a6 a7 a8 => (a0, a1, a2, a3, a4, a5, a6, a7, a8)) n t.1 t.2.1 t.2.2.1 t.2.2.2.1 t.w.1 t.w.2.1 t.w.2.2.1 t.w.2.2.2.1 t.x.1 t.x.2.1 t.x.2.2.1 t.x.2.2.2
def Fbr.pat : List AV → zC → Option Ty7
 | [(.ptr 0 []), (.int .u64 t), (.ints .u8 20 c), (.ints .u64 4 v), (.rints .u8 b), (.bool s)], [(some (.var (.agg [(.own 1 0), (.own 2 0), (.rmap []), (.rmap []), (.own 3 0), (.rmap []), (.int .i64 r), .snil, (.own 4 36), (.own 5 2), (.int .i64 x)]))), (some (.mp p)), (some (.mp q)), (some (.mp o)), (some (.objs 104 36 j)), (some (.objs 83 2 z))] => some (t, c, v, b, s, r, x, p, q, o, j, z)
 | _, _ => none
def Fbr.shape (t : Ty7) : List AV × zC := ([(.ptr 0 []), (.int .u64 t.1), (.ints .u8 20 t.2.1), (.ints .u64 4 t.2.2.1), (.rints .u8 t.2.2.2.1), (.bool t.w.1)], [(some (.var (.agg [(.own 1 0), (.own 2 0), (.rmap []), (.rmap []), (.own 3 0), (.rmap []), (.int .i64 t.w.2.1), .snil, (.own 4 36), (.own 5 2), (.int .i64 t.w.2.2.1)]))), (some (.mp t.w.2.2.2.1)), (some (.mp t.x.1)), (some (.mp t.x.2.1)), (some (.objs 104 36 t.x.2.2.1)), (some (.objs 83 2 t.x.2.2.2))])
def Fbr.res : Ty27 → AV × zC
 | u => ((.tup [(.own 6 1), (.bool u.1)]), [(some (.var (.agg [(.own 1 0), (.own 2 0), (.rmap []), (.rmap []), (.own 3 0), (.rmap []), (.int .i64 u.2.1), .snil, (.own 7 36), (.own 5 2), (.int .i64 u.2.2.1)]))), (some (.mp u.2.2.2.1)), (some (.mp u.w.1)), (some (.mp u.w.2.1)), none, (some (.objs 83 2 u.w.2.2.1)), (some (.ints .u8 u.w.2.2.2.1)), (some (.objs 104 36 u.x))])
def Fbr.c (n : Nat) : Abs.Callee := .mk' [true, false, false, false, false, false] [none, none, none, none, (some (.ints .u8)), none] Fbr.pat (Fbr.m n) (zO Fbr.res)
