/- What the program's functions compute, as plain functions, each with its proof: the function does just that. Condition: the plain function has an answer. -/
import Derived.Test.YtaageoambenggaaAbsG1
import Derived.Test.YtaageoambenggaaAbsG6
import Derived.Test.YtaageoambenggaaProg
import Derived.RangeFuncNested
import Derived.RangeFuncBound
import Derived.RangeFuncCalls
import Derived.RangeFuncLeaves
import Derived.RangeFuncBox
import Derived.Shelf.Abstract
import Derived.Shelf.RegionOpen
import Derived.WalkKit
import Derived.OwnWalkIn
import Derived.TacticsInMore
import Derived.LoopNIn
import Derived.LoopIn
import Derived.Maps.AppendAt
set_option linter.unusedVariables false
set_option linter.unusedSimpArgs false
set_option maxRecDepth 100000
open Go Go.Abs Go.Proofs
section
namespace Go.Abs
open Go
def cOp (b : List Int) (k : Nat) : Int := b[k]?.getD 0
def cNext (o : Int) (k : Nat) : Nat := if 95 < o ∧ o ≤ 127 then k + (o - 95).toNat + 1 else k + 1
def cWalk (b : List Int) : Nat → Nat → List (Nat × Int)
  | 0, _ => []
  | f + 1, k => if k < b.length then (k, cOp b k) :: cWalk b f (cNext (cOp b k) k) else []
def cSteps (b : List Int) (k : Nat) : List (Nat × Int) := cWalk b (b.length - k) k
def cJump (l : List (Nat × Int)) : List Int := (l.filter fun x => x.2 == 91).map fun x => (x.1 : Int)
def cAt (b : List Int) (pc : Int) : Int := if pc < (b.length : Int) then b.getD pc.toNat 0 else 0
def cBig (b c d : Int) : Bool := ibits .or .u64 (ibits .or .u64 b c) d != 0
def cSm (a b c d : Int) : Int × Bool := match cBig b c d with | true => (0, false) | false => (a, true)
def cGo (n : Int) : List (Nat × Int) → Bool
  | [] => false
  | x :: r => if n ≤ (x.1 : Int) then (x.1 : Int) == n else cGo n r
def cMay (zs : List Int) (a b c d : Int) : Bool :=
  match cSm a b c d with
  | (n, is) => if is = true ∧ cAt zs n = 91 then cGo n (cSteps zs 0) else false
end Go.Abs
end
section
noncomputable section
def Fl.m (n : Nat) (t : List Int) : Option LI := if t.length ≤ 100000 then some (cJump (cSteps t 0)) else none
def Fl.pat : List AV → Blks → Option LI
 | [(.rints .u8 a0)], [] => some a0
 | _, _ => none
def Fl.shape (t : List Int) : List AV × Blks := ([(.rints .u8 t)], [])
def Fl.res : LI → AV × Blks
 | u => ((.own 0 1), [(some (.ints .u64 u))])
def Fl.resK {R : Type} (u : LI) (K : AV → Blks → Option R) : Option R := K (Fl.res u).1 (Fl.res u).2
def Fl.c (n : Nat) : Abs.Callee := .mk' [] [some (.ints .u8)] Fl.pat (Fl.m n) Fl.resK
end
end
section
noncomputable section
noncomputable def Fbf.C (n : Nat) : Ctx := ⟨Try.prog, (fun _ => .any), lookC [], fun _ => false⟩
noncomputable def Fbf.A (n : Nat) : Ann := ⟨Try.f25.ntmps, 0, noNL, [], [none], fun k => match k with
 | _ => none, noNL, lookJ []⟩
def Fbf.g {α : Type} (mk0 : Int → α) (n : Nat) (a0 : LI) (a1 : Int) : Option α :=
 if (decide (a1 ≥ (IntKind.wrap .u64 (((List.length a0) : Nat) : Int)))) = true then
  some (mk0 0)
 else
  if 0 ≤ a1 then
   if a1 < (((List.length a0) : Nat) : Int) then
    some (mk0 (List.getD a0 (Int.toNat a1) 0))
   else
    none
  else
   none
def Fbf.m (n : Nat) (t : (LI × Int)) : Option Int := Fbf.g (fun a0 => a0) n t.1 t.2
def Fbf.pat : List AV → Blks → Option (LI × Int)
 | [(.rints .u8 a0), (.int .u64 a1)], [] => some (a0, a1)
 | _, _ => none
def Fbf.shape (t : (LI × Int)) : List AV × Blks := ([(.rints .u8 t.1), (.int .u64 t.2)], [])
def Fbf.res : Int → AV × Blks
 | u => ((.int .u8 u), [])
def Fbf.resK {R : Type} (u : Int) (K : AV → Blks → Option R) : Option R := K (Fbf.res u).1 (Fbf.res u).2
def Fbf.c (n : Nat) : Abs.Callee := .mk' [] [(some (.ints .u8)), none] Fbf.pat (Fbf.m n) Fbf.resK
end
end
section
noncomputable section
noncomputable def Fy.C (n : Nat) : Ctx := ⟨Try.prog, (fun _ => .any), lookC [], fun _ => false⟩
def Fy.live : NL := fun k => match k with
 | 4 => ([13, 12, 3, 0, 2], [3, 2])
 | _ => ([], [])
def Fy.l4_0.r {α : Type} (mk0 : LI → LI → α) (n : Nat) (rc : Int → Int → LI → LI → LI → Option α)  (x0 : Int) (x1 : Int) (x2 : LI) (x3 : LI) (x4 : LI) : Option α :=
  if (decide (x0 < x1)) = true then
   if 0 ≤ (IntKind.wrap .i64 (Int.tdiv x0 8)) then
    if (IntKind.wrap .i64 (Int.tdiv x0 8)) < 4 then
     if 0 ≤ (IntKind.wrap .i64 ((IntKind.wrap .i64 ((((List.length x2) : Nat) : Int) - 1)) - x0)) then
      if (IntKind.wrap .i64 ((IntKind.wrap .i64 ((((List.length x2) : Nat) : Int) - 1)) - x0)) < (((List.length x2) : Nat) : Int) then
       if 0 ≤ (IntKind.wrap .i64 ((Int.tmod x0 8) * 8)) then
        if 0 ≤ (IntKind.wrap .i64 (Int.tdiv x0 8)) then
         if (IntKind.wrap .i64 (Int.tdiv x0 8)) < 4 then
          rc (IntKind.wrap .i64 (x0 + 1)) x1 x2 (List.set x3 (Int.toNat (IntKind.wrap .i64 (Int.tdiv x0 8))) (ibits BinOp.or .u64 (List.getD x3 (Int.toNat (IntKind.wrap .i64 (Int.tdiv x0 8))) 0) (ishl .u64 (IntKind.wrap .u64 (List.getD x2 (Int.toNat (IntKind.wrap .i64 ((IntKind.wrap .i64 ((((List.length x2) : Nat) : Int) - 1)) - x0))) 0)) (IntKind.wrap .i64 ((Int.tmod x0 8) * 8))))) x4
         else
          none
        else
         none
       else
        none
      else
       none
     else
      none
    else
     none
   else
    none
  else
   some (mk0 x3 x4)
def Fy.l4_0.g {α : Type} (mk0 : LI → LI → α) (n : Nat) : Nat → Int → Int → LI → LI → LI → Option α
 | 0, _, _, _, _, _ => none
 | m + 1, x0, x1, x2, x3, x4 => Fy.l4_0.r mk0 n (fun y0 y1 y2 y3 y4 => Fy.l4_0.g mk0 n m y0 y1 y2 y3 y4)  x0 x1 x2 x3 x4
def Fy.l4_0.m (n m : Nat) (t : (Int × (Int × (LI × (LI × LI))))) : Option (LI × LI) := Fy.l4_0.g (fun a0 a1 => (a0, a1)) n m t.1 t.2.1 t.2.2.1 t.2.2.2.1 t.2.2.2.2
def Fy.l4_0.pat : St → Option (Int × (Int × (LI × (LI × LI))))
 | (St.mk [(.int .i64 x0), (.int .i64 x1), (.ptr 0 []), (.rints .u8 x2), (.ptr 1 [])] [(some (.var (.ints .u64 4 x3))), (some (.var (.ints .u64 4 x4)))]) => some (x0, x1, x2, x3, x4)
 | _ => none
def Fy.l4_0.shape (t : (Int × (Int × (LI × (LI × LI))))) : St := (St.mk [(.int .i64 t.1), (.int .i64 t.2.1), (.ptr 0 []), (.rints .u8 t.2.2.1), (.ptr 1 [])] [(some (.var (.ints .u64 4 t.2.2.2.1))), (some (.var (.ints .u64 4 t.2.2.2.2)))])
def Fy.l4_0.res : (LI × LI) → Ex × St
 | u => ((.exit 0), (St.mk [(.ptr 0 []), (.ptr 1 [])] [(some (.var (.ints .u64 4 u.1))), (some (.var (.ints .u64 4 u.2)))]))
def Fy.l4_0.resK {R : Type} (u : (LI × LI)) (K : Ex → St → Option R) : Option R := K (Fy.l4_0.res u).1 (Fy.l4_0.res u).2
noncomputable def Fy.A (n : Nat) : Ann := ⟨Try.f52.ntmps, 0, Fy.live, [(0, (.ints .u8))], [none], fun k => match k with
 | 4 => some (.mk' Fy.l4_0.pat (Fy.l4_0.m n n) Fy.l4_0.resK)
 | _ => none, noNL, lookJ []⟩
noncomputable def Fy.b0 : Code := (loopsIn (Try.f52.body.getD .skip)).getD 0 .skip
def Fy.g {α : Type} (mk0 : LI → α) (n : Nat) (a0 : LI) : Option α :=
 if 0 ≤ (if 0 > (IntKind.wrap .i64 ((((List.length a0) : Nat) : Int) - 32)) then 0 else (IntKind.wrap .i64 ((((List.length a0) : Nat) : Int) - 32))) then
  if (if 0 > (IntKind.wrap .i64 ((((List.length a0) : Nat) : Int) - 32)) then 0 else (IntKind.wrap .i64 ((((List.length a0) : Nat) : Int) - 32))) ≤ (((List.length a0) : Nat) : Int) then
   bindO (Fy.l4_0.m n n (0, (((List.length (Go.Abs.cut a0 (Int.toNat (if 0 > (IntKind.wrap .i64 ((((List.length a0) : Nat) : Int) - 32)) then 0 else (IntKind.wrap .i64 ((((List.length a0) : Nat) : Int) - 32)))) (Option.none))) : Nat) : Int), (Go.Abs.cut a0 (Int.toNat (if 0 > (IntKind.wrap .i64 ((((List.length a0) : Nat) : Int) - 32)) then 0 else (IntKind.wrap .i64 ((((List.length a0) : Nat) : Int) - 32)))) (Option.none)), [0, 0, 0, 0], [0, 0, 0, 0])) fun r6 =>
    some (mk0 r6.1)
  else
   none
 else
  none
def Fy.m (n : Nat) (t : LI) : Option LI := Fy.g (fun a0 => a0) n t
def Fy.pat : List AV → Blks → Option LI
 | [(.rints .u8 a0)], [] => some a0
 | _, _ => none
def Fy.shape (t : LI) : List AV × Blks := ([(.rints .u8 t)], [])
def Fy.res : LI → AV × Blks
 | u => ((.ints .u64 4 u), [])
def Fy.resK {R : Type} (u : LI) (K : AV → Blks → Option R) : Option R := K (Fy.res u).1 (Fy.res u).2
def Fy.c (n : Nat) : Abs.Callee := .mk' [] [(some (.ints .u8))] Fy.pat (Fy.m n) Fy.resK
end
end
section
noncomputable section
noncomputable def Fz.C (n : Nat) : Ctx := ⟨Try.prog, (fun _ => .any), lookC [(25, Fbf.c n), (52, Fy.c n)], fun _ => false⟩
noncomputable def Fz.A (n : Nat) : Ann := ⟨Try.f23.ntmps, 0, noNL, [], [none, none], fun k => match k with
 | _ => none, noNL, lookJ []⟩
def Fz.g {α : Type} (mk0 : LI → Int → α) (n : Nat) (a0 : LI) (a1 : Int) : Option α :=
 bindO (Fbf.m n (a0, a1)) fun r2 =>
  if (decide (r2 < 95)) = true then
   some (mk0 [0, 0, 0, 0] 0)
  else
   if (decide (r2 > 127)) = true then
    some (mk0 [0, 0, 0, 0] 0)
   else
    if 0 ≤ (IntKind.wrap .u64 (IntKind.wrap .u8 (r2 - 95))) then
     if (IntKind.wrap .u64 (IntKind.wrap .u8 (r2 - 95))) ≤ (IntKind.wrap .u64 (IntKind.wrap .u8 (r2 - 95))) then
      if ((IntKind.wrap .u64 (IntKind.wrap .u8 (r2 - 95))) * ((1 : Nat) : Int)) ≤ 140737488355328 then
       if (IntKind.wrap .u64 (IntKind.wrap .u8 (r2 - 95))) ≤ 1152921504606846976 then
        if 0 ≤ (IntKind.wrap .u64 (a1 + 1)) then
         if (IntKind.wrap .u64 (a1 + 1)) ≤ (((List.length a0) : Nat) : Int) then
          bindO (Fy.m n ((List.take (List.length (List.replicate (Int.toNat (IntKind.wrap .u64 (IntKind.wrap .u8 (r2 - 95)))) (0 : Int))) (Go.Abs.cut a0 (Int.toNat (IntKind.wrap .u64 (a1 + 1))) (Option.none))) ++ (List.drop (List.length (Go.Abs.cut a0 (Int.toNat (IntKind.wrap .u64 (a1 + 1))) (Option.none))) (List.replicate (Int.toNat (IntKind.wrap .u64 (IntKind.wrap .u8 (r2 - 95)))) (0 : Int))))) fun r20 =>
           some (mk0 r20 (IntKind.wrap .u64 (IntKind.wrap .u8 (r2 - 95))))
         else
          none
        else
         none
       else
        none
      else
       none
     else
      none
    else
     none
def Fz.m (n : Nat) (t : (LI × Int)) : Option (LI × Int) := Fz.g (fun a0 a1 => (a0, a1)) n t.1 t.2
def Fz.pat : List AV → Blks → Option (LI × Int)
 | [(.rints .u8 a0), (.int .u64 a1)], [] => some (a0, a1)
 | _, _ => none
def Fz.shape (t : (LI × Int)) : List AV × Blks := ([(.rints .u8 t.1), (.int .u64 t.2)], [])
def Fz.res : (LI × Int) → AV × Blks
 | u => ((.tup [(.ints .u64 4 u.1), (.int .u64 u.2)]), [])
def Fz.resK {R : Type} (u : (LI × Int)) (K : AV → Blks → Option R) : Option R := K (Fz.res u).1 (Fz.res u).2
def Fz.c (n : Nat) : Abs.Callee := .mk' [] [(some (.ints .u8)), none] Fz.pat (Fz.m n) Fz.resK
end
end
section
noncomputable section
noncomputable def Faa.C (n : Nat) : Ctx := ⟨Try.prog, (fun _ => .any), lookC [], fun _ => false⟩
def Faa.jlive : NL := fun k => match k with
 | 10000 => ([0], [0, 2, 3, 4])
 | _ => ([], [])
noncomputable def Faa.jc0 : Code := ((seqsIn (Try.f19.body.getD .skip)).filter fun a => jkey a == 10000).getD 0 .skip
def Faa.j10000.g {α : Type} (mk0 : Int → Int → Int → Bool → α) (mk1 : Int → α) (n : Nat) (x0 : Int) : Option α :=
  if (decide (x0 ≥ 95)) = true then
   if (decide (x0 ≤ 127)) = true then
    some (mk0 x0 0 1 true)
   else
    if (decide (x0 ≥ 128)) = true then
     if (decide (x0 ≤ 143)) = true then
      some (mk0 x0 (IntKind.wrap .i64 ((IntKind.wrap .i64 (IntKind.wrap .u8 (x0 - 128))) + 1)) (IntKind.wrap .i64 ((IntKind.wrap .i64 (IntKind.wrap .u8 (x0 - 128))) + 2)) true)
     else
      if (decide (x0 ≥ 144)) = true then
       if (decide (x0 ≤ 159)) = true then
        some (mk0 x0 (IntKind.wrap .i64 ((IntKind.wrap .i64 (IntKind.wrap .u8 (x0 - 144))) + 2)) (IntKind.wrap .i64 ((IntKind.wrap .i64 (IntKind.wrap .u8 (x0 - 144))) + 2)) true)
       else
        if (decide (x0 ≥ 160)) = true then
         if (decide (x0 ≤ 164)) = true then
          some (mk0 x0 (IntKind.wrap .i64 ((IntKind.wrap .i64 (IntKind.wrap .u8 (x0 - 160))) + 2)) 0 true)
         else
          some (mk1 x0)
        else
         some (mk1 x0)
      else
       if (decide (x0 ≥ 160)) = true then
        if (decide (x0 ≤ 164)) = true then
         some (mk0 x0 (IntKind.wrap .i64 ((IntKind.wrap .i64 (IntKind.wrap .u8 (x0 - 160))) + 2)) 0 true)
        else
         some (mk1 x0)
       else
        some (mk1 x0)
    else
     if (decide (x0 ≥ 144)) = true then
      if (decide (x0 ≤ 159)) = true then
       some (mk0 x0 (IntKind.wrap .i64 ((IntKind.wrap .i64 (IntKind.wrap .u8 (x0 - 144))) + 2)) (IntKind.wrap .i64 ((IntKind.wrap .i64 (IntKind.wrap .u8 (x0 - 144))) + 2)) true)
      else
       if (decide (x0 ≥ 160)) = true then
        if (decide (x0 ≤ 164)) = true then
         some (mk0 x0 (IntKind.wrap .i64 ((IntKind.wrap .i64 (IntKind.wrap .u8 (x0 - 160))) + 2)) 0 true)
        else
         some (mk1 x0)
       else
        some (mk1 x0)
     else
      if (decide (x0 ≥ 160)) = true then
       if (decide (x0 ≤ 164)) = true then
        some (mk0 x0 (IntKind.wrap .i64 ((IntKind.wrap .i64 (IntKind.wrap .u8 (x0 - 160))) + 2)) 0 true)
       else
        some (mk1 x0)
      else
       some (mk1 x0)
  else
   if (decide (x0 ≥ 128)) = true then
    if (decide (x0 ≤ 143)) = true then
     some (mk0 x0 (IntKind.wrap .i64 ((IntKind.wrap .i64 (IntKind.wrap .u8 (x0 - 128))) + 1)) (IntKind.wrap .i64 ((IntKind.wrap .i64 (IntKind.wrap .u8 (x0 - 128))) + 2)) true)
    else
     if (decide (x0 ≥ 144)) = true then
      if (decide (x0 ≤ 159)) = true then
       some (mk0 x0 (IntKind.wrap .i64 ((IntKind.wrap .i64 (IntKind.wrap .u8 (x0 - 144))) + 2)) (IntKind.wrap .i64 ((IntKind.wrap .i64 (IntKind.wrap .u8 (x0 - 144))) + 2)) true)
      else
       if (decide (x0 ≥ 160)) = true then
        if (decide (x0 ≤ 164)) = true then
         some (mk0 x0 (IntKind.wrap .i64 ((IntKind.wrap .i64 (IntKind.wrap .u8 (x0 - 160))) + 2)) 0 true)
        else
         some (mk1 x0)
       else
        some (mk1 x0)
     else
      if (decide (x0 ≥ 160)) = true then
       if (decide (x0 ≤ 164)) = true then
        some (mk0 x0 (IntKind.wrap .i64 ((IntKind.wrap .i64 (IntKind.wrap .u8 (x0 - 160))) + 2)) 0 true)
       else
        some (mk1 x0)
      else
       some (mk1 x0)
   else
    if (decide (x0 ≥ 144)) = true then
     if (decide (x0 ≤ 159)) = true then
      some (mk0 x0 (IntKind.wrap .i64 ((IntKind.wrap .i64 (IntKind.wrap .u8 (x0 - 144))) + 2)) (IntKind.wrap .i64 ((IntKind.wrap .i64 (IntKind.wrap .u8 (x0 - 144))) + 2)) true)
     else
      if (decide (x0 ≥ 160)) = true then
       if (decide (x0 ≤ 164)) = true then
        some (mk0 x0 (IntKind.wrap .i64 ((IntKind.wrap .i64 (IntKind.wrap .u8 (x0 - 160))) + 2)) 0 true)
       else
        some (mk1 x0)
      else
       some (mk1 x0)
    else
     if (decide (x0 ≥ 160)) = true then
      if (decide (x0 ≤ 164)) = true then
       some (mk0 x0 (IntKind.wrap .i64 ((IntKind.wrap .i64 (IntKind.wrap .u8 (x0 - 160))) + 2)) 0 true)
      else
       some (mk1 x0)
     else
      some (mk1 x0)
def Faa.j10000.m (n : Nat) (t : Int) : Option ((Int × (Int × (Int × Bool))) ⊕ Int) := Faa.j10000.g (fun a0 a1 a2 a3 => (.inl (a0, a1, a2, a3))) (fun a0 => (.inr a0)) n t
def Faa.j10000.pat : St → Option Int
 | (St.mk [(.int .u8 x0)] []) => some x0
 | _ => none
def Faa.j10000.shape (t : Int) : St := (St.mk [(.int .u8 t)] [])
def Faa.j10000.res : ((Int × (Int × (Int × Bool))) ⊕ Int) → Ex × St
 | (.inl u) => (.ret, (St.mk [(.int .u8 u.1), (.int .i64 u.2.1), (.int .i64 u.2.2.1), (.bool u.2.2.2)] []))
 | (.inr u) => (.normal, (St.mk [(.int .u8 u), .any, .any, .any] []))
def Faa.j10000.resK {R : Type} (u : ((Int × (Int × (Int × Bool))) ⊕ Int)) (K : Ex → St → Option R) : Option R := match u with
 | (.inl u) => (fun p : Ex × St => K p.1 p.2) (.ret, (St.mk [(.int .u8 u.1), (.int .i64 u.2.1), (.int .i64 u.2.2.1), (.bool u.2.2.2)] []))
 | (.inr u) => (fun p : Ex × St => K p.1 p.2) (.normal, (St.mk [(.int .u8 u), .any, .any, .any] []))
noncomputable def Faa.A (n : Nat) : Ann := ⟨Try.f19.ntmps, 0, noNL, [], [none, none, none], fun k => match k with
 | _ => none, Faa.jlive, lookJ [(10000, .mk' Faa.j10000.pat (Faa.j10000.m n) Faa.j10000.resK)]⟩
def Faa.g {α : Type} (mk0 : Int → Int → Bool → α) (n : Nat) (a0 : Int) : Option α :=
 bindO (Faa.j10000.m n a0) fun r2 => match r2 with
  | (.inl r2) =>
   some (mk0 r2.2.1 r2.2.2.1 r2.2.2.2)
  | (.inr r2) =>
   if (r2 == 0) = true then
    some (mk0 0 0 true)
   else
    if (r2 == 91) = true then
     some (mk0 0 0 true)
    else
     if (r2 == 1) = true then
      some (mk0 2 1 true)
     else
      if (r2 == 2) = true then
       some (mk0 2 1 true)
      else
       if (r2 == 3) = true then
        some (mk0 2 1 true)
       else
        if (r2 == 4) = true then
         some (mk0 2 1 true)
        else
         if (r2 == 5) = true then
          some (mk0 2 1 true)
         else
          if (r2 == 6) = true then
           some (mk0 2 1 true)
          else
           if (r2 == 7) = true then
            some (mk0 2 1 true)
           else
            if (r2 == 10) = true then
             some (mk0 2 1 true)
            else
             if (r2 == 11) = true then
              some (mk0 2 1 true)
             else
              if (r2 == 16) = true then
               some (mk0 2 1 true)
              else
               if (r2 == 17) = true then
                some (mk0 2 1 true)
               else
                if (r2 == 18) = true then
                 some (mk0 2 1 true)
                else
                 if (r2 == 19) = true then
                  some (mk0 2 1 true)
                 else
                  if (r2 == 20) = true then
                   some (mk0 2 1 true)
                  else
                   if (r2 == 22) = true then
                    some (mk0 2 1 true)
                   else
                    if (r2 == 23) = true then
                     some (mk0 2 1 true)
                    else
                     if (r2 == 24) = true then
                      some (mk0 2 1 true)
                     else
                      if (r2 == 26) = true then
                       some (mk0 2 1 true)
                      else
                       if (r2 == 27) = true then
                        some (mk0 2 1 true)
                       else
                        if (r2 == 28) = true then
                         some (mk0 2 1 true)
                        else
                         if (r2 == 29) = true then
                          some (mk0 2 1 true)
                         else
                          if (r2 == 32) = true then
                           some (mk0 2 1 true)
                          else
                           if (r2 == 8) = true then
                            some (mk0 3 1 true)
                           else
                            if (r2 == 9) = true then
                             some (mk0 3 1 true)
                            else
                             if (r2 == 240) = true then
                              some (mk0 3 1 true)
                             else
                              if (r2 == 21) = true then
                               some (mk0 1 1 true)
                              else
                               if (r2 == 25) = true then
                                some (mk0 1 1 true)
                               else
                                if (r2 == 49) = true then
                                 some (mk0 1 1 true)
                                else
                                 if (r2 == 53) = true then
                                  some (mk0 1 1 true)
                                 else
                                  if (r2 == 59) = true then
                                   some (mk0 1 1 true)
                                  else
                                   if (r2 == 63) = true then
                                    some (mk0 1 1 true)
                                   else
                                    if (r2 == 64) = true then
                                     some (mk0 1 1 true)
                                    else
                                     if (r2 == 81) = true then
                                      some (mk0 1 1 true)
                                     else
                                      if (r2 == 84) = true then
                                       some (mk0 1 1 true)
                                      else
                                       if (r2 == 48) = true then
                                        some (mk0 0 1 true)
                                       else
                                        if (r2 == 50) = true then
                                         some (mk0 0 1 true)
                                        else
                                         if (r2 == 51) = true then
                                          some (mk0 0 1 true)
                                         else
                                          if (r2 == 52) = true then
                                           some (mk0 0 1 true)
                                          else
                                           if (r2 == 54) = true then
                                            some (mk0 0 1 true)
                                           else
                                            if (r2 == 56) = true then
                                             some (mk0 0 1 true)
                                            else
                                             if (r2 == 58) = true then
                                              some (mk0 0 1 true)
                                             else
                                              if (r2 == 61) = true then
                                               some (mk0 0 1 true)
                                              else
                                               if (r2 == 65) = true then
                                                some (mk0 0 1 true)
                                               else
                                                if (r2 == 66) = true then
                                                 some (mk0 0 1 true)
                                                else
                                                 if (r2 == 67) = true then
                                                  some (mk0 0 1 true)
                                                 else
                                                  if (r2 == 68) = true then
                                                   some (mk0 0 1 true)
                                                  else
                                                   if (r2 == 69) = true then
                                                    some (mk0 0 1 true)
                                                   else
                                                    if (r2 == 70) = true then
                                                     some (mk0 0 1 true)
                                                    else
                                                     if (r2 == 71) = true then
                                                      some (mk0 0 1 true)
                                                     else
                                                      if (r2 == 72) = true then
                                                       some (mk0 0 1 true)
                                                      else
                                                       if (r2 == 88) = true then
                                                        some (mk0 0 1 true)
                                                       else
                                                        if (r2 == 89) = true then
                                                         some (mk0 0 1 true)
                                                        else
                                                         if (r2 == 90) = true then
                                                          some (mk0 0 1 true)
                                                         else
                                                          if (r2 == 55) = true then
                                                           some (mk0 3 0 true)
                                                          else
                                                           if (r2 == 57) = true then
                                                            some (mk0 3 0 true)
                                                           else
                                                            if (r2 == 62) = true then
                                                             some (mk0 3 0 true)
                                                            else
                                                             if (r2 == 60) = true then
                                                              some (mk0 4 0 true)
                                                             else
                                                              if (r2 == 80) = true then
                                                               some (mk0 1 0 true)
                                                              else
                                                               if (r2 == 86) = true then
                                                                some (mk0 1 0 true)
                                                               else
                                                                if (r2 == 255) = true then
                                                                 some (mk0 1 0 true)
                                                                else
                                                                 if (r2 == 82) = true then
                                                                  some (mk0 2 0 true)
                                                                 else
                                                                  if (r2 == 83) = true then
                                                                   some (mk0 2 0 true)
                                                                  else
                                                                   if (r2 == 85) = true then
                                                                    some (mk0 2 0 true)
                                                                   else
                                                                    if (r2 == 87) = true then
                                                                     some (mk0 2 0 true)
                                                                    else
                                                                     if (r2 == 243) = true then
                                                                      some (mk0 2 0 true)
                                                                     else
                                                                      if (r2 == 253) = true then
                                                                       some (mk0 2 0 true)
                                                                      else
                                                                       if (r2 == 241) = true then
                                                                        some (mk0 7 1 true)
                                                                       else
                                                                        if (r2 == 242) = true then
                                                                         some (mk0 7 1 true)
                                                                        else
                                                                         if (r2 == 244) = true then
                                                                          some (mk0 6 1 true)
                                                                         else
                                                                          if (r2 == 250) = true then
                                                                           some (mk0 6 1 true)
                                                                          else
                                                                           if (r2 == 245) = true then
                                                                            some (mk0 4 1 true)
                                                                           else
                                                                            some (mk0 0 0 false)
def Faa.m (n : Nat) (t : Int) : Option (Int × (Int × Bool)) := Faa.g (fun a0 a1 a2 => (a0, a1, a2)) n t
def Faa.pat : List AV → Blks → Option Int
 | [(.int .u8 a0)], [] => some a0
 | _, _ => none
def Faa.shape (t : Int) : List AV × Blks := ([(.int .u8 t)], [])
def Faa.res : (Int × (Int × Bool)) → AV × Blks
 | u => ((.tup [(.int .i64 u.1), (.int .i64 u.2.1), (.bool u.2.2)]), [])
def Faa.resK {R : Type} (u : (Int × (Int × Bool))) (K : AV → Blks → Option R) : Option R := K (Faa.res u).1 (Faa.res u).2
def Faa.c (n : Nat) : Abs.Callee := .mk' [] [none] Faa.pat (Faa.m n) Faa.resK
end
end
section
noncomputable section
noncomputable def Fab.C (n : Nat) : Ctx := ⟨Try.prog, (fun _ => .any), lookC [(22, Fl.c n), (23, Fz.c n), (19, Faa.c n), (25, Fbf.c n)], fun _ => false⟩
noncomputable def Fab.A (n : Nat) : Ann := ⟨Try.f21.ntmps, 0, noNL, [], [none], fun k => match k with
 | _ => none, noNL, lookJ []⟩
def Fab.g {α : Type} (mk0 : Bool → α) (n : Nat)  : Option α :=
 bindO (Fl.m n [91, 96, 91, 91]) fun r2 =>
  bindO (Fz.m n ([97, 1], 0)) fun r4 =>
   bindO (Faa.m n 129) fun r6 =>
    bindO (Faa.m n 254) fun r8 =>
     if ((((List.length r2) : Nat) : Int) == 2) = true then
      if 0 < (((List.length r2) : Nat) : Int) then
       if ((List.getD r2 0 0) == 0) = true then
        if 1 < (((List.length r2) : Nat) : Int) then
         if ((List.getD r2 1 0) == 3) = true then
          if (r4.1 == [256, 0, 0, 0]) = true then
           if (r4.2 == 2) = true then
            if (r6.1 == 2) = true then
             if (r6.2.1 == 3) = true then
              if r6.2.2 = true then
               if (!r8.2.2) = true then
                bindO (Fbf.m n ([], 5)) fun r32 =>
                 some (mk0 (r32 == 0))
               else
                some (mk0 false)
              else
               some (mk0 false)
             else
              some (mk0 false)
            else
             some (mk0 false)
           else
            some (mk0 false)
          else
           some (mk0 false)
         else
          some (mk0 false)
        else
         none
       else
        some (mk0 false)
      else
       none
     else
      some (mk0 false)
def Fab.m (n : Nat) (t : Unit) : Option Bool := Fab.g (fun a0 => a0) n 
def Fab.pat : List AV → Blks → Option Unit
 | [], [] => some ()
 | _, _ => none
def Fab.shape (t : Unit) : List AV × Blks := ([], [])
def Fab.res : Bool → AV × Blks
 | u => ((.bool u), [])
def Fab.resK {R : Type} (u : Bool) (K : AV → Blks → Option R) : Option R := K (Fab.res u).1 (Fab.res u).2
def Fab.c (n : Nat) : Abs.Callee := .mk' [] [] Fab.pat (Fab.m n) Fab.resK
end
end
section
namespace Go.Proofs
open Go Go.RowKit Go.Shelf
open Go.Abs (cOp cNext cWalk cSteps cJump cAt cBig cSm cGo cMay)
attribute [local go_sem] Oper.semAt_some
theorem cNext_lt (o : Int) (k : Nat) : k < cNext o k := by unfold cNext; split <;> omega
theorem cWalk_fuel (b : List Int) : ∀ (f g k : Nat), b.length - k ≤ f → b.length - k ≤ g → cWalk b f k = cWalk b g k
  | 0, 0, _, _, _ => rfl
  | 0, g + 1, k, h, _ => by
    have : ¬ k < b.length := by omega
    simp [cWalk, this]
  | f + 1, 0, k, _, h => by
    have : ¬ k < b.length := by omega
    simp [cWalk, this]
  | f + 1, g + 1, k, h1, h2 => by
    simp only [cWalk]
    split
    · have := cNext_lt (cOp b k) k
      rw [cWalk_fuel b f g _ (by omega) (by omega)]
    · rfl
theorem cSteps_lt {b : List Int} {k : Nat} (h : k < b.length) : cSteps b k = (k, cOp b k) :: cSteps b (cNext (cOp b k) k) := by
  unfold cSteps
  obtain ⟨f, hf⟩ : ∃ f, b.length - k = f + 1 := ⟨b.length - k - 1, by omega⟩
  rw [hf]
  simp only [cWalk, if_pos h]
  have := cNext_lt (cOp b k) k
  rw [cWalk_fuel b f _ _ (by omega) (Nat.le_refl _)]
theorem cSteps_ge {b : List Int} {k : Nat} (h : b.length ≤ k) : cSteps b k = [] := by
  unfold cSteps
  rw [show b.length - k = 0 by omega]
  rfl
theorem cWalk_length (b : List Int) : ∀ (f k : Nat), (cWalk b f k).length ≤ f
  | 0, _ => Nat.le_refl _
  | f + 1, k => by
    simp only [cWalk]
    split
    · simp only [List.length_cons]; have := cWalk_length b f (cNext (cOp b k) k); omega
    · simp
theorem cSteps_length (b : List Int) (k : Nat) : (cSteps b k).length ≤ b.length := Nat.le_trans (cWalk_length b _ k) (by omega)
def KpC (n₀ Bs : Nat) (W W' : World) : Prop := Below n₀ W W' ∧ ∀ v, Boxed W Bs 26 v → Boxed W' Bs 26 v
theorem KpC.trans {n₀ Bs : Nat} {A B C : World} (h : KpC n₀ Bs A B) (k : KpC n₀ Bs B C) : KpC n₀ Bs A C := ⟨h.1.trans k.1, fun v hv => k.2 v (h.2 v hv)⟩
theorem KpC.turn {n₀ Bs : Nat} {w : World} (hn : n₀ ≤ w.heap.size) (W : World) (l : Nat) (o o' : Obj) (hl : w.heap.size ≤ l) (h : W.heap[l]? = some o) (h1 : o.isCells = false) (h2 : o.isWalk = false) : KpC n₀ Bs W (W.putObj l o') :=
  ⟨belowK_b hn W l o o' hl h h1 h2, fun v hv => hv.kept (grownBy_putObj' W l o') (fun e => by
    cases e
    rw [show W.heap[Bs]? = _ from hv] at h
    cases h
    cases h1)⟩
set_option maxRecDepth 100000 in
set_option maxHeartbeats 4000000 in
theorem Try.steps1_in (F : Fence) (n : Nat) (h7 : F.fn 81) (hro : F.round = none) (hn : 1 ≤ n) (l Bs n₀ b off cap : Nat) (zs : List Int) (hreach : zs.length ≤ 100000) (hb : b < n₀) (J Jx : List (Nat × Int) → World → Prop)
    (hY : ∀ pre x W, J pre W → pre.length < zs.length → YieldAt F (n - 1) Try.prog l #[.int .u64 (x.1 : Int), .int .u8 x.2] W fun e W' =>
      (e = .returned (.bool true) ∧ J (pre ++ [x]) W' ∧ KpC n₀ Bs W W') ∨ (e = .returned (.bool false) ∧ Jx (pre ++ [x]) W'))
    (W : World) (hBs : Boxed W Bs 26 (.slice (some ⟨b, off, none⟩) zs.length cap)) (hc : ∀ j, j < zs.length → W.cell? ⟨b, off + j, none⟩ = some (.int .u8 (zs[j]?.getD 0))) (h0 : J [] W) :
    CallsIn F n Try.prog 81 #[.func (.yield l) #[] #[], .pointer (some ⟨Bs, 0, none⟩)] W fun e W' => (∃ v, e = .returned v) ∧
      ((∃ ys, ys = cSteps zs 0 ∧ J ys W') ∨ (∃ pre, pre <+: cSteps zs 0 ∧ Jx pre W')) := by
  have hBc := hBs.cell
  refine callsIn_of_wp Try.func81 rfl h7 ?_ hro
  simp only [Try.ntmps81, List.size_toArray, List.length_cons, List.length_nil, Nat.reduceAdd, Nat.reduceSub, Array.replicate_succ, Array.replicate_zero, List.push_toArray, List.append_toArray, List.nil_append, List.cons_append]
  gi_wp2
  gi_loopw [3] (fun i wr => ∃ (k : Nat) (pre : List (Nat × Int)), k ≤ zs.length + 32 ∧ i = .int .u64 k ∧ pre ++ cSteps zs k = cSteps zs 0 ∧ J pre wr ∧ KpC n₀ Bs W wr)
    (fun i _ => zs.length + 33 - (intOf i).toNat)
  case atStart => exact ⟨0, [], by omega, rfl, rfl, h0, Below.refl _ _, fun _ h => h⟩
  case round =>
    obtain ⟨k, pre, hk, rfl, hpre, hJs, hnx⟩ := hrel
    have hBs' := (hnx.2 _ hBs).cell
    by_cases hlt : k < zs.length
    · have hcx' : wr.cell? ⟨b, off + k, none⟩ = some (.int .u8 (cOp zs k)) := (hnx.1.cell (p := ⟨b, off + k, none⟩) hb).trans (hc k hlt)
      have hlen : pre.length < zs.length := by
        have h1 := cSteps_length zs 0
        rw [← hpre, cSteps_lt hlt] at h1
        simp at h1
        omega
      obtain ⟨fn, tmps, assign, body, hy, hR⟩ := hY pre (k, cOp zs k) wr hJs hlen
      dsimp only at hy
      gi_wp2
      refine hR.mono ?_
      rintro e W3 (⟨rfl, hJ3, hk3⟩ | ⟨rfl, hJx3⟩)
      · gi_wp2
        all_goals
          refine ⟨⟨cNext (cOp zs k) k, pre ++ [(k, cOp zs k)], ?_, ?_, ?_, hJ3, hnx.trans hk3⟩, ?_⟩
          · unfold cNext; split <;> omega
          · congr 1; unfold cNext; split <;> omega
          · rw [← hpre, cSteps_lt hlt]; simp
          · simp only [intOf]; omega
      · gi_wp2
        refine bodyPost_ret (results_none rfl _ _ _) rfl ?_
        exact ⟨⟨_, rfl⟩, .inr ⟨_, ⟨cSteps zs (cNext (cOp zs k) k), by rw [← hpre, cSteps_lt hlt]; simp⟩, hJx3⟩⟩
    · gi_wp2
      go_end0
      exact ⟨⟨_, rfl⟩, .inl ⟨_, by rw [cSteps_ge (by omega), List.append_nil] at hpre; exact hpre, hJs⟩⟩
def CBytes (n₀ : Nat) (W : World) (a : Option Addr) (zs : List Int) : Prop :=
  zs = [] ∨ ∃ b off, a = some ⟨b, off, none⟩ ∧ b < n₀ ∧ ∀ j, j < zs.length → W.cell? ⟨b, off + j, none⟩ = some (.int .u8 (zs[j]?.getD 0))
theorem CBytes.below {n₀ : Nat} {A B : World} (h : Below n₀ A B) {a : Option Addr} {zs : List Int} : CBytes n₀ A a zs → CBytes n₀ B a zs
  | .inl e => .inl e
  | .inr ⟨b, off, e, hb, hc⟩ => .inr ⟨b, off, e, hb, fun j hj => (h.cell (p := ⟨b, off + j, none⟩) hb).trans (hc j hj)⟩
set_option maxRecDepth 100000 in
set_option maxHeartbeats 4000000 in
theorem Try.steps1_nil_in (F : Fence) (n : Nat) (h7 : F.fn 81) (hro : F.round = none) (l Bs : Nat) (a : Option Addr) (cap : Nat) (J : List (Nat × Int) → World → Prop) (W : World) (hBs : W.cell? ⟨Bs, 0, none⟩ = some (.slice a 0 cap)) (h0 : J [] W) :
    CallsIn F n Try.prog 81 #[.func (.yield l) #[] #[], .pointer (some ⟨Bs, 0, none⟩)] W fun e W' => (∃ v, e = .returned v) ∧ J [] W' := by
  refine callsIn_of_wp Try.func81 rfl h7 ?_ hro
  simp only [Try.ntmps81, List.size_toArray, List.length_cons, List.length_nil, Nat.reduceAdd, Nat.reduceSub, Array.replicate_succ, Array.replicate_zero, List.push_toArray, List.append_toArray, List.nil_append, List.cons_append]
  gi_wp2
  gi_loopw [3] (fun i wr => i = .int .u64 0 ∧ J [] wr ∧ wr.cell? ⟨Bs, 0, none⟩ = some (.slice a 0 cap)) (fun _ _ => 0)
  case atStart => exact ⟨rfl, h0, hBs⟩
  case round =>
    obtain ⟨rfl, hJs, hBs'⟩ := hrel
    gi_wp2
    go_end0
    exact ⟨⟨_, rfl⟩, hJs⟩
set_option maxHeartbeats 1000000 in
theorem Try.steps_in (F : Fence) (n : Nat) (h5 : F.fn 51) (hro : F.round = none) (a : Option Addr) (len cap : Nat) (w : World) :
    CallsIn F n Try.prog 51 #[.slice a len cap] w fun e w' => e = .returned (.func (.func 81) #[] #[.pointer (some ⟨w.heap.size, 0, none⟩)]) ∧ w' = w.alloc (.cells #[.slice a len cap] 26) := by
  refine callsIn_of_wp Try.func51 rfl h5 ?_ hro
  simp only [Try.ntmps51, List.size_toArray, List.length_cons, List.length_nil, Nat.reduceAdd, Nat.reduceSub, Array.replicate_succ, Array.replicate_zero, List.push_toArray, List.append_toArray, List.nil_append, List.cons_append]
  gi_wp2
  go_ret
  exact ⟨rfl, rfl⟩
theorem Try.steps_stops (F : Fence) (n : Nat) (h8 : F.fn 81) (hro : F.round = none) (hn : 1 ≤ n) (Bs n₀ : Nat) (a : Option Addr) (cap : Nat) (zs : List Int) (hreach : zs.length ≤ 100000) (w : World) (hn₀ : n₀ ≤ w.heap.size)
    (hc : Boxed w Bs 26 (.slice a zs.length cap)) (hI : CBytes n₀ w a zs) :
    SeqStopsK F n Try.prog 81 #[.pointer (some ⟨Bs, 0, none⟩)] (fun x : Nat × Int => #[Value.int .u64 (x.1 : Int), Value.int .u8 x.2]) (KpC n₀ Bs) (fun ys => ys = cSteps zs 0)
      (fun pre => pre <+: cSteps zs 0) zs.length w := fun l J Jx W hW _ _ hY h0 => by
  have hc' : Boxed W Bs 26 (.slice a zs.length cap) := (hW.block Bs hc.lt).trans hc
  rcases hI.below (hW.mono hn₀) with rfl | ⟨b, off, rfl, hb, hcs⟩
  · exact (Try.steps1_nil_in F n h8 hro l Bs a cap J W hc'.cell h0).mono fun e W' ⟨he, hj⟩ => ⟨he, .inl ⟨_, rfl, hj⟩⟩
  · exact Try.steps1_in F n h8 hro hn l Bs n₀ b off cap zs hreach hb J Jx hY W hc' hcs h0
end Go.Proofs
end
section
namespace Go.Proofs
open Go Go.RowKit Go.Shelf
open Go.Abs (cOp cNext cWalk cSteps cJump cAt cBig cSm cGo cMay)
attribute [local go_sem] Oper.semAt_some
theorem cJump_hit (pre : List (Nat × Int)) {x : Nat × Int} (h : x.2 = 91) : cJump (pre ++ [x]) = cJump pre ++ [(x.1 : Int)] := by simp [cJump, h]
theorem cJump_miss (pre : List (Nat × Int)) {x : Nat × Int} (h : ¬ x.2 = 91) : cJump (pre ++ [x]) = cJump pre := by simp [cJump, h]
theorem Try.infoJ : (Try.prog.info? 29).map (fun i => (i.zero, i.size, i.bytes)) = some (some (.int .u64 0), 1, 8) := by kernel_rfl
theorem KpC.refl (n₀ Bs : Nat) (W : World) : KpC n₀ Bs W W := ⟨Below.refl _ _, fun _ h => h⟩
theorem Try.underJ : Try.prog.underlying 27 = some (.slice 29) := by kernel_rfl
set_option maxRecDepth 100000 in
set_option maxHeartbeats 4000000 in
theorem Try.Jumps_in (F : Fence) (n : Nat) (h3 : F.fn 22) (h4 : F.fn 51) (h5 : F.fn 81) (hro : F.round = none) (hn : 3 ≤ n) (ad : Option Addr) (cap : Nat) (zs : List Int) (hlen : zs.length ≤ 100000) (w : World) (hI : CBytes w.heap.size w ad zs) :
    CallsIn F n Try.prog 22 #[.slice ad zs.length cap] w fun e W' => ∃ v, e = .returned v ∧ W'.ownsRow w.heap.size 29 1 v (cJump (cSteps zs 0)).length ((cJump (cSteps zs 0)).map (Value.int .u64)) ∧ Below w.heap.size w W' := by
  have h1 : 1 ≤ n := by omega
  obtain ⟨i0, hi, hz0, hz1, hz2⟩ := info_parts Try.infoJ
  refine callsIn_of_wp_marks Try.func22 rfl h3 ?_ hro
  simp only [Try.ntmps22, List.size_toArray, List.length_cons, List.length_nil, Nat.reduceAdd, Nat.reduceSub, Array.replicate_succ, Array.replicate_zero, List.push_toArray, List.append_toArray, List.nil_append, List.cons_append]
  gi_wp2_with (gi_at_call 51; refine (Try.steps_in F (n - 1) h4 hro _ _ _ _).mono ?_; rintro e w' ⟨rfl, rfl⟩)
  have bO := Boxed.new w 27 (.slice none 0 0)
  have bN := Boxed.new (w.alloc (.cells #[.slice none 0 0] 27)) 26 (.slice ad zs.length cap)
  rw [World.size_alloc] at bN
  have hB0 : Below w.heap.size w ((w.alloc (.cells #[.slice none 0 0] 27)).alloc (.cells #[.slice ad zs.length cap] 26)) := ((Below.refl _ w).alloc (Nat.le_refl _) _).alloc (by simp) _
  refine wpIn_rangeFunc_ownG hro h1 (gf := 81) (lb := #[.pointer (some ⟨w.heap.size + 1, 0, none⟩)]) rfl h5 (enters_of Try.func81 (by kernel_rfl) rfl)
    (Try.steps_stops F (n - 1) h5 hro (by omega) (w.heap.size + 1) w.heap.size ad cap zs hlen _ (by simp; omega) bN (hI.below hB0)) KpC.trans (KpC.turn (by simp; omega)) (Below.refl _ _) (fun _ => rfl)
    (fun pre W => (∃ v, Boxed W w.heap.size 27 v ∧ W.ownsRow w.heap.size 29 1 v (cJump pre).length ((cJump pre).map (Value.int .u64)) ∧ (v = .slice none 0 0 ↔ cJump pre = [])) ∧ Below w.heap.size w W)
    (fun _ _ _ => False)
    (OwnFrom.and (Own.from (holdsRow_own w.heap.size w.heap.size 27 29 1 (fun pre => (cJump pre).length) (fun pre => (cJump pre).map (Value.int .u64)) (fun pre v => v = .slice none 0 0 ↔ cJump pre = [])) _) (ownFrom_below (Nat.le_refl _) (by simp; omega)))
    (fun _ _ _ _ _ hs _ _ => hs)
    ⟨⟨_, bO.alloc _, World.ownsRow_nil _ _ _ _, by simp [cJump]⟩, hB0⟩
    (fun x => { tmps := #[.slice ad zs.length cap, undef, .slice none 0 0, .pointer (some ⟨w.heap.size, 0, none⟩), .int .u64 (x.1 : Int), .int .u8 x.2, .slice ad zs.length cap, .func (.func 81) #[] #[.pointer (some ⟨w.heap.size + 1, 0, none⟩)], .int .u64 (x.1 : Int), .int .u8 x.2, undef, undef, undef, undef, undef, undef, undef], defers := [] }) ?assign ?body ?done ?stop
  case assign =>
    intro l x W K hK
    gi_wp2
    exact hK
  case body =>
    rintro l pre x W ⟨⟨v, hv, hrow, hnil⟩, hB⟩ hlt
    have hc := hv.cell
    have hpl : (cJump pre).length ≤ pre.length := by simp only [cJump, List.length_map]; exact List.length_filter_le _ _
    gi_wp2_with (gi_at_builtin; refine wpListIn_append_own _ rfl _ _ 27 rfl w.heap.size 29 i0 (.int .u64 0) 1 8 Try.underJ hi hz0 hz1 hz2 rfl (by decide) _ _ _ rfl (hrow.alloc _) ⟨W.heap.size, 0, none⟩ 1 1 [.int .u64 (x.1 : Int)] rfl rfl (cell_one_new _ _ _) (by simp [Value.oneCell']) (by simp only [maxLen]; omega) (by omega) (by have := hB.size; simp; omega) ?_; intro v' w1 hown' hgrow _; obtain ⟨g', cap', rfl⟩ := ownsRow_succ hown'; obtain ⟨hv1, hv2, hr2, hk2, hb2⟩ := hv.appended (by decide) hrow hB.size (Nat.le_refl _) hown' hgrow; have hbx : ∀ u, Boxed W (w.heap.size + 1) 26 u → Boxed w1 (w.heap.size + 1) 26 u := (fun u hu => (hu.alloc _).kept hgrow (hu.not_row (by decide) hrow)); have hc1 := hv1.cell; have hf1 := hv1.frozen)
    · have hx : x.2 = 91 := eq_of_beq (show (x.2 == 91) = true by assumption)
      exact ⟨hk2.from _, ⟨hb2, fun u hu => (hbx u hu).other (by omega) _⟩, ⟨_, hv2, by rw [cJump_hit pre hx]; simpa using hr2, by rw [cJump_hit pre hx]; simp⟩, hB.trans hb2⟩
    · have hx : ¬ x.2 = 91 := by
        have h : (x.2 == 91) = false := by first | assumption | exact Bool.eq_false_iff.2 (by assumption)
        exact ne_of_beq_false h
      exact ⟨KeepsFrom.refl _ _, KpC.refl _ _ _, ⟨v, hv, by rw [cJump_miss pre hx]; exact hrow, by rw [cJump_miss pre hx]; exact hnil⟩, hB⟩
  case done =>
    rintro D ys W hD rfl ⟨⟨v, hv, hrow, hnil⟩, hB⟩ hK
    have hc := hv.cell
    gi_wp2
    refine ⟨by simp, .inl ⟨_, _, rfl, run_takeDeferred hK, ?_⟩⟩
    exact ⟨_, results_tmp rfl _ _ _, v, rfl, ownsRow_putObj hrow _ hK rfl, hB.trans (belowK_b (w := w) (Nat.le_refl _) W D _ _ (by simp at hD; omega) hK rfl rfl)⟩
  case stop =>
    rintro D c pre W _ _ h _
    exact h.elim
end Go.Proofs
end
section
namespace Go.Abs
open Go Go.Proofs
theorem jumps_ok (t : List Int) (h : t.length ≤ 100000) : FnOK Try.prog (fun _ => .any) 22 [.rints .u8 t] [] (.own 0 1) [some (.ints .u64 (cJump (cSteps t 0)))] := by
  intro E vs hbl m g ha
  obtain ⟨v, rfl, hv⟩ := args1 ha
  obtain ⟨a, cap, rfl, _, hc⟩ := rints_cells m hv
  refine .inl ⟨Try.f22, Try.func22, by decide, by kernel_rfl, (callsIn_wide (n := 3)).1 ?_⟩
  refine (Try.Jumps_in Fence.wide 3 trivial trivial trivial rfl (Nat.le_refl _) a cap t h E.w hc).mono ?_
  rintro e W' ⟨v, rfl, hrow, hB⟩
  obtain ⟨E', h1, h2, h3, h4⟩ := took_own m hB .u64 _ hrow
  refine ⟨v, rfl, E', h1, by rw [h2, hbl]; rfl, h3, ?_⟩
  rw [hbl] at h4
  exact h4
end Go.Abs
end
section
theorem Fl.ok (n : Nat) (t) (u) (h : Fl.m n t = some u) : FnOK Try.prog (fun _ => .any) 22 (Fl.shape t).1 (Fl.shape t).2 (Fl.res u).1 (Fl.res u).2 := by
  unfold Fl.m at h
  split at h
  · rename_i hl
    cases h
    exact jumps_ok t hl
  · cases h
theorem Fl.s (hmix : Try.prog.follows .mixedOrders = true) (n : Nat) : CalleeS Try.prog (fun _ => .any) 22 (Fl.c n) :=
  CalleeS.of (res := Fl.res) (shape := Fl.shape) (fun R u K => rfl) (fun args lent t h => by
    unfold Fl.pat at h
    split at h
    · cases h; rfl
    · cases h) fun t u h => Fl.ok n t u h
end
section
theorem Fbf.gmap {α β : Type} (h : β → α) (mk0 : Int → β) (n : Nat) (a0 : LI) (a1 : Int) : Fbf.g (fun a0 => (h (mk0 a0))) n a0 a1 = (Fbf.g mk0 n a0 a1).map h := by
  unfold Fbf.g
  exact (ite_map rfl (ite_map (ite_map rfl rfl) rfl))
theorem Fbf.run (n : Nat) (a0 : LI) (a1 : Int) : runF (Fbf.C n) (Fbf.A n) n Try.f25 [(.rints .u8 a0), (.int .u64 a1)] [] (fun v o => some (v, o)) = Fbf.g (fun a0 => (((.int .u8 a0), []) : AV × Blks)) n a0 a1 := by kernel_rfl
theorem Fbf.call (hmix : Try.prog.follows .mixedOrders = true) (n : Nat) (t : (LI × Int)) (u) (h : Fbf.m n t = some u) : FnC Try.prog (fun _ => .any) 25 (Fbf.shape t).1 (Fbf.shape t).2 (Fbf.res u).1 (Fbf.res u).2 :=
  fnC1 (C := Fbf.C n) (A := Fbf.A n) (fn := Try.f25) rfl .nil hmix Try.func25 (by kernel_rfl) (lp := []) (by kernel_rfl) .nil
  (nj rfl) (by decide) rfl rfl (by show 2 ≤ Try.f25.ntmps; decide) (Fbf.run n t.1 t.2) (Fbf.gmap Fbf.res (fun a0 => a0) n t.1 t.2) h
theorem Fbf.s (hmix : Try.prog.follows .mixedOrders = true) (n : Nat) : CalleeS Try.prog (fun _ => .any) 25 (Fbf.c n) :=
  .mk1 (res := Fbf.res) (shape := Fbf.shape) (fun R u K => rfl) (fun _ _ _ h => by unfold Fbf.pat at h; split at h <;> cases h; rfl) (fun t u h => Fbf.call hmix n t u h) Try.func25 (by decide) (by kernel_rfl)
end
section
noncomputable abbrev Fy.R0 (n : Nat) := roundOf (Fy.C n) (Fy.A n) n Fy.b0
theorem Fy.l4_0.rmap {α β : Type} (h : β → α) (mk0 : LI → LI → β) (n : Nat) (f : Int → Int → LI → LI → LI → Option β)  (x0 : Int) (x1 : Int) (x2 : LI) (x3 : LI) (x4 : LI) : Fy.l4_0.r (fun a0 a1 => (h (mk0 a0 a1))) n (fun y0 y1 y2 y3 y4 => (f y0 y1 y2 y3 y4).map h) x0 x1 x2 x3 x4 = (Fy.l4_0.r mk0 n f x0 x1 x2 x3 x4).map h := by
  unfold Fy.l4_0.r
  exact (ite_map (ite_map (ite_map (ite_map (ite_map (ite_map (ite_map (ite_map rfl rfl) rfl) rfl) rfl) rfl) rfl) rfl) rfl)
theorem Fy.l4_0.gmap {α β : Type} (h : β → α) (mk0 : LI → LI → β) (n : Nat) : ∀ (m : Nat) (x0 : Int) (x1 : Int) (x2 : LI) (x3 : LI) (x4 : LI), Fy.l4_0.g (fun a0 a1 => (h (mk0 a0 a1))) n m x0 x1 x2 x3 x4 = (Fy.l4_0.g mk0 n m x0 x1 x2 x3 x4).map h
  | 0, _, _, _, _, _ => rfl
  | m + 1, x0, x1, x2, x3, x4 => by
    unfold Fy.l4_0.g
    rw [← Fy.l4_0.rmap]
    congr
    · funext y0 y1 y2 y3 y4; exact Fy.l4_0.gmap h mk0 n m y0 y1 y2 y3 y4
theorem Fy.l4_0.pat_shape : ∀ st t, Fy.l4_0.pat st = some t → st = Fy.l4_0.shape t := fun _ _ h => by unfold Fy.l4_0.pat at h; split at h <;> cases h; rfl
def Fy.l4_0.k0 : LI → LI → Ex × St := (fun a0 a1 => (((.exit 0), (St.mk [(.ptr 0 []), (.ptr 1 [])] [(some (.var (.ints .u64 4 a0))), (some (.var (.ints .u64 4 a1)))])) : Ex × St))
theorem Fy.l4_0.round (n : Nat) (rc : St → Option (Ex × St)) (x0 : Int) (x1 : Int) (x2 : LI) (x3 : LI) (x4 : LI) : Fy.R0 n rc ((St.mk [(.int .i64 x0), (.int .i64 x1), (.ptr 0 []), (.rints .u8 x2), (.ptr 1 [])] [(some (.var (.ints .u64 4 x3))), (some (.var (.ints .u64 4 x4)))])) = Fy.l4_0.r Fy.l4_0.k0 n (fun y0 y1 y2 y3 y4 => rc ((St.mk [(.int .i64 y0), (.int .i64 y1), (.ptr 0 []), (.rints .u8 y2), (.ptr 1 [])] [(some (.var (.ints .u64 4 y3))), (some (.var (.ints .u64 4 y4)))]))) x0 x1 x2 x3 x4 := by kernel_rfl
theorem Fy.l4_0.loop' (n : Nat) : ∀ (m : Nat) (t : (Int × (Int × (LI × (LI × LI))))), loopOf (Fy.R0 n) m (Fy.l4_0.shape t) = Fy.l4_0.g Fy.l4_0.k0 n m t.1 t.2.1 t.2.2.1 t.2.2.2.1 t.2.2.2.2 :=
  loop_of_round (shape := Fy.l4_0.shape) (body := Fy.R0 n) (g := fun m t => Fy.l4_0.g Fy.l4_0.k0 n m t.1 t.2.1 t.2.2.1 t.2.2.2.1 t.2.2.2.2) (fun t => rfl)
    fun m t ih => (Fy.l4_0.round n (loopOf (Fy.R0 n) m) t.1 t.2.1 t.2.2.1 t.2.2.2.1 t.2.2.2.2).trans (congrFun (congrFun (congrFun (congrFun (congrFun (congrArg (Fy.l4_0.r Fy.l4_0.k0 n) (funext fun y0 => funext fun y1 => funext fun y2 => funext fun y3 => funext fun y4 => ih (y0, y1, y2, y3, y4))) t.1) t.2.1) t.2.2.1) t.2.2.2.1) t.2.2.2.2)
theorem Fy.l4_0.loop (n m : Nat) (t : (Int × (Int × (LI × (LI × LI))))) : loopOf (Fy.R0 n) m (Fy.l4_0.shape t) = (Fy.l4_0.m n m t).map Fy.l4_0.res :=
  (Fy.l4_0.loop' n m t).trans (Fy.l4_0.gmap Fy.l4_0.res (fun a0 a1 => (a0, a1)) n m t.1 t.2.1 t.2.2.1 t.2.2.2.1 t.2.2.2.2)
theorem Fy.gmap {α β : Type} (h : β → α) (mk0 : LI → β) (n : Nat) (a0 : LI) : Fy.g (fun a0 => (h (mk0 a0))) n a0 = (Fy.g mk0 n a0).map h := by
  unfold Fy.g
  exact (ite_map (ite_map (bindO_map fun r6 => rfl) rfl) rfl)
theorem Fy.run (n : Nat) (a0 : LI) : runF (Fy.C n) (Fy.A n) n Try.f52 [(.rints .u8 a0)] [] (fun v o => some (v, o)) = Fy.g (fun a0 => (((.ints .u64 4 a0), []) : AV × Blks)) n a0 := by kernel_rfl
theorem Fy.call (hmix : Try.prog.follows .mixedOrders = true) (n : Nat) (t : LI) (u) (h : Fy.m n t = some u) : FnC Try.prog (fun _ => .any) 52 (Fy.shape t).1 (Fy.shape t).2 (Fy.res u).1 (Fy.res u).2 :=
  fnC1 (C := Fy.C n) (A := Fy.A n) (fn := Try.f52) rfl .nil hmix Try.func52 (by kernel_rfl) (lp := [Fy.b0]) (by kernel_rfl) (.cons (show (Fy.A n).loop (key Fy.b0) = some (.mk' Fy.l4_0.pat (Fy.l4_0.m n n) Fy.l4_0.resK) by kernel_rfl) (LoopS.of (res := Fy.l4_0.res) (fun R u K => rfl) Fy.l4_0.pat_shape fun t => Fy.l4_0.loop n n t)
  .nil)
  (nj rfl) (by decide) rfl rfl (by show 1 ≤ Try.f52.ntmps; decide) (Fy.run n t) (Fy.gmap Fy.res (fun a0 => a0) n t) h
theorem Fy.s (hmix : Try.prog.follows .mixedOrders = true) (n : Nat) : CalleeS Try.prog (fun _ => .any) 52 (Fy.c n) :=
  .mk1 (res := Fy.res) (shape := Fy.shape) (fun R u K => rfl) (fun _ _ _ h => by unfold Fy.pat at h; split at h <;> cases h; rfl) (fun t u h => Fy.call hmix n t u h) Try.func52 (by decide) (by kernel_rfl)
end
section
theorem Fz.gmap {α β : Type} (h : β → α) (mk0 : LI → Int → β) (n : Nat) (a0 : LI) (a1 : Int) : Fz.g (fun a0 a1 => (h (mk0 a0 a1))) n a0 a1 = (Fz.g mk0 n a0 a1).map h := by
  unfold Fz.g
  exact (bindO_map fun r2 => (ite_map rfl (ite_map rfl (ite_map (ite_map (ite_map (ite_map (ite_map (ite_map (bindO_map fun r20 => rfl) rfl) rfl) rfl) rfl) rfl) rfl))))
theorem Fz.run (n : Nat) (a0 : LI) (a1 : Int) : runF (Fz.C n) (Fz.A n) n Try.f23 [(.rints .u8 a0), (.int .u64 a1)] [] (fun v o => some (v, o)) = Fz.g (fun a0 a1 => (((.tup [(.ints .u64 4 a0), (.int .u64 a1)]), []) : AV × Blks)) n a0 a1 := by kernel_rfl
theorem Fz.call (hmix : Try.prog.follows .mixedOrders = true) (n : Nat) (t : (LI × Int)) (u) (h : Fz.m n t = some u) : FnC Try.prog (fun _ => .any) 23 (Fz.shape t).1 (Fz.shape t).2 (Fz.res u).1 (Fz.res u).2 :=
  fnC1 (C := Fz.C n) (A := Fz.A n) (fn := Try.f23) rfl (.cons (Fbf.s hmix n) (.cons (Fy.s hmix n) .nil)) hmix Try.func23 (by kernel_rfl) (lp := []) (by kernel_rfl) .nil
  (nj rfl) (by decide) rfl rfl (by show 2 ≤ Try.f23.ntmps; decide) (Fz.run n t.1 t.2) (Fz.gmap Fz.res (fun a0 a1 => (a0, a1)) n t.1 t.2) h
theorem Fz.s (hmix : Try.prog.follows .mixedOrders = true) (n : Nat) : CalleeS Try.prog (fun _ => .any) 23 (Fz.c n) :=
  .mk1 (res := Fz.res) (shape := Fz.shape) (fun R u K => rfl) (fun _ _ _ h => by unfold Fz.pat at h; split at h <;> cases h; rfl) (fun t u h => Fz.call hmix n t u h) Try.func23 (by decide) (by kernel_rfl)
end
section
theorem Faa.j10000.gmap {α β : Type} (h : β → α) (mk0 : Int → Int → Int → Bool → β) (mk1 : Int → β) (n : Nat) (x0 : Int) : Faa.j10000.g (fun a0 a1 a2 a3 => (h (mk0 a0 a1 a2 a3))) (fun a0 => (h (mk1 a0))) n x0 = (Faa.j10000.g mk0 mk1 n x0).map h := by
  unfold Faa.j10000.g
  exact (ite_map (ite_map rfl (ite_map (ite_map rfl (ite_map (ite_map rfl (ite_map (ite_map rfl rfl) rfl)) (ite_map (ite_map rfl rfl) rfl))) (ite_map (ite_map rfl (ite_map (ite_map rfl rfl) rfl)) (ite_map (ite_map rfl rfl) rfl)))) (ite_map (ite_map rfl (ite_map (ite_map rfl (ite_map (ite_map rfl rfl) rfl)) (ite_map (ite_map rfl rfl) rfl))) (ite_map (ite_map rfl (ite_map (ite_map rfl rfl) rfl)) (ite_map (ite_map rfl rfl) rfl))))
theorem Faa.j10000.pat_shape : ∀ st t, Faa.j10000.pat st = some t → st = Faa.j10000.shape t := fun _ _ h => by unfold Faa.j10000.pat at h; split at h <;> cases h; rfl
theorem Faa.j10000.run (n : Nat) (x0 : Int) : joinOf (Faa.C n) (Faa.A n) n Faa.jc0 ((St.mk [(.int .u8 x0)] [])) = Faa.j10000.g (fun a0 a1 a2 a3 => ((.ret, (St.mk [(.int .u8 a0), (.int .i64 a1), (.int .i64 a2), (.bool a3)] [])) : Ex × St)) (fun a0 => ((.normal, (St.mk [(.int .u8 a0), .any, .any, .any] [])) : Ex × St)) n x0 := by kernel_rfl
theorem Faa.j10000.join (n : Nat) (t : Int) : joinOf (Faa.C n) (Faa.A n) n Faa.jc0 (Faa.j10000.shape t) = (Faa.j10000.m n t).map Faa.j10000.res :=
  (Faa.j10000.run n t).trans (Faa.j10000.gmap Faa.j10000.res (fun a0 a1 a2 a3 => (.inl (a0, a1, a2, a3))) (fun a0 => (.inr a0)) n t)
theorem Faa.gmap {α β : Type} (h : β → α) (mk0 : Int → Int → Bool → β) (n : Nat) (a0 : Int) : Faa.g (fun a0 a1 a2 => (h (mk0 a0 a1 a2))) n a0 = (Faa.g mk0 n a0).map h := by
  unfold Faa.g
  exact (bindO_map fun r2 => match r2 with | (.inl r2) => rfl | (.inr r2) => (ite_map rfl (ite_map rfl (ite_map rfl (ite_map rfl (ite_map rfl (ite_map rfl (ite_map rfl (ite_map rfl (ite_map rfl (ite_map rfl (ite_map rfl (ite_map rfl (ite_map rfl (ite_map rfl (ite_map rfl (ite_map rfl (ite_map rfl (ite_map rfl (ite_map rfl (ite_map rfl (ite_map rfl (ite_map rfl (ite_map rfl (ite_map rfl (ite_map rfl (ite_map rfl (ite_map rfl (ite_map rfl (ite_map rfl (ite_map rfl (ite_map rfl (ite_map rfl (ite_map rfl (ite_map rfl (ite_map rfl (ite_map rfl (ite_map rfl (ite_map rfl (ite_map rfl (ite_map rfl (ite_map rfl (ite_map rfl (ite_map rfl (ite_map rfl (ite_map rfl (ite_map rfl (ite_map rfl (ite_map rfl (ite_map rfl (ite_map rfl (ite_map rfl (ite_map rfl (ite_map rfl (ite_map rfl (ite_map rfl (ite_map rfl (ite_map rfl (ite_map rfl (ite_map rfl (ite_map rfl (ite_map rfl (ite_map rfl (ite_map rfl (ite_map rfl (ite_map rfl (ite_map rfl (ite_map rfl (ite_map rfl (ite_map rfl (ite_map rfl (ite_map rfl (ite_map rfl (ite_map rfl rfl))))))))))))))))))))))))))))))))))))))))))))))))))))))))))))))))))))))))))
theorem Faa.run (n : Nat) (a0 : Int) : runF (Faa.C n) (Faa.A n) n Try.f19 [(.int .u8 a0)] [] (fun v o => some (v, o)) = Faa.g (fun a0 a1 a2 => (((.tup [(.int .i64 a0), (.int .i64 a1), (.bool a2)]), []) : AV × Blks)) n a0 := by kernel_rfl
theorem Faa.call (hmix : Try.prog.follows .mixedOrders = true) (n : Nat) (t : Int) (u) (h : Faa.m n t = some u) : FnC Try.prog (fun _ => .any) 19 (Faa.shape t).1 (Faa.shape t).2 (Faa.res u).1 (Faa.res u).2 :=
  fnC1 (C := Faa.C n) (A := Faa.A n) (fn := Try.f19) rfl .nil hmix Try.func19 (by kernel_rfl) (lp := []) (by kernel_rfl) .nil
  (by
    intro a ha m hm
    have hm' := lookJ_mem (show lookJ [(10000, .mk' Faa.j10000.pat (Faa.j10000.m n) Faa.j10000.resK)] (jkey a) = some m from hm)
    simp only [List.mem_cons, List.not_mem_nil, or_false, Prod.mk.injEq] at hm'
    rcases hm' with ⟨hk, rfl⟩
    · obtain rfl := only ha hk (c := Faa.jc0) (by kernel_rfl)
      exact JoinS.of (res := Faa.j10000.res) (fun R u K => by rcases u with u | u <;> rfl) Faa.j10000.pat_shape fun t => Faa.j10000.join n t) (by decide) rfl rfl (by show 1 ≤ Try.f19.ntmps; decide) (Faa.run n t) (Faa.gmap Faa.res (fun a0 a1 a2 => (a0, a1, a2)) n t) h
theorem Faa.s (hmix : Try.prog.follows .mixedOrders = true) (n : Nat) : CalleeS Try.prog (fun _ => .any) 19 (Faa.c n) :=
  .mk1 (res := Faa.res) (shape := Faa.shape) (fun R u K => rfl) (fun _ _ _ h => by unfold Faa.pat at h; split at h <;> cases h; rfl) (fun t u h => Faa.call hmix n t u h) Try.func19 (by decide) (by kernel_rfl)
end
section
theorem Fab.gmap {α β : Type} (h : β → α) (mk0 : Bool → β) (n : Nat)  : Fab.g (fun a0 => (h (mk0 a0))) n  = (Fab.g mk0 n ).map h := by
  unfold Fab.g
  exact (bindO_map fun r2 => (bindO_map fun r4 => (bindO_map fun r6 => (bindO_map fun r8 => (ite_map (ite_map (ite_map (ite_map (ite_map (ite_map (ite_map (ite_map (ite_map (ite_map (ite_map (bindO_map fun r32 => rfl) rfl) rfl) rfl) rfl) rfl) rfl) rfl) rfl) rfl) rfl) rfl)))))
theorem Fab.run (n : Nat)  : runF (Fab.C n) (Fab.A n) n Try.f21 [] [] (fun v o => some (v, o)) = Fab.g (fun a0 => (((.bool a0), []) : AV × Blks)) n  := by kernel_rfl
theorem Fab.call (hmix : Try.prog.follows .mixedOrders = true) (n : Nat) (t : Unit) (u) (h : Fab.m n t = some u) : FnC Try.prog (fun _ => .any) 21 (Fab.shape t).1 (Fab.shape t).2 (Fab.res u).1 (Fab.res u).2 :=
  fnC1 (C := Fab.C n) (A := Fab.A n) (fn := Try.f21) rfl (.cons (Fl.s hmix n) (.cons (Fz.s hmix n) (.cons (Faa.s hmix n) (.cons (Fbf.s hmix n) .nil)))) hmix Try.func21 (by kernel_rfl) (lp := []) (by kernel_rfl) .nil
  (nj rfl) (by decide) rfl rfl (by show 0 ≤ Try.f21.ntmps; decide) (Fab.run n ) (Fab.gmap Fab.res (fun a0 => a0) n ) h
theorem Fab.s (hmix : Try.prog.follows .mixedOrders = true) (n : Nat) : CalleeS Try.prog (fun _ => .any) 21 (Fab.c n) :=
  .mk1 (res := Fab.res) (shape := Fab.shape) (fun R u K => rfl) (fun _ _ _ h => by unfold Fab.pat at h; split at h <;> cases h; rfl) (fun t u h => Fab.call hmix n t u h) Try.func21 (by decide) (by kernel_rfl)
end
section
noncomputable section
noncomputable def Fb.C (n : Nat) : Ctx := ⟨Try.prog, (fun _ => .any), lookC [(21, Fab.c n), (23, Fz.c n), (22, Fl.c n)], fun _ => false⟩
def Fb.live : NL := fun k => match k with
 | 10 => ([12, 7, 11, 1, 8, 9, 10], [8, 9, 11, 10, 7])
 | _ => ([], [])
def Fb.l10_0.r {α : Type} (mk0 : Int → Int → LI → LI → LI → α) (n : Nat) (rc : Int → Int → LI → Int → LI → LI → LI → Option α)  (x0 : Int) (x1 : Int) (x2 : LI) (x3 : Int) (x4 : LI) (x5 : LI) (x6 : LI) : Option α :=
  if (decide (x0 < x1)) = true then
   if 0 ≤ (IntKind.wrap .i64 (Int.tdiv (IntKind.wrap .i64 ((IntKind.wrap .i64 (x1 - 1)) - x0)) 8)) then
    if (IntKind.wrap .i64 (Int.tdiv (IntKind.wrap .i64 ((IntKind.wrap .i64 (x1 - 1)) - x0)) 8)) < 4 then
     if 0 ≤ x0 then
      if x0 < (((List.length x2) : Nat) : Int) then
       if 0 ≤ (IntKind.wrap .u64 (IntKind.wrap .i64 ((Int.tmod (IntKind.wrap .i64 ((IntKind.wrap .i64 (x1 - 1)) - x0)) 8) * 8))) then
        if 0 ≤ (IntKind.wrap .i64 (Int.tdiv (IntKind.wrap .i64 ((IntKind.wrap .i64 (x1 - 1)) - x0)) 8)) then
         if (IntKind.wrap .i64 (Int.tdiv (IntKind.wrap .i64 ((IntKind.wrap .i64 (x1 - 1)) - x0)) 8)) < 4 then
          rc (IntKind.wrap .i64 (x0 + 1)) x1 x2 x3 (List.set x4 (Int.toNat (IntKind.wrap .i64 (Int.tdiv (IntKind.wrap .i64 ((IntKind.wrap .i64 (x1 - 1)) - x0)) 8))) (ibits BinOp.or .u64 (List.getD x4 (Int.toNat (IntKind.wrap .i64 (Int.tdiv (IntKind.wrap .i64 ((IntKind.wrap .i64 (x1 - 1)) - x0)) 8))) 0) (ishl .u64 (IntKind.wrap .u64 (List.getD x2 (Int.toNat x0) 0)) (IntKind.wrap .u64 (IntKind.wrap .i64 ((Int.tmod (IntKind.wrap .i64 ((IntKind.wrap .i64 (x1 - 1)) - x0)) 8) * 8)))))) x5 x6
         else
          none
        else
         none
       else
        none
      else
       none
     else
      none
    else
     none
   else
    none
  else
   some (mk0 x3 x1 x5 x6 x4)
def Fb.l10_0.g {α : Type} (mk0 : Int → Int → LI → LI → LI → α) (n : Nat) : Nat → Int → Int → LI → Int → LI → LI → LI → Option α
 | 0, _, _, _, _, _, _, _ => none
 | m + 1, x0, x1, x2, x3, x4, x5, x6 => Fb.l10_0.r mk0 n (fun y0 y1 y2 y3 y4 y5 y6 => Fb.l10_0.g mk0 n m y0 y1 y2 y3 y4 y5 y6)  x0 x1 x2 x3 x4 x5 x6
def Fb.l10_0.m (n m : Nat) (t : (Int × (Int × (LI × (Int × (LI × (LI × LI))))))) : Option (Int × (Int × (LI × (LI × LI)))) := Fb.l10_0.g (fun a0 a1 a2 a3 a4 => (a0, a1, a2, a3, a4)) n m t.1 t.2.1 t.2.2.1 t.2.2.2.1 t.2.2.2.2.1 t.2.2.2.2.2.1 t.2.2.2.2.2.2
def Fb.l10_0.pat : St → Option (Int × (Int × (LI × (Int × (LI × (LI × LI))))))
 | (St.mk [(.int .i64 x0), (.int .i64 x1), (.ptr 0 []), (.rints .u8 x2), (.own 1 1), (.ptr 2 []), (.int .u64 x3)] [(some (.var (.ints .u64 4 x4))), (some (.ints .u8 x5)), (some (.var (.ints .u64 4 x6)))]) => some (x0, x1, x2, x3, x4, x5, x6)
 | _ => none
def Fb.l10_0.shape (t : (Int × (Int × (LI × (Int × (LI × (LI × LI))))))) : St := (St.mk [(.int .i64 t.1), (.int .i64 t.2.1), (.ptr 0 []), (.rints .u8 t.2.2.1), (.own 1 1), (.ptr 2 []), (.int .u64 t.2.2.2.1)] [(some (.var (.ints .u64 4 t.2.2.2.2.1))), (some (.ints .u8 t.2.2.2.2.2.1)), (some (.var (.ints .u64 4 t.2.2.2.2.2.2)))])
def Fb.l10_0.res : (Int × (Int × (LI × (LI × LI)))) → Ex × St
 | u => ((.exit 0), (St.mk [(.own 0 1), (.ptr 1 []), (.ptr 2 []), (.int .u64 u.1), (.int .i64 u.2.1)] [(some (.ints .u8 u.2.2.1)), (some (.var (.ints .u64 4 u.2.2.2.1))), (some (.var (.ints .u64 4 u.2.2.2.2)))]))
def Fb.l10_0.resK {R : Type} (u : (Int × (Int × (LI × (LI × LI))))) (K : Ex → St → Option R) : Option R := K (Fb.l10_0.res u).1 (Fb.l10_0.res u).2
noncomputable def Fb.A (n : Nat) : Ann := ⟨Try.f6.ntmps, 0, Fb.live, [(1, (.ints .u8)), (8, (.ints .u8))], [none], fun k => match k with
 | 10 => some (.mk' Fb.l10_0.pat (Fb.l10_0.m n n) Fb.l10_0.resK)
 | _ => none, noNL, lookJ []⟩
noncomputable def Fb.b0 : Code := (loopsIn (Try.f6.body.getD .skip)).getD 0 .skip
def Fb.g {α : Type} (mk0 : Bool → α) (n : Nat) (a0 : Int) (a1 : LI) (a2 : LI) : Option α :=
 if (decide ((((List.length a1) : Nat) : Int) < (Int.tmod (IntKind.wrap .i64 a0) 33))) = true then
  bindO (Fab.m n Unit.unit) fun r4 =>
   some (mk0 r4)
 else
  if (decide ((((List.length a2) : Nat) : Int) > 1500)) = true then
   bindO (Fab.m n Unit.unit) fun r6 =>
    some (mk0 r6)
  else
   bindO (Fab.m n Unit.unit) fun r6 =>
    if (!r6) = true then
     bindO (Fab.m n Unit.unit) fun r10 =>
      some (mk0 r10)
    else
     if 0 ≤ (Int.tmod (IntKind.wrap .i64 a0) 33) then
      if (Int.tmod (IntKind.wrap .i64 a0) 33) ≤ (((List.length a1) : Nat) : Int) then
       if (((1 + (List.length (Go.Abs.cut a1 0 (Option.some (Int.toNat (Int.tmod (IntKind.wrap .i64 a0) 33)))))) * 1) ≤ 70368744177664 ∧ (1 + (List.length (Go.Abs.cut a1 0 (Option.some (Int.toNat (Int.tmod (IntKind.wrap .i64 a0) 33)))))) ≤ 9223372036854775807) then
        if ((((List.length ([(IntKind.wrap .u8 (95 + (IntKind.wrap .u8 (Int.tmod (IntKind.wrap .i64 a0) 33))))] ++ (Go.Abs.cut a1 0 (Option.some (Int.toNat (Int.tmod (IntKind.wrap .i64 a0) 33)))))) + (List.length a2)) * 1) ≤ 70368744177664 ∧ ((List.length ([(IntKind.wrap .u8 (95 + (IntKind.wrap .u8 (Int.tmod (IntKind.wrap .i64 a0) 33))))] ++ (Go.Abs.cut a1 0 (Option.some (Int.toNat (Int.tmod (IntKind.wrap .i64 a0) 33)))))) + (List.length a2)) ≤ 9223372036854775807) then
         bindO (Fz.m n ((([(IntKind.wrap .u8 (95 + (IntKind.wrap .u8 (Int.tmod (IntKind.wrap .i64 a0) 33))))] ++ (Go.Abs.cut a1 0 (Option.some (Int.toNat (Int.tmod (IntKind.wrap .i64 a0) 33))))) ++ a2), 0)) fun r18 =>
          bindO (Fb.l10_0.m n n (0, (Int.tmod (IntKind.wrap .i64 a0) 33), a1, r18.2, [0, 0, 0, 0], (([(IntKind.wrap .u8 (95 + (IntKind.wrap .u8 (Int.tmod (IntKind.wrap .i64 a0) 33))))] ++ (Go.Abs.cut a1 0 (Option.some (Int.toNat (Int.tmod (IntKind.wrap .i64 a0) 33))))) ++ a2), r18.1)) fun r20 =>
           bindO (Fl.m n r20.2.2.1) fun r22 =>
            if (r20.2.2.2.1 == r20.2.2.2.2) = true then
             if (r20.1 == (IntKind.wrap .u64 r20.2.1)) = true then
              if ((((List.length r22) : Nat) : Int) == 0) = true then
               some (mk0 true)
              else
               if 0 < (((List.length r22) : Nat) : Int) then
                some (mk0 (decide ((List.getD r22 0 0) > (IntKind.wrap .u64 r20.2.1))))
               else
                none
             else
              some (mk0 false)
            else
             some (mk0 false)
        else
         none
       else
        none
      else
       none
     else
      none
def Fb.m (n : Nat) (t : (Int × (LI × LI))) : Option Bool := Fb.g (fun a0 => a0) n t.1 t.2.1 t.2.2
def Fb.shape (t : (Int × (LI × LI))) : List AV × Blks := ([(.int .u8 t.1), (.rints .u8 t.2.1), (.rints .u8 t.2.2)], [])
def Fb.res : Bool → AV × Blks
 | u => ((.bool u), [])
end
end
section
noncomputable abbrev Fb.R0 (n : Nat) := roundOf (Fb.C n) (Fb.A n) n Fb.b0
theorem Fb.l10_0.rmap {α β : Type} (h : β → α) (mk0 : Int → Int → LI → LI → LI → β) (n : Nat) (f : Int → Int → LI → Int → LI → LI → LI → Option β)  (x0 : Int) (x1 : Int) (x2 : LI) (x3 : Int) (x4 : LI) (x5 : LI) (x6 : LI) : Fb.l10_0.r (fun a0 a1 a2 a3 a4 => (h (mk0 a0 a1 a2 a3 a4))) n (fun y0 y1 y2 y3 y4 y5 y6 => (f y0 y1 y2 y3 y4 y5 y6).map h) x0 x1 x2 x3 x4 x5 x6 = (Fb.l10_0.r mk0 n f x0 x1 x2 x3 x4 x5 x6).map h := by
  unfold Fb.l10_0.r
  exact (ite_map (ite_map (ite_map (ite_map (ite_map (ite_map (ite_map (ite_map rfl rfl) rfl) rfl) rfl) rfl) rfl) rfl) rfl)
theorem Fb.l10_0.gmap {α β : Type} (h : β → α) (mk0 : Int → Int → LI → LI → LI → β) (n : Nat) : ∀ (m : Nat) (x0 : Int) (x1 : Int) (x2 : LI) (x3 : Int) (x4 : LI) (x5 : LI) (x6 : LI), Fb.l10_0.g (fun a0 a1 a2 a3 a4 => (h (mk0 a0 a1 a2 a3 a4))) n m x0 x1 x2 x3 x4 x5 x6 = (Fb.l10_0.g mk0 n m x0 x1 x2 x3 x4 x5 x6).map h
  | 0, _, _, _, _, _, _, _ => rfl
  | m + 1, x0, x1, x2, x3, x4, x5, x6 => by
    unfold Fb.l10_0.g
    rw [← Fb.l10_0.rmap]
    congr
    · funext y0 y1 y2 y3 y4 y5 y6; exact Fb.l10_0.gmap h mk0 n m y0 y1 y2 y3 y4 y5 y6
theorem Fb.l10_0.pat_shape : ∀ st t, Fb.l10_0.pat st = some t → st = Fb.l10_0.shape t := fun _ _ h => by unfold Fb.l10_0.pat at h; split at h <;> cases h; rfl
def Fb.l10_0.k0 : Int → Int → LI → LI → LI → Ex × St := (fun a0 a1 a2 a3 a4 => (((.exit 0), (St.mk [(.own 0 1), (.ptr 1 []), (.ptr 2 []), (.int .u64 a0), (.int .i64 a1)] [(some (.ints .u8 a2)), (some (.var (.ints .u64 4 a3))), (some (.var (.ints .u64 4 a4)))])) : Ex × St))
theorem Fb.l10_0.round (n : Nat) (rc : St → Option (Ex × St)) (x0 : Int) (x1 : Int) (x2 : LI) (x3 : Int) (x4 : LI) (x5 : LI) (x6 : LI) : Fb.R0 n rc ((St.mk [(.int .i64 x0), (.int .i64 x1), (.ptr 0 []), (.rints .u8 x2), (.own 1 1), (.ptr 2 []), (.int .u64 x3)] [(some (.var (.ints .u64 4 x4))), (some (.ints .u8 x5)), (some (.var (.ints .u64 4 x6)))])) = Fb.l10_0.r Fb.l10_0.k0 n (fun y0 y1 y2 y3 y4 y5 y6 => rc ((St.mk [(.int .i64 y0), (.int .i64 y1), (.ptr 0 []), (.rints .u8 y2), (.own 1 1), (.ptr 2 []), (.int .u64 y3)] [(some (.var (.ints .u64 4 y4))), (some (.ints .u8 y5)), (some (.var (.ints .u64 4 y6)))]))) x0 x1 x2 x3 x4 x5 x6 := by kernel_rfl
theorem Fb.l10_0.loop' (n : Nat) : ∀ (m : Nat) (t : (Int × (Int × (LI × (Int × (LI × (LI × LI))))))), loopOf (Fb.R0 n) m (Fb.l10_0.shape t) = Fb.l10_0.g Fb.l10_0.k0 n m t.1 t.2.1 t.2.2.1 t.2.2.2.1 t.2.2.2.2.1 t.2.2.2.2.2.1 t.2.2.2.2.2.2 :=
  loop_of_round (shape := Fb.l10_0.shape) (body := Fb.R0 n) (g := fun m t => Fb.l10_0.g Fb.l10_0.k0 n m t.1 t.2.1 t.2.2.1 t.2.2.2.1 t.2.2.2.2.1 t.2.2.2.2.2.1 t.2.2.2.2.2.2) (fun t => rfl)
    fun m t ih => (Fb.l10_0.round n (loopOf (Fb.R0 n) m) t.1 t.2.1 t.2.2.1 t.2.2.2.1 t.2.2.2.2.1 t.2.2.2.2.2.1 t.2.2.2.2.2.2).trans (congrFun (congrFun (congrFun (congrFun (congrFun (congrFun (congrFun (congrArg (Fb.l10_0.r Fb.l10_0.k0 n) (funext fun y0 => funext fun y1 => funext fun y2 => funext fun y3 => funext fun y4 => funext fun y5 => funext fun y6 => ih (y0, y1, y2, y3, y4, y5, y6))) t.1) t.2.1) t.2.2.1) t.2.2.2.1) t.2.2.2.2.1) t.2.2.2.2.2.1) t.2.2.2.2.2.2)
theorem Fb.l10_0.loop (n m : Nat) (t : (Int × (Int × (LI × (Int × (LI × (LI × LI))))))) : loopOf (Fb.R0 n) m (Fb.l10_0.shape t) = (Fb.l10_0.m n m t).map Fb.l10_0.res :=
  (Fb.l10_0.loop' n m t).trans (Fb.l10_0.gmap Fb.l10_0.res (fun a0 a1 a2 a3 a4 => (a0, a1, a2, a3, a4)) n m t.1 t.2.1 t.2.2.1 t.2.2.2.1 t.2.2.2.2.1 t.2.2.2.2.2.1 t.2.2.2.2.2.2)
theorem Fb.gmap {α β : Type} (h : β → α) (mk0 : Bool → β) (n : Nat) (a0 : Int) (a1 : LI) (a2 : LI) : Fb.g (fun a0 => (h (mk0 a0))) n a0 a1 a2 = (Fb.g mk0 n a0 a1 a2).map h := by
  unfold Fb.g
  exact (ite_map (bindO_map fun r4 => rfl) (ite_map (bindO_map fun r6 => rfl) (bindO_map fun r6 => (ite_map (bindO_map fun r10 => rfl) (ite_map (ite_map (ite_map (ite_map (bindO_map fun r18 => (bindO_map fun r20 => (bindO_map fun r22 => (ite_map (ite_map (ite_map rfl (ite_map rfl rfl)) rfl) rfl)))) rfl) rfl) rfl) rfl)))))
theorem Fb.run (n : Nat) (a0 : Int) (a1 : LI) (a2 : LI) : runF (Fb.C n) (Fb.A n) n Try.f6 [(.int .u8 a0), (.rints .u8 a1), (.rints .u8 a2)] [] (fun v o => some (v, o)) = Fb.g (fun a0 => (((.bool a0), []) : AV × Blks)) n a0 a1 a2 := by kernel_rfl
theorem Fb.call (hmix : Try.prog.follows .mixedOrders = true) (n : Nat) (t : (Int × (LI × LI))) (u) (h : Fb.m n t = some u) : FnC Try.prog (fun _ => .any) 6 (Fb.shape t).1 (Fb.shape t).2 (Fb.res u).1 (Fb.res u).2 :=
  fnC1 (C := Fb.C n) (A := Fb.A n) (fn := Try.f6) rfl (.cons (Fab.s hmix n) (.cons (Fz.s hmix n) (.cons (Fl.s hmix n) .nil))) hmix Try.func6 (by kernel_rfl) (lp := [Fb.b0]) (by kernel_rfl) (.cons (show (Fb.A n).loop (key Fb.b0) = some (.mk' Fb.l10_0.pat (Fb.l10_0.m n n) Fb.l10_0.resK) by kernel_rfl) (LoopS.of (res := Fb.l10_0.res) (fun R u K => rfl) Fb.l10_0.pat_shape fun t => Fb.l10_0.loop n n t)
  .nil)
  (nj rfl) (by decide) rfl rfl (by show 3 ≤ Try.f6.ntmps; decide) (Fb.run n t.1 t.2.1 t.2.2) (Fb.gmap Fb.res (fun a0 => a0) n t.1 t.2.1 t.2.2) h
end
