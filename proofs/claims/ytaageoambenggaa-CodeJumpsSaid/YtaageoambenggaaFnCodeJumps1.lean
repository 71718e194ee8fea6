/- What the program's functions compute, as plain functions, each with its proof: the function does just that. Condition: the plain function has an answer. -/
import Derived.Test.YtaageoambenggaaAbsG1
import Derived.Test.YtaageoambenggaaAbsG6
import Derived.Test.YtaageoambenggaaProg
import Derived.RangeFuncNested
import Derived.RangeFuncBound
import Derived.RangeFuncCalls
import Derived.RangeFuncLeaves
import Derived.RangeFuncBox
import Derived.Shelf.Abstract
import Derived.Shelf.RegionOpen
import Derived.WalkKit
import Derived.OwnWalkIn
import Derived.TacticsInMore
import Derived.LoopNIn
import Derived.LoopIn
import Derived.Maps.AppendAt
set_option linter.unusedVariables false
set_option linter.unusedSimpArgs false
set_option maxRecDepth 100000
open Go Go.Abs Go.Proofs
section
namespace Go.Abs
open Go
def cOp (b : List Int) (k : Nat) : Int := b[k]?.getD 0
def cNext (o : Int) (k : Nat) : Nat := if 95 < o ∧ o ≤ 127 then k + (o - 95).toNat + 1 else k + 1
def cWalk (b : List Int) : Nat → Nat → List (Nat × Int)
  | 0, _ => []
  | f + 1, k => if k < b.length then (k, cOp b k) :: cWalk b f (cNext (cOp b k) k) else []
def cSteps (b : List Int) (k : Nat) : List (Nat × Int) := cWalk b (b.length - k) k
def cJump (l : List (Nat × Int)) : List Int := (l.filter fun x => x.2 == 91).map fun x => (x.1 : Int)
def cAt (b : List Int) (pc : Int) : Int := if pc < (b.length : Int) then b.getD pc.toNat 0 else 0
def cBig (b c d : Int) : Bool := ibits .or .u64 (ibits .or .u64 b c) d != 0
def cSm (a b c d : Int) : Int × Bool := match cBig b c d with | true => (0, false) | false => (a, true)
def cGo (n : Int) : List (Nat × Int) → Bool
  | [] => false
  | x :: r => if n ≤ (x.1 : Int) then (x.1 : Int) == n else cGo n r
def cMay (zs : List Int) (a b c d : Int) : Bool :=
  match cSm a b c d with
  | (n, is) => if is = true ∧ cAt zs n = 91 then cGo n (cSteps zs 0) else false
end Go.Abs
end
section
noncomputable section
def Fl.m (n : Nat) (t : List Int) : Option LI := if t.length ≤ 100000 then some (cJump (cSteps t 0)) else none
def Fl.pat : List AV → Blks → Option LI
 | [(.rints .u8 a0)], [] => some a0
 | _, _ => none
def Fl.shape (t : List Int) : List AV × Blks := ([(.rints .u8 t)], [])
def Fl.res : LI → AV × Blks
 | u => ((.own 0 1), [(some (.ints .u64 u))])
def Fl.resK {R : Type} (u : LI) (K : AV → Blks → Option R) : Option R := K (Fl.res u).1 (Fl.res u).2
def Fl.c (n : Nat) : Abs.Callee := .mk' [] [some (.ints .u8)] Fl.pat (Fl.m n) Fl.resK
end
end
section
noncomputable section
noncomputable def Fbg.C (n : Nat) : Ctx := ⟨Try.prog, (fun _ => .any), lookC [], fun _ => false⟩
noncomputable def Fbg.A (n : Nat) : Ann := ⟨Try.f25.ntmps, 0, noNL, [], [none], fun k => match k with
 | _ => none, noNL, lookJ []⟩
def Fbg.g {α : Type} (mk0 : Int → α) (n : Nat) (a0 : LI) (a1 : Int) : Option α :=
 if (decide (a1 ≥ (IntKind.wrap .u64 (((List.length a0) : Nat) : Int)))) = true then
  some (mk0 0)
 else
  if 0 ≤ a1 then
   if a1 < (((List.length a0) : Nat) : Int) then
    some (mk0 (List.getD a0 (Int.toNat a1) 0))
   else
    none
  else
   none
def Fbg.m (n : Nat) (t : (LI × Int)) : Option Int := Fbg.g (fun a0 => a0) n t.1 t.2
def Fbg.pat : List AV → Blks → Option (LI × Int)
 | [(.rints .u8 a0), (.int .u64 a1)], [] => some (a0, a1)
 | _, _ => none
def Fbg.shape (t : (LI × Int)) : List AV × Blks := ([(.rints .u8 t.1), (.int .u64 t.2)], [])
def Fbg.res : Int → AV × Blks
 | u => ((.int .u8 u), [])
def Fbg.resK {R : Type} (u : Int) (K : AV → Blks → Option R) : Option R := K (Fbg.res u).1 (Fbg.res u).2
def Fbg.c (n : Nat) : Abs.Callee := .mk' [] [(some (.ints .u8)), none] Fbg.pat (Fbg.m n) Fbg.resK
end
end
section
noncomputable section
noncomputable def Fy.C (n : Nat) : Ctx := ⟨Try.prog, (fun _ => .any), lookC [], fun _ => false⟩
def Fy.live : NL := fun k => match k with
 | 4 => ([13, 12, 3, 0, 2], [3, 2])
 | _ => ([], [])
def Fy.l4_0.r {α : Type} (mk0 : LI → LI → α) (n : Nat) (rc : Int → Int → LI → LI → LI → Option α)  (x0 : Int) (x1 : Int) (x2 : LI) (x3 : LI) (x4 : LI) : Option α :=
  if (decide (x0 < x1)) = true then
   if 0 ≤ (IntKind.wrap .i64 (Int.tdiv x0 8)) then
    if (IntKind.wrap .i64 (Int.tdiv x0 8)) < 4 then
     if 0 ≤ (IntKind.wrap .i64 ((IntKind.wrap .i64 ((((List.length x2) : Nat) : Int) - 1)) - x0)) then
      if (IntKind.wrap .i64 ((IntKind.wrap .i64 ((((List.length x2) : Nat) : Int) - 1)) - x0)) < (((List.length x2) : Nat) : Int) then
       if 0 ≤ (IntKind.wrap .i64 ((Int.tmod x0 8) * 8)) then
        if 0 ≤ (IntKind.wrap .i64 (Int.tdiv x0 8)) then
         if (IntKind.wrap .i64 (Int.tdiv x0 8)) < 4 then
          rc (IntKind.wrap .i64 (x0 + 1)) x1 x2 (List.set x3 (Int.toNat (IntKind.wrap .i64 (Int.tdiv x0 8))) (ibits BinOp.or .u64 (List.getD x3 (Int.toNat (IntKind.wrap .i64 (Int.tdiv x0 8))) 0) (ishl .u64 (IntKind.wrap .u64 (List.getD x2 (Int.toNat (IntKind.wrap .i64 ((IntKind.wrap .i64 ((((List.length x2) : Nat) : Int) - 1)) - x0))) 0)) (IntKind.wrap .i64 ((Int.tmod x0 8) * 8))))) x4
         else
          none
        else
         none
       else
        none
      else
       none
     else
      none
    else
     none
   else
    none
  else
   some (mk0 x3 x4)
def Fy.l4_0.g {α : Type} (mk0 : LI → LI → α) (n : Nat) : Nat → Int → Int → LI → LI → LI → Option α
 | 0, _, _, _, _, _ => none
 | m + 1, x0, x1, x2, x3, x4 => Fy.l4_0.r mk0 n (fun y0 y1 y2 y3 y4 => Fy.l4_0.g mk0 n m y0 y1 y2 y3 y4)  x0 x1 x2 x3 x4
def Fy.l4_0.m (n m : Nat) (t : (Int × (Int × (LI × (LI × LI))))) : Option (LI × LI) := Fy.l4_0.g (fun a0 a1 => (a0, a1)) n m t.1 t.2.1 t.2.2.1 t.2.2.2.1 t.2.2.2.2
def Fy.l4_0.pat : St → Option (Int × (Int × (LI × (LI × LI))))
 | (St.mk [(.int .i64 x0), (.int .i64 x1), (.ptr 0 []), (.rints .u8 x2), (.ptr 1 [])] [(some (.var (.ints .u64 4 x3))), (some (.var (.ints .u64 4 x4)))]) => some (x0, x1, x2, x3, x4)
 | _ => none
def Fy.l4_0.shape (t : (Int × (Int × (LI × (LI × LI))))) : St := (St.mk [(.int .i64 t.1), (.int .i64 t.2.1), (.ptr 0 []), (.rints .u8 t.2.2.1), (.ptr 1 [])] [(some (.var (.ints .u64 4 t.2.2.2.1))), (some (.var (.ints .u64 4 t.2.2.2.2)))])
def Fy.l4_0.res : (LI × LI) → Ex × St
 | u => ((.exit 0), (St.mk [(.ptr 0 []), (.ptr 1 [])] [(some (.var (.ints .u64 4 u.1))), (some (.var (.ints .u64 4 u.2)))]))
def Fy.l4_0.resK {R : Type} (u : (LI × LI)) (K : Ex → St → Option R) : Option R := K (Fy.l4_0.res u).1 (Fy.l4_0.res u).2
noncomputable def Fy.A (n : Nat) : Ann := ⟨Try.f52.ntmps, 0, Fy.live, [(0, (.ints .u8))], [none], fun k => match k with
 | 4 => some (.mk' Fy.l4_0.pat (Fy.l4_0.m n n) Fy.l4_0.resK)
 | _ => none, noNL, lookJ []⟩
noncomputable def Fy.b0 : Code := (loopsIn (Try.f52.body.getD .skip)).getD 0 .skip
def Fy.g {α : Type} (mk0 : LI → α) (n : Nat) (a0 : LI) : Option α :=
 if 0 ≤ (if 0 > (IntKind.wrap .i64 ((((List.length a0) : Nat) : Int) - 32)) then 0 else (IntKind.wrap .i64 ((((List.length a0) : Nat) : Int) - 32))) then
  if (if 0 > (IntKind.wrap .i64 ((((List.length a0) : Nat) : Int) - 32)) then 0 else (IntKind.wrap .i64 ((((List.length a0) : Nat) : Int) - 32))) ≤ (((List.length a0) : Nat) : Int) then
   bindO (Fy.l4_0.m n n (0, (((List.length (Go.Abs.cut a0 (Int.toNat (if 0 > (IntKind.wrap .i64 ((((List.length a0) : Nat) : Int) - 32)) then 0 else (IntKind.wrap .i64 ((((List.length a0) : Nat) : Int) - 32)))) (Option.none))) : Nat) : Int), (Go.Abs.cut a0 (Int.toNat (if 0 > (IntKind.wrap .i64 ((((List.length a0) : Nat) : Int) - 32)) then 0 else (IntKind.wrap .i64 ((((List.length a0) : Nat) : Int) - 32)))) (Option.none)), [0, 0, 0, 0], [0, 0, 0, 0])) fun r6 =>
    some (mk0 r6.1)
  else
   none
 else
  none
def Fy.m (n : Nat) (t : LI) : Option LI := Fy.g (fun a0 => a0) n t
def Fy.pat : List AV → Blks → Option LI
 | [(.rints .u8 a0)], [] => some a0
 | _, _ => none
def Fy.shape (t : LI) : List AV × Blks := ([(.rints .u8 t)], [])
def Fy.res : LI → AV × Blks
 | u => ((.ints .u64 4 u), [])
def Fy.resK {R : Type} (u : LI) (K : AV → Blks → Option R) : Option R := K (Fy.res u).1 (Fy.res u).2
def Fy.c (n : Nat) : Abs.Callee := .mk' [] [(some (.ints .u8))] Fy.pat (Fy.m n) Fy.resK
end
end
section
noncomputable section
noncomputable def Fz.C (n : Nat) : Ctx := ⟨Try.prog, (fun _ => .any), lookC [(25, Fbg.c n), (52, Fy.c n)], fun _ => false⟩
noncomputable def Fz.A (n : Nat) : Ann := ⟨Try.f23.ntmps, 0, noNL, [], [none, none], fun k => match k with
 | _ => none, noNL, lookJ []⟩
def Fz.g {α : Type} (mk0 : LI → Int → α) (n : Nat) (a0 : LI) (a1 : Int) : Option α :=
 bindO (Fbg.m n (a0, a1)) fun r2 =>
  if (decide (r2 < 95)) = true then
   some (mk0 [0, 0, 0, 0] 0)
  else
   if (decide (r2 > 127)) = true then
    some (mk0 [0, 0, 0, 0] 0)
   else
    if 0 ≤ (IntKind.wrap .u64 (IntKind.wrap .u8 (r2 - 95))) then
     if (IntKind.wrap .u64 (IntKind.wrap .u8 (r2 - 95))) ≤ (IntKind.wrap .u64 (IntKind.wrap .u8 (r2 - 95))) then
      if ((IntKind.wrap .u64 (IntKind.wrap .u8 (r2 - 95))) * ((1 : Nat) : Int)) ≤ 140737488355328 then
       if (IntKind.wrap .u64 (IntKind.wrap .u8 (r2 - 95))) ≤ 1152921504606846976 then
        if 0 ≤ (IntKind.wrap .u64 (a1 + 1)) then
         if (IntKind.wrap .u64 (a1 + 1)) ≤ (((List.length a0) : Nat) : Int) then
          bindO (Fy.m n ((List.take (List.length (List.replicate (Int.toNat (IntKind.wrap .u64 (IntKind.wrap .u8 (r2 - 95)))) (0 : Int))) (Go.Abs.cut a0 (Int.toNat (IntKind.wrap .u64 (a1 + 1))) (Option.none))) ++ (List.drop (List.length (Go.Abs.cut a0 (Int.toNat (IntKind.wrap .u64 (a1 + 1))) (Option.none))) (List.replicate (Int.toNat (IntKind.wrap .u64 (IntKind.wrap .u8 (r2 - 95)))) (0 : Int))))) fun r20 =>
           some (mk0 r20 (IntKind.wrap .u64 (IntKind.wrap .u8 (r2 - 95))))
         else
          none
        else
         none
       else
        none
      else
       none
     else
      none
    else
     none
def Fz.m (n : Nat) (t : (LI × Int)) : Option (LI × Int) := Fz.g (fun a0 a1 => (a0, a1)) n t.1 t.2
def Fz.pat : List AV → Blks → Option (LI × Int)
 | [(.rints .u8 a0), (.int .u64 a1)], [] => some (a0, a1)
 | _, _ => none
def Fz.shape (t : (LI × Int)) : List AV × Blks := ([(.rints .u8 t.1), (.int .u64 t.2)], [])
def Fz.res : (LI × Int) → AV × Blks
 | u => ((.tup [(.ints .u64 4 u.1), (.int .u64 u.2)]), [])
def Fz.resK {R : Type} (u : (LI × Int)) (K : AV → Blks → Option R) : Option R := K (Fz.res u).1 (Fz.res u).2
def Fz.c (n : Nat) : Abs.Callee := .mk' [] [(some (.ints .u8)), none] Fz.pat (Fz.m n) Fz.resK
end
end
section
noncomputable section
noncomputable def Faa.C (n : Nat) : Ctx := ⟨Try.prog, (fun _ => .any), lookC [], fun _ => false⟩
def Faa.jlive : NL := fun k => match k with
 | 10000 => ([0], [0, 2, 3, 4])
 | _ => ([], [])
noncomputable def Faa.jc0 : Code := ((seqsIn (Try.f19.body.getD .skip)).filter fun a => jkey a == 10000).getD 0 .skip
def Faa.j10000.g {α : Type} (mk0 : Int → Int → Int → Bool → α) (mk1 : Int → α) (n : Nat) (x0 : Int) : Option α :=
  if (decide (x0 ≥ 95)) = true then
   if (decide (x0 ≤ 127)) = true then
    some (mk0 x0 0 1 true)
   else
    if (decide (x0 ≥ 128)) = true then
     if (decide (x0 ≤ 143)) = true then
      some (mk0 x0 (IntKind.wrap .i64 ((IntKind.wrap .i64 (IntKind.wrap .u8 (x0 - 128))) + 1)) (IntKind.wrap .i64 ((IntKind.wrap .i64 (IntKind.wrap .u8 (x0 - 128))) + 2)) true)
     else
      if (decide (x0 ≥ 144)) = true then
       if (decide (x0 ≤ 159)) = true then
        some (mk0 x0 (IntKind.wrap .i64 ((IntKind.wrap .i64 (IntKind.wrap .u8 (x0 - 144))) + 2)) (IntKind.wrap .i64 ((IntKind.wrap .i64 (IntKind.wrap .u8 (x0 - 144))) + 2)) true)
       else
        if (decide (x0 ≥ 160)) = true then
         if (decide (x0 ≤ 164)) = true then
          some (mk0 x0 (IntKind.wrap .i64 ((IntKind.wrap .i64 (IntKind.wrap .u8 (x0 - 160))) + 2)) 0 true)
         else
          some (mk1 x0)
        else
         some (mk1 x0)
      else
       if (decide (x0 ≥ 160)) = true then
        if (decide (x0 ≤ 164)) = true then
         some (mk0 x0 (IntKind.wrap .i64 ((IntKind.wrap .i64 (IntKind.wrap .u8 (x0 - 160))) + 2)) 0 true)
        else
         some (mk1 x0)
       else
        some (mk1 x0)
    else
     if (decide (x0 ≥ 144)) = true then
      if (decide (x0 ≤ 159)) = true then
       some (mk0 x0 (IntKind.wrap .i64 ((IntKind.wrap .i64 (IntKind.wrap .u8 (x0 - 144))) + 2)) (IntKind.wrap .i64 ((IntKind.wrap .i64 (IntKind.wrap .u8 (x0 - 144))) + 2)) true)
      else
       if (decide (x0 ≥ 160)) = true then
        if (decide (x0 ≤ 164)) = true then
         some (mk0 x0 (IntKind.wrap .i64 ((IntKind.wrap .i64 (IntKind.wrap .u8 (x0 - 160))) + 2)) 0 true)
        else
         some (mk1 x0)
       else
        some (mk1 x0)
     else
      if (decide (x0 ≥ 160)) = true then
       if (decide (x0 ≤ 164)) = true then
        some (mk0 x0 (IntKind.wrap .i64 ((IntKind.wrap .i64 (IntKind.wrap .u8 (x0 - 160))) + 2)) 0 true)
       else
        some (mk1 x0)
      else
       some (mk1 x0)
  else
   if (decide (x0 ≥ 128)) = true then
    if (decide (x0 ≤ 143)) = true then
     some (mk0 x0 (IntKind.wrap .i64 ((IntKind.wrap .i64 (IntKind.wrap .u8 (x0 - 128))) + 1)) (IntKind.wrap .i64 ((IntKind.wrap .i64 (IntKind.wrap .u8 (x0 - 128))) + 2)) true)
    else
     if (decide (x0 ≥ 144)) = true then
      if (decide (x0 ≤ 159)) = true then
       some (mk0 x0 (IntKind.wrap .i64 ((IntKind.wrap .i64 (IntKind.wrap .u8 (x0 - 144))) + 2)) (IntKind.wrap .i64 ((IntKind.wrap .i64 (IntKind.wrap .u8 (x0 - 144))) + 2)) true)
      else
       if (decide (x0 ≥ 160)) = true then
        if (decide (x0 ≤ 164)) = true then
         some (mk0 x0 (IntKind.wrap .i64 ((IntKind.wrap .i64 (IntKind.wrap .u8 (x0 - 160))) + 2)) 0 true)
        else
         some (mk1 x0)
       else
        some (mk1 x0)
     else
      if (decide (x0 ≥ 160)) = true then
       if (decide (x0 ≤ 164)) = true then
        some (mk0 x0 (IntKind.wrap .i64 ((IntKind.wrap .i64 (IntKind.wrap .u8 (x0 - 160))) + 2)) 0 true)
       else
        some (mk1 x0)
      else
       some (mk1 x0)
   else
    if (decide (x0 ≥ 144)) = true then
     if (decide (x0 ≤ 159)) = true then
      some (mk0 x0 (IntKind.wrap .i64 ((IntKind.wrap .i64 (IntKind.wrap .u8 (x0 - 144))) + 2)) (IntKind.wrap .i64 ((IntKind.wrap .i64 (IntKind.wrap .u8 (x0 - 144))) + 2)) true)
     else
      if (decide (x0 ≥ 160)) = true then
       if (decide (x0 ≤ 164)) = true then
        some (mk0 x0 (IntKind.wrap .i64 ((IntKind.wrap .i64 (IntKind.wrap .u8 (x0 - 160))) + 2)) 0 true)
       else
        some (mk1 x0)
      else
       some (mk1 x0)
    else
     if (decide (x0 ≥ 160)) = true then
      if (decide (x0 ≤ 164)) = true then
       some (mk0 x0 (IntKind.wrap .i64 ((IntKind.wrap .i64 (IntKind.wrap .u8 (x0 - 160))) + 2)) 0 true)
      else
       some (mk1 x0)
     else
      some (mk1 x0)
def Faa.j10000.m (n : Nat) (t : Int) : Option ((Int × (Int × (Int × Bool))) ⊕ Int) := Faa.j10000.g (fun a0 a1 a2 a3 => (.inl (a0, a1, a2, a3))) (fun a0 => (.inr a0)) n t
def Faa.j10000.pat : St → Option Int
 | (St.mk [(.int .u8 x0)] []) => some x0
 | _ => none
def Faa.j10000.shape (t : Int) : St := (St.mk [(.int .u8 t)] [])
def Faa.j10000.res : ((Int × (Int × (Int × Bool))) ⊕ Int) → Ex × St
 | (.inl u) => (.ret, (St.mk [(.int .u8 u.1), (.int .i64 u.2.1), (.int .i64 u.2.2.1), (.bool u.2.2.2)] []))
 | (.inr u) => (.normal, (St.mk [(.int .u8 u), .any, .any, .any] []))
def Faa.j10000.resK {R : Type} (u : ((Int × (Int × (Int × Bool))) ⊕ Int)) (K : Ex → St → Option R) : Option R := match u with
 | (.inl u) => (fun p : Ex × St => K p.1 p.2) (.ret, (St.mk [(.int .u8 u.1), (.int .i64 u.2.1), (.int .i64 u.2.2.1), (.bool u.2.2.2)] []))
 | (.inr u) => (fun p : Ex × St => K p.1 p.2) (.normal, (St.mk [(.int .u8 u), .any, .any, .any] []))
noncomputable def Faa.A (n : Nat) : Ann := ⟨Try.f19.ntmps, 0, noNL, [], [none, none, none], fun k => match k with
 | _ => none, Faa.jlive, lookJ [(10000, .mk' Faa.j10000.pat (Faa.j10000.m n) Faa.j10000.resK)]⟩
def Faa.g {α : Type} (mk0 : Int → Int → Bool → α) (n : Nat) (a0 : Int) : Option α :=
 bindO (Faa.j10000.m n a0) fun r2 => match r2 with
  | (.inl r2) =>
   some (mk0 r2.2.1 r2.2.2.1 r2.2.2.2)
  | (.inr r2) =>
   if (r2 == 0) = true then
    some (mk0 0 0 true)
   else
    if (r2 == 91) = true then
     some (mk0 0 0 true)
    else
     if (r2 == 1) = true then
      some (mk0 2 1 true)
     else
      if (r2 == 2) = true then
       some (mk0 2 1 true)
      else
       if (r2 == 3) = true then
        some (mk0 2 1 true)
       else
        if (r2 == 4) = true then
         some (mk0 2 1 true)
        else
         if (r2 == 5) = true then
          some (mk0 2 1 true)
         else
          if (r2 == 6) = true then
           some (mk0 2 1 true)
          else
           if (r2 == 7) = true then
            some (mk0 2 1 true)
           else
            if (r2 == 10) = true then
             some (mk0 2 1 true)
            else
             if (r2 == 11) = true then
              some (mk0 2 1 true)
             else
              if (r2 == 16) = true then
               some (mk0 2 1 true)
              else
               if (r2 == 17) = true then
                some (mk0 2 1 true)
               else
                if (r2 == 18) = true then
                 some (mk0 2 1 true)
                else
                 if (r2 == 19) = true then
                  some (mk0 2 1 true)
                 else
                  if (r2 == 20) = true then
                   some (mk0 2 1 true)
                  else
                   if (r2 == 22) = true then
                    some (mk0 2 1 true)
                   else
                    if (r2 == 23) = true then
                     some (mk0 2 1 true)
                    else
                     if (r2 == 24) = true then
                      some (mk0 2 1 true)
                     else
                      if (r2 == 26) = true then
                       some (mk0 2 1 true)
                      else
                       if (r2 == 27) = true then
                        some (mk0 2 1 true)
                       else
                        if (r2 == 28) = true then
                         some (mk0 2 1 true)
                        else
                         if (r2 == 29) = true then
                          some (mk0 2 1 true)
                         else
                          if (r2 == 32) = true then
                           some (mk0 2 1 true)
                          else
                           if (r2 == 8) = true then
                            some (mk0 3 1 true)
                           else
                            if (r2 == 9) = true then
                             some (mk0 3 1 true)
                            else
                             if (r2 == 240) = true then
                              some (mk0 3 1 true)
                             else
                              if (r2 == 21) = true then
                               some (mk0 1 1 true)
                              else
                               if (r2 == 25) = true then
                                some (mk0 1 1 true)
                               else
                                if (r2 == 49) = true then
                                 some (mk0 1 1 true)
                                else
                                 if (r2 == 53) = true then
                                  some (mk0 1 1 true)
                                 else
                                  if (r2 == 59) = true then
                                   some (mk0 1 1 true)
                                  else
                                   if (r2 == 63) = true then
                                    some (mk0 1 1 true)
                                   else
                                    if (r2 == 64) = true then
                                     some (mk0 1 1 true)
                                    else
                                     if (r2 == 81) = true then
                                      some (mk0 1 1 true)
                                     else
                                      if (r2 == 84) = true then
                                       some (mk0 1 1 true)
                                      else
                                       if (r2 == 48) = true then
                                        some (mk0 0 1 true)
                                       else
                                        if (r2 == 50) = true then
                                         some (mk0 0 1 true)
                                        else
                                         if (r2 == 51) = true then
                                          some (mk0 0 1 true)
                                         else
                                          if (r2 == 52) = true then
                                           some (mk0 0 1 true)
                                          else
                                           if (r2 == 54) = true then
                                            some (mk0 0 1 true)
                                           else
                                            if (r2 == 56) = true then
                                             some (mk0 0 1 true)
                                            else
                                             if (r2 == 58) = true then
                                              some (mk0 0 1 true)
                                             else
                                              if (r2 == 61) = true then
                                               some (mk0 0 1 true)
                                              else
                                               if (r2 == 65) = true then
                                                some (mk0 0 1 true)
                                               else
                                                if (r2 == 66) = true then
                                                 some (mk0 0 1 true)
                                                else
                                                 if (r2 == 67) = true then
                                                  some (mk0 0 1 true)
                                                 else
                                                  if (r2 == 68) = true then
                                                   some (mk0 0 1 true)
                                                  else
                                                   if (r2 == 69) = true then
                                                    some (mk0 0 1 true)
                                                   else
                                                    if (r2 == 70) = true then
                                                     some (mk0 0 1 true)
                                                    else
                                                     if (r2 == 71) = true then
                                                      some (mk0 0 1 true)
                                                     else
                                                      if (r2 == 72) = true then
                                                       some (mk0 0 1 true)
                                                      else
                                                       if (r2 == 88) = true then
                                                        some (mk0 0 1 true)
                                                       else
                                                        if (r2 == 89) = true then
                                                         some (mk0 0 1 true)
                                                        else
                                                         if (r2 == 90) = true then
                                                          some (mk0 0 1 true)
                                                         else
                                                          if (r2 == 55) = true then
                                                           some (mk0 3 0 true)
                                                          else
                                                           if (r2 == 57) = true then
                                                            some (mk0 3 0 true)
                                                           else
                                                            if (r2 == 62) = true then
                                                             some (mk0 3 0 true)
                                                            else
                                                             if (r2 == 60) = true then
                                                              some (mk0 4 0 true)
                                                             else
                                                              if (r2 == 80) = true then
                                                               some (mk0 1 0 true)
                                                              else
                                                               if (r2 == 86) = true then
                                                                some (mk0 1 0 true)
                                                               else
                                                                if (r2 == 255) = true then
                                                                 some (mk0 1 0 true)
                                                                else
                                                                 if (r2 == 82) = true then
                                                                  some (mk0 2 0 true)
                                                                 else
                                                                  if (r2 == 83) = true then
                                                                   some (mk0 2 0 true)
                                                                  else
                                                                   if (r2 == 85) = true then
                                                                    some (mk0 2 0 true)
                                                                   else
                                                                    if (r2 == 87) = true then
                                                                     some (mk0 2 0 true)
                                                                    else
                                                                     if (r2 == 243) = true then
                                                                      some (mk0 2 0 true)
                                                                     else
                                                                      if (r2 == 253) = true then
                                                                       some (mk0 2 0 true)
                                                                      else
                                                                       if (r2 == 241) = true then
                                                                        some (mk0 7 1 true)
                                                                       else
                                                                        if (r2 == 242) = true then
                                                                         some (mk0 7 1 true)
                                                                        else
                                                                         if (r2 == 244) = true then
                                                                          some (mk0 6 1 true)
                                                                         else
                                                                          if (r2 == 250) = true then
                                                                           some (mk0 6 1 true)
                                                                          else
                                                                           if (r2 == 245) = true then
                                                                            some (mk0 4 1 true)
                                                                           else
                                                                            some (mk0 0 0 false)
def Faa.m (n : Nat) (t : Int) : Option (Int × (Int × Bool)) := Faa.g (fun a0 a1 a2 => (a0, a1, a2)) n t
def Faa.pat : List AV → Blks → Option Int
 | [(.int .u8 a0)], [] => some a0
 | _, _ => none
def Faa.shape (t : Int) : List AV × Blks := ([(.int .u8 t)], [])
def Faa.res : (Int × (Int × Bool)) → AV × Blks
 | u => ((.tup [(.int .i64 u.1), (.int .i64 u.2.1), (.bool u.2.2)]), [])
def Faa.resK {R : Type} (u : (Int × (Int × Bool))) (K : AV → Blks → Option R) : Option R := K (Faa.res u).1 (Faa.res u).2
def Faa.c (n : Nat) : Abs.Callee := .mk' [] [none] Faa.pat (Faa.m n) Faa.resK
end
end
section
noncomputable section
noncomputable def Fab.C (n : Nat) : Ctx := ⟨Try.prog, (fun _ => .any), lookC [(22, Fl.c n), (23, Fz.c n), (19, Faa.c n), (25, Fbg.c n)], fun _ => false⟩
noncomputable def Fab.A (n : Nat) : Ann := ⟨Try.f21.ntmps, 0, noNL, [], [none], fun k => match k with
 | _ => none, noNL, lookJ []⟩
def Fab.g {α : Type} (mk0 : Bool → α) (n : Nat)  : Option α :=
 bindO (Fl.m n [91, 96, 91, 91]) fun r2 =>
  bindO (Fz.m n ([97, 1], 0)) fun r4 =>
   bindO (Faa.m n 129) fun r6 =>
    bindO (Faa.m n 254) fun r8 =>
     if ((((List.length r2) : Nat) : Int) == 2) = true then
      if 0 < (((List.length r2) : Nat) : Int) then
       if ((List.getD r2 0 0) == 0) = true then
        if 1 < (((List.length r2) : Nat) : Int) then
         if ((List.getD r2 1 0) == 3) = true then
          if (r4.1 == [256, 0, 0, 0]) = true then
           if (r4.2 == 2) = true then
            if (r6.1 == 2) = true then
             if (r6.2.1 == 3) = true then
              if r6.2.2 = true then
               if (!r8.2.2) = true then
                bindO (Fbg.m n ([], 5)) fun r32 =>
                 some (mk0 (r32 == 0))
               else
                some (mk0 false)
              else
               some (mk0 false)
             else
              some (mk0 false)
            else
             some (mk0 false)
           else
            some (mk0 false)
          else
           some (mk0 false)
         else
          some (mk0 false)
        else
         none
       else
        some (mk0 false)
      else
       none
     else
      some (mk0 false)
def Fab.m (n : Nat) (t : Unit) : Option Bool := Fab.g (fun a0 => a0) n 
def Fab.pat : List AV → Blks → Option Unit
 | [], [] => some ()
 | _, _ => none
def Fab.shape (t : Unit) : List AV × Blks := ([], [])
def Fab.res : Bool → AV × Blks
 | u => ((.bool u), [])
def Fab.resK {R : Type} (u : Bool) (K : AV → Blks → Option R) : Option R := K (Fab.res u).1 (Fab.res u).2
def Fab.c (n : Nat) : Abs.Callee := .mk' [] [] Fab.pat (Fab.m n) Fab.resK
end
end
section
namespace Go.Proofs
open Go Go.RowKit Go.Shelf
open Go.Abs (cOp cNext cWalk cSteps cJump cAt cBig cSm cGo cMay)
attribute [local go_sem] Oper.semAt_some
theorem cNext_lt (o : Int) (k : Nat) : k < cNext o k := by unfold cNext; split <;> omega
theorem cWalk_fuel (b : List Int) : ∀ (f g k : Nat), b.length - k ≤ f → b.length - k ≤ g → cWalk b f k = cWalk b g k
  | 0, 0, _, _, _ => rfl
  | 0, g + 1, k, h, _ => by
    have : ¬ k < b.length := by omega
    simp [cWalk, this]
  | f + 1, 0, k, _, h => by
    have : ¬ k < b.length := by omega
    simp [cWalk, this]
  | f + 1, g + 1, k, h1, h2 => by
    simp only [cWalk]
    split
    · have := cNext_lt (cOp b k) k
      rw [cWalk_fuel b f g _ (by omega) (by omega)]
    · rfl
theorem cSteps_lt {b : List Int} {k : Nat} (h : k < b.length) : cSteps b k = (k, cOp b k) :: cSteps b (cNext (cOp b k) k) := by
  unfold cSteps
  obtain ⟨f, hf⟩ : ∃ f, b.length - k = f + 1 := ⟨b.length - k - 1, by omega⟩
  rw [hf]
  simp only [cWalk, if_pos h]
  have := cNext_lt (cOp b k) k
  rw [cWalk_fuel b f _ _ (by omega) (Nat.le_refl _)]
theorem cSteps_ge {b : List Int} {k : Nat} (h : b.length ≤ k) : cSteps b k = [] := by
  unfold cSteps
  rw [show b.length - k = 0 by omega]
  rfl
theorem cWalk_length (b : List Int) : ∀ (f k : Nat), (cWalk b f k).length ≤ f
  | 0, _ => Nat.le_refl _
  | f + 1, k => by
    simp only [cWalk]
    split
    · simp only [List.length_cons]; have := cWalk_length b f (cNext (cOp b k) k); omega
    · simp
theorem cSteps_length (b : List Int) (k : Nat) : (cSteps b k).length ≤ b.length := Nat.le_trans (cWalk_length b _ k) (by omega)
def KpC (n₀ Bs : Nat) (W W' : World) : Prop := Below n₀ W W' ∧ ∀ v, Boxed W Bs 26 v → Boxed W' Bs 26 v
theorem KpC.trans {n₀ Bs : Nat} {A B C : World} (h : KpC n₀ Bs A B) (k : KpC n₀ Bs B C) : KpC n₀ Bs A C := ⟨h.1.trans k.1, fun v hv => k.2 v (h.2 v hv)⟩
theorem KpC.turn {n₀ Bs : Nat} {w : World} (hn : n₀ ≤ w.heap.size) (W : World) (l : Nat) (o o' : Obj) (hl : w.heap.size ≤ l) (h : W.heap[l]? = some o) (h1 : o.isCells = false) (h2 : o.isWalk = false) : KpC n₀ Bs W (W.putObj l o') :=
  ⟨belowK_b hn W l o o' hl h h1 h2, fun v hv => hv.kept (grownBy_putObj' W l o') (fun e => by
    cases e
    rw [show W.heap[Bs]? = _ from hv] at h
    cases h
    cases h1)⟩
set_option maxRecDepth 100000 in
set_option maxHeartbeats 4000000 in
theorem Try.steps1_in (F : Fence) (n : Nat) (h7 : F.fn 81) (hro : F.round = none) (hn : 1 ≤ n) (l Bs n₀ b off cap : Nat) (zs : List Int) (hreach : zs.length ≤ 100000) (hb : b < n₀) (J Jx : List (Nat × Int) → World → Prop)
    (hY : ∀ pre x W, J pre W → pre.length < zs.length → YieldAt F (n - 1) Try.prog l #[.int .u64 (x.1 : Int), .int .u8 x.2] W fun e W' =>
      (e = .returned (.bool true) ∧ J (pre ++ [x]) W' ∧ KpC n₀ Bs W W') ∨ (e = .returned (.bool false) ∧ Jx (pre ++ [x]) W'))
    (W : World) (hBs : Boxed W Bs 26 (.slice (some ⟨b, off, none⟩) zs.length cap)) (hc : ∀ j, j < zs.length → W.cell? ⟨b, off + j, none⟩ = some (.int .u8 (zs[j]?.getD 0))) (h0 : J [] W) :
    CallsIn F n Try.prog 81 #[.func (.yield l) #[] #[], .pointer (some ⟨Bs, 0, none⟩)] W fun e W' => (∃ v, e = .returned v) ∧
      ((∃ ys, ys = cSteps zs 0 ∧ J ys W') ∨ (∃ pre, pre <+: cSteps zs 0 ∧ Jx pre W')) := by
  have hBc := hBs.cell
  refine callsIn_of_wp Try.func81 rfl h7 ?_ hro
  simp only [Try.ntmps81, List.size_toArray, List.length_cons, List.length_nil, Nat.reduceAdd, Nat.reduceSub, Array.replicate_succ, Array.replicate_zero, List.push_toArray, List.append_toArray, List.nil_append, List.cons_append]
  gi_wp2
  gi_loopw [3] (fun i wr => ∃ (k : Nat) (pre : List (Nat × Int)), k ≤ zs.length + 32 ∧ i = .int .u64 k ∧ pre ++ cSteps zs k = cSteps zs 0 ∧ J pre wr ∧ KpC n₀ Bs W wr)
    (fun i _ => zs.length + 33 - (intOf i).toNat)
  case atStart => exact ⟨0, [], by omega, rfl, rfl, h0, Below.refl _ _, fun _ h => h⟩
  case round =>
    obtain ⟨k, pre, hk, rfl, hpre, hJs, hnx⟩ := hrel
    have hBs' := (hnx.2 _ hBs).cell
    by_cases hlt : k < zs.length
    · have hcx' : wr.cell? ⟨b, off + k, none⟩ = some (.int .u8 (cOp zs k)) := (hnx.1.cell (p := ⟨b, off + k, none⟩) hb).trans (hc k hlt)
      have hlen : pre.length < zs.length := by
        have h1 := cSteps_length zs 0
        rw [← hpre, cSteps_lt hlt] at h1
        simp at h1
        omega
      obtain ⟨fn, tmps, assign, body, hy, hR⟩ := hY pre (k, cOp zs k) wr hJs hlen
      dsimp only at hy
      gi_wp2
      refine hR.mono ?_
      rintro e W3 (⟨rfl, hJ3, hk3⟩ | ⟨rfl, hJx3⟩)
      · gi_wp2
        all_goals
          refine ⟨⟨cNext (cOp zs k) k, pre ++ [(k, cOp zs k)], ?_, ?_, ?_, hJ3, hnx.trans hk3⟩, ?_⟩
          · unfold cNext; split <;> omega
          · congr 1; unfold cNext; split <;> omega
          · rw [← hpre, cSteps_lt hlt]; simp
          · simp only [intOf]; omega
      · gi_wp2
        refine bodyPost_ret (results_none rfl _ _ _) rfl ?_
        exact ⟨⟨_, rfl⟩, .inr ⟨_, ⟨cSteps zs (cNext (cOp zs k) k), by rw [← hpre, cSteps_lt hlt]; simp⟩, hJx3⟩⟩
    · gi_wp2
      go_end0
      exact ⟨⟨_, rfl⟩, .inl ⟨_, by rw [cSteps_ge (by omega), List.append_nil] at hpre; exact hpre, hJs⟩⟩
def CBytes (n₀ : Nat) (W : World) (a : Option Addr) (zs : List Int) : Prop :=
  zs = [] ∨ ∃ b off, a = some ⟨b, off, none⟩ ∧ b < n₀ ∧ ∀ j, j < zs.length → W.cell? ⟨b, off + j, none⟩ = some (.int .u8 (zs[j]?.getD 0))
theorem CBytes.below {n₀ : Nat} {A B : World} (h : Below n₀ A B) {a : Option Addr} {zs : List Int} : CBytes n₀ A a zs → CBytes n₀ B a zs
  | .inl e => .inl e
  | .inr ⟨b, off, e, hb, hc⟩ => .inr ⟨b, off, e, hb, fun j hj => (h.cell (p := ⟨b, off + j, none⟩) hb).trans (hc j hj)⟩
set_option maxRecDepth 100000 in
set_option maxHeartbeats 4000000 in
theorem Try.steps1_nil_in (F : Fence) (n : Nat) (h7 : F.fn 81) (hro : F.round = none) (l Bs : Nat) (a : Option Addr) (cap : Nat) (J : List (Nat × Int) → World → Prop) (W : World) (hBs : W.cell? ⟨Bs, 0, none⟩ = some (.slice a 0 cap)) (h0 : J [] W) :
    CallsIn F n Try.prog 81 #[.func (.yield l) #[] #[], .pointer (some ⟨Bs, 0, none⟩)] W fun e W' => (∃ v, e = .returned v) ∧ J [] W' := by
  refine callsIn_of_wp Try.func81 rfl h7 ?_ hro
  simp only [Try.ntmps81, List.size_toArray, List.length_cons, List.length_nil, Nat.reduceAdd, Nat.reduceSub, Array.replicate_succ, Array.replicate_zero, List.push_toArray, List.append_toArray, List.nil_append, List.cons_append]
  gi_wp2
  gi_loopw [3] (fun i wr => i = .int .u64 0 ∧ J [] wr ∧ wr.cell? ⟨Bs, 0, none⟩ = some (.slice a 0 cap)) (fun _ _ => 0)
  case atStart => exact ⟨rfl, h0, hBs⟩
  case round =>
    obtain ⟨rfl, hJs, hBs'⟩ := hrel
    gi_wp2
    go_end0
    exact ⟨⟨_, rfl⟩, hJs⟩
set_option maxHeartbeats 1000000 in
theorem Try.steps_in (F : Fence) (n : Nat) (h5 : F.fn 51) (hro : F.round = none) (a : Option Addr) (len cap : Nat) (w : World) :
    CallsIn F n Try.prog 51 #[.slice a len cap] w fun e w' => e = .returned (.func (.func 81) #[] #[.pointer (some ⟨w.heap.size, 0, none⟩)]) ∧ w' = w.alloc (.cells #[.slice a len cap] 26) := by
  refine callsIn_of_wp Try.func51 rfl h5 ?_ hro
  simp only [Try.ntmps51, List.size_toArray, List.length_cons, List.length_nil, Nat.reduceAdd, Nat.reduceSub, Array.replicate_succ, Array.replicate_zero, List.push_toArray, List.append_toArray, List.nil_append, List.cons_append]
  gi_wp2
  go_ret
  exact ⟨rfl, rfl⟩
theorem Try.steps_stops (F : Fence) (n : Nat) (h8 : F.fn 81) (hro : F.round = none) (hn : 1 ≤ n) (Bs n₀ : Nat) (a : Option Addr) (cap : Nat) (zs : List Int) (hreach : zs.length ≤ 100000) (w : World) (hn₀ : n₀ ≤ w.heap.size)
    (hc : Boxed w Bs 26 (.slice a zs.length cap)) (hI : CBytes n₀ w a zs) :
    SeqStopsK F n Try.prog 81 #[.pointer (some ⟨Bs, 0, none⟩)] (fun x : Nat × Int => #[Value.int .u64 (x.1 : Int), Value.int .u8 x.2]) (KpC n₀ Bs) (fun ys => ys = cSteps zs 0)
      (fun pre => pre <+: cSteps zs 0) zs.length w := fun l J Jx W hW _ _ hY h0 => by
  have hc' : Boxed W Bs 26 (.slice a zs.length cap) := (hW.block Bs hc.lt).trans hc
  rcases hI.below (hW.mono hn₀) with rfl | ⟨b, off, rfl, hb, hcs⟩
  · exact (Try.steps1_nil_in F n h8 hro l Bs a cap J W hc'.cell h0).mono fun e W' ⟨he, hj⟩ => ⟨he, .inl ⟨_, rfl, hj⟩⟩
  · exact Try.steps1_in F n h8 hro hn l Bs n₀ b off cap zs hreach hb J Jx hY W hc' hcs h0
end Go.Proofs
end
section
namespace Go.Proofs
open Go Go.RowKit Go.Shelf
open Go.Abs (cOp cNext cWalk cSteps cJump cAt cBig cSm cGo cMay)
attribute [local go_sem] Oper.semAt_some
theorem cJump_hit (pre : List (Nat × Int)) {x : Nat × Int} (h : x.2 = 91) : cJump (pre ++ [x]) = cJump pre ++ [(x.1 : Int)] := by simp [cJump, h]
theorem cJump_miss (pre : List (Nat × Int)) {x : Nat × Int} (h : ¬ x.2 = 91) : cJump (pre ++ [x]) = cJump pre := by simp [cJump, h]
theorem Try.infoJ : (Try.prog.info? 29).map (fun i => (i.zero, i.size, i.bytes)) = some (some (.int .u64 0), 1, 8) := by kernel_rfl
theorem KpC.refl (n₀ Bs : Nat) (W : World) : KpC n₀ Bs W W := ⟨Below.refl _ _, fun _ h => h⟩
theorem Try.underJ : Try.prog.underlying 27 = some (.slice 29) := by kernel_rfl
set_option maxRecDepth 100000 in
set_option maxHeartbeats 4000000 in
theorem Try.Jumps_in (F : Fence) (n : Nat) (h3 : F.fn 22) (h4 : F.fn 51) (h5 : F.fn 81) (hro : F.round = none) (hn : 3 ≤ n) (ad : Option Addr) (cap : Nat) (zs : List Int) (hlen : zs.length ≤ 100000) (w : World) (hI : CBytes w.heap.size w ad zs) :
    CallsIn F n Try.prog 22 #[.slice ad zs.length cap] w fun e W' => ∃ v, e = .returned v ∧ W'.ownsRow w.heap.size 29 1 v (cJump (cSteps zs 0)).length ((cJump (cSteps zs 0)).map (Value.int .u64)) ∧ Below w.heap.size w W' := by
  have h1 : 1 ≤ n := by omega
  obtain ⟨i0, hi, hz0, hz1, hz2⟩ := info_parts Try.infoJ
  refine callsIn_of_wp_marks Try.func22 rfl h3 ?_ hro
  simp only [Try.ntmps22, List.size_toArray, List.length_cons, List.length_nil, Nat.reduceAdd, Nat.reduceSub, Array.replicate_succ, Array.replicate_zero, List.push_toArray, List.append_toArray, List.nil_append, List.cons_append]
  gi_wp2_with (gi_at_call 51; refine (Try.steps_in F (n - 1) h4 hro _ _ _ _).mono ?_; rintro e w' ⟨rfl, rfl⟩)
  have bO := Boxed.new w 27 (.slice none 0 0)
  have bN := Boxed.new (w.alloc (.cells #[.slice none 0 0] 27)) 26 (.slice ad zs.length cap)
  rw [World.size_alloc] at bN
  have hB0 : Below w.heap.size w ((w.alloc (.cells #[.slice none 0 0] 27)).alloc (.cells #[.slice ad zs.length cap] 26)) := ((Below.refl _ w).alloc (Nat.le_refl _) _).alloc (by simp) _
  refine wpIn_rangeFunc_ownG hro h1 (gf := 81) (lb := #[.pointer (some ⟨w.heap.size + 1, 0, none⟩)]) rfl h5 (enters_of Try.func81 (by kernel_rfl) rfl)
    (Try.steps_stops F (n - 1) h5 hro (by omega) (w.heap.size + 1) w.heap.size ad cap zs hlen _ (by simp; omega) bN (hI.below hB0)) KpC.trans (KpC.turn (by simp; omega)) (Below.refl _ _) (fun _ => rfl)
    (fun pre W => (∃ v, Boxed W w.heap.size 27 v ∧ W.ownsRow w.heap.size 29 1 v (cJump pre).length ((cJump pre).map (Value.int .u64)) ∧ (v = .slice none 0 0 ↔ cJump pre = [])) ∧ Below w.heap.size w W)
    (fun _ _ _ => False)
    (OwnFrom.and (Own.from (holdsRow_own w.heap.size w.heap.size 27 29 1 (fun pre => (cJump pre).length) (fun pre => (cJump pre).map (Value.int .u64)) (fun pre v => v = .slice none 0 0 ↔ cJump pre = [])) _) (ownFrom_below (Nat.le_refl _) (by simp; omega)))
    (fun _ _ _ _ _ hs _ _ => hs)
    ⟨⟨_, bO.alloc _, World.ownsRow_nil _ _ _ _, by simp [cJump]⟩, hB0⟩
    (fun x => { tmps := #[.slice ad zs.length cap, undef, .slice none 0 0, .pointer (some ⟨w.heap.size, 0, none⟩), .int .u64 (x.1 : Int), .int .u8 x.2, .slice ad zs.length cap, .func (.func 81) #[] #[.pointer (some ⟨w.heap.size + 1, 0, none⟩)], .int .u64 (x.1 : Int), .int .u8 x.2, undef, undef, undef, undef, undef, undef, undef], defers := [] }) ?assign ?body ?done ?stop
  case assign =>
    intro l x W K hK
    gi_wp2
    exact hK
  case body =>
    rintro l pre x W ⟨⟨v, hv, hrow, hnil⟩, hB⟩ hlt
    have hc := hv.cell
    have hpl : (cJump pre).length ≤ pre.length := by simp only [cJump, List.length_map]; exact List.length_filter_le _ _
    gi_wp2_with (gi_at_builtin; refine wpListIn_append_own _ rfl _ _ 27 rfl w.heap.size 29 i0 (.int .u64 0) 1 8 Try.underJ hi hz0 hz1 hz2 rfl (by decide) _ _ _ rfl (hrow.alloc _) ⟨W.heap.size, 0, none⟩ 1 1 [.int .u64 (x.1 : Int)] rfl rfl (cell_one_new _ _ _) (by simp [Value.oneCell']) (by simp only [maxLen]; omega) (by omega) (by have := hB.size; simp; omega) ?_; intro v' w1 hown' hgrow _; obtain ⟨g', cap', rfl⟩ := ownsRow_succ hown'; obtain ⟨hv1, hv2, hr2, hk2, hb2⟩ := hv.appended (by decide) hrow hB.size (Nat.le_refl _) hown' hgrow; have hbx : ∀ u, Boxed W (w.heap.size + 1) 26 u → Boxed w1 (w.heap.size + 1) 26 u := (fun u hu => (hu.alloc _).kept hgrow (hu.not_row (by decide) hrow)); have hc1 := hv1.cell; have hf1 := hv1.frozen)
    · have hx : x.2 = 91 := eq_of_beq (show (x.2 == 91) = true by assumption)
      exact ⟨hk2.from _, ⟨hb2, fun u hu => (hbx u hu).other (by omega) _⟩, ⟨_, hv2, by rw [cJump_hit pre hx]; simpa using hr2, by rw [cJump_hit pre hx]; simp⟩, hB.trans hb2⟩
    · have hx : ¬ x.2 = 91 := by
        have h : (x.2 == 91) = false := by first | assumption | exact Bool.eq_false_iff.2 (by assumption)
        exact ne_of_beq_false h
      exact ⟨KeepsFrom.refl _ _, KpC.refl _ _ _, ⟨v, hv, by rw [cJump_miss pre hx]; exact hrow, by rw [cJump_miss pre hx]; exact hnil⟩, hB⟩
  case done =>
    rintro D ys W hD rfl ⟨⟨v, hv, hrow, hnil⟩, hB⟩ hK
    have hc := hv.cell
    gi_wp2
    refine ⟨by simp, .inl ⟨_, _, rfl, run_takeDeferred hK, ?_⟩⟩
    exact ⟨_, results_tmp rfl _ _ _, v, rfl, ownsRow_putObj hrow _ hK rfl, hB.trans (belowK_b (w := w) (Nat.le_refl _) W D _ _ (by simp at hD; omega) hK rfl rfl)⟩
  case stop =>
    rintro D c pre W _ _ h _
    exact h.elim
end Go.Proofs
end
section
namespace Go.Proofs
open Go Go.RowKit Go.Shelf
open Go.Abs (cOp cNext cWalk cSteps cJump cAt cBig cSm cGo cMay)
attribute [local go_sem] Oper.semAt_some
set_option maxHeartbeats 1000000 in
theorem Try.At_in (F : Fence) (n : Nat) (h5 : F.fn 25) (hro : F.round = none) (ad : Option Addr) (cap : Nat) (zs : List Int) (hlen : zs.length ≤ 100000) (pc : Int) (hp : 0 ≤ pc) (n₀ : Nat) (w : World) (hI : CBytes n₀ w ad zs) :
    CallsIn F n Try.prog 25 #[.slice ad zs.length cap, .int .u64 pc] w fun e w' => e = .returned (.int .u8 (cAt zs pc)) ∧ w' = w := by
  refine callsIn_of_wp Try.func25 rfl h5 ?_ hro
  simp only [Try.ntmps25, List.size_toArray, List.length_cons, List.length_nil, Nat.reduceAdd, Nat.reduceSub, Array.replicate_succ, Array.replicate_zero, List.push_toArray, List.append_toArray, List.nil_append, List.cons_append]
  by_cases h : pc < (zs.length : Int)
  · rcases hI with rfl | ⟨b, off, rfl, hb, hcs⟩
    · simp at h; omega
    · obtain ⟨k, rfl⟩ := Int.eq_ofNat_of_zero_le hp
      have hc := hcs k (by omega)
      obtain ⟨o, ho⟩ : ∃ o, zs[k]?.getD 0 = o := ⟨_, rfl⟩
      rw [ho] at hc
      gi_wp2
      go_ret
      refine ⟨?_, rfl⟩
      simp only [cAt, if_pos h, Int.toNat_natCast, List.getD_eq_getElem?_getD, ho]; rfl
  · gi_wp2
    go_ret
    exact ⟨by rw [cAt, if_neg (by omega)]; rfl, rfl⟩
set_option maxHeartbeats 1000000 in
theorem Try.Small_in (F : Fence) (n : Nat) (h5 : F.fn 54) (hro : F.round = none) (a b c d : Int) (w : World) :
    CallsIn F n Try.prog 54 #[.agg #[.int .u64 a, .int .u64 b, .int .u64 c, .int .u64 d]] w fun e w' =>
      e = .returned (.tuple #[.int .u64 (cSm a b c d).1, .bool (cSm a b c d).2]) ∧ w' = w.alloc (.cells #[.int .u64 a, .int .u64 b, .int .u64 c, .int .u64 d] 33) := by
  refine callsIn_of_wp Try.func54 rfl h5 ?_ hro
  simp only [Try.ntmps54, List.size_toArray, List.length_cons, List.length_nil, Nat.reduceAdd, Nat.reduceSub, Array.replicate_succ, Array.replicate_zero, List.push_toArray, List.append_toArray, List.nil_append, List.cons_append]
  gi_wp2
  · rename_i h
    have hb : cSm a b c d = (0, false) := by rw [cSm, show cBig b c d = true from h]
    go_ret2
    rw [hb]
    exact ⟨rfl, rfl⟩
  · rename_i h
    have hb : cSm a b c d = (a, true) := by rw [cSm, show cBig b c d = false from h]
    go_ret2
    rw [hb]
    exact ⟨rfl, rfl⟩
end Go.Proofs
end
section
namespace Go.Proofs
open Go Go.RowKit Go.Shelf
open Go.Abs (cOp cNext cWalk cSteps cJump cAt cBig cSm cGo cMay)
attribute [local go_sem] Oper.semAt_some
theorem cGo_all {n : Int} : ∀ {l : List (Nat × Int)}, (∀ p ∈ l, (p.1 : Int) < n) → cGo n l = false
  | [], _ => rfl
  | x :: r, h => by
    have h0 := h x (by simp)
    rw [cGo, if_neg (by omega)]
    exact cGo_all fun p hp => h p (by simp [hp])
theorem cGo_hit {n : Int} {x : Nat × Int} (hx : n ≤ (x.1 : Int)) {r : List (Nat × Int)} : ∀ {l : List (Nat × Int)}, (∀ p ∈ l, (p.1 : Int) < n) → cGo n (l ++ x :: r) = ((x.1 : Int) == n)
  | [], _ => by rw [List.nil_append, cGo, if_pos hx]
  | y :: l, h => by
    have h0 := h y (by simp)
    rw [List.cons_append, cGo, if_neg (by omega)]
    exact cGo_hit hx fun p hp => h p (by simp [hp])
theorem cMay_of {zs : List Int} {a b c d n : Int} {is : Bool} (h : cSm a b c d = (n, is)) : cMay zs a b c d = if is = true ∧ cAt zs n = 91 then cGo n (cSteps zs 0) else false := by
  unfold cMay; rw [h]
set_option maxRecDepth 100000 in
set_option maxHeartbeats 4000000 in
theorem Try.May_in (F : Fence) (n : Nat) (h3 : F.fn 27) (h4 : F.fn 51) (h5 : F.fn 81) (h6 : F.fn 54) (h7 : F.fn 25) (hro : F.round = none) (hn : 3 ≤ n) (ad : Option Addr) (cap : Nat) (zs : List Int) (hlen : zs.length ≤ 100000) (a b c d : Int) (ha : 0 ≤ a) (w : World) (hI : CBytes w.heap.size w ad zs) :
    CallsIn F n Try.prog 27 #[.slice ad zs.length cap, .agg #[.int .u64 a, .int .u64 b, .int .u64 c, .int .u64 d]] w fun e W' => e = .returned (.bool (cMay zs a b c d)) ∧ Below w.heap.size w W' := by
  have h1 : 1 ≤ n := by omega
  obtain ⟨v, hv⟩ : ∃ v, cMay zs a b c d = v := ⟨_, rfl⟩
  rw [hv]
  obtain ⟨m, is, hm⟩ : ∃ m is, cSm a b c d = (m, is) := ⟨_, _, rfl⟩
  have hm0 : 0 ≤ m := by
    unfold cSm at hm
    split at hm <;> (cases hm; omega)
  obtain ⟨o, ho⟩ : ∃ o, cAt zs m = o := ⟨_, rfl⟩
  refine callsIn_of_wp_marks Try.func27 rfl h3 ?_ hro
  simp only [Try.ntmps27, List.size_toArray, List.length_cons, List.length_nil, Nat.reduceAdd, Nat.reduceSub, Array.replicate_succ, Array.replicate_zero, List.push_toArray, List.append_toArray, List.nil_append, List.cons_append]
  have hAt : ∀ W, Below w.heap.size w W → CallsIn F (n - 1) Try.prog 25 #[.slice ad zs.length cap, .int .u64 m] W fun e w' => e = .returned (.int .u8 o) ∧ w' = W := fun W hW => by
    rw [← ho]
    exact Try.At_in F (n - 1) h7 hro ad cap zs hlen m hm0 w.heap.size W (hI.below hW)
  have b1 : Below w.heap.size w (w.alloc (.cells #[.int .u64 a, .int .u64 b, .int .u64 c, .int .u64 d] 33)) := (Below.refl _ w).alloc (Nat.le_refl _) _
  have b2 := b1.alloc b1.size (.cells #[.bool false] 4)
  have b3 := b2.alloc b2.size (.cells #[.int .u64 a, .int .u64 b, .int .u64 c, .int .u64 d] 33)
  have b4 := b3.alloc b3.size (.cells #[.int .u64 m] 29)
  have b5 := b4.alloc b4.size (.cells #[.slice ad zs.length cap] 26)
  have x1 := (((Boxed.new (w.alloc (.cells #[.int .u64 a, .int .u64 b, .int .u64 c, .int .u64 d] 33)) 4 (.bool false)).alloc (.cells #[.int .u64 a, .int .u64 b, .int .u64 c, .int .u64 d] 33)).alloc (.cells #[.int .u64 m] 29)).alloc (.cells #[.slice ad zs.length cap] 26)
  have x2 := (Boxed.new (((w.alloc (.cells #[.int .u64 a, .int .u64 b, .int .u64 c, .int .u64 d] 33)).alloc (.cells #[.bool false] 4)).alloc (.cells #[.int .u64 a, .int .u64 b, .int .u64 c, .int .u64 d] 33)) 29 (.int .u64 m)).alloc (.cells #[.slice ad zs.length cap] 26)
  have x3 := Boxed.new ((((w.alloc (.cells #[.int .u64 a, .int .u64 b, .int .u64 c, .int .u64 d] 33)).alloc (.cells #[.bool false] 4)).alloc (.cells #[.int .u64 a, .int .u64 b, .int .u64 c, .int .u64 d] 33)).alloc (.cells #[.int .u64 m] 29)) 26 (.slice ad zs.length cap)
  simp only [World.size_alloc] at x1 x2 x3
  gi_wp2_with (first
    | (gi_at_call 54; refine (Try.Small_in F (n - 1) h6 hro _ _ _ _ _).mono ?_; rw [hm]; rintro e w' ⟨rfl, rfl⟩)
    | (gi_at_call 25; refine (hAt _ b4).mono ?_; rintro e w' ⟨rfl, rfl⟩)
    | (gi_at_call 51; refine (Try.steps_in F (n - 1) h4 hro _ _ _ _).mono ?_; rintro e w' ⟨rfl, rfl⟩))
  · rename_i h8 h9
    have hf : v = false := by
      have h9' : ¬ o = 91 := by simpa using h9
      rw [← hv, cMay_of hm, ho, if_neg (by simp [h9'])]
    refine ⟨.bool false, ?_, by rw [hf], b4⟩
    simp [results, Try.f27, go_sem]
  · have hv' : cGo m (cSteps zs 0) = v := by
      have h8 : is = true := by assumption
      have h9 : o = 91 := by
        have h9 : (o != 91) = false := by first | assumption | exact Bool.eq_false_iff.2 (by assumption)
        simpa using h9
      rw [← hv, cMay_of hm, ho, if_pos ⟨h8, h9⟩]
    refine wpIn_rangeFunc_ownG hro h1 (gf := 81) (lb := #[.pointer (some ⟨w.heap.size + 1 + 1 + 1 + 1, 0, none⟩)]) rfl h5 (enters_of Try.func81 (by kernel_rfl) rfl)
      (Try.steps_stops F (n - 1) h5 hro (by omega) (w.heap.size + 1 + 1 + 1 + 1) w.heap.size ad cap zs hlen _ (by simp; omega) x3 (hI.below b5)) KpC.trans (KpC.turn (by simp; omega)) (Below.refl _ _) (fun _ => rfl)
      (fun pre W => ((∀ p ∈ pre, (p.1 : Int) < m) ∧ (W.cell? ⟨w.heap.size + 1, 0, none⟩ = some (.bool false) ∧ W.frozen? ⟨w.heap.size + 1, 0, none⟩ = false) ∧ W.cell? ⟨w.heap.size + 1 + 1 + 1, 0, none⟩ = some (.int .u64 m)) ∧ Below w.heap.size w W)
      (fun c pre W => (c = .ret ∧ ∃ ini last, pre = ini ++ [last] ∧ (∀ p ∈ ini, (p.1 : Int) < m) ∧ m ≤ (last.1 : Int) ∧ W.cell? ⟨w.heap.size + 1, 0, none⟩ = some (.bool ((last.1 : Int) == m))) ∧ Below w.heap.size w W)
      (OwnFrom.and (Own.from (fun s A B row hs hg hr => ⟨hs.1, ⟨cell_kept hs.2.1.1 hg hr, (frozen_kept hs.2.1.1 hg hr).trans hs.2.1.2⟩, cell_kept hs.2.2 hg hr⟩) _) (ownFrom_below (Nat.le_refl _) (by simp; omega)))
      (fun c => OwnFrom.and (Own.from (fun s A B row hs hg hr => by obtain ⟨hc, ini, last, e1, e2, e3, e4⟩ := hs; exact ⟨hc, ini, last, e1, e2, e3, cell_kept e4 hg hr⟩) _) (ownFrom_below (Nat.le_refl _) (by simp; omega)))
      ⟨⟨by simp, ⟨x1.cell, x1.frozen⟩, x2.cell⟩, b5⟩
      (fun x => { tmps := #[.slice ad zs.length cap, .agg #[.int .u64 a, .int .u64 b, .int .u64 c, .int .u64 d], undef, .pointer (some ⟨w.heap.size, 0, none⟩), .pointer (some ⟨w.heap.size + 1, 0, none⟩), .pointer (some ⟨w.heap.size + 1 + 1 + 1, 0, none⟩), .bool true, .int .u64 (x.1 : Int),
        .tuple #[.int .u64 m, .bool true], .agg #[.int .u64 a, .int .u64 b, .int .u64 c, .int .u64 d], .tuple #[.int .u64 m, .bool true], .int .u64 m, .bool true, .bool true, .bool false, .bool false, .slice ad zs.length cap, .int .u64 m, .int .u8 o, .bool false, .bool false, .slice ad zs.length cap,
        .func (.func 81) #[] #[.pointer (some ⟨w.heap.size + 1 + 1 + 1 + 1, 0, none⟩)], .int .u64 (x.1 : Int), .int .u8 x.2, undef, undef, undef, undef, undef, undef], defers := [] }) ?assign ?body ?done ?stop
    case assign =>
      intro l x W K hK
      gi_wp2
      exact hK
    case body =>
      rintro l pre x W ⟨⟨hp, ⟨hcr, hfr⟩, hcm⟩, hB⟩ _
      gi_wp2
      · have hx : m ≤ (x.1 : Int) := by assumption
        exact ⟨(KeepsOthers.setCell _ _ _).from _, ⟨rfl, pre, x, rfl, hp, hx, World.cell?_setCell_same' _ _ _ (by rw [hcr]; rfl)⟩, hB.setCell (p := ⟨w.heap.size + 1, 0, none⟩) (by simp) _⟩
      · have hx : (x.1 : Int) < m := by assumption
        exact ⟨KeepsFrom.refl _ _, KpC.refl _ _ _, ⟨fun p hp' => (List.mem_append.1 hp').elim (hp p) (fun e => by simp at e; subst e; exact hx), ⟨hcr, hfr⟩, hcm⟩, hB⟩
    case done =>
      rintro D ys W hD rfl ⟨⟨hne, ⟨hcr, hfr⟩, hcm⟩, hB⟩ hK
      gi_wp2
      have hK' := (KeepsOthers.setCell W ⟨w.heap.size + 1, 0, none⟩ (.bool false)).same D _ hK rfl
      refine ⟨by simp, .inl ⟨_, _, rfl, run_takeDeferred hK', ?_⟩⟩
      have hc5 := cell_kept (World.cell?_setCell_same' W ⟨w.heap.size + 1, 0, none⟩ (.bool false) (by rw [hcr]; rfl)) (grownBy_putObj' _ D (.deferred none)) (fun r e => by cases e; exact ⟨_, hK', rfl⟩)
      refine ⟨.bool false, ?_, by rw [← hv', cGo_all hne], (hB.setCell (p := ⟨w.heap.size + 1, 0, none⟩) (by simp) _).trans (belowK_b (w := w) (Nat.le_refl _) _ D _ _ (by simp at hD; omega) hK' rfl rfl)⟩
      simp [results, Try.f27, go_sem, hc5]
    case stop =>
      rintro D c pre W hD hpre ⟨⟨rfl, ini, last, rfl, e2, e3, hcr⟩, hB⟩ hK
      gi_wp2
      refine ⟨by simp, .inl ⟨_, _, rfl, run_takeDeferred hK, ?_⟩⟩
      have hc5 := cell_kept hcr (grownBy_putObj' _ D (.deferred none)) (fun r e => by cases e; exact ⟨_, hK, rfl⟩)
      obtain ⟨r, hr⟩ := hpre
      refine ⟨.bool ((last.1 : Int) == m), ?_, by rw [← hv', ← hr, List.append_assoc, List.singleton_append, cGo_hit e3 e2], hB.trans (belowK_b (w := w) (Nat.le_refl _) W D _ _ (by simp at hD; omega) hK rfl rfl)⟩
      simp [results, Try.f27, go_sem, hc5]
  · rename_i h8
    have hf : v = false := by rw [← hv, cMay_of hm, if_neg (by simp [h8])]
    refine ⟨.bool false, ?_, by rw [hf], b4⟩
    simp [results, Try.f27, go_sem]
end Go.Proofs
end
section
namespace Go.Abs
open Go Go.Proofs
theorem jumps_ok (t : List Int) (h : t.length ≤ 100000) : FnOK Try.prog (fun _ => .any) 22 [.rints .u8 t] [] (.own 0 1) [some (.ints .u64 (cJump (cSteps t 0)))] := by
  intro E vs hbl m g ha
  obtain ⟨v, rfl, hv⟩ := args1 ha
  obtain ⟨a, cap, rfl, _, hc⟩ := rints_cells m hv
  refine .inl ⟨Try.f22, Try.func22, by decide, by kernel_rfl, (callsIn_wide (n := 3)).1 ?_⟩
  refine (Try.Jumps_in Fence.wide 3 trivial trivial trivial rfl (Nat.le_refl _) a cap t h E.w hc).mono ?_
  rintro e W' ⟨v, rfl, hrow, hB⟩
  obtain ⟨E', h1, h2, h3, h4⟩ := took_own m hB .u64 _ hrow
  refine ⟨v, rfl, E', h1, by rw [h2, hbl]; rfl, h3, ?_⟩
  rw [hbl] at h4
  exact h4
theorem may_ok (t : List Int) (a b c d : Int) (h : t.length ≤ 100000) (ha0 : 0 ≤ a) : FnOK Try.prog (fun _ => .any) 27 [.rints .u8 t, .ints .u64 4 [a, b, c, d]] [] (.bool (cMay t a b c d)) [] := by
  intro E vs hbl m g ha
  obtain ⟨v, w, rfl, hv, hw⟩ := args2 ha
  obtain ⟨ad, cap, rfl, _, hc⟩ := rints_cells m hv
  cases hw
  refine .inl ⟨Try.f27, Try.func27, by decide, by kernel_rfl, (callsIn_wide (n := 3)).1 ?_⟩
  refine (Try.May_in Fence.wide 3 trivial trivial trivial trivial trivial rfl (Nat.le_refl _) ad cap t h a b c d ha0 E.w hc).mono ?_
  rintro e W' ⟨rfl, hB⟩
  exact ⟨_, rfl, { E with w := W' }, rfl, hbl, Go.below m hB, .bool _ _⟩
end Go.Abs
end
section
theorem Fl.ok (n : Nat) (t) (u) (h : Fl.m n t = some u) : FnOK Try.prog (fun _ => .any) 22 (Fl.shape t).1 (Fl.shape t).2 (Fl.res u).1 (Fl.res u).2 := by
  unfold Fl.m at h
  split at h
  · rename_i hl
    cases h
    exact jumps_ok t hl
  · cases h
theorem Fl.s (hmix : Try.prog.follows .mixedOrders = true) (n : Nat) : CalleeS Try.prog (fun _ => .any) 22 (Fl.c n) :=
  CalleeS.of (res := Fl.res) (shape := Fl.shape) (fun R u K => rfl) (fun args lent t h => by
    unfold Fl.pat at h
    split at h
    · cases h; rfl
    · cases h) fun t u h => Fl.ok n t u h
end
section
theorem Fbg.gmap {α β : Type} (h : β → α) (mk0 : Int → β) (n : Nat) (a0 : LI) (a1 : Int) : Fbg.g (fun a0 => (h (mk0 a0))) n a0 a1 = (Fbg.g mk0 n a0 a1).map h := by
  unfold Fbg.g
  exact (ite_map rfl (ite_map (ite_map rfl rfl) rfl))
theorem Fbg.run (n : Nat) (a0 : LI) (a1 : Int) : runF (Fbg.C n) (Fbg.A n) n Try.f25 [(.rints .u8 a0), (.int .u64 a1)] [] (fun v o => some (v, o)) = Fbg.g (fun a0 => (((.int .u8 a0), []) : AV × Blks)) n a0 a1 := by kernel_rfl
theorem Fbg.call (hmix : Try.prog.follows .mixedOrders = true) (n : Nat) (t : (LI × Int)) (u) (h : Fbg.m n t = some u) : FnC Try.prog (fun _ => .any) 25 (Fbg.shape t).1 (Fbg.shape t).2 (Fbg.res u).1 (Fbg.res u).2 :=
  fnC1 (C := Fbg.C n) (A := Fbg.A n) (fn := Try.f25) rfl .nil hmix Try.func25 (by kernel_rfl) (lp := []) (by kernel_rfl) .nil
  (nj rfl) (by decide) rfl rfl (by show 2 ≤ Try.f25.ntmps; decide) (Fbg.run n t.1 t.2) (Fbg.gmap Fbg.res (fun a0 => a0) n t.1 t.2) h
theorem Fbg.s (hmix : Try.prog.follows .mixedOrders = true) (n : Nat) : CalleeS Try.prog (fun _ => .any) 25 (Fbg.c n) :=
  .mk1 (res := Fbg.res) (shape := Fbg.shape) (fun R u K => rfl) (fun _ _ _ h => by unfold Fbg.pat at h; split at h <;> cases h; rfl) (fun t u h => Fbg.call hmix n t u h) Try.func25 (by decide) (by kernel_rfl)
end
section
noncomputable abbrev Fy.R0 (n : Nat) := roundOf (Fy.C n) (Fy.A n) n Fy.b0
theorem Fy.l4_0.rmap {α β : Type} (h : β → α) (mk0 : LI → LI → β) (n : Nat) (f : Int → Int → LI → LI → LI → Option β)  (x0 : Int) (x1 : Int) (x2 : LI) (x3 : LI) (x4 : LI) : Fy.l4_0.r (fun a0 a1 => (h (mk0 a0 a1))) n (fun y0 y1 y2 y3 y4 => (f y0 y1 y2 y3 y4).map h) x0 x1 x2 x3 x4 = (Fy.l4_0.r mk0 n f x0 x1 x2 x3 x4).map h := by
  unfold Fy.l4_0.r
  exact (ite_map (ite_map (ite_map (ite_map (ite_map (ite_map (ite_map (ite_map rfl rfl) rfl) rfl) rfl) rfl) rfl) rfl) rfl)
theorem Fy.l4_0.gmap {α β : Type} (h : β → α) (mk0 : LI → LI → β) (n : Nat) : ∀ (m : Nat) (x0 : Int) (x1 : Int) (x2 : LI) (x3 : LI) (x4 : LI), Fy.l4_0.g (fun a0 a1 => (h (mk0 a0 a1))) n m x0 x1 x2 x3 x4 = (Fy.l4_0.g mk0 n m x0 x1 x2 x3 x4).map h
  | 0, _, _, _, _, _ => rfl
  | m + 1, x0, x1, x2, x3, x4 => by
    unfold Fy.l4_0.g
    rw [← Fy.l4_0.rmap]
    congr
    · funext y0 y1 y2 y3 y4; exact Fy.l4_0.gmap h mk0 n m y0 y1 y2 y3 y4
theorem Fy.l4_0.pat_shape : ∀ st t, Fy.l4_0.pat st = some t → st = Fy.l4_0.shape t := fun _ _ h => by unfold Fy.l4_0.pat at h; split at h <;> cases h; rfl
def Fy.l4_0.k0 : LI → LI → Ex × St := (fun a0 a1 => (((.exit 0), (St.mk [(.ptr 0 []), (.ptr 1 [])] [(some (.var (.ints .u64 4 a0))), (some (.var (.ints .u64 4 a1)))])) : Ex × St))
theorem Fy.l4_0.round (n : Nat) (rc : St → Option (Ex × St)) (x0 : Int) (x1 : Int) (x2 : LI) (x3 : LI) (x4 : LI) : Fy.R0 n rc ((St.mk [(.int .i64 x0), (.int .i64 x1), (.ptr 0 []), (.rints .u8 x2), (.ptr 1 [])] [(some (.var (.ints .u64 4 x3))), (some (.var (.ints .u64 4 x4)))])) = Fy.l4_0.r Fy.l4_0.k0 n (fun y0 y1 y2 y3 y4 => rc ((St.mk [(.int .i64 y0), (.int .i64 y1), (.ptr 0 []), (.rints .u8 y2), (.ptr 1 [])] [(some (.var (.ints .u64 4 y3))), (some (.var (.ints .u64 4 y4)))]))) x0 x1 x2 x3 x4 := by kernel_rfl
theorem Fy.l4_0.loop' (n : Nat) : ∀ (m : Nat) (t : (Int × (Int × (LI × (LI × LI))))), loopOf (Fy.R0 n) m (Fy.l4_0.shape t) = Fy.l4_0.g Fy.l4_0.k0 n m t.1 t.2.1 t.2.2.1 t.2.2.2.1 t.2.2.2.2 :=
  loop_of_round (shape := Fy.l4_0.shape) (body := Fy.R0 n) (g := fun m t => Fy.l4_0.g Fy.l4_0.k0 n m t.1 t.2.1 t.2.2.1 t.2.2.2.1 t.2.2.2.2) (fun t => rfl)
    fun m t ih => (Fy.l4_0.round n (loopOf (Fy.R0 n) m) t.1 t.2.1 t.2.2.1 t.2.2.2.1 t.2.2.2.2).trans (congrFun (congrFun (congrFun (congrFun (congrFun (congrArg (Fy.l4_0.r Fy.l4_0.k0 n) (funext fun y0 => funext fun y1 => funext fun y2 => funext fun y3 => funext fun y4 => ih (y0, y1, y2, y3, y4))) t.1) t.2.1) t.2.2.1) t.2.2.2.1) t.2.2.2.2)
theorem Fy.l4_0.loop (n m : Nat) (t : (Int × (Int × (LI × (LI × LI))))) : loopOf (Fy.R0 n) m (Fy.l4_0.shape t) = (Fy.l4_0.m n m t).map Fy.l4_0.res :=
  (Fy.l4_0.loop' n m t).trans (Fy.l4_0.gmap Fy.l4_0.res (fun a0 a1 => (a0, a1)) n m t.1 t.2.1 t.2.2.1 t.2.2.2.1 t.2.2.2.2)
theorem Fy.gmap {α β : Type} (h : β → α) (mk0 : LI → β) (n : Nat) (a0 : LI) : Fy.g (fun a0 => (h (mk0 a0))) n a0 = (Fy.g mk0 n a0).map h := by
  unfold Fy.g
  exact (ite_map (ite_map (bindO_map fun r6 => rfl) rfl) rfl)
theorem Fy.run (n : Nat) (a0 : LI) : runF (Fy.C n) (Fy.A n) n Try.f52 [(.rints .u8 a0)] [] (fun v o => some (v, o)) = Fy.g (fun a0 => (((.ints .u64 4 a0), []) : AV × Blks)) n a0 := by kernel_rfl
theorem Fy.call (hmix : Try.prog.follows .mixedOrders = true) (n : Nat) (t : LI) (u) (h : Fy.m n t = some u) : FnC Try.prog (fun _ => .any) 52 (Fy.shape t).1 (Fy.shape t).2 (Fy.res u).1 (Fy.res u).2 :=
  fnC1 (C := Fy.C n) (A := Fy.A n) (fn := Try.f52) rfl .nil hmix Try.func52 (by kernel_rfl) (lp := [Fy.b0]) (by kernel_rfl) (.cons (show (Fy.A n).loop (key Fy.b0) = some (.mk' Fy.l4_0.pat (Fy.l4_0.m n n) Fy.l4_0.resK) by kernel_rfl) (LoopS.of (res := Fy.l4_0.res) (fun R u K => rfl) Fy.l4_0.pat_shape fun t => Fy.l4_0.loop n n t)
  .nil)
  (nj rfl) (by decide) rfl rfl (by show 1 ≤ Try.f52.ntmps; decide) (Fy.run n t) (Fy.gmap Fy.res (fun a0 => a0) n t) h
theorem Fy.s (hmix : Try.prog.follows .mixedOrders = true) (n : Nat) : CalleeS Try.prog (fun _ => .any) 52 (Fy.c n) :=
  .mk1 (res := Fy.res) (shape := Fy.shape) (fun R u K => rfl) (fun _ _ _ h => by unfold Fy.pat at h; split at h <;> cases h; rfl) (fun t u h => Fy.call hmix n t u h) Try.func52 (by decide) (by kernel_rfl)
end
section
theorem Fz.gmap {α β : Type} (h : β → α) (mk0 : LI → Int → β) (n : Nat) (a0 : LI) (a1 : Int) : Fz.g (fun a0 a1 => (h (mk0 a0 a1))) n a0 a1 = (Fz.g mk0 n a0 a1).map h := by
  unfold Fz.g
  exact (bindO_map fun r2 => (ite_map rfl (ite_map rfl (ite_map (ite_map (ite_map (ite_map (ite_map (ite_map (bindO_map fun r20 => rfl) rfl) rfl) rfl) rfl) rfl) rfl))))
theorem Fz.run (n : Nat) (a0 : LI) (a1 : Int) : runF (Fz.C n) (Fz.A n) n Try.f23 [(.rints .u8 a0), (.int .u64 a1)] [] (fun v o => some (v, o)) = Fz.g (fun a0 a1 => (((.tup [(.ints .u64 4 a0), (.int .u64 a1)]), []) : AV × Blks)) n a0 a1 := by kernel_rfl
theorem Fz.call (hmix : Try.prog.follows .mixedOrders = true) (n : Nat) (t : (LI × Int)) (u) (h : Fz.m n t = some u) : FnC Try.prog (fun _ => .any) 23 (Fz.shape t).1 (Fz.shape t).2 (Fz.res u).1 (Fz.res u).2 :=
  fnC1 (C := Fz.C n) (A := Fz.A n) (fn := Try.f23) rfl (.cons (Fbg.s hmix n) (.cons (Fy.s hmix n) .nil)) hmix Try.func23 (by kernel_rfl) (lp := []) (by kernel_rfl) .nil
  (nj rfl) (by decide) rfl rfl (by show 2 ≤ Try.f23.ntmps; decide) (Fz.run n t.1 t.2) (Fz.gmap Fz.res (fun a0 a1 => (a0, a1)) n t.1 t.2) h
theorem Fz.s (hmix : Try.prog.follows .mixedOrders = true) (n : Nat) : CalleeS Try.prog (fun _ => .any) 23 (Fz.c n) :=
  .mk1 (res := Fz.res) (shape := Fz.shape) (fun R u K => rfl) (fun _ _ _ h => by unfold Fz.pat at h; split at h <;> cases h; rfl) (fun t u h => Fz.call hmix n t u h) Try.func23 (by decide) (by kernel_rfl)
end
section
theorem Faa.j10000.gmap {α β : Type} (h : β → α) (mk0 : Int → Int → Int → Bool → β) (mk1 : Int → β) (n : Nat) (x0 : Int) : Faa.j10000.g (fun a0 a1 a2 a3 => (h (mk0 a0 a1 a2 a3))) (fun a0 => (h (mk1 a0))) n x0 = (Faa.j10000.g mk0 mk1 n x0).map h := by
  unfold Faa.j10000.g
  exact (ite_map (ite_map rfl (ite_map (ite_map rfl (ite_map (ite_map rfl (ite_map (ite_map rfl rfl) rfl)) (ite_map (ite_map rfl rfl) rfl))) (ite_map (ite_map rfl (ite_map (ite_map rfl rfl) rfl)) (ite_map (ite_map rfl rfl) rfl)))) (ite_map (ite_map rfl (ite_map (ite_map rfl (ite_map (ite_map rfl rfl) rfl)) (ite_map (ite_map rfl rfl) rfl))) (ite_map (ite_map rfl (ite_map (ite_map rfl rfl) rfl)) (ite_map (ite_map rfl rfl) rfl))))
theorem Faa.j10000.pat_shape : ∀ st t, Faa.j10000.pat st = some t → st = Faa.j10000.shape t := fun _ _ h => by unfold Faa.j10000.pat at h; split at h <;> cases h; rfl
theorem Faa.j10000.run (n : Nat) (x0 : Int) : joinOf (Faa.C n) (Faa.A n) n Faa.jc0 ((St.mk [(.int .u8 x0)] [])) = Faa.j10000.g (fun a0 a1 a2 a3 => ((.ret, (St.mk [(.int .u8 a0), (.int .i64 a1), (.int .i64 a2), (.bool a3)] [])) : Ex × St)) (fun a0 => ((.normal, (St.mk [(.int .u8 a0), .any, .any, .any] [])) : Ex × St)) n x0 := by kernel_rfl
theorem Faa.j10000.join (n : Nat) (t : Int) : joinOf (Faa.C n) (Faa.A n) n Faa.jc0 (Faa.j10000.shape t) = (Faa.j10000.m n t).map Faa.j10000.res :=
  (Faa.j10000.run n t).trans (Faa.j10000.gmap Faa.j10000.res (fun a0 a1 a2 a3 => (.inl (a0, a1, a2, a3))) (fun a0 => (.inr a0)) n t)
theorem Faa.gmap {α β : Type} (h : β → α) (mk0 : Int → Int → Bool → β) (n : Nat) (a0 : Int) : Faa.g (fun a0 a1 a2 => (h (mk0 a0 a1 a2))) n a0 = (Faa.g mk0 n a0).map h := by
  unfold Faa.g
  exact (bindO_map fun r2 => match r2 with | (.inl r2) => rfl | (.inr r2) => (ite_map rfl (ite_map rfl (ite_map rfl (ite_map rfl (ite_map rfl (ite_map rfl (ite_map rfl (ite_map rfl (ite_map rfl (ite_map rfl (ite_map rfl (ite_map rfl (ite_map rfl (ite_map rfl (ite_map rfl (ite_map rfl (ite_map rfl (ite_map rfl (ite_map rfl (ite_map rfl (ite_map rfl (ite_map rfl (ite_map rfl (ite_map rfl (ite_map rfl (ite_map rfl (ite_map rfl (ite_map rfl (ite_map rfl (ite_map rfl (ite_map rfl (ite_map rfl (ite_map rfl (ite_map rfl (ite_map rfl (ite_map rfl (ite_map rfl (ite_map rfl (ite_map rfl (ite_map rfl (ite_map rfl (ite_map rfl (ite_map rfl (ite_map rfl (ite_map rfl (ite_map rfl (ite_map rfl (ite_map rfl (ite_map rfl (ite_map rfl (ite_map rfl (ite_map rfl (ite_map rfl (ite_map rfl (ite_map rfl (ite_map rfl (ite_map rfl (ite_map rfl (ite_map rfl (ite_map rfl (ite_map rfl (ite_map rfl (ite_map rfl (ite_map rfl (ite_map rfl (ite_map rfl (ite_map rfl (ite_map rfl (ite_map rfl (ite_map rfl (ite_map rfl (ite_map rfl (ite_map rfl rfl))))))))))))))))))))))))))))))))))))))))))))))))))))))))))))))))))))))))))
theorem Faa.run (n : Nat) (a0 : Int) : runF (Faa.C n) (Faa.A n) n Try.f19 [(.int .u8 a0)] [] (fun v o => some (v, o)) = Faa.g (fun a0 a1 a2 => (((.tup [(.int .i64 a0), (.int .i64 a1), (.bool a2)]), []) : AV × Blks)) n a0 := by kernel_rfl
theorem Faa.call (hmix : Try.prog.follows .mixedOrders = true) (n : Nat) (t : Int) (u) (h : Faa.m n t = some u) : FnC Try.prog (fun _ => .any) 19 (Faa.shape t).1 (Faa.shape t).2 (Faa.res u).1 (Faa.res u).2 :=
  fnC1 (C := Faa.C n) (A := Faa.A n) (fn := Try.f19) rfl .nil hmix Try.func19 (by kernel_rfl) (lp := []) (by kernel_rfl) .nil
  (by
    intro a ha m hm
    have hm' := lookJ_mem (show lookJ [(10000, .mk' Faa.j10000.pat (Faa.j10000.m n) Faa.j10000.resK)] (jkey a) = some m from hm)
    simp only [List.mem_cons, List.not_mem_nil, or_false, Prod.mk.injEq] at hm'
    rcases hm' with ⟨hk, rfl⟩
    · obtain rfl := only ha hk (c := Faa.jc0) (by kernel_rfl)
      exact JoinS.of (res := Faa.j10000.res) (fun R u K => by rcases u with u | u <;> rfl) Faa.j10000.pat_shape fun t => Faa.j10000.join n t) (by decide) rfl rfl (by show 1 ≤ Try.f19.ntmps; decide) (Faa.run n t) (Faa.gmap Faa.res (fun a0 a1 a2 => (a0, a1, a2)) n t) h
theorem Faa.s (hmix : Try.prog.follows .mixedOrders = true) (n : Nat) : CalleeS Try.prog (fun _ => .any) 19 (Faa.c n) :=
  .mk1 (res := Faa.res) (shape := Faa.shape) (fun R u K => rfl) (fun _ _ _ h => by unfold Faa.pat at h; split at h <;> cases h; rfl) (fun t u h => Faa.call hmix n t u h) Try.func19 (by decide) (by kernel_rfl)
end
section
theorem Fab.gmap {α β : Type} (h : β → α) (mk0 : Bool → β) (n : Nat)  : Fab.g (fun a0 => (h (mk0 a0))) n  = (Fab.g mk0 n ).map h := by
  unfold Fab.g
  exact (bindO_map fun r2 => (bindO_map fun r4 => (bindO_map fun r6 => (bindO_map fun r8 => (ite_map (ite_map (ite_map (ite_map (ite_map (ite_map (ite_map (ite_map (ite_map (ite_map (ite_map (bindO_map fun r32 => rfl) rfl) rfl) rfl) rfl) rfl) rfl) rfl) rfl) rfl) rfl) rfl)))))
theorem Fab.run (n : Nat)  : runF (Fab.C n) (Fab.A n) n Try.f21 [] [] (fun v o => some (v, o)) = Fab.g (fun a0 => (((.bool a0), []) : AV × Blks)) n  := by kernel_rfl
theorem Fab.call (hmix : Try.prog.follows .mixedOrders = true) (n : Nat) (t : Unit) (u) (h : Fab.m n t = some u) : FnC Try.prog (fun _ => .any) 21 (Fab.shape t).1 (Fab.shape t).2 (Fab.res u).1 (Fab.res u).2 :=
  fnC1 (C := Fab.C n) (A := Fab.A n) (fn := Try.f21) rfl (.cons (Fl.s hmix n) (.cons (Fz.s hmix n) (.cons (Faa.s hmix n) (.cons (Fbg.s hmix n) .nil)))) hmix Try.func21 (by kernel_rfl) (lp := []) (by kernel_rfl) .nil
  (nj rfl) (by decide) rfl rfl (by show 0 ≤ Try.f21.ntmps; decide) (Fab.run n ) (Fab.gmap Fab.res (fun a0 => a0) n ) h
theorem Fab.s (hmix : Try.prog.follows .mixedOrders = true) (n : Nat) : CalleeS Try.prog (fun _ => .any) 21 (Fab.c n) :=
  .mk1 (res := Fab.res) (shape := Fab.shape) (fun R u K => rfl) (fun _ _ _ h => by unfold Fab.pat at h; split at h <;> cases h; rfl) (fun t u h => Fab.call hmix n t u h) Try.func21 (by decide) (by kernel_rfl)
end
section
noncomputable section
noncomputable def Fbw.C (n : Nat) : Ctx := ⟨Try.prog, (fun _ => .any), lookC [], fun _ => false⟩
noncomputable def Fbw.A (n : Nat) : Ann := ⟨Try.f26.ntmps, 0, noNL, [], [none], fun k => match k with
 | _ => none, noNL, lookJ []⟩
def Fbw.g {α : Type} (mk0 : Int → α) (n : Nat) (a0 : LI) (a1 : Int) : Option α :=
 if (decide (a1 ≥ (IntKind.wrap .u64 (((List.length a0) : Nat) : Int)))) = true then
  some (mk0 0)
 else
  if 0 ≤ (IntKind.wrap .i64 a1) then
   if (IntKind.wrap .i64 a1) < (((List.length a0) : Nat) : Int) then
    some (mk0 (List.getD a0 (Int.toNat (IntKind.wrap .i64 a1)) 0))
   else
    none
  else
   none
def Fbw.m (n : Nat) (t : (LI × Int)) : Option Int := Fbw.g (fun a0 => a0) n t.1 t.2
def Fbw.pat : List AV → Blks → Option (LI × Int)
 | [(.rints .u8 a0), (.int .u64 a1)], [] => some (a0, a1)
 | _, _ => none
def Fbw.shape (t : (LI × Int)) : List AV × Blks := ([(.rints .u8 t.1), (.int .u64 t.2)], [])
def Fbw.res : Int → AV × Blks
 | u => ((.int .u8 u), [])
def Fbw.resK {R : Type} (u : Int) (K : AV → Blks → Option R) : Option R := K (Fbw.res u).1 (Fbw.res u).2
def Fbw.c (n : Nat) : Abs.Callee := .mk' [] [(some (.ints .u8)), none] Fbw.pat (Fbw.m n) Fbw.resK
end
end
section
noncomputable section
noncomputable def Fal.C (n : Nat) : Ctx := ⟨Try.prog, (fun _ => .any), lookC [], fun _ => false⟩
def Fal.live : NL := fun k => match k with
 | 4 => ([5, 4, 3, 0, 2], [3, 2])
 | _ => ([], [])
def Fal.l4_0.r {α : Type} (mk0 : LI → LI → α) (n : Nat) (rc : Int → Int → LI → LI → LI → Option α)  (x0 : Int) (x1 : Int) (x2 : LI) (x3 : LI) (x4 : LI) : Option α :=
  if (decide (x0 < 32)) = true then
   if (decide (x0 < x1)) = true then
    if 0 ≤ (IntKind.wrap .i64 (Int.tdiv x0 8)) then
     if (IntKind.wrap .i64 (Int.tdiv x0 8)) < 4 then
      if 0 ≤ (IntKind.wrap .i64 ((IntKind.wrap .i64 (x1 - 1)) - x0)) then
       if (IntKind.wrap .i64 ((IntKind.wrap .i64 (x1 - 1)) - x0)) < (((List.length x2) : Nat) : Int) then
        if 0 ≤ (IntKind.wrap .u64 (IntKind.wrap .i64 ((Int.tmod x0 8) * 8))) then
         if 0 ≤ (IntKind.wrap .i64 (Int.tdiv x0 8)) then
          if (IntKind.wrap .i64 (Int.tdiv x0 8)) < 4 then
           rc (IntKind.wrap .i64 (x0 + 1)) x1 x2 (List.set x3 (Int.toNat (IntKind.wrap .i64 (Int.tdiv x0 8))) (ibits BinOp.or .u64 (List.getD x3 (Int.toNat (IntKind.wrap .i64 (Int.tdiv x0 8))) 0) (ishl .u64 (IntKind.wrap .u64 (List.getD x2 (Int.toNat (IntKind.wrap .i64 ((IntKind.wrap .i64 (x1 - 1)) - x0))) 0)) (IntKind.wrap .u64 (IntKind.wrap .i64 ((Int.tmod x0 8) * 8)))))) x4
          else
           none
         else
          none
        else
         none
       else
        none
      else
       none
     else
      none
    else
     none
   else
    some (mk0 x3 x4)
  else
   some (mk0 x3 x4)
def Fal.l4_0.g {α : Type} (mk0 : LI → LI → α) (n : Nat) : Nat → Int → Int → LI → LI → LI → Option α
 | 0, _, _, _, _, _ => none
 | m + 1, x0, x1, x2, x3, x4 => Fal.l4_0.r mk0 n (fun y0 y1 y2 y3 y4 => Fal.l4_0.g mk0 n m y0 y1 y2 y3 y4)  x0 x1 x2 x3 x4
def Fal.l4_0.m (n m : Nat) (t : (Int × (Int × (LI × (LI × LI))))) : Option (LI × LI) := Fal.l4_0.g (fun a0 a1 => (a0, a1)) n m t.1 t.2.1 t.2.2.1 t.2.2.2.1 t.2.2.2.2
def Fal.l4_0.pat : St → Option (Int × (Int × (LI × (LI × LI))))
 | (St.mk [(.int .i64 x0), (.int .i64 x1), (.ptr 0 []), (.rints .u8 x2), (.ptr 1 [])] [(some (.var (.ints .u64 4 x3))), (some (.var (.ints .u64 4 x4)))]) => some (x0, x1, x2, x3, x4)
 | _ => none
def Fal.l4_0.shape (t : (Int × (Int × (LI × (LI × LI))))) : St := (St.mk [(.int .i64 t.1), (.int .i64 t.2.1), (.ptr 0 []), (.rints .u8 t.2.2.1), (.ptr 1 [])] [(some (.var (.ints .u64 4 t.2.2.2.1))), (some (.var (.ints .u64 4 t.2.2.2.2)))])
def Fal.l4_0.res : (LI × LI) → Ex × St
 | u => ((.exit 0), (St.mk [(.ptr 0 []), (.ptr 1 [])] [(some (.var (.ints .u64 4 u.1))), (some (.var (.ints .u64 4 u.2)))]))
def Fal.l4_0.resK {R : Type} (u : (LI × LI)) (K : Ex → St → Option R) : Option R := K (Fal.l4_0.res u).1 (Fal.l4_0.res u).2
noncomputable def Fal.A (n : Nat) : Ann := ⟨Try.f53.ntmps, 0, Fal.live, [(0, (.ints .u8))], [none], fun k => match k with
 | 4 => some (.mk' Fal.l4_0.pat (Fal.l4_0.m n n) Fal.l4_0.resK)
 | _ => none, noNL, lookJ []⟩
noncomputable def Fal.b0 : Code := (loopsIn (Try.f53.body.getD .skip)).getD 0 .skip
def Fal.g {α : Type} (mk0 : LI → α) (n : Nat) (a0 : LI) : Option α :=
 bindO (Fal.l4_0.m n n (0, (((List.length a0) : Nat) : Int), a0, [0, 0, 0, 0], [0, 0, 0, 0])) fun r2 =>
  some (mk0 r2.1)
def Fal.m (n : Nat) (t : LI) : Option LI := Fal.g (fun a0 => a0) n t
def Fal.pat : List AV → Blks → Option LI
 | [(.rints .u8 a0)], [] => some a0
 | _, _ => none
def Fal.shape (t : LI) : List AV × Blks := ([(.rints .u8 t)], [])
def Fal.res : LI → AV × Blks
 | u => ((.ints .u64 4 u), [])
def Fal.resK {R : Type} (u : LI) (K : AV → Blks → Option R) : Option R := K (Fal.res u).1 (Fal.res u).2
def Fal.c (n : Nat) : Abs.Callee := .mk' [] [(some (.ints .u8))] Fal.pat (Fal.m n) Fal.resK
end
end
section
noncomputable section
noncomputable def Fam.C (n : Nat) : Ctx := ⟨Try.prog, (fun _ => .any), lookC [(26, Fbw.c n), (53, Fal.c n)], fun _ => false⟩
def Fam.live : NL := fun k => match k with
 | 7 => ([9, 7, 8, 0, 1, 4], [8, 7, 4])
 | _ => ([], [])
def Fam.l7_0.r {α : Type} (mk0 : Int → LI → LI → α) (n : Nat) (rc : Int → Int → LI → Int → LI → LI → Option α)  (x0 : Int) (x1 : Int) (x2 : LI) (x3 : Int) (x4 : LI) (x5 : LI) : Option α :=
  if (decide (x0 ≤ x1)) = true then
   bindO (Fbw.m n (x2, (IntKind.wrap .u64 (x3 + x0)))) fun r6 =>
    if ((((List.length x4) + 1) * 1) ≤ 70368744177664 ∧ ((List.length x4) + 1) ≤ 9223372036854775807) then
     rc (IntKind.wrap .u64 (x0 + 1)) x1 x2 x3 (x4 ++ [r6]) x5
    else
     none
  else
   some (mk0 x1 x4 x5)
def Fam.l7_0.g {α : Type} (mk0 : Int → LI → LI → α) (n : Nat) : Nat → Int → Int → LI → Int → LI → LI → Option α
 | 0, _, _, _, _, _, _ => none
 | m + 1, x0, x1, x2, x3, x4, x5 => Fam.l7_0.r mk0 n (fun y0 y1 y2 y3 y4 y5 => Fam.l7_0.g mk0 n m y0 y1 y2 y3 y4 y5)  x0 x1 x2 x3 x4 x5
def Fam.l7_0.m (n m : Nat) (t : (Int × (Int × (LI × (Int × (LI × LI)))))) : Option (Int × (LI × LI)) := Fam.l7_0.g (fun a0 a1 a2 => (a0, a1, a2)) n m t.1 t.2.1 t.2.2.1 t.2.2.2.1 t.2.2.2.2.1 t.2.2.2.2.2
def Fam.l7_0.pat : St → Option (Int × (Int × (LI × (Int × (LI × LI)))))
 | (St.mk [(.int .u64 x0), (.int .u64 x1), (.own 0 1), (.rints .u8 x2), (.int .u64 x3), (.ptr 1 [])] [(some (.ints .u8 x4)), (some (.var (.ints .u64 4 x5)))]) => some (x0, x1, x2, x3, x4, x5)
 | _ => none
def Fam.l7_0.shape (t : (Int × (Int × (LI × (Int × (LI × LI)))))) : St := (St.mk [(.int .u64 t.1), (.int .u64 t.2.1), (.own 0 1), (.rints .u8 t.2.2.1), (.int .u64 t.2.2.2.1), (.ptr 1 [])] [(some (.ints .u8 t.2.2.2.2.1)), (some (.var (.ints .u64 4 t.2.2.2.2.2)))])
def Fam.l7_0.res : (Int × (LI × LI)) → Ex × St
 | u => ((.exit 0), (St.mk [(.own 0 1), (.int .u64 u.1), (.ptr 1 [])] [(some (.ints .u8 u.2.1)), (some (.var (.ints .u64 4 u.2.2)))]))
def Fam.l7_0.resK {R : Type} (u : (Int × (LI × LI))) (K : Ex → St → Option R) : Option R := K (Fam.l7_0.res u).1 (Fam.l7_0.res u).2
noncomputable def Fam.A (n : Nat) : Ann := ⟨Try.f24.ntmps, 0, Fam.live, [(0, (.ints .u8)), (8, (.ints .u8))], [none, none], fun k => match k with
 | 7 => some (.mk' Fam.l7_0.pat (Fam.l7_0.m n n) Fam.l7_0.resK)
 | _ => none, noNL, lookJ []⟩
noncomputable def Fam.b0 : Code := (loopsIn (Try.f24.body.getD .skip)).getD 0 .skip
def Fam.g {α : Type} (mk0 : LI → Int → α) (n : Nat) (a0 : LI) (a1 : Int) : Option α :=
 bindO (Fbw.m n (a0, a1)) fun r2 =>
  if (decide (r2 < 95)) = true then
   some (mk0 [0, 0, 0, 0] 0)
  else
   if (decide (r2 > 127)) = true then
    some (mk0 [0, 0, 0, 0] 0)
   else
    bindO (Fam.l7_0.m n n (1, (IntKind.wrap .u64 ((IntKind.wrap .u64 r2) - 95)), a0, a1, [], [0, 0, 0, 0])) fun r8 =>
     bindO (Fal.m n r8.2.1) fun r10 =>
      some (mk0 r10 r8.1)
def Fam.m (n : Nat) (t : (LI × Int)) : Option (LI × Int) := Fam.g (fun a0 a1 => (a0, a1)) n t.1 t.2
def Fam.pat : List AV → Blks → Option (LI × Int)
 | [(.rints .u8 a0), (.int .u64 a1)], [] => some (a0, a1)
 | _, _ => none
def Fam.shape (t : (LI × Int)) : List AV × Blks := ([(.rints .u8 t.1), (.int .u64 t.2)], [])
def Fam.res : (LI × Int) → AV × Blks
 | u => ((.tup [(.ints .u64 4 u.1), (.int .u64 u.2)]), [])
def Fam.resK {R : Type} (u : (LI × Int)) (K : AV → Blks → Option R) : Option R := K (Fam.res u).1 (Fam.res u).2
def Fam.c (n : Nat) : Abs.Callee := .mk' [] [(some (.ints .u8)), none] Fam.pat (Fam.m n) Fam.resK
end
end
section
noncomputable section
noncomputable def Fac.C (n : Nat) : Ctx := ⟨Try.prog, (fun _ => .any), lookC [(24, Fam.c n)], fun _ => false⟩
def Fac.live : NL := fun k => match k with
 | 3 => ([4, 0, 3], [3])
 | _ => ([], [])
def Fac.l3_0.r {α : Type} (mk0 : LI → α) (n : Nat) (rc : Int → LI → LI → Option α)  (x0 : Int) (x1 : LI) (x2 : LI) : Option α :=
  if (decide (x0 < (IntKind.wrap .u64 (((List.length x1) : Nat) : Int)))) = true then
   if 0 ≤ (IntKind.wrap .i64 x0) then
    if (IntKind.wrap .i64 x0) < (((List.length x1) : Nat) : Int) then
     if ((List.getD x1 (Int.toNat (IntKind.wrap .i64 x0)) 0) == 91) = true then
      if ((((List.length x2) + 1) * 8) ≤ 70368744177664 ∧ ((List.length x2) + 1) ≤ 9223372036854775807) then
       bindO (Fam.m n (x1, x0)) fun r14 =>
        rc (IntKind.wrap .u64 (x0 + (IntKind.wrap .u64 (1 + r14.2)))) x1 (x2 ++ [x0])
      else
       none
     else
      bindO (Fam.m n (x1, x0)) fun r12 =>
       rc (IntKind.wrap .u64 (x0 + (IntKind.wrap .u64 (1 + r12.2)))) x1 x2
    else
     none
   else
    none
  else
   some (mk0 x2)
def Fac.l3_0.g {α : Type} (mk0 : LI → α) (n : Nat) : Nat → Int → LI → LI → Option α
 | 0, _, _, _ => none
 | m + 1, x0, x1, x2 => Fac.l3_0.r mk0 n (fun y0 y1 y2 => Fac.l3_0.g mk0 n m y0 y1 y2)  x0 x1 x2
def Fac.l3_0.m (n m : Nat) (t : (Int × (LI × LI))) : Option LI := Fac.l3_0.g (fun a0 => a0) n m t.1 t.2.1 t.2.2
def Fac.l3_0.pat : St → Option (Int × (LI × LI))
 | (St.mk [(.int .u64 x0), (.rints .u8 x1), (.own 0 1)] [(some (.ints .u64 x2))]) => some (x0, x1, x2)
 | _ => none
def Fac.l3_0.shape (t : (Int × (LI × LI))) : St := (St.mk [(.int .u64 t.1), (.rints .u8 t.2.1), (.own 0 1)] [(some (.ints .u64 t.2.2))])
def Fac.l3_0.res : LI → Ex × St
 | u => ((.exit 0), (St.mk [(.own 0 1)] [(some (.ints .u64 u))]))
def Fac.l3_0.resK {R : Type} (u : LI) (K : Ex → St → Option R) : Option R := K (Fac.l3_0.res u).1 (Fac.l3_0.res u).2
noncomputable def Fac.A (n : Nat) : Ann := ⟨Try.f29.ntmps, 0, Fac.live, [(0, (.ints .u8)), (3, (.ints .u64))], [(some (.ints .u64))], fun k => match k with
 | 3 => some (.mk' Fac.l3_0.pat (Fac.l3_0.m n n) Fac.l3_0.resK)
 | _ => none, noNL, lookJ []⟩
noncomputable def Fac.b0 : Code := (loopsIn (Try.f29.body.getD .skip)).getD 0 .skip
def Fac.g {α : Type} (mk0 : LI → α) (n : Nat) (a0 : LI) : Option α :=
 bindO (Fac.l3_0.m n n (0, a0, [])) fun r2 =>
  some (mk0 r2)
def Fac.m (n : Nat) (t : LI) : Option LI := Fac.g (fun a0 => a0) n t
def Fac.pat : List AV → Blks → Option LI
 | [(.rints .u8 a0)], [] => some a0
 | _, _ => none
def Fac.shape (t : LI) : List AV × Blks := ([(.rints .u8 t)], [])
def Fac.res : LI → AV × Blks
 | u => ((.own 0 1), [(some (.ints .u64 u))])
def Fac.resK {R : Type} (u : LI) (K : AV → Blks → Option R) : Option R := K (Fac.res u).1 (Fac.res u).2
def Fac.c (n : Nat) : Abs.Callee := .mk' [] [(some (.ints .u8))] Fac.pat (Fac.m n) Fac.resK
end
end
section
theorem Fbw.gmap {α β : Type} (h : β → α) (mk0 : Int → β) (n : Nat) (a0 : LI) (a1 : Int) : Fbw.g (fun a0 => (h (mk0 a0))) n a0 a1 = (Fbw.g mk0 n a0 a1).map h := by
  unfold Fbw.g
  exact (ite_map rfl (ite_map (ite_map rfl rfl) rfl))
theorem Fbw.run (n : Nat) (a0 : LI) (a1 : Int) : runF (Fbw.C n) (Fbw.A n) n Try.f26 [(.rints .u8 a0), (.int .u64 a1)] [] (fun v o => some (v, o)) = Fbw.g (fun a0 => (((.int .u8 a0), []) : AV × Blks)) n a0 a1 := by kernel_rfl
theorem Fbw.call (hmix : Try.prog.follows .mixedOrders = true) (n : Nat) (t : (LI × Int)) (u) (h : Fbw.m n t = some u) : FnC Try.prog (fun _ => .any) 26 (Fbw.shape t).1 (Fbw.shape t).2 (Fbw.res u).1 (Fbw.res u).2 :=
  fnC1 (C := Fbw.C n) (A := Fbw.A n) (fn := Try.f26) rfl .nil hmix Try.func26 (by kernel_rfl) (lp := []) (by kernel_rfl) .nil
  (nj rfl) (by decide) rfl rfl (by show 2 ≤ Try.f26.ntmps; decide) (Fbw.run n t.1 t.2) (Fbw.gmap Fbw.res (fun a0 => a0) n t.1 t.2) h
theorem Fbw.s (hmix : Try.prog.follows .mixedOrders = true) (n : Nat) : CalleeS Try.prog (fun _ => .any) 26 (Fbw.c n) :=
  .mk1 (res := Fbw.res) (shape := Fbw.shape) (fun R u K => rfl) (fun _ _ _ h => by unfold Fbw.pat at h; split at h <;> cases h; rfl) (fun t u h => Fbw.call hmix n t u h) Try.func26 (by decide) (by kernel_rfl)
end
section
noncomputable abbrev Fal.R0 (n : Nat) := roundOf (Fal.C n) (Fal.A n) n Fal.b0
theorem Fal.l4_0.rmap {α β : Type} (h : β → α) (mk0 : LI → LI → β) (n : Nat) (f : Int → Int → LI → LI → LI → Option β)  (x0 : Int) (x1 : Int) (x2 : LI) (x3 : LI) (x4 : LI) : Fal.l4_0.r (fun a0 a1 => (h (mk0 a0 a1))) n (fun y0 y1 y2 y3 y4 => (f y0 y1 y2 y3 y4).map h) x0 x1 x2 x3 x4 = (Fal.l4_0.r mk0 n f x0 x1 x2 x3 x4).map h := by
  unfold Fal.l4_0.r
  exact (ite_map (ite_map (ite_map (ite_map (ite_map (ite_map (ite_map (ite_map (ite_map rfl rfl) rfl) rfl) rfl) rfl) rfl) rfl) rfl) rfl)
theorem Fal.l4_0.gmap {α β : Type} (h : β → α) (mk0 : LI → LI → β) (n : Nat) : ∀ (m : Nat) (x0 : Int) (x1 : Int) (x2 : LI) (x3 : LI) (x4 : LI), Fal.l4_0.g (fun a0 a1 => (h (mk0 a0 a1))) n m x0 x1 x2 x3 x4 = (Fal.l4_0.g mk0 n m x0 x1 x2 x3 x4).map h
  | 0, _, _, _, _, _ => rfl
  | m + 1, x0, x1, x2, x3, x4 => by
    unfold Fal.l4_0.g
    rw [← Fal.l4_0.rmap]
    congr
    · funext y0 y1 y2 y3 y4; exact Fal.l4_0.gmap h mk0 n m y0 y1 y2 y3 y4
theorem Fal.l4_0.pat_shape : ∀ st t, Fal.l4_0.pat st = some t → st = Fal.l4_0.shape t := fun _ _ h => by unfold Fal.l4_0.pat at h; split at h <;> cases h; rfl
def Fal.l4_0.k0 : LI → LI → Ex × St := (fun a0 a1 => (((.exit 0), (St.mk [(.ptr 0 []), (.ptr 1 [])] [(some (.var (.ints .u64 4 a0))), (some (.var (.ints .u64 4 a1)))])) : Ex × St))
theorem Fal.l4_0.round (n : Nat) (rc : St → Option (Ex × St)) (x0 : Int) (x1 : Int) (x2 : LI) (x3 : LI) (x4 : LI) : Fal.R0 n rc ((St.mk [(.int .i64 x0), (.int .i64 x1), (.ptr 0 []), (.rints .u8 x2), (.ptr 1 [])] [(some (.var (.ints .u64 4 x3))), (some (.var (.ints .u64 4 x4)))])) = Fal.l4_0.r Fal.l4_0.k0 n (fun y0 y1 y2 y3 y4 => rc ((St.mk [(.int .i64 y0), (.int .i64 y1), (.ptr 0 []), (.rints .u8 y2), (.ptr 1 [])] [(some (.var (.ints .u64 4 y3))), (some (.var (.ints .u64 4 y4)))]))) x0 x1 x2 x3 x4 := by kernel_rfl
theorem Fal.l4_0.loop' (n : Nat) : ∀ (m : Nat) (t : (Int × (Int × (LI × (LI × LI))))), loopOf (Fal.R0 n) m (Fal.l4_0.shape t) = Fal.l4_0.g Fal.l4_0.k0 n m t.1 t.2.1 t.2.2.1 t.2.2.2.1 t.2.2.2.2 :=
  loop_of_round (shape := Fal.l4_0.shape) (body := Fal.R0 n) (g := fun m t => Fal.l4_0.g Fal.l4_0.k0 n m t.1 t.2.1 t.2.2.1 t.2.2.2.1 t.2.2.2.2) (fun t => rfl)
    fun m t ih => (Fal.l4_0.round n (loopOf (Fal.R0 n) m) t.1 t.2.1 t.2.2.1 t.2.2.2.1 t.2.2.2.2).trans (congrFun (congrFun (congrFun (congrFun (congrFun (congrArg (Fal.l4_0.r Fal.l4_0.k0 n) (funext fun y0 => funext fun y1 => funext fun y2 => funext fun y3 => funext fun y4 => ih (y0, y1, y2, y3, y4))) t.1) t.2.1) t.2.2.1) t.2.2.2.1) t.2.2.2.2)
theorem Fal.l4_0.loop (n m : Nat) (t : (Int × (Int × (LI × (LI × LI))))) : loopOf (Fal.R0 n) m (Fal.l4_0.shape t) = (Fal.l4_0.m n m t).map Fal.l4_0.res :=
  (Fal.l4_0.loop' n m t).trans (Fal.l4_0.gmap Fal.l4_0.res (fun a0 a1 => (a0, a1)) n m t.1 t.2.1 t.2.2.1 t.2.2.2.1 t.2.2.2.2)
theorem Fal.gmap {α β : Type} (h : β → α) (mk0 : LI → β) (n : Nat) (a0 : LI) : Fal.g (fun a0 => (h (mk0 a0))) n a0 = (Fal.g mk0 n a0).map h := by
  unfold Fal.g
  exact (bindO_map fun r2 => rfl)
theorem Fal.run (n : Nat) (a0 : LI) : runF (Fal.C n) (Fal.A n) n Try.f53 [(.rints .u8 a0)] [] (fun v o => some (v, o)) = Fal.g (fun a0 => (((.ints .u64 4 a0), []) : AV × Blks)) n a0 := by kernel_rfl
theorem Fal.call (hmix : Try.prog.follows .mixedOrders = true) (n : Nat) (t : LI) (u) (h : Fal.m n t = some u) : FnC Try.prog (fun _ => .any) 53 (Fal.shape t).1 (Fal.shape t).2 (Fal.res u).1 (Fal.res u).2 :=
  fnC1 (C := Fal.C n) (A := Fal.A n) (fn := Try.f53) rfl .nil hmix Try.func53 (by kernel_rfl) (lp := [Fal.b0]) (by kernel_rfl) (.cons (show (Fal.A n).loop (key Fal.b0) = some (.mk' Fal.l4_0.pat (Fal.l4_0.m n n) Fal.l4_0.resK) by kernel_rfl) (LoopS.of (res := Fal.l4_0.res) (fun R u K => rfl) Fal.l4_0.pat_shape fun t => Fal.l4_0.loop n n t)
  .nil)
  (nj rfl) (by decide) rfl rfl (by show 1 ≤ Try.f53.ntmps; decide) (Fal.run n t) (Fal.gmap Fal.res (fun a0 => a0) n t) h
theorem Fal.s (hmix : Try.prog.follows .mixedOrders = true) (n : Nat) : CalleeS Try.prog (fun _ => .any) 53 (Fal.c n) :=
  .mk1 (res := Fal.res) (shape := Fal.shape) (fun R u K => rfl) (fun _ _ _ h => by unfold Fal.pat at h; split at h <;> cases h; rfl) (fun t u h => Fal.call hmix n t u h) Try.func53 (by decide) (by kernel_rfl)
end
section
noncomputable abbrev Fam.R0 (n : Nat) := roundOf (Fam.C n) (Fam.A n) n Fam.b0
theorem Fam.l7_0.rmap {α β : Type} (h : β → α) (mk0 : Int → LI → LI → β) (n : Nat) (f : Int → Int → LI → Int → LI → LI → Option β)  (x0 : Int) (x1 : Int) (x2 : LI) (x3 : Int) (x4 : LI) (x5 : LI) : Fam.l7_0.r (fun a0 a1 a2 => (h (mk0 a0 a1 a2))) n (fun y0 y1 y2 y3 y4 y5 => (f y0 y1 y2 y3 y4 y5).map h) x0 x1 x2 x3 x4 x5 = (Fam.l7_0.r mk0 n f x0 x1 x2 x3 x4 x5).map h := by
  unfold Fam.l7_0.r
  exact (ite_map (bindO_map fun r6 => (ite_map rfl rfl)) rfl)
theorem Fam.l7_0.gmap {α β : Type} (h : β → α) (mk0 : Int → LI → LI → β) (n : Nat) : ∀ (m : Nat) (x0 : Int) (x1 : Int) (x2 : LI) (x3 : Int) (x4 : LI) (x5 : LI), Fam.l7_0.g (fun a0 a1 a2 => (h (mk0 a0 a1 a2))) n m x0 x1 x2 x3 x4 x5 = (Fam.l7_0.g mk0 n m x0 x1 x2 x3 x4 x5).map h
  | 0, _, _, _, _, _, _ => rfl
  | m + 1, x0, x1, x2, x3, x4, x5 => by
    unfold Fam.l7_0.g
    rw [← Fam.l7_0.rmap]
    congr
    · funext y0 y1 y2 y3 y4 y5; exact Fam.l7_0.gmap h mk0 n m y0 y1 y2 y3 y4 y5
theorem Fam.l7_0.pat_shape : ∀ st t, Fam.l7_0.pat st = some t → st = Fam.l7_0.shape t := fun _ _ h => by unfold Fam.l7_0.pat at h; split at h <;> cases h; rfl
def Fam.l7_0.k0 : Int → LI → LI → Ex × St := (fun a0 a1 a2 => (((.exit 0), (St.mk [(.own 0 1), (.int .u64 a0), (.ptr 1 [])] [(some (.ints .u8 a1)), (some (.var (.ints .u64 4 a2)))])) : Ex × St))
theorem Fam.l7_0.round (n : Nat) (rc : St → Option (Ex × St)) (x0 : Int) (x1 : Int) (x2 : LI) (x3 : Int) (x4 : LI) (x5 : LI) : Fam.R0 n rc ((St.mk [(.int .u64 x0), (.int .u64 x1), (.own 0 1), (.rints .u8 x2), (.int .u64 x3), (.ptr 1 [])] [(some (.ints .u8 x4)), (some (.var (.ints .u64 4 x5)))])) = Fam.l7_0.r Fam.l7_0.k0 n (fun y0 y1 y2 y3 y4 y5 => rc ((St.mk [(.int .u64 y0), (.int .u64 y1), (.own 0 1), (.rints .u8 y2), (.int .u64 y3), (.ptr 1 [])] [(some (.ints .u8 y4)), (some (.var (.ints .u64 4 y5)))]))) x0 x1 x2 x3 x4 x5 := by kernel_rfl
theorem Fam.l7_0.loop' (n : Nat) : ∀ (m : Nat) (t : (Int × (Int × (LI × (Int × (LI × LI)))))), loopOf (Fam.R0 n) m (Fam.l7_0.shape t) = Fam.l7_0.g Fam.l7_0.k0 n m t.1 t.2.1 t.2.2.1 t.2.2.2.1 t.2.2.2.2.1 t.2.2.2.2.2 :=
  loop_of_round (shape := Fam.l7_0.shape) (body := Fam.R0 n) (g := fun m t => Fam.l7_0.g Fam.l7_0.k0 n m t.1 t.2.1 t.2.2.1 t.2.2.2.1 t.2.2.2.2.1 t.2.2.2.2.2) (fun t => rfl)
    fun m t ih => (Fam.l7_0.round n (loopOf (Fam.R0 n) m) t.1 t.2.1 t.2.2.1 t.2.2.2.1 t.2.2.2.2.1 t.2.2.2.2.2).trans (congrFun (congrFun (congrFun (congrFun (congrFun (congrFun (congrArg (Fam.l7_0.r Fam.l7_0.k0 n) (funext fun y0 => funext fun y1 => funext fun y2 => funext fun y3 => funext fun y4 => funext fun y5 => ih (y0, y1, y2, y3, y4, y5))) t.1) t.2.1) t.2.2.1) t.2.2.2.1) t.2.2.2.2.1) t.2.2.2.2.2)
theorem Fam.l7_0.loop (n m : Nat) (t : (Int × (Int × (LI × (Int × (LI × LI)))))) : loopOf (Fam.R0 n) m (Fam.l7_0.shape t) = (Fam.l7_0.m n m t).map Fam.l7_0.res :=
  (Fam.l7_0.loop' n m t).trans (Fam.l7_0.gmap Fam.l7_0.res (fun a0 a1 a2 => (a0, a1, a2)) n m t.1 t.2.1 t.2.2.1 t.2.2.2.1 t.2.2.2.2.1 t.2.2.2.2.2)
theorem Fam.gmap {α β : Type} (h : β → α) (mk0 : LI → Int → β) (n : Nat) (a0 : LI) (a1 : Int) : Fam.g (fun a0 a1 => (h (mk0 a0 a1))) n a0 a1 = (Fam.g mk0 n a0 a1).map h := by
  unfold Fam.g
  exact (bindO_map fun r2 => (ite_map rfl (ite_map rfl (bindO_map fun r8 => (bindO_map fun r10 => rfl)))))
theorem Fam.run (n : Nat) (a0 : LI) (a1 : Int) : runF (Fam.C n) (Fam.A n) n Try.f24 [(.rints .u8 a0), (.int .u64 a1)] [] (fun v o => some (v, o)) = Fam.g (fun a0 a1 => (((.tup [(.ints .u64 4 a0), (.int .u64 a1)]), []) : AV × Blks)) n a0 a1 := by kernel_rfl
theorem Fam.call (hmix : Try.prog.follows .mixedOrders = true) (n : Nat) (t : (LI × Int)) (u) (h : Fam.m n t = some u) : FnC Try.prog (fun _ => .any) 24 (Fam.shape t).1 (Fam.shape t).2 (Fam.res u).1 (Fam.res u).2 :=
  fnC1 (C := Fam.C n) (A := Fam.A n) (fn := Try.f24) rfl (.cons (Fbw.s hmix n) (.cons (Fal.s hmix n) .nil)) hmix Try.func24 (by kernel_rfl) (lp := [Fam.b0]) (by kernel_rfl) (.cons (show (Fam.A n).loop (key Fam.b0) = some (.mk' Fam.l7_0.pat (Fam.l7_0.m n n) Fam.l7_0.resK) by kernel_rfl) (LoopS.of (res := Fam.l7_0.res) (fun R u K => rfl) Fam.l7_0.pat_shape fun t => Fam.l7_0.loop n n t)
  .nil)
  (nj rfl) (by decide) rfl rfl (by show 2 ≤ Try.f24.ntmps; decide) (Fam.run n t.1 t.2) (Fam.gmap Fam.res (fun a0 a1 => (a0, a1)) n t.1 t.2) h
theorem Fam.s (hmix : Try.prog.follows .mixedOrders = true) (n : Nat) : CalleeS Try.prog (fun _ => .any) 24 (Fam.c n) :=
  .mk1 (res := Fam.res) (shape := Fam.shape) (fun R u K => rfl) (fun _ _ _ h => by unfold Fam.pat at h; split at h <;> cases h; rfl) (fun t u h => Fam.call hmix n t u h) Try.func24 (by decide) (by kernel_rfl)
end
section
noncomputable abbrev Fac.R0 (n : Nat) := roundOf (Fac.C n) (Fac.A n) n Fac.b0
theorem Fac.l3_0.rmap {α β : Type} (h : β → α) (mk0 : LI → β) (n : Nat) (f : Int → LI → LI → Option β)  (x0 : Int) (x1 : LI) (x2 : LI) : Fac.l3_0.r (fun a0 => (h (mk0 a0))) n (fun y0 y1 y2 => (f y0 y1 y2).map h) x0 x1 x2 = (Fac.l3_0.r mk0 n f x0 x1 x2).map h := by
  unfold Fac.l3_0.r
  exact (ite_map (ite_map (ite_map (ite_map (ite_map (bindO_map fun r14 => rfl) rfl) (bindO_map fun r12 => rfl)) rfl) rfl) rfl)
theorem Fac.l3_0.gmap {α β : Type} (h : β → α) (mk0 : LI → β) (n : Nat) : ∀ (m : Nat) (x0 : Int) (x1 : LI) (x2 : LI), Fac.l3_0.g (fun a0 => (h (mk0 a0))) n m x0 x1 x2 = (Fac.l3_0.g mk0 n m x0 x1 x2).map h
  | 0, _, _, _ => rfl
  | m + 1, x0, x1, x2 => by
    unfold Fac.l3_0.g
    rw [← Fac.l3_0.rmap]
    congr
    · funext y0 y1 y2; exact Fac.l3_0.gmap h mk0 n m y0 y1 y2
theorem Fac.l3_0.pat_shape : ∀ st t, Fac.l3_0.pat st = some t → st = Fac.l3_0.shape t := fun _ _ h => by unfold Fac.l3_0.pat at h; split at h <;> cases h; rfl
def Fac.l3_0.k0 : LI → Ex × St := (fun a0 => (((.exit 0), (St.mk [(.own 0 1)] [(some (.ints .u64 a0))])) : Ex × St))
theorem Fac.l3_0.round (n : Nat) (rc : St → Option (Ex × St)) (x0 : Int) (x1 : LI) (x2 : LI) : Fac.R0 n rc ((St.mk [(.int .u64 x0), (.rints .u8 x1), (.own 0 1)] [(some (.ints .u64 x2))])) = Fac.l3_0.r Fac.l3_0.k0 n (fun y0 y1 y2 => rc ((St.mk [(.int .u64 y0), (.rints .u8 y1), (.own 0 1)] [(some (.ints .u64 y2))]))) x0 x1 x2 := by kernel_rfl
theorem Fac.l3_0.loop' (n : Nat) : ∀ (m : Nat) (t : (Int × (LI × LI))), loopOf (Fac.R0 n) m (Fac.l3_0.shape t) = Fac.l3_0.g Fac.l3_0.k0 n m t.1 t.2.1 t.2.2 :=
  loop_of_round (shape := Fac.l3_0.shape) (body := Fac.R0 n) (g := fun m t => Fac.l3_0.g Fac.l3_0.k0 n m t.1 t.2.1 t.2.2) (fun t => rfl)
    fun m t ih => (Fac.l3_0.round n (loopOf (Fac.R0 n) m) t.1 t.2.1 t.2.2).trans (congrFun (congrFun (congrFun (congrArg (Fac.l3_0.r Fac.l3_0.k0 n) (funext fun y0 => funext fun y1 => funext fun y2 => ih (y0, y1, y2))) t.1) t.2.1) t.2.2)
theorem Fac.l3_0.loop (n m : Nat) (t : (Int × (LI × LI))) : loopOf (Fac.R0 n) m (Fac.l3_0.shape t) = (Fac.l3_0.m n m t).map Fac.l3_0.res :=
  (Fac.l3_0.loop' n m t).trans (Fac.l3_0.gmap Fac.l3_0.res (fun a0 => a0) n m t.1 t.2.1 t.2.2)
theorem Fac.gmap {α β : Type} (h : β → α) (mk0 : LI → β) (n : Nat) (a0 : LI) : Fac.g (fun a0 => (h (mk0 a0))) n a0 = (Fac.g mk0 n a0).map h := by
  unfold Fac.g
  exact (bindO_map fun r2 => rfl)
theorem Fac.run (n : Nat) (a0 : LI) : runF (Fac.C n) (Fac.A n) n Try.f29 [(.rints .u8 a0)] [] (fun v o => some (v, o)) = Fac.g (fun a0 => (((.own 0 1), [(some (.ints .u64 a0))]) : AV × Blks)) n a0 := by kernel_rfl
theorem Fac.call (hmix : Try.prog.follows .mixedOrders = true) (n : Nat) (t : LI) (u) (h : Fac.m n t = some u) : FnC Try.prog (fun _ => .any) 29 (Fac.shape t).1 (Fac.shape t).2 (Fac.res u).1 (Fac.res u).2 :=
  fnC1 (C := Fac.C n) (A := Fac.A n) (fn := Try.f29) rfl (.cons (Fam.s hmix n) .nil) hmix Try.func29 (by kernel_rfl) (lp := [Fac.b0]) (by kernel_rfl) (.cons (show (Fac.A n).loop (key Fac.b0) = some (.mk' Fac.l3_0.pat (Fac.l3_0.m n n) Fac.l3_0.resK) by kernel_rfl) (LoopS.of (res := Fac.l3_0.res) (fun R u K => rfl) Fac.l3_0.pat_shape fun t => Fac.l3_0.loop n n t)
  .nil)
  (nj rfl) (by decide) rfl rfl (by show 1 ≤ Try.f29.ntmps; decide) (Fac.run n t) (Fac.gmap Fac.res (fun a0 => a0) n t) h
theorem Fac.s (hmix : Try.prog.follows .mixedOrders = true) (n : Nat) : CalleeS Try.prog (fun _ => .any) 29 (Fac.c n) :=
  .mk1 (res := Fac.res) (shape := Fac.shape) (fun R u K => rfl) (fun _ _ _ h => by unfold Fac.pat at h; split at h <;> cases h; rfl) (fun t u h => Fac.call hmix n t u h) Try.func29 (by decide) (by kernel_rfl)
end
section
noncomputable section
def Fbf.m (n : Nat) (t : List Int × List Int) : Option Bool := match t with
 | (b, [x0, x1, x2, x3]) => if b.length ≤ 100000 then (if 0 ≤ x0 then some (cMay b x0 x1 x2 x3) else none) else none
 | _ => none
def Fbf.pat : List AV → Blks → Option (List Int × List Int)
 | [(.rints .u8 a0), (.ints .u64 4 a1)], [] => some (a0, a1)
 | _, _ => none
def Fbf.shape (t : List Int × List Int) : List AV × Blks := ([(.rints .u8 t.1), (.ints .u64 4 t.2)], [])
def Fbf.res : Bool → AV × Blks
 | u => ((.bool u), [])
def Fbf.resK {R : Type} (u : Bool) (K : AV → Blks → Option R) : Option R := K (Fbf.res u).1 (Fbf.res u).2
def Fbf.c (n : Nat) : Abs.Callee := .mk' [] [some (.ints .u8), none] Fbf.pat (Fbf.m n) Fbf.resK
end
end
section
theorem Fbf.ok (n : Nat) (t) (u) (h : Fbf.m n t = some u) : FnOK Try.prog (fun _ => .any) 27 (Fbf.shape t).1 (Fbf.shape t).2 (Fbf.res u).1 (Fbf.res u).2 := by
  unfold Fbf.m at h
  split at h
  · split at h
    · rename_i hl
      split at h
      · rename_i h0
        cases h
        exact may_ok _ _ _ _ _ hl h0
      · cases h
    · cases h
  · cases h
theorem Fbf.s (hmix : Try.prog.follows .mixedOrders = true) (n : Nat) : CalleeS Try.prog (fun _ => .any) 27 (Fbf.c n) :=
  CalleeS.of (res := Fbf.res) (shape := Fbf.shape) (fun R u K => rfl) (fun args lent t h => by
    unfold Fbf.pat at h
    split at h
    · cases h; rfl
    · cases h) fun t u h => Fbf.ok n t u h
end
section
noncomputable section
noncomputable def Fc.C (n : Nat) : Ctx := ⟨Try.prog, (fun _ => .any), lookC [(22, Fl.c n), (29, Fac.c n), (21, Fab.c n), (27, Fbf.c n)], fun _ => false⟩
def Fc.live : NL := fun k => match k with
 | 9 => ([6, 0, 5, 3, 4], [2, 3, 4, 5])
 | 18 => ([9, 3, 4, 5], [2, 5, 3])
 | _ => ([], [])
def Fc.l9_0.r {α : Type} (mk0 : Bool → Int → LI → LI → α) (mk1 : Int → LI → LI → α) (n : Nat) (rc : Int → LI → Int → LI → LI → Option α)  (x0 : Int) (x1 : LI) (x2 : Int) (x3 : LI) (x4 : LI) : Option α :=
  if (decide (x0 < (((List.length x1) : Nat) : Int))) = true then
   bindO (Fbf.m n (x1, [(IntKind.wrap .u64 x0), 0, 0, 0])) fun r6 =>
    if (decide (x2 < (((List.length x3) : Nat) : Int))) = true then
     if 0 ≤ x2 then
      if x2 < (((List.length x3) : Nat) : Int) then
       if ((List.getD x3 (Int.toNat x2) 0) == (IntKind.wrap .u64 x0)) = true then
        if (!(r6 == ((List.getD x3 (Int.toNat x2) 0) == (IntKind.wrap .u64 x0)))) = true then
         some (mk0 false (IntKind.wrap .i64 (x2 + 1)) x3 x4)
        else
         rc (IntKind.wrap .i64 (x0 + 1)) x1 (IntKind.wrap .i64 (x2 + 1)) x3 x4
       else
        if (!(r6 == ((List.getD x3 (Int.toNat x2) 0) == (IntKind.wrap .u64 x0)))) = true then
         some (mk0 false x2 x3 x4)
        else
         rc (IntKind.wrap .i64 (x0 + 1)) x1 x2 x3 x4
      else
       none
     else
      none
    else
     if (!(r6 == false)) = true then
      some (mk0 false x2 x3 x4)
     else
      rc (IntKind.wrap .i64 (x0 + 1)) x1 x2 x3 x4
  else
   some (mk1 x2 x3 x4)
def Fc.l9_0.g {α : Type} (mk0 : Bool → Int → LI → LI → α) (mk1 : Int → LI → LI → α) (n : Nat) : Nat → Int → LI → Int → LI → LI → Option α
 | 0, _, _, _, _, _ => none
 | m + 1, x0, x1, x2, x3, x4 => Fc.l9_0.r mk0 mk1 n (fun y0 y1 y2 y3 y4 => Fc.l9_0.g mk0 mk1 n m y0 y1 y2 y3 y4)  x0 x1 x2 x3 x4
def Fc.l9_0.m (n m : Nat) (t : (Int × (LI × (Int × (LI × LI))))) : Option ((Bool × (Int × (LI × LI))) ⊕ (Int × (LI × LI))) := Fc.l9_0.g (fun a0 a1 a2 a3 => (.inl (a0, a1, a2, a3))) (fun a0 a1 a2 => (.inr (a0, a1, a2))) n m t.1 t.2.1 t.2.2.1 t.2.2.2.1 t.2.2.2.2
def Fc.l9_0.pat : St → Option (Int × (LI × (Int × (LI × LI))))
 | (St.mk [(.int .i64 x0), (.rints .u8 x1), (.int .i64 x2), (.own 0 1), (.own 1 1)] [(some (.ints .u64 x3)), (some (.ints .u64 x4))]) => some (x0, x1, x2, x3, x4)
 | _ => none
def Fc.l9_0.shape (t : (Int × (LI × (Int × (LI × LI))))) : St := (St.mk [(.int .i64 t.1), (.rints .u8 t.2.1), (.int .i64 t.2.2.1), (.own 0 1), (.own 1 1)] [(some (.ints .u64 t.2.2.2.1)), (some (.ints .u64 t.2.2.2.2))])
def Fc.l9_0.res : ((Bool × (Int × (LI × LI))) ⊕ (Int × (LI × LI))) → Ex × St
 | (.inl u) => (.ret, (St.mk [(.bool u.1), (.own 0 1), (.own 1 1), (.int .i64 u.2.1)] [(some (.ints .u64 u.2.2.1)), (some (.ints .u64 u.2.2.2))]))
 | (.inr u) => ((.exit 0), (St.mk [.any, (.own 0 1), (.own 1 1), (.int .i64 u.1)] [(some (.ints .u64 u.2.1)), (some (.ints .u64 u.2.2))]))
def Fc.l9_0.resK {R : Type} (u : ((Bool × (Int × (LI × LI))) ⊕ (Int × (LI × LI)))) (K : Ex → St → Option R) : Option R := match u with
 | (.inl u) => (fun p : Ex × St => K p.1 p.2) (.ret, (St.mk [(.bool u.1), (.own 0 1), (.own 1 1), (.int .i64 u.2.1)] [(some (.ints .u64 u.2.2.1)), (some (.ints .u64 u.2.2.2))]))
 | (.inr u) => (fun p : Ex × St => K p.1 p.2) ((.exit 0), (St.mk [.any, (.own 0 1), (.own 1 1), (.int .i64 u.1)] [(some (.ints .u64 u.2.1)), (some (.ints .u64 u.2.2))]))
def Fc.l18_0.r {α : Type} (mk0 : Bool → Int → LI → α) (mk1 : Int → LI → α) (n : Nat) (rc : Int → Int → LI → LI → Option α)  (x0 : Int) (x1 : Int) (x2 : LI) (x3 : LI) : Option α :=
  if (decide (x0 < (((List.length x2) : Nat) : Int))) = true then
   if 0 ≤ x0 then
    if x0 < (((List.length x2) : Nat) : Int) then
     if 0 ≤ x0 then
      if x0 < (((List.length x3) : Nat) : Int) then
       if ((List.getD x2 (Int.toNat x0) 0) != (List.getD x3 (Int.toNat x0) 0)) = true then
        some (mk0 false x1 x2)
       else
        rc (IntKind.wrap .i64 (x0 + 1)) x1 x2 x3
      else
       none
     else
      none
    else
     none
   else
    none
  else
   some (mk1 x1 x2)
def Fc.l18_0.g {α : Type} (mk0 : Bool → Int → LI → α) (mk1 : Int → LI → α) (n : Nat) : Nat → Int → Int → LI → LI → Option α
 | 0, _, _, _, _ => none
 | m + 1, x0, x1, x2, x3 => Fc.l18_0.r mk0 mk1 n (fun y0 y1 y2 y3 => Fc.l18_0.g mk0 mk1 n m y0 y1 y2 y3)  x0 x1 x2 x3
def Fc.l18_0.m (n m : Nat) (t : (Int × (Int × (LI × LI)))) : Option ((Bool × (Int × LI)) ⊕ (Int × LI)) := Fc.l18_0.g (fun a0 a1 a2 => (.inl (a0, a1, a2))) (fun a0 a1 => (.inr (a0, a1))) n m t.1 t.2.1 t.2.2.1 t.2.2.2
def Fc.l18_0.pat : St → Option (Int × (Int × (LI × LI)))
 | (St.mk [(.int .i64 x0), (.own 0 1), (.own 1 1), (.int .i64 x1)] [(some (.ints .u64 x2)), (some (.ints .u64 x3))]) => some (x0, x1, x2, x3)
 | _ => none
def Fc.l18_0.shape (t : (Int × (Int × (LI × LI)))) : St := (St.mk [(.int .i64 t.1), (.own 0 1), (.own 1 1), (.int .i64 t.2.1)] [(some (.ints .u64 t.2.2.1)), (some (.ints .u64 t.2.2.2))])
def Fc.l18_0.res : ((Bool × (Int × LI)) ⊕ (Int × LI)) → Ex × St
 | (.inl u) => (.ret, (St.mk [(.bool u.1), (.int .i64 u.2.1), (.own 0 1)] [(some (.ints .u64 u.2.2))]))
 | (.inr u) => ((.exit 2), (St.mk [.any, (.int .i64 u.1), (.own 0 1)] [(some (.ints .u64 u.2))]))
def Fc.l18_0.resK {R : Type} (u : ((Bool × (Int × LI)) ⊕ (Int × LI))) (K : Ex → St → Option R) : Option R := match u with
 | (.inl u) => (fun p : Ex × St => K p.1 p.2) (.ret, (St.mk [(.bool u.1), (.int .i64 u.2.1), (.own 0 1)] [(some (.ints .u64 u.2.2))]))
 | (.inr u) => (fun p : Ex × St => K p.1 p.2) ((.exit 2), (St.mk [.any, (.int .i64 u.1), (.own 0 1)] [(some (.ints .u64 u.2))]))
noncomputable def Fc.A (n : Nat) : Ann := ⟨Try.f8.ntmps, 0, Fc.live, [(0, (.ints .u8)), (3, (.ints .u64)), (4, (.ints .u64))], [none], fun k => match k with
 | 9 => some (.mk' Fc.l9_0.pat (Fc.l9_0.m n n) Fc.l9_0.resK)
 | 18 => some (.mk' Fc.l18_0.pat (Fc.l18_0.m n n) Fc.l18_0.resK)
 | _ => none, noNL, lookJ []⟩
noncomputable def Fc.b0 : Code := (loopsIn (Try.f8.body.getD .skip)).getD 0 .skip
noncomputable def Fc.b1 : Code := (loopsIn (Try.f8.body.getD .skip)).getD 1 .skip
def Fc.g {α : Type} (mk0 : Bool → α) (n : Nat) (a0 : LI) : Option α :=
 if (decide ((((List.length a0) : Nat) : Int) > 500)) = true then
  some (mk0 true)
 else
  bindO (Fl.m n a0) fun r4 =>
   bindO (Fac.m n a0) fun r6 =>
    if ((((List.length r4) : Nat) : Int) != (((List.length r6) : Nat) : Int)) = true then
     some (mk0 false)
    else
     bindO (Fab.m n Unit.unit) fun r10 =>
      if (!r10) = true then
       some (mk0 false)
      else
       bindO (Fc.l9_0.m n n (0, a0, 0, r4, r6)) fun r14 => match r14 with
        | (.inl r14) =>
         some (mk0 r14.1)
        | (.inr r14) =>
         bindO (Fc.l18_0.m n n (0, r14.1, r14.2.1, r14.2.2)) fun r18 => match r18 with
          | (.inl r18) =>
           some (mk0 r18.1)
          | (.inr r18) =>
           some (mk0 (r18.1 == (((List.length r18.2) : Nat) : Int)))
def Fc.m (n : Nat) (t : LI) : Option Bool := Fc.g (fun a0 => a0) n t
def Fc.shape (t : LI) : List AV × Blks := ([(.rints .u8 t)], [])
def Fc.res : Bool → AV × Blks
 | u => ((.bool u), [])
end
end
section
noncomputable abbrev Fc.R0 (n : Nat) := roundOf (Fc.C n) (Fc.A n) n Fc.b0
noncomputable abbrev Fc.R1 (n : Nat) := roundOf (Fc.C n) (Fc.A n) n Fc.b1
theorem Fc.l9_0.rmap {α β : Type} (h : β → α) (mk0 : Bool → Int → LI → LI → β) (mk1 : Int → LI → LI → β) (n : Nat) (f : Int → LI → Int → LI → LI → Option β)  (x0 : Int) (x1 : LI) (x2 : Int) (x3 : LI) (x4 : LI) : Fc.l9_0.r (fun a0 a1 a2 a3 => (h (mk0 a0 a1 a2 a3))) (fun a0 a1 a2 => (h (mk1 a0 a1 a2))) n (fun y0 y1 y2 y3 y4 => (f y0 y1 y2 y3 y4).map h) x0 x1 x2 x3 x4 = (Fc.l9_0.r mk0 mk1 n f x0 x1 x2 x3 x4).map h := by
  unfold Fc.l9_0.r
  exact (ite_map (bindO_map fun r6 => (ite_map (ite_map (ite_map (ite_map (ite_map rfl rfl) (ite_map rfl rfl)) rfl) rfl) (ite_map rfl rfl))) rfl)
theorem Fc.l9_0.gmap {α β : Type} (h : β → α) (mk0 : Bool → Int → LI → LI → β) (mk1 : Int → LI → LI → β) (n : Nat) : ∀ (m : Nat) (x0 : Int) (x1 : LI) (x2 : Int) (x3 : LI) (x4 : LI), Fc.l9_0.g (fun a0 a1 a2 a3 => (h (mk0 a0 a1 a2 a3))) (fun a0 a1 a2 => (h (mk1 a0 a1 a2))) n m x0 x1 x2 x3 x4 = (Fc.l9_0.g mk0 mk1 n m x0 x1 x2 x3 x4).map h
  | 0, _, _, _, _, _ => rfl
  | m + 1, x0, x1, x2, x3, x4 => by
    unfold Fc.l9_0.g
    rw [← Fc.l9_0.rmap]
    congr
    · funext y0 y1 y2 y3 y4; exact Fc.l9_0.gmap h mk0 mk1 n m y0 y1 y2 y3 y4
theorem Fc.l9_0.pat_shape : ∀ st t, Fc.l9_0.pat st = some t → st = Fc.l9_0.shape t := fun _ _ h => by unfold Fc.l9_0.pat at h; split at h <;> cases h; rfl
def Fc.l9_0.k0 : Bool → Int → LI → LI → Ex × St := (fun a0 a1 a2 a3 => ((.ret, (St.mk [(.bool a0), (.own 0 1), (.own 1 1), (.int .i64 a1)] [(some (.ints .u64 a2)), (some (.ints .u64 a3))])) : Ex × St))
def Fc.l9_0.k1 : Int → LI → LI → Ex × St := (fun a0 a1 a2 => (((.exit 0), (St.mk [.any, (.own 0 1), (.own 1 1), (.int .i64 a0)] [(some (.ints .u64 a1)), (some (.ints .u64 a2))])) : Ex × St))
theorem Fc.l9_0.round (n : Nat) (rc : St → Option (Ex × St)) (x0 : Int) (x1 : LI) (x2 : Int) (x3 : LI) (x4 : LI) : Fc.R0 n rc ((St.mk [(.int .i64 x0), (.rints .u8 x1), (.int .i64 x2), (.own 0 1), (.own 1 1)] [(some (.ints .u64 x3)), (some (.ints .u64 x4))])) = Fc.l9_0.r Fc.l9_0.k0 Fc.l9_0.k1 n (fun y0 y1 y2 y3 y4 => rc ((St.mk [(.int .i64 y0), (.rints .u8 y1), (.int .i64 y2), (.own 0 1), (.own 1 1)] [(some (.ints .u64 y3)), (some (.ints .u64 y4))]))) x0 x1 x2 x3 x4 := by kernel_rfl
theorem Fc.l9_0.loop' (n : Nat) : ∀ (m : Nat) (t : (Int × (LI × (Int × (LI × LI))))), loopOf (Fc.R0 n) m (Fc.l9_0.shape t) = Fc.l9_0.g Fc.l9_0.k0 Fc.l9_0.k1 n m t.1 t.2.1 t.2.2.1 t.2.2.2.1 t.2.2.2.2 :=
  loop_of_round (shape := Fc.l9_0.shape) (body := Fc.R0 n) (g := fun m t => Fc.l9_0.g Fc.l9_0.k0 Fc.l9_0.k1 n m t.1 t.2.1 t.2.2.1 t.2.2.2.1 t.2.2.2.2) (fun t => rfl)
    fun m t ih => (Fc.l9_0.round n (loopOf (Fc.R0 n) m) t.1 t.2.1 t.2.2.1 t.2.2.2.1 t.2.2.2.2).trans (congrFun (congrFun (congrFun (congrFun (congrFun (congrArg (Fc.l9_0.r Fc.l9_0.k0 Fc.l9_0.k1 n) (funext fun y0 => funext fun y1 => funext fun y2 => funext fun y3 => funext fun y4 => ih (y0, y1, y2, y3, y4))) t.1) t.2.1) t.2.2.1) t.2.2.2.1) t.2.2.2.2)
theorem Fc.l9_0.loop (n m : Nat) (t : (Int × (LI × (Int × (LI × LI))))) : loopOf (Fc.R0 n) m (Fc.l9_0.shape t) = (Fc.l9_0.m n m t).map Fc.l9_0.res :=
  (Fc.l9_0.loop' n m t).trans (Fc.l9_0.gmap Fc.l9_0.res (fun a0 a1 a2 a3 => (.inl (a0, a1, a2, a3))) (fun a0 a1 a2 => (.inr (a0, a1, a2))) n m t.1 t.2.1 t.2.2.1 t.2.2.2.1 t.2.2.2.2)
theorem Fc.l18_0.rmap {α β : Type} (h : β → α) (mk0 : Bool → Int → LI → β) (mk1 : Int → LI → β) (n : Nat) (f : Int → Int → LI → LI → Option β)  (x0 : Int) (x1 : Int) (x2 : LI) (x3 : LI) : Fc.l18_0.r (fun a0 a1 a2 => (h (mk0 a0 a1 a2))) (fun a0 a1 => (h (mk1 a0 a1))) n (fun y0 y1 y2 y3 => (f y0 y1 y2 y3).map h) x0 x1 x2 x3 = (Fc.l18_0.r mk0 mk1 n f x0 x1 x2 x3).map h := by
  unfold Fc.l18_0.r
  exact (ite_map (ite_map (ite_map (ite_map (ite_map (ite_map rfl rfl) rfl) rfl) rfl) rfl) rfl)
theorem Fc.l18_0.gmap {α β : Type} (h : β → α) (mk0 : Bool → Int → LI → β) (mk1 : Int → LI → β) (n : Nat) : ∀ (m : Nat) (x0 : Int) (x1 : Int) (x2 : LI) (x3 : LI), Fc.l18_0.g (fun a0 a1 a2 => (h (mk0 a0 a1 a2))) (fun a0 a1 => (h (mk1 a0 a1))) n m x0 x1 x2 x3 = (Fc.l18_0.g mk0 mk1 n m x0 x1 x2 x3).map h
  | 0, _, _, _, _ => rfl
  | m + 1, x0, x1, x2, x3 => by
    unfold Fc.l18_0.g
    rw [← Fc.l18_0.rmap]
    congr
    · funext y0 y1 y2 y3; exact Fc.l18_0.gmap h mk0 mk1 n m y0 y1 y2 y3
theorem Fc.l18_0.pat_shape : ∀ st t, Fc.l18_0.pat st = some t → st = Fc.l18_0.shape t := fun _ _ h => by unfold Fc.l18_0.pat at h; split at h <;> cases h; rfl
def Fc.l18_0.k0 : Bool → Int → LI → Ex × St := (fun a0 a1 a2 => ((.ret, (St.mk [(.bool a0), (.int .i64 a1), (.own 0 1)] [(some (.ints .u64 a2))])) : Ex × St))
def Fc.l18_0.k1 : Int → LI → Ex × St := (fun a0 a1 => (((.exit 2), (St.mk [.any, (.int .i64 a0), (.own 0 1)] [(some (.ints .u64 a1))])) : Ex × St))
theorem Fc.l18_0.round (n : Nat) (rc : St → Option (Ex × St)) (x0 : Int) (x1 : Int) (x2 : LI) (x3 : LI) : Fc.R1 n rc ((St.mk [(.int .i64 x0), (.own 0 1), (.own 1 1), (.int .i64 x1)] [(some (.ints .u64 x2)), (some (.ints .u64 x3))])) = Fc.l18_0.r Fc.l18_0.k0 Fc.l18_0.k1 n (fun y0 y1 y2 y3 => rc ((St.mk [(.int .i64 y0), (.own 0 1), (.own 1 1), (.int .i64 y1)] [(some (.ints .u64 y2)), (some (.ints .u64 y3))]))) x0 x1 x2 x3 := by kernel_rfl
theorem Fc.l18_0.loop' (n : Nat) : ∀ (m : Nat) (t : (Int × (Int × (LI × LI)))), loopOf (Fc.R1 n) m (Fc.l18_0.shape t) = Fc.l18_0.g Fc.l18_0.k0 Fc.l18_0.k1 n m t.1 t.2.1 t.2.2.1 t.2.2.2 :=
  loop_of_round (shape := Fc.l18_0.shape) (body := Fc.R1 n) (g := fun m t => Fc.l18_0.g Fc.l18_0.k0 Fc.l18_0.k1 n m t.1 t.2.1 t.2.2.1 t.2.2.2) (fun t => rfl)
    fun m t ih => (Fc.l18_0.round n (loopOf (Fc.R1 n) m) t.1 t.2.1 t.2.2.1 t.2.2.2).trans (congrFun (congrFun (congrFun (congrFun (congrArg (Fc.l18_0.r Fc.l18_0.k0 Fc.l18_0.k1 n) (funext fun y0 => funext fun y1 => funext fun y2 => funext fun y3 => ih (y0, y1, y2, y3))) t.1) t.2.1) t.2.2.1) t.2.2.2)
theorem Fc.l18_0.loop (n m : Nat) (t : (Int × (Int × (LI × LI)))) : loopOf (Fc.R1 n) m (Fc.l18_0.shape t) = (Fc.l18_0.m n m t).map Fc.l18_0.res :=
  (Fc.l18_0.loop' n m t).trans (Fc.l18_0.gmap Fc.l18_0.res (fun a0 a1 a2 => (.inl (a0, a1, a2))) (fun a0 a1 => (.inr (a0, a1))) n m t.1 t.2.1 t.2.2.1 t.2.2.2)
theorem Fc.gmap {α β : Type} (h : β → α) (mk0 : Bool → β) (n : Nat) (a0 : LI) : Fc.g (fun a0 => (h (mk0 a0))) n a0 = (Fc.g mk0 n a0).map h := by
  unfold Fc.g
  exact (ite_map rfl (bindO_map fun r4 => (bindO_map fun r6 => (ite_map rfl (bindO_map fun r10 => (ite_map rfl (bindO_map fun r14 => match r14 with | (.inl r14) => rfl | (.inr r14) => (bindO_map fun r18 => match r18 with | (.inl r18) => rfl | (.inr r18) => rfl))))))))
theorem Fc.run (n : Nat) (a0 : LI) : runF (Fc.C n) (Fc.A n) n Try.f8 [(.rints .u8 a0)] [] (fun v o => some (v, o)) = Fc.g (fun a0 => (((.bool a0), []) : AV × Blks)) n a0 := by kernel_rfl
theorem Fc.call (hmix : Try.prog.follows .mixedOrders = true) (n : Nat) (t : LI) (u) (h : Fc.m n t = some u) : FnC Try.prog (fun _ => .any) 8 (Fc.shape t).1 (Fc.shape t).2 (Fc.res u).1 (Fc.res u).2 :=
  fnC1 (C := Fc.C n) (A := Fc.A n) (fn := Try.f8) rfl (.cons (Fl.s hmix n) (.cons (Fac.s hmix n) (.cons (Fab.s hmix n) (.cons (Fbf.s hmix n) .nil)))) hmix Try.func8 (by kernel_rfl) (lp := [Fc.b0, Fc.b1]) (by kernel_rfl) (.cons (show (Fc.A n).loop (key Fc.b0) = some (.mk' Fc.l9_0.pat (Fc.l9_0.m n n) Fc.l9_0.resK) by kernel_rfl) (LoopS.of (res := Fc.l9_0.res) (fun R u K => by rcases u with u | u <;> rfl) Fc.l9_0.pat_shape fun t => Fc.l9_0.loop n n t)
  (.cons (show (Fc.A n).loop (key Fc.b1) = some (.mk' Fc.l18_0.pat (Fc.l18_0.m n n) Fc.l18_0.resK) by kernel_rfl) (LoopS.of (res := Fc.l18_0.res) (fun R u K => by rcases u with u | u <;> rfl) Fc.l18_0.pat_shape fun t => Fc.l18_0.loop n n t)
  .nil))
  (nj rfl) (by decide) rfl rfl (by show 1 ≤ Try.f8.ntmps; decide) (Fc.run n t) (Fc.gmap Fc.res (fun a0 => a0) n t) h
end
