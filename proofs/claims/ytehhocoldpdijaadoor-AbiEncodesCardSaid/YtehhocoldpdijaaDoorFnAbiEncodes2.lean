/- What the program's functions compute, as plain functions, each with its proof: the function does just that. Condition: the plain function has an answer. -/
import Derived.Test.YtehhocoldpdijaaDoorAbsF6
import Derived.Test.YtehhocoldpdijaaDoorProg
import Derived.Test.YtehhocoldpdijaaDoorFnAbiEncodes1
set_option linter.unusedVariables false
set_option linter.unusedSimpArgs false
set_option maxRecDepth 100000
open Go Go.Abs Go.Proofs
section
noncomputable section
noncomputable def word_Read.C (n : Nat) : Ctx := ⟨Tryd.prog, abiG, fun f => match f with
 | _ => none, fun _ => false⟩
def word_Read.live : Nat → List Nat × List Nat := fun k => match k with
 | 4 => ([13, 12, 3, 0, 2], [3, 2])
 | _ => ([], [])
def word_Read.jlive : Nat → List Nat × List Nat := fun k => match k with
 | _ => ([], [])
def word_Read.l4_0.r {α : Type} (mk0 : (List Int) → (List Int) → α) (n : Nat) (rc : Int → Int → (List Int) → (List Int) → (List Int) → Option α)  (x0 : Int) (x1 : Int) (x2 : (List Int)) (x3 : (List Int)) (x4 : (List Int)) : Option α :=
  if (decide (x0 < x1)) = true then
   if 0 ≤ (IntKind.wrap .i64 (Int.tdiv x0 8)) then
    if (IntKind.wrap .i64 (Int.tdiv x0 8)) < 4 then
     if 0 ≤ (IntKind.wrap .i64 ((IntKind.wrap .i64 ((((List.length x2) : Nat) : Int) - 1)) - x0)) then
      if (IntKind.wrap .i64 ((IntKind.wrap .i64 ((((List.length x2) : Nat) : Int) - 1)) - x0)) < (((List.length x2) : Nat) : Int) then
       if 0 ≤ (IntKind.wrap .i64 ((Int.tmod x0 8) * 8)) then
        if 0 ≤ (IntKind.wrap .i64 (Int.tdiv x0 8)) then
         if (IntKind.wrap .i64 (Int.tdiv x0 8)) < 4 then
          rc (IntKind.wrap .i64 (x0 + 1)) x1 x2 (List.set x3 (Int.toNat (IntKind.wrap .i64 (Int.tdiv x0 8))) (ibits BinOp.or .u64 (List.getD x3 (Int.toNat (IntKind.wrap .i64 (Int.tdiv x0 8))) 0) (ishl .u64 (IntKind.wrap .u64 (List.getD x2 (Int.toNat (IntKind.wrap .i64 ((IntKind.wrap .i64 ((((List.length x2) : Nat) : Int) - 1)) - x0))) 0)) (IntKind.wrap .i64 ((Int.tmod x0 8) * 8))))) x4
         else
          none
        else
         none
       else
        none
      else
       none
     else
      none
    else
     none
   else
    none
  else
   some (mk0 x3 x4)
def word_Read.l4_0.g {α : Type} (mk0 : (List Int) → (List Int) → α) (n : Nat) : Nat → Int → Int → (List Int) → (List Int) → (List Int) → Option α
 | 0, _, _, _, _, _ => none
 | m + 1, x0, x1, x2, x3, x4 => word_Read.l4_0.r mk0 n (fun y0 y1 y2 y3 y4 => word_Read.l4_0.g mk0 n m y0 y1 y2 y3 y4)  x0 x1 x2 x3 x4
def word_Read.l4_0.m (n m : Nat) (t : (Int × (Int × ((List Int) × ((List Int) × (List Int)))))) : Option ((List Int) × (List Int)) := word_Read.l4_0.g (fun a0 a1 => (a0, a1)) n m t.1 t.2.1 t.2.2.1 t.2.2.2.1 t.2.2.2.2
def word_Read.l4_0.pat : St → Option (Int × (Int × ((List Int) × ((List Int) × (List Int)))))
 | (St.mk [(.int .i64 x0), (.int .i64 x1), (.ptr 0 []), (.rints .u8 x2), (.ptr 1 [])] [(some (.var (.ints .u64 4 x3))), (some (.var (.ints .u64 4 x4)))]) => some (x0, x1, x2, x3, x4)
 | _ => none
def word_Read.l4_0.shape (t : (Int × (Int × ((List Int) × ((List Int) × (List Int)))))) : St := (St.mk [(.int .i64 t.1), (.int .i64 t.2.1), (.ptr 0 []), (.rints .u8 t.2.2.1), (.ptr 1 [])] [(some (.var (.ints .u64 4 t.2.2.2.1))), (some (.var (.ints .u64 4 t.2.2.2.2)))])
def word_Read.l4_0.res : ((List Int) × (List Int)) → Ex × St
 | u => (Prod.mk (.exit 0) (St.mk [(.ptr 0 []), (.ptr 1 [])] [(some (.var (.ints .u64 4 u.1))), (some (.var (.ints .u64 4 u.2)))]))
def word_Read.l4_0.resK {R : Type} (u : ((List Int) × (List Int))) (K : Ex → St → Option R) : Option R := (fun p : Ex × St => K p.1 p.2) (Prod.mk (.exit 0) (St.mk [(.ptr 0 []), (.ptr 1 [])] [(some (.var (.ints .u64 4 u.1))), (some (.var (.ints .u64 4 u.2)))]))
noncomputable def word_Read.A (n : Nat) : Ann := ⟨Tryd.f89.ntmps, 0, word_Read.live, [(0, (.ints .u8))], [none], fun k => match k with
 | 4 => some (.mk' word_Read.l4_0.pat (word_Read.l4_0.m n n) word_Read.l4_0.resK)
 | _ => none, word_Read.jlive, lookJ []⟩
noncomputable def word_Read.b0 : Code := (loopsIn (Tryd.f89.body.getD .skip)).getD 0 .skip
def word_Read.g {α : Type} (mk0 : (List Int) → α) (n : Nat) (a0 : (List Int)) : Option α :=
 if 0 ≤ (if 0 > (IntKind.wrap .i64 ((((List.length a0) : Nat) : Int) - 32)) then 0 else (IntKind.wrap .i64 ((((List.length a0) : Nat) : Int) - 32))) then
  if (if 0 > (IntKind.wrap .i64 ((((List.length a0) : Nat) : Int) - 32)) then 0 else (IntKind.wrap .i64 ((((List.length a0) : Nat) : Int) - 32))) ≤ (((List.length a0) : Nat) : Int) then
   bindO (word_Read.l4_0.m n n (0, (((List.length (Go.Abs.cut a0 (Int.toNat (if 0 > (IntKind.wrap .i64 ((((List.length a0) : Nat) : Int) - 32)) then 0 else (IntKind.wrap .i64 ((((List.length a0) : Nat) : Int) - 32)))) (Option.none))) : Nat) : Int), (Go.Abs.cut a0 (Int.toNat (if 0 > (IntKind.wrap .i64 ((((List.length a0) : Nat) : Int) - 32)) then 0 else (IntKind.wrap .i64 ((((List.length a0) : Nat) : Int) - 32)))) (Option.none)), [0, 0, 0, 0], [0, 0, 0, 0])) fun r6 =>
    some (mk0 (Prod.fst r6))
  else
   none
 else
  none
def word_Read.m (n : Nat) (t : (List Int)) : Option (List Int) := word_Read.g (fun a0 => a0) n t
def word_Read.pat : List AV → Blks → Option (List Int)
 | [(.rints .u8 a0)], [] => some a0
 | _, _ => none
def word_Read.shape (t : (List Int)) : List AV × Blks := ([(.rints .u8 t)], [])
def word_Read.res : (List Int) → AV × Blks
 | u => (Prod.mk (.ints .u64 4 u) [])
def word_Read.resK {R : Type} (u : (List Int)) (K : AV → Blks → Option R) : Option R := (fun p : AV × Blks => K p.1 p.2) (Prod.mk (.ints .u64 4 u) [])
def word_Read.c (n : Nat) : Abs.Callee := .mk' [] [(some (.ints .u8))] word_Read.pat (word_Read.m n) word_Read.resK
end
end
section
noncomputable section
noncomputable def keccak_Sum.C (n : Nat) : Ctx := ⟨Tryd.prog, abiG, fun f => match f with
 | 93 => some (keccak_state_take.c n)
 | 89 => some (word_Read.c n)
 | _ => none, fun _ => false⟩
def keccak_Sum.live : Nat → List Nat × List Nat := fun k => match k with
 | 2 => ([0, 3, 2], [0, 3, 2])
 | 12 => ([30, 3, 5, 2], [5, 2])
 | _ => ([], [])
def keccak_Sum.jlive : Nat → List Nat × List Nat := fun k => match k with
 | _ => ([], [])
def keccak_Sum.l2_0.r {α : Type} (mk0 : (List Int) → (List Int) → (List Int) → α) (n : Nat) (rc : (List Int) → (List Int) → (List Int) → Option α)  (x0 : (List Int)) (x1 : (List Int)) (x2 : (List Int)) : Option α :=
  if (decide ((((List.length x0) : Nat) : Int) ≥ 136)) = true then
   if 136 ≤ (((List.length x0) : Nat) : Int) then
    bindO (keccak_state_take.m n (Prod.mk (Go.Abs.cut x0 0 (Option.some 136)) x1)) fun r8 =>
     if 136 ≤ (((List.length x0) : Nat) : Int) then
      rc (Go.Abs.cut x0 136 (Option.none)) r8 x2
     else
      none
   else
    none
  else
   some (mk0 x0 x1 x2)
def keccak_Sum.l2_0.g {α : Type} (mk0 : (List Int) → (List Int) → (List Int) → α) (n : Nat) : Nat → (List Int) → (List Int) → (List Int) → Option α
 | 0, _, _, _ => none
 | m + 1, x0, x1, x2 => keccak_Sum.l2_0.r mk0 n (fun y0 y1 y2 => keccak_Sum.l2_0.g mk0 n m y0 y1 y2)  x0 x1 x2
def keccak_Sum.l2_0.m (n m : Nat) (t : ((List Int) × ((List Int) × (List Int)))) : Option ((List Int) × ((List Int) × (List Int))) := keccak_Sum.l2_0.g (fun a0 a1 a2 => (a0, a1, a2)) n m t.1 t.2.1 t.2.2
def keccak_Sum.l2_0.pat : St → Option ((List Int) × ((List Int) × (List Int)))
 | (St.mk [(.rints .u8 x0), (.ptr 0 []), (.ptr 1 [])] [(some (.var (.ints .u64 25 x1))), (some (.var (.ints .u64 4 x2)))]) => some (x0, x1, x2)
 | _ => none
def keccak_Sum.l2_0.shape (t : ((List Int) × ((List Int) × (List Int)))) : St := (St.mk [(.rints .u8 t.1), (.ptr 0 []), (.ptr 1 [])] [(some (.var (.ints .u64 25 t.2.1))), (some (.var (.ints .u64 4 t.2.2)))])
def keccak_Sum.l2_0.res : ((List Int) × ((List Int) × (List Int))) → Ex × St
 | u => (Prod.mk (.exit 0) (St.mk [(.rints .u8 u.1), (.ptr 0 []), (.ptr 1 [])] [(some (.var (.ints .u64 25 u.2.1))), (some (.var (.ints .u64 4 u.2.2)))]))
def keccak_Sum.l2_0.resK {R : Type} (u : ((List Int) × ((List Int) × (List Int)))) (K : Ex → St → Option R) : Option R := (fun p : Ex × St => K p.1 p.2) (Prod.mk (.exit 0) (St.mk [(.rints .u8 u.1), (.ptr 0 []), (.ptr 1 [])] [(some (.var (.ints .u64 25 u.2.1))), (some (.var (.ints .u64 4 u.2.2)))]))
def keccak_Sum.l12_0.r {α : Type} (mk0 : (List Int) → (List Int) → α) (n : Nat) (rc : Int → (List Int) → (List Int) → (List Int) → Option α)  (x0 : Int) (x1 : (List Int)) (x2 : (List Int)) (x3 : (List Int)) : Option α :=
  if (decide (x0 < 32)) = true then
   if 0 ≤ (IntKind.wrap .i64 (Int.tdiv x0 8)) then
    if (IntKind.wrap .i64 (Int.tdiv x0 8)) < 25 then
     if 0 ≤ (IntKind.wrap .i64 ((Int.tmod x0 8) * 8)) then
      if 0 ≤ x0 then
       if x0 < 32 then
        rc (IntKind.wrap .i64 (x0 + 1)) x1 (List.set x2 (Int.toNat x0) (IntKind.wrap .u8 (ishr .u64 (List.getD x1 (Int.toNat (IntKind.wrap .i64 (Int.tdiv x0 8))) 0) (IntKind.wrap .i64 ((Int.tmod x0 8) * 8))))) x3
       else
        none
      else
       none
     else
      none
    else
     none
   else
    none
  else
   some (mk0 x2 x3)
def keccak_Sum.l12_0.g {α : Type} (mk0 : (List Int) → (List Int) → α) (n : Nat) : Nat → Int → (List Int) → (List Int) → (List Int) → Option α
 | 0, _, _, _, _ => none
 | m + 1, x0, x1, x2, x3 => keccak_Sum.l12_0.r mk0 n (fun y0 y1 y2 y3 => keccak_Sum.l12_0.g mk0 n m y0 y1 y2 y3)  x0 x1 x2 x3
def keccak_Sum.l12_0.m (n m : Nat) (t : (Int × ((List Int) × ((List Int) × (List Int))))) : Option ((List Int) × (List Int)) := keccak_Sum.l12_0.g (fun a0 a1 => (a0, a1)) n m t.1 t.2.1 t.2.2.1 t.2.2.2
def keccak_Sum.l12_0.pat : St → Option (Int × ((List Int) × ((List Int) × (List Int))))
 | (St.mk [(.int .i64 x0), (.ptr 0 []), (.ptr 1 []), (.ptr 2 [])] [(some (.var (.ints .u64 25 x1))), (some (.var (.ints .u8 32 x2))), (some (.var (.ints .u64 4 x3)))]) => some (x0, x1, x2, x3)
 | _ => none
def keccak_Sum.l12_0.shape (t : (Int × ((List Int) × ((List Int) × (List Int))))) : St := (St.mk [(.int .i64 t.1), (.ptr 0 []), (.ptr 1 []), (.ptr 2 [])] [(some (.var (.ints .u64 25 t.2.1))), (some (.var (.ints .u8 32 t.2.2.1))), (some (.var (.ints .u64 4 t.2.2.2)))])
def keccak_Sum.l12_0.res : ((List Int) × (List Int)) → Ex × St
 | u => (Prod.mk (.exit 2) (St.mk [(.ptr 0 []), (.ptr 1 [])] [(some (.var (.ints .u8 32 u.1))), (some (.var (.ints .u64 4 u.2)))]))
def keccak_Sum.l12_0.resK {R : Type} (u : ((List Int) × (List Int))) (K : Ex → St → Option R) : Option R := (fun p : Ex × St => K p.1 p.2) (Prod.mk (.exit 2) (St.mk [(.ptr 0 []), (.ptr 1 [])] [(some (.var (.ints .u8 32 u.1))), (some (.var (.ints .u64 4 u.2)))]))
noncomputable def keccak_Sum.A (n : Nat) : Ann := ⟨Tryd.f57.ntmps, 0, keccak_Sum.live, [(0, (.ints .u8))], [none], fun k => match k with
 | 2 => some (.mk' keccak_Sum.l2_0.pat (keccak_Sum.l2_0.m n n) keccak_Sum.l2_0.resK)
 | 12 => some (.mk' keccak_Sum.l12_0.pat (keccak_Sum.l12_0.m n n) keccak_Sum.l12_0.resK)
 | _ => none, keccak_Sum.jlive, lookJ []⟩
noncomputable def keccak_Sum.b0 : Code := (loopsIn (Tryd.f57.body.getD .skip)).getD 0 .skip
noncomputable def keccak_Sum.b1 : Code := (loopsIn (Tryd.f57.body.getD .skip)).getD 1 .skip
def keccak_Sum.g {α : Type} (mk0 : (List Int) → α) (n : Nat) (a0 : (List Int)) : Option α :=
 bindO (keccak_Sum.l2_0.m n n (a0, ([0, 0, 0, 0, 0, 0, 0, 0, 0, 0, 0, 0, 0, 0, 0, 0, 0, 0, 0, 0, 0, 0, 0, 0, 0] : List Int), [0, 0, 0, 0])) fun r2 =>
  if (((List.length (Prod.fst r2)) : Nat) : Int) < 136 then
   if (((List.length (Prod.fst r2)) : Nat) : Int) < 136 then
    bindO (keccak_state_take.m n (Prod.mk (List.take 136 (List.drop 0 (List.set (List.set ([] ++ ((List.take 136 (Prod.fst r2)) ++ (List.drop (0 + (Min.min (List.length (Prod.fst r2)) 136)) ([0, 0, 0, 0, 0, 0, 0, 0, 0, 0, 0, 0, 0, 0, 0, 0, 0, 0, 0, 0, 0, 0, 0, 0, 0, 0, 0, 0, 0, 0, 0, 0, 0, 0, 0, 0, 0, 0, 0, 0, 0, 0, 0, 0, 0, 0, 0, 0, 0, 0, 0, 0, 0, 0, 0, 0, 0, 0, 0, 0, 0, 0, 0, 0, 0, 0, 0, 0, 0, 0, 0, 0, 0, 0, 0, 0, 0, 0, 0, 0, 0, 0, 0, 0, 0, 0, 0, 0, 0, 0, 0, 0, 0, 0, 0, 0, 0, 0, 0, 0, 0, 0, 0, 0, 0, 0, 0, 0, 0, 0, 0, 0, 0, 0, 0, 0, 0, 0, 0, 0, 0, 0, 0, 0, 0, 0, 0, 0, 0, 0, 0, 0, 0, 0, 0, 0] : List Int)))) (Int.toNat (((List.length (Prod.fst r2)) : Nat) : Int)) (ibits BinOp.xor .u8 (List.getD ([] ++ ((List.take 136 (Prod.fst r2)) ++ (List.drop (0 + (Min.min (List.length (Prod.fst r2)) 136)) ([0, 0, 0, 0, 0, 0, 0, 0, 0, 0, 0, 0, 0, 0, 0, 0, 0, 0, 0, 0, 0, 0, 0, 0, 0, 0, 0, 0, 0, 0, 0, 0, 0, 0, 0, 0, 0, 0, 0, 0, 0, 0, 0, 0, 0, 0, 0, 0, 0, 0, 0, 0, 0, 0, 0, 0, 0, 0, 0, 0, 0, 0, 0, 0, 0, 0, 0, 0, 0, 0, 0, 0, 0, 0, 0, 0, 0, 0, 0, 0, 0, 0, 0, 0, 0, 0, 0, 0, 0, 0, 0, 0, 0, 0, 0, 0, 0, 0, 0, 0, 0, 0, 0, 0, 0, 0, 0, 0, 0, 0, 0, 0, 0, 0, 0, 0, 0, 0, 0, 0, 0, 0, 0, 0, 0, 0, 0, 0, 0, 0, 0, 0, 0, 0, 0, 0] : List Int)))) (Int.toNat (((List.length (Prod.fst r2)) : Nat) : Int)) 0) 1)) 135 (ibits BinOp.xor .u8 (List.getD (List.set ([] ++ ((List.take 136 (Prod.fst r2)) ++ (List.drop (0 + (Min.min (List.length (Prod.fst r2)) 136)) ([0, 0, 0, 0, 0, 0, 0, 0, 0, 0, 0, 0, 0, 0, 0, 0, 0, 0, 0, 0, 0, 0, 0, 0, 0, 0, 0, 0, 0, 0, 0, 0, 0, 0, 0, 0, 0, 0, 0, 0, 0, 0, 0, 0, 0, 0, 0, 0, 0, 0, 0, 0, 0, 0, 0, 0, 0, 0, 0, 0, 0, 0, 0, 0, 0, 0, 0, 0, 0, 0, 0, 0, 0, 0, 0, 0, 0, 0, 0, 0, 0, 0, 0, 0, 0, 0, 0, 0, 0, 0, 0, 0, 0, 0, 0, 0, 0, 0, 0, 0, 0, 0, 0, 0, 0, 0, 0, 0, 0, 0, 0, 0, 0, 0, 0, 0, 0, 0, 0, 0, 0, 0, 0, 0, 0, 0, 0, 0, 0, 0, 0, 0, 0, 0, 0, 0] : List Int)))) (Int.toNat (((List.length (Prod.fst r2)) : Nat) : Int)) (ibits BinOp.xor .u8 (List.getD ([] ++ ((List.take 136 (Prod.fst r2)) ++ (List.drop (0 + (Min.min (List.length (Prod.fst r2)) 136)) ([0, 0, 0, 0, 0, 0, 0, 0, 0, 0, 0, 0, 0, 0, 0, 0, 0, 0, 0, 0, 0, 0, 0, 0, 0, 0, 0, 0, 0, 0, 0, 0, 0, 0, 0, 0, 0, 0, 0, 0, 0, 0, 0, 0, 0, 0, 0, 0, 0, 0, 0, 0, 0, 0, 0, 0, 0, 0, 0, 0, 0, 0, 0, 0, 0, 0, 0, 0, 0, 0, 0, 0, 0, 0, 0, 0, 0, 0, 0, 0, 0, 0, 0, 0, 0, 0, 0, 0, 0, 0, 0, 0, 0, 0, 0, 0, 0, 0, 0, 0, 0, 0, 0, 0, 0, 0, 0, 0, 0, 0, 0, 0, 0, 0, 0, 0, 0, 0, 0, 0, 0, 0, 0, 0, 0, 0, 0, 0, 0, 0, 0, 0, 0, 0, 0, 0] : List Int)))) (Int.toNat (((List.length (Prod.fst r2)) : Nat) : Int)) 0) 1)) 135 0) 128)))) (Prod.fst r2.2))) fun r8 =>
     bindO (keccak_Sum.l12_0.m n n (0, r8, ([0, 0, 0, 0, 0, 0, 0, 0, 0, 0, 0, 0, 0, 0, 0, 0, 0, 0, 0, 0, 0, 0, 0, 0, 0, 0, 0, 0, 0, 0, 0, 0] : List Int), (Prod.snd r2.2))) fun r10 =>
      bindO (word_Read.m n (List.take 32 (List.drop 0 (Prod.fst r10)))) fun r12 =>
       some (mk0 r12)
   else
    none
  else
   none
def keccak_Sum.m (n : Nat) (t : (List Int)) : Option (List Int) := keccak_Sum.g (fun a0 => a0) n t
def keccak_Sum.pat : List AV → Blks → Option (List Int)
 | [(.rints .u8 a0)], [] => some a0
 | _, _ => none
def keccak_Sum.shape (t : (List Int)) : List AV × Blks := ([(.rints .u8 t)], [])
def keccak_Sum.res : (List Int) → AV × Blks
 | u => (Prod.mk (.ints .u64 4 u) [])
def keccak_Sum.resK {R : Type} (u : (List Int)) (K : AV → Blks → Option R) : Option R := (fun p : AV × Blks => K p.1 p.2) (Prod.mk (.ints .u64 4 u) [])
def keccak_Sum.c (n : Nat) : Abs.Callee := .mk' [] [(some (.ints .u8))] keccak_Sum.pat (keccak_Sum.m n) keccak_Sum.resK
end
end
section
theorem keccak_state_take.l1_0.rmap {α β : Type} (h : β → α) (mk0 : (List Int) → β) (n : Nat) (f : Int → Int → (List Int) → (List Int) → Option β)  (x0 : Int) (x1 : Int) (x2 : (List Int)) (x3 : (List Int)) : keccak_state_take.l1_0.r (fun a0 => (h (mk0 a0))) n (fun y0 y1 y2 y3 => (f y0 y1 y2 y3).map h) x0 x1 x2 x3 = (keccak_state_take.l1_0.r mk0 n f x0 x1 x2 x3).map h := by
  unfold keccak_state_take.l1_0.r
  exact (ite_map (ite_map (ite_map (ite_map (ite_map (ite_map (ite_map (ite_map rfl rfl) rfl) rfl) rfl) rfl) rfl) rfl) rfl)
theorem keccak_state_take.l1_0.gmap {α β : Type} (h : β → α) (mk0 : (List Int) → β) (n : Nat) : ∀ (m : Nat) (x0 : Int) (x1 : Int) (x2 : (List Int)) (x3 : (List Int)), keccak_state_take.l1_0.g (fun a0 => (h (mk0 a0))) n m x0 x1 x2 x3 = (keccak_state_take.l1_0.g mk0 n m x0 x1 x2 x3).map h
  | 0, _, _, _, _ => rfl
  | m + 1, x0, x1, x2, x3 => by
    unfold keccak_state_take.l1_0.g
    rw [← keccak_state_take.l1_0.rmap]
    congr
    · funext y0 y1 y2 y3; exact keccak_state_take.l1_0.gmap h mk0 n m y0 y1 y2 y3
theorem keccak_state_take.l1_0.pat_shape : ∀ st t, keccak_state_take.l1_0.pat st = some t → st = keccak_state_take.l1_0.shape t := by
  intro st t h
  unfold keccak_state_take.l1_0.pat at h
  split at h
  · cases h; rfl
  · cases h
theorem keccak_state_take.l1_0.round (n : Nat) (rc : St → Option (Ex × St)) (x0 : Int) (x1 : Int) (x2 : (List Int)) (x3 : (List Int)) : roundOf (keccak_state_take.C n) (keccak_state_take.A n) n keccak_state_take.b0 rc ((St.mk [(.int .i64 x0), (.int .i64 x1), (.rints .u8 x2), (.ptr 0 [])] [(some (.var (.ints .u64 25 x3)))])) = keccak_state_take.l1_0.r (fun a0 => ((Prod.mk (.exit 0) (St.mk [(.ptr 0 [])] [(some (.var (.ints .u64 25 a0)))])) : Ex × St)) n (fun y0 y1 y2 y3 => rc ((St.mk [(.int .i64 y0), (.int .i64 y1), (.rints .u8 y2), (.ptr 0 [])] [(some (.var (.ints .u64 25 y3)))]))) x0 x1 x2 x3 := by kernel_rfl
theorem keccak_state_take.l1_0.loop' (n : Nat) : ∀ (m : Nat) (t : (Int × (Int × ((List Int) × (List Int))))), loopOf (roundOf (keccak_state_take.C n) (keccak_state_take.A n) n keccak_state_take.b0) m (keccak_state_take.l1_0.shape t) = keccak_state_take.l1_0.g (fun a0 => ((Prod.mk (.exit 0) (St.mk [(.ptr 0 [])] [(some (.var (.ints .u64 25 a0)))])) : Ex × St)) n m t.1 t.2.1 t.2.2.1 t.2.2.2 :=
  loop_of_round (shape := keccak_state_take.l1_0.shape) (body := roundOf (keccak_state_take.C n) (keccak_state_take.A n) n keccak_state_take.b0) (g := fun m t => keccak_state_take.l1_0.g (fun a0 => ((Prod.mk (.exit 0) (St.mk [(.ptr 0 [])] [(some (.var (.ints .u64 25 a0)))])) : Ex × St)) n m t.1 t.2.1 t.2.2.1 t.2.2.2) (fun t => rfl)
    fun m t ih => (keccak_state_take.l1_0.round n (loopOf (roundOf (keccak_state_take.C n) (keccak_state_take.A n) n keccak_state_take.b0) m) t.1 t.2.1 t.2.2.1 t.2.2.2).trans (congrFun (congrFun (congrFun (congrFun (congrArg (keccak_state_take.l1_0.r (fun a0 => ((Prod.mk (.exit 0) (St.mk [(.ptr 0 [])] [(some (.var (.ints .u64 25 a0)))])) : Ex × St)) n) (funext fun y0 => funext fun y1 => funext fun y2 => funext fun y3 => ih (y0, y1, y2, y3))) t.1) t.2.1) t.2.2.1) t.2.2.2)
theorem keccak_state_take.l1_0.loop (n m : Nat) (t : (Int × (Int × ((List Int) × (List Int))))) : loopOf (roundOf (keccak_state_take.C n) (keccak_state_take.A n) n keccak_state_take.b0) m (keccak_state_take.l1_0.shape t) = (keccak_state_take.l1_0.m n m t).map keccak_state_take.l1_0.res :=
  (keccak_state_take.l1_0.loop' n m t).trans (keccak_state_take.l1_0.gmap keccak_state_take.l1_0.res (fun a0 => a0) n m t.1 t.2.1 t.2.2.1 t.2.2.2)
theorem keccak_state_take.gmap {α β : Type} (h : β → α) (mk0 : (List Int) → β) (n : Nat) (b : (List Int)) (s : (List Int)) : keccak_state_take.g (fun a0 => (h (mk0 a0))) n b s = (keccak_state_take.g mk0 n b s).map h := by
  unfold keccak_state_take.g
  exact (bindO_map fun r2 => (bindO_map fun r4 => rfl))
theorem keccak_state_take.run (n : Nat) (b : (List Int)) (s : (List Int)) : runF (keccak_state_take.C n) (keccak_state_take.A n) n Tryd.f93 [(.ptr 0 []), (.rints .u8 b)] [(some (.var (.ints .u64 25 s)))] (fun v o => some (v, o)) = keccak_state_take.g (fun a0 => ((Prod.mk (.tup []) [(some (.var (.ints .u64 25 a0)))]) : AV × Blks)) n b s := by kernel_rfl
theorem keccak_state_take.call (hmix : Tryd.prog.follows .mixedOrders = true) (n : Nat) (t : ((List Int) × (List Int))) (u) (h : keccak_state_take.m n t = some u) : FnC Tryd.prog abiG 93 (keccak_state_take.shape t).1 (keccak_state_take.shape t).2 (keccak_state_take.res u).1 (keccak_state_take.res u).2 := by
  have hg : ∀ f m, (keccak_state_take.C n).Γ f = some m → CalleeS Tryd.prog abiG f m := by
    intro f m hm
    unfold keccak_state_take.C at hm
    simp only at hm
    first
    | (cases hm; done)
    | (split at hm <;> first
    | (cases hm; exact keccak_state_mix.s hmix n)
    | (cases hm; done))
  have hb : Tryd.f93.body = some (Tryd.f93.body.getD .skip) := by kernel_rfl
  refine runF_calls (C := keccak_state_take.C n) (A := keccak_state_take.A n) (n := n) (fn := Tryd.f93) hg hmix Tryd.func93 hb ?_ ?_ (by decide) rfl rfl (by show 2 ≤ Tryd.f93.ntmps; decide) ?_
  · rw [show loopsIn (Tryd.f93.body.getD .skip) = [keccak_state_take.b0] by kernel_rfl]
    intro b hb m hm
    simp only [List.mem_cons, List.not_mem_nil, or_false] at hb
    rcases hb with rfl
    · have e : (keccak_state_take.A n).loop (key keccak_state_take.b0) = some (.mk' keccak_state_take.l1_0.pat (keccak_state_take.l1_0.m n n) keccak_state_take.l1_0.resK) := by rw [show key keccak_state_take.b0 = 1 by kernel_rfl]; rfl
      rw [e] at hm
      cases hm
      exact (LoopS.of (res := keccak_state_take.l1_0.res) (fun R u K => rfl) keccak_state_take.l1_0.pat_shape fun t => keccak_state_take.l1_0.loop n n t)
  · intro a ha m hm
    cases (show none = some m from hm)
  · rw [show runF (keccak_state_take.C n) (keccak_state_take.A n) n Tryd.f93 (keccak_state_take.shape t).1 (keccak_state_take.shape t).2 (fun v o => some (v, o)) = _ from keccak_state_take.run n t.1 t.2]
    have e := keccak_state_take.gmap keccak_state_take.res (fun a0 => a0) n t.1 t.2
    unfold keccak_state_take.m at h
    rw [h] at e
    exact e
theorem keccak_state_take.s (hmix : Tryd.prog.follows .mixedOrders = true) (n : Nat) : CalleeS Tryd.prog abiG 93 (keccak_state_take.c n) :=
  CalleeS.of (res := keccak_state_take.res) (shape := keccak_state_take.shape) (fun R u K => rfl) (fun args lent t h => by
    unfold keccak_state_take.pat at h
    split at h
    · cases h; rfl
    · cases h) fun t u h => (keccak_state_take.call hmix n t u h).ok Tryd.func93 (by decide) (by kernel_rfl)
end
section
theorem word_Read.l4_0.rmap {α β : Type} (h : β → α) (mk0 : (List Int) → (List Int) → β) (n : Nat) (f : Int → Int → (List Int) → (List Int) → (List Int) → Option β)  (x0 : Int) (x1 : Int) (x2 : (List Int)) (x3 : (List Int)) (x4 : (List Int)) : word_Read.l4_0.r (fun a0 a1 => (h (mk0 a0 a1))) n (fun y0 y1 y2 y3 y4 => (f y0 y1 y2 y3 y4).map h) x0 x1 x2 x3 x4 = (word_Read.l4_0.r mk0 n f x0 x1 x2 x3 x4).map h := by
  unfold word_Read.l4_0.r
  exact (ite_map (ite_map (ite_map (ite_map (ite_map (ite_map (ite_map (ite_map rfl rfl) rfl) rfl) rfl) rfl) rfl) rfl) rfl)
theorem word_Read.l4_0.gmap {α β : Type} (h : β → α) (mk0 : (List Int) → (List Int) → β) (n : Nat) : ∀ (m : Nat) (x0 : Int) (x1 : Int) (x2 : (List Int)) (x3 : (List Int)) (x4 : (List Int)), word_Read.l4_0.g (fun a0 a1 => (h (mk0 a0 a1))) n m x0 x1 x2 x3 x4 = (word_Read.l4_0.g mk0 n m x0 x1 x2 x3 x4).map h
  | 0, _, _, _, _, _ => rfl
  | m + 1, x0, x1, x2, x3, x4 => by
    unfold word_Read.l4_0.g
    rw [← word_Read.l4_0.rmap]
    congr
    · funext y0 y1 y2 y3 y4; exact word_Read.l4_0.gmap h mk0 n m y0 y1 y2 y3 y4
theorem word_Read.l4_0.pat_shape : ∀ st t, word_Read.l4_0.pat st = some t → st = word_Read.l4_0.shape t := by
  intro st t h
  unfold word_Read.l4_0.pat at h
  split at h
  · cases h; rfl
  · cases h
theorem word_Read.l4_0.round (n : Nat) (rc : St → Option (Ex × St)) (x0 : Int) (x1 : Int) (x2 : (List Int)) (x3 : (List Int)) (x4 : (List Int)) : roundOf (word_Read.C n) (word_Read.A n) n word_Read.b0 rc ((St.mk [(.int .i64 x0), (.int .i64 x1), (.ptr 0 []), (.rints .u8 x2), (.ptr 1 [])] [(some (.var (.ints .u64 4 x3))), (some (.var (.ints .u64 4 x4)))])) = word_Read.l4_0.r (fun a0 a1 => ((Prod.mk (.exit 0) (St.mk [(.ptr 0 []), (.ptr 1 [])] [(some (.var (.ints .u64 4 a0))), (some (.var (.ints .u64 4 a1)))])) : Ex × St)) n (fun y0 y1 y2 y3 y4 => rc ((St.mk [(.int .i64 y0), (.int .i64 y1), (.ptr 0 []), (.rints .u8 y2), (.ptr 1 [])] [(some (.var (.ints .u64 4 y3))), (some (.var (.ints .u64 4 y4)))]))) x0 x1 x2 x3 x4 := by kernel_rfl
theorem word_Read.l4_0.loop' (n : Nat) : ∀ (m : Nat) (t : (Int × (Int × ((List Int) × ((List Int) × (List Int)))))), loopOf (roundOf (word_Read.C n) (word_Read.A n) n word_Read.b0) m (word_Read.l4_0.shape t) = word_Read.l4_0.g (fun a0 a1 => ((Prod.mk (.exit 0) (St.mk [(.ptr 0 []), (.ptr 1 [])] [(some (.var (.ints .u64 4 a0))), (some (.var (.ints .u64 4 a1)))])) : Ex × St)) n m t.1 t.2.1 t.2.2.1 t.2.2.2.1 t.2.2.2.2 :=
  loop_of_round (shape := word_Read.l4_0.shape) (body := roundOf (word_Read.C n) (word_Read.A n) n word_Read.b0) (g := fun m t => word_Read.l4_0.g (fun a0 a1 => ((Prod.mk (.exit 0) (St.mk [(.ptr 0 []), (.ptr 1 [])] [(some (.var (.ints .u64 4 a0))), (some (.var (.ints .u64 4 a1)))])) : Ex × St)) n m t.1 t.2.1 t.2.2.1 t.2.2.2.1 t.2.2.2.2) (fun t => rfl)
    fun m t ih => (word_Read.l4_0.round n (loopOf (roundOf (word_Read.C n) (word_Read.A n) n word_Read.b0) m) t.1 t.2.1 t.2.2.1 t.2.2.2.1 t.2.2.2.2).trans (congrFun (congrFun (congrFun (congrFun (congrFun (congrArg (word_Read.l4_0.r (fun a0 a1 => ((Prod.mk (.exit 0) (St.mk [(.ptr 0 []), (.ptr 1 [])] [(some (.var (.ints .u64 4 a0))), (some (.var (.ints .u64 4 a1)))])) : Ex × St)) n) (funext fun y0 => funext fun y1 => funext fun y2 => funext fun y3 => funext fun y4 => ih (y0, y1, y2, y3, y4))) t.1) t.2.1) t.2.2.1) t.2.2.2.1) t.2.2.2.2)
theorem word_Read.l4_0.loop (n m : Nat) (t : (Int × (Int × ((List Int) × ((List Int) × (List Int)))))) : loopOf (roundOf (word_Read.C n) (word_Read.A n) n word_Read.b0) m (word_Read.l4_0.shape t) = (word_Read.l4_0.m n m t).map word_Read.l4_0.res :=
  (word_Read.l4_0.loop' n m t).trans (word_Read.l4_0.gmap word_Read.l4_0.res (fun a0 a1 => (a0, a1)) n m t.1 t.2.1 t.2.2.1 t.2.2.2.1 t.2.2.2.2)
theorem word_Read.gmap {α β : Type} (h : β → α) (mk0 : (List Int) → β) (n : Nat) (a0 : (List Int)) : word_Read.g (fun a0 => (h (mk0 a0))) n a0 = (word_Read.g mk0 n a0).map h := by
  unfold word_Read.g
  exact (ite_map (ite_map (bindO_map fun r6 => rfl) rfl) rfl)
theorem word_Read.run (n : Nat) (a0 : (List Int)) : runF (word_Read.C n) (word_Read.A n) n Tryd.f89 [(.rints .u8 a0)] [] (fun v o => some (v, o)) = word_Read.g (fun a0 => ((Prod.mk (.ints .u64 4 a0) []) : AV × Blks)) n a0 := by kernel_rfl
theorem word_Read.call (hmix : Tryd.prog.follows .mixedOrders = true) (n : Nat) (t : (List Int)) (u) (h : word_Read.m n t = some u) : FnC Tryd.prog abiG 89 (word_Read.shape t).1 (word_Read.shape t).2 (word_Read.res u).1 (word_Read.res u).2 := by
  have hg : ∀ f m, (word_Read.C n).Γ f = some m → CalleeS Tryd.prog abiG f m := by
    intro f m hm
    unfold word_Read.C at hm
    simp only at hm
    first
    | (cases hm; done)
    | (split at hm <;> first
    | (cases hm; done))
  have hb : Tryd.f89.body = some (Tryd.f89.body.getD .skip) := by kernel_rfl
  refine runF_calls (C := word_Read.C n) (A := word_Read.A n) (n := n) (fn := Tryd.f89) hg hmix Tryd.func89 hb ?_ ?_ (by decide) rfl rfl (by show 1 ≤ Tryd.f89.ntmps; decide) ?_
  · rw [show loopsIn (Tryd.f89.body.getD .skip) = [word_Read.b0] by kernel_rfl]
    intro b hb m hm
    simp only [List.mem_cons, List.not_mem_nil, or_false] at hb
    rcases hb with rfl
    · have e : (word_Read.A n).loop (key word_Read.b0) = some (.mk' word_Read.l4_0.pat (word_Read.l4_0.m n n) word_Read.l4_0.resK) := by rw [show key word_Read.b0 = 4 by kernel_rfl]; rfl
      rw [e] at hm
      cases hm
      exact (LoopS.of (res := word_Read.l4_0.res) (fun R u K => rfl) word_Read.l4_0.pat_shape fun t => word_Read.l4_0.loop n n t)
  · intro a ha m hm
    cases (show none = some m from hm)
  · rw [show runF (word_Read.C n) (word_Read.A n) n Tryd.f89 (word_Read.shape t).1 (word_Read.shape t).2 (fun v o => some (v, o)) = _ from word_Read.run n t]
    have e := word_Read.gmap word_Read.res (fun a0 => a0) n t
    unfold word_Read.m at h
    rw [h] at e
    exact e
theorem word_Read.s (hmix : Tryd.prog.follows .mixedOrders = true) (n : Nat) : CalleeS Tryd.prog abiG 89 (word_Read.c n) :=
  CalleeS.of (res := word_Read.res) (shape := word_Read.shape) (fun R u K => rfl) (fun args lent t h => by
    unfold word_Read.pat at h
    split at h
    · cases h; rfl
    · cases h) fun t u h => (word_Read.call hmix n t u h).ok Tryd.func89 (by decide) (by kernel_rfl)
end
section
theorem keccak_Sum.l2_0.rmap {α β : Type} (h : β → α) (mk0 : (List Int) → (List Int) → (List Int) → β) (n : Nat) (f : (List Int) → (List Int) → (List Int) → Option β)  (x0 : (List Int)) (x1 : (List Int)) (x2 : (List Int)) : keccak_Sum.l2_0.r (fun a0 a1 a2 => (h (mk0 a0 a1 a2))) n (fun y0 y1 y2 => (f y0 y1 y2).map h) x0 x1 x2 = (keccak_Sum.l2_0.r mk0 n f x0 x1 x2).map h := by
  unfold keccak_Sum.l2_0.r
  exact (ite_map (ite_map (bindO_map fun r8 => (ite_map rfl rfl)) rfl) rfl)
theorem keccak_Sum.l2_0.gmap {α β : Type} (h : β → α) (mk0 : (List Int) → (List Int) → (List Int) → β) (n : Nat) : ∀ (m : Nat) (x0 : (List Int)) (x1 : (List Int)) (x2 : (List Int)), keccak_Sum.l2_0.g (fun a0 a1 a2 => (h (mk0 a0 a1 a2))) n m x0 x1 x2 = (keccak_Sum.l2_0.g mk0 n m x0 x1 x2).map h
  | 0, _, _, _ => rfl
  | m + 1, x0, x1, x2 => by
    unfold keccak_Sum.l2_0.g
    rw [← keccak_Sum.l2_0.rmap]
    congr
    · funext y0 y1 y2; exact keccak_Sum.l2_0.gmap h mk0 n m y0 y1 y2
theorem keccak_Sum.l2_0.pat_shape : ∀ st t, keccak_Sum.l2_0.pat st = some t → st = keccak_Sum.l2_0.shape t := by
  intro st t h
  unfold keccak_Sum.l2_0.pat at h
  split at h
  · cases h; rfl
  · cases h
theorem keccak_Sum.l2_0.round (n : Nat) (rc : St → Option (Ex × St)) (x0 : (List Int)) (x1 : (List Int)) (x2 : (List Int)) : roundOf (keccak_Sum.C n) (keccak_Sum.A n) n keccak_Sum.b0 rc ((St.mk [(.rints .u8 x0), (.ptr 0 []), (.ptr 1 [])] [(some (.var (.ints .u64 25 x1))), (some (.var (.ints .u64 4 x2)))])) = keccak_Sum.l2_0.r (fun a0 a1 a2 => ((Prod.mk (.exit 0) (St.mk [(.rints .u8 a0), (.ptr 0 []), (.ptr 1 [])] [(some (.var (.ints .u64 25 a1))), (some (.var (.ints .u64 4 a2)))])) : Ex × St)) n (fun y0 y1 y2 => rc ((St.mk [(.rints .u8 y0), (.ptr 0 []), (.ptr 1 [])] [(some (.var (.ints .u64 25 y1))), (some (.var (.ints .u64 4 y2)))]))) x0 x1 x2 := by kernel_rfl
theorem keccak_Sum.l2_0.loop' (n : Nat) : ∀ (m : Nat) (t : ((List Int) × ((List Int) × (List Int)))), loopOf (roundOf (keccak_Sum.C n) (keccak_Sum.A n) n keccak_Sum.b0) m (keccak_Sum.l2_0.shape t) = keccak_Sum.l2_0.g (fun a0 a1 a2 => ((Prod.mk (.exit 0) (St.mk [(.rints .u8 a0), (.ptr 0 []), (.ptr 1 [])] [(some (.var (.ints .u64 25 a1))), (some (.var (.ints .u64 4 a2)))])) : Ex × St)) n m t.1 t.2.1 t.2.2 :=
  loop_of_round (shape := keccak_Sum.l2_0.shape) (body := roundOf (keccak_Sum.C n) (keccak_Sum.A n) n keccak_Sum.b0) (g := fun m t => keccak_Sum.l2_0.g (fun a0 a1 a2 => ((Prod.mk (.exit 0) (St.mk [(.rints .u8 a0), (.ptr 0 []), (.ptr 1 [])] [(some (.var (.ints .u64 25 a1))), (some (.var (.ints .u64 4 a2)))])) : Ex × St)) n m t.1 t.2.1 t.2.2) (fun t => rfl)
    fun m t ih => (keccak_Sum.l2_0.round n (loopOf (roundOf (keccak_Sum.C n) (keccak_Sum.A n) n keccak_Sum.b0) m) t.1 t.2.1 t.2.2).trans (congrFun (congrFun (congrFun (congrArg (keccak_Sum.l2_0.r (fun a0 a1 a2 => ((Prod.mk (.exit 0) (St.mk [(.rints .u8 a0), (.ptr 0 []), (.ptr 1 [])] [(some (.var (.ints .u64 25 a1))), (some (.var (.ints .u64 4 a2)))])) : Ex × St)) n) (funext fun y0 => funext fun y1 => funext fun y2 => ih (y0, y1, y2))) t.1) t.2.1) t.2.2)
theorem keccak_Sum.l2_0.loop (n m : Nat) (t : ((List Int) × ((List Int) × (List Int)))) : loopOf (roundOf (keccak_Sum.C n) (keccak_Sum.A n) n keccak_Sum.b0) m (keccak_Sum.l2_0.shape t) = (keccak_Sum.l2_0.m n m t).map keccak_Sum.l2_0.res :=
  (keccak_Sum.l2_0.loop' n m t).trans (keccak_Sum.l2_0.gmap keccak_Sum.l2_0.res (fun a0 a1 a2 => (a0, a1, a2)) n m t.1 t.2.1 t.2.2)
theorem keccak_Sum.l12_0.rmap {α β : Type} (h : β → α) (mk0 : (List Int) → (List Int) → β) (n : Nat) (f : Int → (List Int) → (List Int) → (List Int) → Option β)  (x0 : Int) (x1 : (List Int)) (x2 : (List Int)) (x3 : (List Int)) : keccak_Sum.l12_0.r (fun a0 a1 => (h (mk0 a0 a1))) n (fun y0 y1 y2 y3 => (f y0 y1 y2 y3).map h) x0 x1 x2 x3 = (keccak_Sum.l12_0.r mk0 n f x0 x1 x2 x3).map h := by
  unfold keccak_Sum.l12_0.r
  exact (ite_map (ite_map (ite_map (ite_map (ite_map (ite_map rfl rfl) rfl) rfl) rfl) rfl) rfl)
theorem keccak_Sum.l12_0.gmap {α β : Type} (h : β → α) (mk0 : (List Int) → (List Int) → β) (n : Nat) : ∀ (m : Nat) (x0 : Int) (x1 : (List Int)) (x2 : (List Int)) (x3 : (List Int)), keccak_Sum.l12_0.g (fun a0 a1 => (h (mk0 a0 a1))) n m x0 x1 x2 x3 = (keccak_Sum.l12_0.g mk0 n m x0 x1 x2 x3).map h
  | 0, _, _, _, _ => rfl
  | m + 1, x0, x1, x2, x3 => by
    unfold keccak_Sum.l12_0.g
    rw [← keccak_Sum.l12_0.rmap]
    congr
    · funext y0 y1 y2 y3; exact keccak_Sum.l12_0.gmap h mk0 n m y0 y1 y2 y3
theorem keccak_Sum.l12_0.pat_shape : ∀ st t, keccak_Sum.l12_0.pat st = some t → st = keccak_Sum.l12_0.shape t := by
  intro st t h
  unfold keccak_Sum.l12_0.pat at h
  split at h
  · cases h; rfl
  · cases h
theorem keccak_Sum.l12_0.round (n : Nat) (rc : St → Option (Ex × St)) (x0 : Int) (x1 : (List Int)) (x2 : (List Int)) (x3 : (List Int)) : roundOf (keccak_Sum.C n) (keccak_Sum.A n) n keccak_Sum.b1 rc ((St.mk [(.int .i64 x0), (.ptr 0 []), (.ptr 1 []), (.ptr 2 [])] [(some (.var (.ints .u64 25 x1))), (some (.var (.ints .u8 32 x2))), (some (.var (.ints .u64 4 x3)))])) = keccak_Sum.l12_0.r (fun a0 a1 => ((Prod.mk (.exit 2) (St.mk [(.ptr 0 []), (.ptr 1 [])] [(some (.var (.ints .u8 32 a0))), (some (.var (.ints .u64 4 a1)))])) : Ex × St)) n (fun y0 y1 y2 y3 => rc ((St.mk [(.int .i64 y0), (.ptr 0 []), (.ptr 1 []), (.ptr 2 [])] [(some (.var (.ints .u64 25 y1))), (some (.var (.ints .u8 32 y2))), (some (.var (.ints .u64 4 y3)))]))) x0 x1 x2 x3 := by kernel_rfl
theorem keccak_Sum.l12_0.loop' (n : Nat) : ∀ (m : Nat) (t : (Int × ((List Int) × ((List Int) × (List Int))))), loopOf (roundOf (keccak_Sum.C n) (keccak_Sum.A n) n keccak_Sum.b1) m (keccak_Sum.l12_0.shape t) = keccak_Sum.l12_0.g (fun a0 a1 => ((Prod.mk (.exit 2) (St.mk [(.ptr 0 []), (.ptr 1 [])] [(some (.var (.ints .u8 32 a0))), (some (.var (.ints .u64 4 a1)))])) : Ex × St)) n m t.1 t.2.1 t.2.2.1 t.2.2.2 :=
  loop_of_round (shape := keccak_Sum.l12_0.shape) (body := roundOf (keccak_Sum.C n) (keccak_Sum.A n) n keccak_Sum.b1) (g := fun m t => keccak_Sum.l12_0.g (fun a0 a1 => ((Prod.mk (.exit 2) (St.mk [(.ptr 0 []), (.ptr 1 [])] [(some (.var (.ints .u8 32 a0))), (some (.var (.ints .u64 4 a1)))])) : Ex × St)) n m t.1 t.2.1 t.2.2.1 t.2.2.2) (fun t => rfl)
    fun m t ih => (keccak_Sum.l12_0.round n (loopOf (roundOf (keccak_Sum.C n) (keccak_Sum.A n) n keccak_Sum.b1) m) t.1 t.2.1 t.2.2.1 t.2.2.2).trans (congrFun (congrFun (congrFun (congrFun (congrArg (keccak_Sum.l12_0.r (fun a0 a1 => ((Prod.mk (.exit 2) (St.mk [(.ptr 0 []), (.ptr 1 [])] [(some (.var (.ints .u8 32 a0))), (some (.var (.ints .u64 4 a1)))])) : Ex × St)) n) (funext fun y0 => funext fun y1 => funext fun y2 => funext fun y3 => ih (y0, y1, y2, y3))) t.1) t.2.1) t.2.2.1) t.2.2.2)
theorem keccak_Sum.l12_0.loop (n m : Nat) (t : (Int × ((List Int) × ((List Int) × (List Int))))) : loopOf (roundOf (keccak_Sum.C n) (keccak_Sum.A n) n keccak_Sum.b1) m (keccak_Sum.l12_0.shape t) = (keccak_Sum.l12_0.m n m t).map keccak_Sum.l12_0.res :=
  (keccak_Sum.l12_0.loop' n m t).trans (keccak_Sum.l12_0.gmap keccak_Sum.l12_0.res (fun a0 a1 => (a0, a1)) n m t.1 t.2.1 t.2.2.1 t.2.2.2)
theorem keccak_Sum.gmap {α β : Type} (h : β → α) (mk0 : (List Int) → β) (n : Nat) (a0 : (List Int)) : keccak_Sum.g (fun a0 => (h (mk0 a0))) n a0 = (keccak_Sum.g mk0 n a0).map h := by
  unfold keccak_Sum.g
  exact (bindO_map fun r2 => (ite_map (ite_map (bindO_map fun r8 => (bindO_map fun r10 => (bindO_map fun r12 => rfl))) rfl) rfl))
theorem keccak_Sum.run (n : Nat) (a0 : (List Int)) : runF (keccak_Sum.C n) (keccak_Sum.A n) n Tryd.f57 [(.rints .u8 a0)] [] (fun v o => some (v, o)) = keccak_Sum.g (fun a0 => ((Prod.mk (.ints .u64 4 a0) []) : AV × Blks)) n a0 := by kernel_rfl
theorem keccak_Sum.call (hmix : Tryd.prog.follows .mixedOrders = true) (n : Nat) (t : (List Int)) (u) (h : keccak_Sum.m n t = some u) : FnC Tryd.prog abiG 57 (keccak_Sum.shape t).1 (keccak_Sum.shape t).2 (keccak_Sum.res u).1 (keccak_Sum.res u).2 := by
  have hg : ∀ f m, (keccak_Sum.C n).Γ f = some m → CalleeS Tryd.prog abiG f m := by
    intro f m hm
    unfold keccak_Sum.C at hm
    simp only at hm
    first
    | (cases hm; done)
    | (split at hm <;> first
    | (cases hm; exact keccak_state_take.s hmix n)
    | (cases hm; exact word_Read.s hmix n)
    | (cases hm; done))
  have hb : Tryd.f57.body = some (Tryd.f57.body.getD .skip) := by kernel_rfl
  refine runF_calls (C := keccak_Sum.C n) (A := keccak_Sum.A n) (n := n) (fn := Tryd.f57) hg hmix Tryd.func57 hb ?_ ?_ (by decide) rfl rfl (by show 1 ≤ Tryd.f57.ntmps; decide) ?_
  · rw [show loopsIn (Tryd.f57.body.getD .skip) = [keccak_Sum.b0, keccak_Sum.b1] by kernel_rfl]
    intro b hb m hm
    simp only [List.mem_cons, List.not_mem_nil, or_false] at hb
    rcases hb with rfl | rfl
    · have e : (keccak_Sum.A n).loop (key keccak_Sum.b0) = some (.mk' keccak_Sum.l2_0.pat (keccak_Sum.l2_0.m n n) keccak_Sum.l2_0.resK) := by rw [show key keccak_Sum.b0 = 2 by kernel_rfl]; rfl
      rw [e] at hm
      cases hm
      exact (LoopS.of (res := keccak_Sum.l2_0.res) (fun R u K => rfl) keccak_Sum.l2_0.pat_shape fun t => keccak_Sum.l2_0.loop n n t)
    · have e : (keccak_Sum.A n).loop (key keccak_Sum.b1) = some (.mk' keccak_Sum.l12_0.pat (keccak_Sum.l12_0.m n n) keccak_Sum.l12_0.resK) := by rw [show key keccak_Sum.b1 = 12 by kernel_rfl]; rfl
      rw [e] at hm
      cases hm
      exact (LoopS.of (res := keccak_Sum.l12_0.res) (fun R u K => rfl) keccak_Sum.l12_0.pat_shape fun t => keccak_Sum.l12_0.loop n n t)
  · intro a ha m hm
    cases (show none = some m from hm)
  · rw [show runF (keccak_Sum.C n) (keccak_Sum.A n) n Tryd.f57 (keccak_Sum.shape t).1 (keccak_Sum.shape t).2 (fun v o => some (v, o)) = _ from keccak_Sum.run n t]
    have e := keccak_Sum.gmap keccak_Sum.res (fun a0 => a0) n t
    unfold keccak_Sum.m at h
    rw [h] at e
    exact e
theorem keccak_Sum.s (hmix : Tryd.prog.follows .mixedOrders = true) (n : Nat) : CalleeS Tryd.prog abiG 57 (keccak_Sum.c n) :=
  CalleeS.of (res := keccak_Sum.res) (shape := keccak_Sum.shape) (fun R u K => rfl) (fun args lent t h => by
    unfold keccak_Sum.pat at h
    split at h
    · cases h; rfl
    · cases h) fun t u h => (keccak_Sum.call hmix n t u h).ok Tryd.func57 (by decide) (by kernel_rfl)
end
section
noncomputable section
noncomputable def q01_Read.C (n : Nat) : Ctx := ⟨Tryd.prog, abiG, fun f => match f with
 | _ => none, fun _ => false⟩
def q01_Read.live : Nat → List Nat × List Nat := fun k => match k with
 | 4 => ([5, 4, 3, 0, 2], [3, 2])
 | _ => ([], [])
def q01_Read.jlive : Nat → List Nat × List Nat := fun k => match k with
 | _ => ([], [])
def q01_Read.l4_0.r {α : Type} (mk0 : (List Int) → (List Int) → α) (n : Nat) (rc : Int → Int → (List Int) → (List Int) → (List Int) → Option α)  (x0 : Int) (x1 : Int) (x2 : (List Int)) (x3 : (List Int)) (x4 : (List Int)) : Option α :=
  if (decide (x0 < 32)) = true then
   if (decide (x0 < x1)) = true then
    if 0 ≤ (IntKind.wrap .i64 (Int.tdiv x0 8)) then
     if (IntKind.wrap .i64 (Int.tdiv x0 8)) < 4 then
      if 0 ≤ (IntKind.wrap .i64 ((IntKind.wrap .i64 (x1 - 1)) - x0)) then
       if (IntKind.wrap .i64 ((IntKind.wrap .i64 (x1 - 1)) - x0)) < (((List.length x2) : Nat) : Int) then
        if 0 ≤ (IntKind.wrap .u64 (IntKind.wrap .i64 ((Int.tmod x0 8) * 8))) then
         if 0 ≤ (IntKind.wrap .i64 (Int.tdiv x0 8)) then
          if (IntKind.wrap .i64 (Int.tdiv x0 8)) < 4 then
           rc (IntKind.wrap .i64 (x0 + 1)) x1 x2 (List.set x3 (Int.toNat (IntKind.wrap .i64 (Int.tdiv x0 8))) (ibits BinOp.or .u64 (List.getD x3 (Int.toNat (IntKind.wrap .i64 (Int.tdiv x0 8))) 0) (ishl .u64 (IntKind.wrap .u64 (List.getD x2 (Int.toNat (IntKind.wrap .i64 ((IntKind.wrap .i64 (x1 - 1)) - x0))) 0)) (IntKind.wrap .u64 (IntKind.wrap .i64 ((Int.tmod x0 8) * 8)))))) x4
          else
           none
         else
          none
        else
         none
       else
        none
      else
       none
     else
      none
    else
     none
   else
    some (mk0 x3 x4)
  else
   some (mk0 x3 x4)
def q01_Read.l4_0.g {α : Type} (mk0 : (List Int) → (List Int) → α) (n : Nat) : Nat → Int → Int → (List Int) → (List Int) → (List Int) → Option α
 | 0, _, _, _, _, _ => none
 | m + 1, x0, x1, x2, x3, x4 => q01_Read.l4_0.r mk0 n (fun y0 y1 y2 y3 y4 => q01_Read.l4_0.g mk0 n m y0 y1 y2 y3 y4)  x0 x1 x2 x3 x4
def q01_Read.l4_0.m (n m : Nat) (t : (Int × (Int × ((List Int) × ((List Int) × (List Int)))))) : Option ((List Int) × (List Int)) := q01_Read.l4_0.g (fun a0 a1 => (a0, a1)) n m t.1 t.2.1 t.2.2.1 t.2.2.2.1 t.2.2.2.2
def q01_Read.l4_0.pat : St → Option (Int × (Int × ((List Int) × ((List Int) × (List Int)))))
 | (St.mk [(.int .i64 x0), (.int .i64 x1), (.ptr 0 []), (.rints .u8 x2), (.ptr 1 [])] [(some (.var (.ints .u64 4 x3))), (some (.var (.ints .u64 4 x4)))]) => some (x0, x1, x2, x3, x4)
 | _ => none
def q01_Read.l4_0.shape (t : (Int × (Int × ((List Int) × ((List Int) × (List Int)))))) : St := (St.mk [(.int .i64 t.1), (.int .i64 t.2.1), (.ptr 0 []), (.rints .u8 t.2.2.1), (.ptr 1 [])] [(some (.var (.ints .u64 4 t.2.2.2.1))), (some (.var (.ints .u64 4 t.2.2.2.2)))])
def q01_Read.l4_0.res : ((List Int) × (List Int)) → Ex × St
 | u => (Prod.mk (.exit 0) (St.mk [(.ptr 0 []), (.ptr 1 [])] [(some (.var (.ints .u64 4 u.1))), (some (.var (.ints .u64 4 u.2)))]))
def q01_Read.l4_0.resK {R : Type} (u : ((List Int) × (List Int))) (K : Ex → St → Option R) : Option R := (fun p : Ex × St => K p.1 p.2) (Prod.mk (.exit 0) (St.mk [(.ptr 0 []), (.ptr 1 [])] [(some (.var (.ints .u64 4 u.1))), (some (.var (.ints .u64 4 u.2)))]))
noncomputable def q01_Read.A (n : Nat) : Ann := ⟨Tryd.f65.ntmps, 0, q01_Read.live, [(0, (.ints .u8))], [none], fun k => match k with
 | 4 => some (.mk' q01_Read.l4_0.pat (q01_Read.l4_0.m n n) q01_Read.l4_0.resK)
 | _ => none, q01_Read.jlive, lookJ []⟩
noncomputable def q01_Read.b0 : Code := (loopsIn (Tryd.f65.body.getD .skip)).getD 0 .skip
def q01_Read.g {α : Type} (mk0 : (List Int) → α) (n : Nat) (a0 : (List Int)) : Option α :=
 bindO (q01_Read.l4_0.m n n (0, (((List.length a0) : Nat) : Int), a0, [0, 0, 0, 0], [0, 0, 0, 0])) fun r2 =>
  some (mk0 (Prod.fst r2))
def q01_Read.m (n : Nat) (t : (List Int)) : Option (List Int) := q01_Read.g (fun a0 => a0) n t
def q01_Read.pat : List AV → Blks → Option (List Int)
 | [(.rints .u8 a0)], [] => some a0
 | _, _ => none
def q01_Read.shape (t : (List Int)) : List AV × Blks := ([(.rints .u8 t)], [])
def q01_Read.res : (List Int) → AV × Blks
 | u => (Prod.mk (.ints .u64 4 u) [])
def q01_Read.resK {R : Type} (u : (List Int)) (K : AV → Blks → Option R) : Option R := (fun p : AV × Blks => K p.1 p.2) (Prod.mk (.ints .u64 4 u) [])
def q01_Read.c (n : Nat) : Abs.Callee := .mk' [] [(some (.ints .u8))] q01_Read.pat (q01_Read.m n) q01_Read.resK
end
end
section
noncomputable section
noncomputable def q02_Sum.C (n : Nat) : Ctx := ⟨Tryd.prog, abiG, fun f => match f with
 | 96 => some (q02_turns.c n)
 | 97 => some (q02_keys.c n)
 | 98 => some (q02_mix.c n)
 | 65 => some (q01_Read.c n)
 | _ => none, fun _ => false⟩
def q02_Sum.live : Nat → List Nat × List Nat := fun k => match k with
 | 4 => ([3, 2], [3, 2])
 | 11 => ([7, 3, 6, 4, 5, 2], [6, 2])
 | 14 => ([8, 6, 3, 7, 4, 5, 2], [6, 4, 5, 7, 3, 2])
 | 17 => ([9, 6, 8, 3, 7, 4, 5, 2], [8, 6, 3, 7, 4, 5, 2])
 | 23 => ([11, 10, 6, 2], [10, 2])
 | 26 => ([12, 10, 6, 11, 2], [11, 10, 6, 2])
 | _ => ([], [])
def q02_Sum.jlive : Nat → List Nat × List Nat := fun k => match k with
 | _ => ([], [])
def q02_Sum.l4_0.r {α : Type} (mk0 : (List Int) → (List Int) → α) (n : Nat) (rc : (List Int) → (List Int) → Option α)  (x0 : (List Int)) (x1 : (List Int)) : Option α :=
  if ((Int.tmod (((List.length x0) : Nat) : Int) 136) != 0) = true then
   if ((((List.length x0) + 1) * 1) ≤ 70368744177664 ∧ ((List.length x0) + 1) ≤ 9223372036854775807) then
    rc (x0 ++ [0]) x1
   else
    none
  else
   some (mk0 x0 x1)
def q02_Sum.l4_0.g {α : Type} (mk0 : (List Int) → (List Int) → α) (n : Nat) : Nat → (List Int) → (List Int) → Option α
 | 0, _, _ => none
 | m + 1, x0, x1 => q02_Sum.l4_0.r mk0 n (fun y0 y1 => q02_Sum.l4_0.g mk0 n m y0 y1)  x0 x1
def q02_Sum.l4_0.m (n m : Nat) (t : ((List Int) × (List Int))) : Option ((List Int) × (List Int)) := q02_Sum.l4_0.g (fun a0 a1 => (a0, a1)) n m t.1 t.2
def q02_Sum.l4_0.pat : St → Option ((List Int) × (List Int))
 | (St.mk [(.own 0 1), (.ptr 1 [])] [(some (.ints .u8 x0)), (some (.var (.ints .u64 4 x1)))]) => some (x0, x1)
 | _ => none
def q02_Sum.l4_0.shape (t : ((List Int) × (List Int))) : St := (St.mk [(.own 0 1), (.ptr 1 [])] [(some (.ints .u8 t.1)), (some (.var (.ints .u64 4 t.2)))])
def q02_Sum.l4_0.res : ((List Int) × (List Int)) → Ex × St
 | u => (Prod.mk (.exit 0) (St.mk [(.own 0 1), (.ptr 1 [])] [(some (.ints .u8 u.1)), (some (.var (.ints .u64 4 u.2)))]))
def q02_Sum.l4_0.resK {R : Type} (u : ((List Int) × (List Int))) (K : Ex → St → Option R) : Option R := (fun p : Ex × St => K p.1 p.2) (Prod.mk (.exit 0) (St.mk [(.own 0 1), (.ptr 1 [])] [(some (.ints .u8 u.1)), (some (.var (.ints .u64 4 u.2)))]))
def q02_Sum.l17_0.r {α : Type} (mk0 : Int → Int → (List Int) → (List Int) → (List Int) → (List Int) → (List Int) → α) (n : Nat) (rc : Int → Int → Int → (List Int) → (List Int) → (List Int) → (List Int) → (List Int) → Option α)  (x0 : Int) (x1 : Int) (x2 : Int) (x3 : (List Int)) (x4 : (List Int)) (x5 : (List Int)) (x6 : (List Int)) (x7 : (List Int)) : Option α :=
  if (decide (x0 < 8)) = true then
   if 0 ≤ x1 then
    if x1 < (((List.length x3) : Nat) : Int) then
     if 0 ≤ (IntKind.wrap .i64 ((IntKind.wrap .i64 (x2 + (IntKind.wrap .i64 (8 * x1)))) + x0)) then
      if (IntKind.wrap .i64 ((IntKind.wrap .i64 (x2 + (IntKind.wrap .i64 (8 * x1)))) + x0)) < (((List.length x4) : Nat) : Int) then
       if 0 ≤ (IntKind.wrap .u64 (IntKind.wrap .i64 (8 * x0))) then
        if 0 ≤ x1 then
         if x1 < (((List.length x3) : Nat) : Int) then
          rc (IntKind.wrap .i64 (x0 + 1)) x1 x2 (List.set x3 (Int.toNat x1) (ibits BinOp.xor .u64 (List.getD x3 (Int.toNat x1) 0) (ishl .u64 (IntKind.wrap .u64 (List.getD x4 (Int.toNat (IntKind.wrap .i64 ((IntKind.wrap .i64 (x2 + (IntKind.wrap .i64 (8 * x1)))) + x0))) 0)) (IntKind.wrap .u64 (IntKind.wrap .i64 (8 * x0)))))) x4 x5 x6 x7
         else
          none
        else
         none
       else
        none
      else
       none
     else
      none
    else
     none
   else
    none
  else
   some (mk0 x1 x2 x3 x4 x5 x6 x7)
def q02_Sum.l17_0.g {α : Type} (mk0 : Int → Int → (List Int) → (List Int) → (List Int) → (List Int) → (List Int) → α) (n : Nat) : Nat → Int → Int → Int → (List Int) → (List Int) → (List Int) → (List Int) → (List Int) → Option α
 | 0, _, _, _, _, _, _, _, _ => none
 | m + 1, x0, x1, x2, x3, x4, x5, x6, x7 => q02_Sum.l17_0.r mk0 n (fun y0 y1 y2 y3 y4 y5 y6 y7 => q02_Sum.l17_0.g mk0 n m y0 y1 y2 y3 y4 y5 y6 y7)  x0 x1 x2 x3 x4 x5 x6 x7
def q02_Sum.l17_0.m (n m : Nat) (t : (Int × (Int × (Int × ((List Int) × ((List Int) × ((List Int) × ((List Int) × (List Int))))))))) : Option (Int × (Int × ((List Int) × ((List Int) × ((List Int) × ((List Int) × (List Int))))))) := q02_Sum.l17_0.g (fun a0 a1 a2 a3 a4 a5 a6 => (a0, a1, a2, a3, a4, a5, a6)) n m t.1 t.2.1 t.2.2.1 t.2.2.2.1 t.2.2.2.2.1 t.2.2.2.2.2.1 t.2.2.2.2.2.2.1 t.2.2.2.2.2.2.2
def q02_Sum.l17_0.pat : St → Option (Int × (Int × (Int × ((List Int) × ((List Int) × ((List Int) × ((List Int) × (List Int))))))))
 | (St.mk [(.int .i64 x0), (.own 0 1), (.int .i64 x1), (.own 1 1), (.int .i64 x2), (.own 2 1), (.own 3 1), (.ptr 4 [])] [(some (.ints .u64 x3)), (some (.ints .u8 x4)), (some (.ints .i64 x5)), (some (.ints .u64 x6)), (some (.var (.ints .u64 4 x7)))]) => some (x0, x1, x2, x3, x4, x5, x6, x7)
 | _ => none
def q02_Sum.l17_0.shape (t : (Int × (Int × (Int × ((List Int) × ((List Int) × ((List Int) × ((List Int) × (List Int))))))))) : St := (St.mk [(.int .i64 t.1), (.own 0 1), (.int .i64 t.2.1), (.own 1 1), (.int .i64 t.2.2.1), (.own 2 1), (.own 3 1), (.ptr 4 [])] [(some (.ints .u64 t.2.2.2.1)), (some (.ints .u8 t.2.2.2.2.1)), (some (.ints .i64 t.2.2.2.2.2.1)), (some (.ints .u64 t.2.2.2.2.2.2.1)), (some (.var (.ints .u64 4 t.2.2.2.2.2.2.2)))])
def q02_Sum.l17_0.res : (Int × (Int × ((List Int) × ((List Int) × ((List Int) × ((List Int) × (List Int))))))) → Ex × St
 | u => (Prod.mk (.exit 6) (St.mk [(.int .i64 u.1), (.own 0 1), (.own 1 1), (.int .i64 u.2.1), (.own 2 1), (.own 3 1), (.ptr 4 [])] [(some (.ints .u64 u.2.2.1)), (some (.ints .u8 u.2.2.2.1)), (some (.ints .i64 u.2.2.2.2.1)), (some (.ints .u64 u.2.2.2.2.2.1)), (some (.var (.ints .u64 4 u.2.2.2.2.2.2)))]))
def q02_Sum.l17_0.resK {R : Type} (u : (Int × (Int × ((List Int) × ((List Int) × ((List Int) × ((List Int) × (List Int)))))))) (K : Ex → St → Option R) : Option R := (fun p : Ex × St => K p.1 p.2) (Prod.mk (.exit 6) (St.mk [(.int .i64 u.1), (.own 0 1), (.own 1 1), (.int .i64 u.2.1), (.own 2 1), (.own 3 1), (.ptr 4 [])] [(some (.ints .u64 u.2.2.1)), (some (.ints .u8 u.2.2.2.1)), (some (.ints .i64 u.2.2.2.2.1)), (some (.ints .u64 u.2.2.2.2.2.1)), (some (.var (.ints .u64 4 u.2.2.2.2.2.2)))]))
def q02_Sum.l14_0.r {α : Type} (mk0 : Int → (List Int) → (List Int) → (List Int) → (List Int) → (List Int) → α) (n : Nat) (rc : Int → Int → (List Int) → (List Int) → (List Int) → (List Int) → (List Int) → Option α)  (x0 : Int) (x1 : Int) (x2 : (List Int)) (x3 : (List Int)) (x4 : (List Int)) (x5 : (List Int)) (x6 : (List Int)) : Option α :=
  if (decide (x0 < 17)) = true then
   bindO (q02_Sum.l17_0.m n n (0, x0, x1, x2, x3, x4, x5, x6)) fun r6 =>
    rc (IntKind.wrap .i64 ((Prod.fst r6) + 1)) (Prod.fst r6.2) (Prod.fst (Prod.snd r6).2) (Prod.fst (Prod.snd r6.2).2) (Prod.fst (Prod.snd (Prod.snd r6).2).2) (Prod.fst (Prod.snd (Prod.snd r6.2).2).2) (Prod.snd (Prod.snd (Prod.snd r6.2).2).2)
  else
   some (mk0 x1 x2 x4 x5 x3 x6)
def q02_Sum.l14_0.g {α : Type} (mk0 : Int → (List Int) → (List Int) → (List Int) → (List Int) → (List Int) → α) (n : Nat) : Nat → Int → Int → (List Int) → (List Int) → (List Int) → (List Int) → (List Int) → Option α
 | 0, _, _, _, _, _, _, _ => none
 | m + 1, x0, x1, x2, x3, x4, x5, x6 => q02_Sum.l14_0.r mk0 n (fun y0 y1 y2 y3 y4 y5 y6 => q02_Sum.l14_0.g mk0 n m y0 y1 y2 y3 y4 y5 y6)  x0 x1 x2 x3 x4 x5 x6
def q02_Sum.l14_0.m (n m : Nat) (t : (Int × (Int × ((List Int) × ((List Int) × ((List Int) × ((List Int) × (List Int)))))))) : Option (Int × ((List Int) × ((List Int) × ((List Int) × ((List Int) × (List Int)))))) := q02_Sum.l14_0.g (fun a0 a1 a2 a3 a4 a5 => (a0, a1, a2, a3, a4, a5)) n m t.1 t.2.1 t.2.2.1 t.2.2.2.1 t.2.2.2.2.1 t.2.2.2.2.2.1 t.2.2.2.2.2.2
def q02_Sum.l14_0.pat : St → Option (Int × (Int × ((List Int) × ((List Int) × ((List Int) × ((List Int) × (List Int)))))))
 | (St.mk [(.int .i64 x0), (.own 0 1), (.own 1 1), (.int .i64 x1), (.own 2 1), (.own 3 1), (.ptr 4 [])] [(some (.ints .u64 x2)), (some (.ints .u8 x3)), (some (.ints .i64 x4)), (some (.ints .u64 x5)), (some (.var (.ints .u64 4 x6)))]) => some (x0, x1, x2, x3, x4, x5, x6)
 | _ => none
def q02_Sum.l14_0.shape (t : (Int × (Int × ((List Int) × ((List Int) × ((List Int) × ((List Int) × (List Int)))))))) : St := (St.mk [(.int .i64 t.1), (.own 0 1), (.own 1 1), (.int .i64 t.2.1), (.own 2 1), (.own 3 1), (.ptr 4 [])] [(some (.ints .u64 t.2.2.1)), (some (.ints .u8 t.2.2.2.1)), (some (.ints .i64 t.2.2.2.2.1)), (some (.ints .u64 t.2.2.2.2.2.1)), (some (.var (.ints .u64 4 t.2.2.2.2.2.2)))])
def q02_Sum.l14_0.res : (Int × ((List Int) × ((List Int) × ((List Int) × ((List Int) × (List Int)))))) → Ex × St
 | u => (Prod.mk (.exit 4) (St.mk [(.own 0 1), (.own 1 1), (.own 2 1), (.int .i64 u.1), (.own 3 1), (.ptr 4 [])] [(some (.ints .u64 u.2.1)), (some (.ints .i64 u.2.2.1)), (some (.ints .u64 u.2.2.2.1)), (some (.ints .u8 u.2.2.2.2.1)), (some (.var (.ints .u64 4 u.2.2.2.2.2)))]))
def q02_Sum.l14_0.resK {R : Type} (u : (Int × ((List Int) × ((List Int) × ((List Int) × ((List Int) × (List Int))))))) (K : Ex → St → Option R) : Option R := (fun p : Ex × St => K p.1 p.2) (Prod.mk (.exit 4) (St.mk [(.own 0 1), (.own 1 1), (.own 2 1), (.int .i64 u.1), (.own 3 1), (.ptr 4 [])] [(some (.ints .u64 u.2.1)), (some (.ints .i64 u.2.2.1)), (some (.ints .u64 u.2.2.2.1)), (some (.ints .u8 u.2.2.2.2.1)), (some (.var (.ints .u64 4 u.2.2.2.2.2)))]))
def q02_Sum.l11_0.r {α : Type} (mk0 : (List Int) → (List Int) → α) (n : Nat) (rc : Int → (List Int) → (List Int) → (List Int) → (List Int) → (List Int) → Option α)  (x0 : Int) (x1 : (List Int)) (x2 : (List Int)) (x3 : (List Int)) (x4 : (List Int)) (x5 : (List Int)) : Option α :=
  if (decide (x0 < (((List.length x1) : Nat) : Int))) = true then
   bindO (q02_Sum.l14_0.m n n (0, x0, x2, x1, x3, x4, x5)) fun r6 =>
    bindO (q02_mix.m n (Prod.mk (Prod.fst r6.2) (Prod.mk (Prod.fst (Prod.snd r6).2) (Prod.fst (Prod.snd r6.2).2)))) fun r8 => match r8 with
     | (.inl r8) =>
      rc (IntKind.wrap .i64 ((Prod.fst r6) + 136)) (Prod.fst (Prod.snd (Prod.snd r6).2).2) r8 (Prod.fst (Prod.snd r6).2) (Prod.fst (Prod.snd r6.2).2) (Prod.snd (Prod.snd (Prod.snd r6).2).2)
     | (.inr r8) =>
      none
  else
   some (mk0 x2 x5)
def q02_Sum.l11_0.g {α : Type} (mk0 : (List Int) → (List Int) → α) (n : Nat) : Nat → Int → (List Int) → (List Int) → (List Int) → (List Int) → (List Int) → Option α
 | 0, _, _, _, _, _, _ => none
 | m + 1, x0, x1, x2, x3, x4, x5 => q02_Sum.l11_0.r mk0 n (fun y0 y1 y2 y3 y4 y5 => q02_Sum.l11_0.g mk0 n m y0 y1 y2 y3 y4 y5)  x0 x1 x2 x3 x4 x5
def q02_Sum.l11_0.m (n m : Nat) (t : (Int × ((List Int) × ((List Int) × ((List Int) × ((List Int) × (List Int))))))) : Option ((List Int) × (List Int)) := q02_Sum.l11_0.g (fun a0 a1 => (a0, a1)) n m t.1 t.2.1 t.2.2.1 t.2.2.2.1 t.2.2.2.2.1 t.2.2.2.2.2
def q02_Sum.l11_0.pat : St → Option (Int × ((List Int) × ((List Int) × ((List Int) × ((List Int) × (List Int))))))
 | (St.mk [(.int .i64 x0), (.own 0 1), (.own 1 1), (.own 2 1), (.own 3 1), (.ptr 4 [])] [(some (.ints .u8 x1)), (some (.ints .u64 x2)), (some (.ints .i64 x3)), (some (.ints .u64 x4)), (some (.var (.ints .u64 4 x5)))]) => some (x0, x1, x2, x3, x4, x5)
 | _ => none
def q02_Sum.l11_0.shape (t : (Int × ((List Int) × ((List Int) × ((List Int) × ((List Int) × (List Int))))))) : St := (St.mk [(.int .i64 t.1), (.own 0 1), (.own 1 1), (.own 2 1), (.own 3 1), (.ptr 4 [])] [(some (.ints .u8 t.2.1)), (some (.ints .u64 t.2.2.1)), (some (.ints .i64 t.2.2.2.1)), (some (.ints .u64 t.2.2.2.2.1)), (some (.var (.ints .u64 4 t.2.2.2.2.2)))])
def q02_Sum.l11_0.res : ((List Int) × (List Int)) → Ex × St
 | u => (Prod.mk (.exit 2) (St.mk [(.own 0 1), (.ptr 1 [])] [(some (.ints .u64 u.1)), (some (.var (.ints .u64 4 u.2)))]))
def q02_Sum.l11_0.resK {R : Type} (u : ((List Int) × (List Int))) (K : Ex → St → Option R) : Option R := (fun p : Ex × St => K p.1 p.2) (Prod.mk (.exit 2) (St.mk [(.own 0 1), (.ptr 1 [])] [(some (.ints .u64 u.1)), (some (.var (.ints .u64 4 u.2)))]))
def q02_Sum.l26_0.r {α : Type} (mk0 : Int → (List Int) → (List Int) → (List Int) → α) (n : Nat) (rc : Int → Int → (List Int) → (List Int) → (List Int) → Option α)  (x0 : Int) (x1 : Int) (x2 : (List Int)) (x3 : (List Int)) (x4 : (List Int)) : Option α :=
  if (decide (x0 < 8)) = true then
   if 0 ≤ x1 then
    if x1 < (((List.length x3) : Nat) : Int) then
     if 0 ≤ (IntKind.wrap .u64 (IntKind.wrap .i64 (8 * x0))) then
      if ((((List.length x2) + 1) * 1) ≤ 70368744177664 ∧ ((List.length x2) + 1) ≤ 9223372036854775807) then
       rc (IntKind.wrap .i64 (x0 + 1)) x1 (x2 ++ [(IntKind.wrap .u8 (ishr .u64 (List.getD x3 (Int.toNat x1) 0) (IntKind.wrap .u64 (IntKind.wrap .i64 (8 * x0)))))]) x3 x4
      else
       none
     else
      none
    else
     none
   else
    none
  else
   some (mk0 x1 x2 x3 x4)
def q02_Sum.l26_0.g {α : Type} (mk0 : Int → (List Int) → (List Int) → (List Int) → α) (n : Nat) : Nat → Int → Int → (List Int) → (List Int) → (List Int) → Option α
 | 0, _, _, _, _, _ => none
 | m + 1, x0, x1, x2, x3, x4 => q02_Sum.l26_0.r mk0 n (fun y0 y1 y2 y3 y4 => q02_Sum.l26_0.g mk0 n m y0 y1 y2 y3 y4)  x0 x1 x2 x3 x4
def q02_Sum.l26_0.m (n m : Nat) (t : (Int × (Int × ((List Int) × ((List Int) × (List Int)))))) : Option (Int × ((List Int) × ((List Int) × (List Int)))) := q02_Sum.l26_0.g (fun a0 a1 a2 a3 => (a0, a1, a2, a3)) n m t.1 t.2.1 t.2.2.1 t.2.2.2.1 t.2.2.2.2
def q02_Sum.l26_0.pat : St → Option (Int × (Int × ((List Int) × ((List Int) × (List Int)))))
 | (St.mk [(.int .i64 x0), (.own 0 1), (.own 1 1), (.int .i64 x1), (.ptr 2 [])] [(some (.ints .u8 x2)), (some (.ints .u64 x3)), (some (.var (.ints .u64 4 x4)))]) => some (x0, x1, x2, x3, x4)
 | _ => none
def q02_Sum.l26_0.shape (t : (Int × (Int × ((List Int) × ((List Int) × (List Int)))))) : St := (St.mk [(.int .i64 t.1), (.own 0 1), (.own 1 1), (.int .i64 t.2.1), (.ptr 2 [])] [(some (.ints .u8 t.2.2.1)), (some (.ints .u64 t.2.2.2.1)), (some (.var (.ints .u64 4 t.2.2.2.2)))])
def q02_Sum.l26_0.res : (Int × ((List Int) × ((List Int) × (List Int)))) → Ex × St
 | u => (Prod.mk (.exit 10) (St.mk [(.int .i64 u.1), (.own 0 1), (.own 1 1), (.ptr 2 [])] [(some (.ints .u8 u.2.1)), (some (.ints .u64 u.2.2.1)), (some (.var (.ints .u64 4 u.2.2.2)))]))
def q02_Sum.l26_0.resK {R : Type} (u : (Int × ((List Int) × ((List Int) × (List Int))))) (K : Ex → St → Option R) : Option R := (fun p : Ex × St => K p.1 p.2) (Prod.mk (.exit 10) (St.mk [(.int .i64 u.1), (.own 0 1), (.own 1 1), (.ptr 2 [])] [(some (.ints .u8 u.2.1)), (some (.ints .u64 u.2.2.1)), (some (.var (.ints .u64 4 u.2.2.2)))]))
def q02_Sum.l23_0.r {α : Type} (mk0 : (List Int) → (List Int) → α) (n : Nat) (rc : Int → (List Int) → (List Int) → (List Int) → Option α)  (x0 : Int) (x1 : (List Int)) (x2 : (List Int)) (x3 : (List Int)) : Option α :=
  if (decide (x0 < 4)) = true then
   bindO (q02_Sum.l26_0.m n n (0, x0, x1, x2, x3)) fun r6 =>
    rc (IntKind.wrap .i64 ((Prod.fst r6) + 1)) (Prod.fst r6.2) (Prod.fst (Prod.snd r6).2) (Prod.snd (Prod.snd r6).2)
  else
   some (mk0 x1 x3)
def q02_Sum.l23_0.g {α : Type} (mk0 : (List Int) → (List Int) → α) (n : Nat) : Nat → Int → (List Int) → (List Int) → (List Int) → Option α
 | 0, _, _, _, _ => none
 | m + 1, x0, x1, x2, x3 => q02_Sum.l23_0.r mk0 n (fun y0 y1 y2 y3 => q02_Sum.l23_0.g mk0 n m y0 y1 y2 y3)  x0 x1 x2 x3
def q02_Sum.l23_0.m (n m : Nat) (t : (Int × ((List Int) × ((List Int) × (List Int))))) : Option ((List Int) × (List Int)) := q02_Sum.l23_0.g (fun a0 a1 => (a0, a1)) n m t.1 t.2.1 t.2.2.1 t.2.2.2
def q02_Sum.l23_0.pat : St → Option (Int × ((List Int) × ((List Int) × (List Int))))
 | (St.mk [(.int .i64 x0), (.own 0 1), (.own 1 1), (.ptr 2 [])] [(some (.ints .u8 x1)), (some (.ints .u64 x2)), (some (.var (.ints .u64 4 x3)))]) => some (x0, x1, x2, x3)
 | _ => none
def q02_Sum.l23_0.shape (t : (Int × ((List Int) × ((List Int) × (List Int))))) : St := (St.mk [(.int .i64 t.1), (.own 0 1), (.own 1 1), (.ptr 2 [])] [(some (.ints .u8 t.2.1)), (some (.ints .u64 t.2.2.1)), (some (.var (.ints .u64 4 t.2.2.2)))])
def q02_Sum.l23_0.res : ((List Int) × (List Int)) → Ex × St
 | u => (Prod.mk (.exit 8) (St.mk [(.own 0 1), (.ptr 1 [])] [(some (.ints .u8 u.1)), (some (.var (.ints .u64 4 u.2)))]))
def q02_Sum.l23_0.resK {R : Type} (u : ((List Int) × (List Int))) (K : Ex → St → Option R) : Option R := (fun p : Ex × St => K p.1 p.2) (Prod.mk (.exit 8) (St.mk [(.own 0 1), (.ptr 1 [])] [(some (.ints .u8 u.1)), (some (.var (.ints .u64 4 u.2)))]))
noncomputable def q02_Sum.A (n : Nat) : Ann := ⟨Tryd.f62.ntmps, 0, q02_Sum.live, [(3, (.ints .u8)), (4, (.ints .i64)), (5, (.ints .u64)), (6, (.ints .u64)), (10, (.ints .u8))], [none], fun k => match k with
 | 4 => some (.mk' q02_Sum.l4_0.pat (q02_Sum.l4_0.m n n) q02_Sum.l4_0.resK)
 | 17 => some (.mk' q02_Sum.l17_0.pat (q02_Sum.l17_0.m n n) q02_Sum.l17_0.resK)
 | 14 => some (.mk' q02_Sum.l14_0.pat (q02_Sum.l14_0.m n n) q02_Sum.l14_0.resK)
 | 11 => some (.mk' q02_Sum.l11_0.pat (q02_Sum.l11_0.m n n) q02_Sum.l11_0.resK)
 | 26 => some (.mk' q02_Sum.l26_0.pat (q02_Sum.l26_0.m n n) q02_Sum.l26_0.resK)
 | 23 => some (.mk' q02_Sum.l23_0.pat (q02_Sum.l23_0.m n n) q02_Sum.l23_0.resK)
 | _ => none, q02_Sum.jlive, lookJ []⟩
noncomputable def q02_Sum.b0 : Code := (loopsIn (Tryd.f62.body.getD .skip)).getD 0 .skip
noncomputable def q02_Sum.b1 : Code := (loopsIn (Tryd.f62.body.getD .skip)).getD 1 .skip
noncomputable def q02_Sum.b2 : Code := (loopsIn (Tryd.f62.body.getD .skip)).getD 2 .skip
noncomputable def q02_Sum.b3 : Code := (loopsIn (Tryd.f62.body.getD .skip)).getD 3 .skip
noncomputable def q02_Sum.b4 : Code := (loopsIn (Tryd.f62.body.getD .skip)).getD 4 .skip
noncomputable def q02_Sum.b5 : Code := (loopsIn (Tryd.f62.body.getD .skip)).getD 5 .skip
def q02_Sum.g {α : Type} (mk0 : (List Int) → α) (n : Nat) (a0 : (List Int)) : Option α :=
 if (((List.length a0) * 1) ≤ 70368744177664 ∧ (List.length a0) ≤ 9223372036854775807) then
  if ((((List.length a0) + 1) * 1) ≤ 70368744177664 ∧ ((List.length a0) + 1) ≤ 9223372036854775807) then
   bindO (q02_Sum.l4_0.m n n ((a0 ++ [1]), [0, 0, 0, 0])) fun r6 =>
    if 0 ≤ (IntKind.wrap .i64 ((((List.length (Prod.fst r6)) : Nat) : Int) - 1)) then
     if (IntKind.wrap .i64 ((((List.length (Prod.fst r6)) : Nat) : Int) - 1)) < (((List.length (Prod.fst r6)) : Nat) : Int) then
      if 0 ≤ (IntKind.wrap .i64 ((((List.length (Prod.fst r6)) : Nat) : Int) - 1)) then
       if (IntKind.wrap .i64 ((((List.length (Prod.fst r6)) : Nat) : Int) - 1)) < (((List.length (Prod.fst r6)) : Nat) : Int) then
        bindO (q02_turns.m n Unit.unit) fun r16 =>
         bindO (q02_keys.m n Unit.unit) fun r18 =>
          bindO (q02_Sum.l11_0.m n n (0, (List.set (Prod.fst r6) (Int.toNat (IntKind.wrap .i64 ((((List.length (Prod.fst r6)) : Nat) : Int) - 1))) (ibits BinOp.xor .u8 (List.getD (Prod.fst r6) (Int.toNat (IntKind.wrap .i64 ((((List.length (Prod.fst r6)) : Nat) : Int) - 1))) 0) 128)), ([0, 0, 0, 0, 0, 0, 0, 0, 0, 0, 0, 0, 0, 0, 0, 0, 0, 0, 0, 0, 0, 0, 0, 0, 0] : List Int), r16, r18, (Prod.snd r6))) fun r20 =>
           bindO (q02_Sum.l23_0.m n n (0, [], (Prod.fst r20), (Prod.snd r20))) fun r22 =>
            bindO (q01_Read.m n (Prod.fst r22)) fun r24 =>
             some (mk0 r24)
       else
        none
      else
       none
     else
      none
    else
     none
  else
   none
 else
  none
def q02_Sum.m (n : Nat) (t : (List Int)) : Option (List Int) := q02_Sum.g (fun a0 => a0) n t
def q02_Sum.pat : List AV → Blks → Option (List Int)
 | [(.rints .u8 a0)], [] => some a0
 | _, _ => none
def q02_Sum.shape (t : (List Int)) : List AV × Blks := ([(.rints .u8 t)], [])
def q02_Sum.res : (List Int) → AV × Blks
 | u => (Prod.mk (.ints .u64 4 u) [])
def q02_Sum.resK {R : Type} (u : (List Int)) (K : AV → Blks → Option R) : Option R := (fun p : AV × Blks => K p.1 p.2) (Prod.mk (.ints .u64 4 u) [])
def q02_Sum.c (n : Nat) : Abs.Callee := .mk' [] [(some (.ints .u8))] q02_Sum.pat (q02_Sum.m n) q02_Sum.resK
end
end
section
theorem q01_Read.l4_0.rmap {α β : Type} (h : β → α) (mk0 : (List Int) → (List Int) → β) (n : Nat) (f : Int → Int → (List Int) → (List Int) → (List Int) → Option β)  (x0 : Int) (x1 : Int) (x2 : (List Int)) (x3 : (List Int)) (x4 : (List Int)) : q01_Read.l4_0.r (fun a0 a1 => (h (mk0 a0 a1))) n (fun y0 y1 y2 y3 y4 => (f y0 y1 y2 y3 y4).map h) x0 x1 x2 x3 x4 = (q01_Read.l4_0.r mk0 n f x0 x1 x2 x3 x4).map h := by
  unfold q01_Read.l4_0.r
  exact (ite_map (ite_map (ite_map (ite_map (ite_map (ite_map (ite_map (ite_map (ite_map rfl rfl) rfl) rfl) rfl) rfl) rfl) rfl) rfl) rfl)
theorem q01_Read.l4_0.gmap {α β : Type} (h : β → α) (mk0 : (List Int) → (List Int) → β) (n : Nat) : ∀ (m : Nat) (x0 : Int) (x1 : Int) (x2 : (List Int)) (x3 : (List Int)) (x4 : (List Int)), q01_Read.l4_0.g (fun a0 a1 => (h (mk0 a0 a1))) n m x0 x1 x2 x3 x4 = (q01_Read.l4_0.g mk0 n m x0 x1 x2 x3 x4).map h
  | 0, _, _, _, _, _ => rfl
  | m + 1, x0, x1, x2, x3, x4 => by
    unfold q01_Read.l4_0.g
    rw [← q01_Read.l4_0.rmap]
    congr
    · funext y0 y1 y2 y3 y4; exact q01_Read.l4_0.gmap h mk0 n m y0 y1 y2 y3 y4
theorem q01_Read.l4_0.pat_shape : ∀ st t, q01_Read.l4_0.pat st = some t → st = q01_Read.l4_0.shape t := by
  intro st t h
  unfold q01_Read.l4_0.pat at h
  split at h
  · cases h; rfl
  · cases h
theorem q01_Read.l4_0.round (n : Nat) (rc : St → Option (Ex × St)) (x0 : Int) (x1 : Int) (x2 : (List Int)) (x3 : (List Int)) (x4 : (List Int)) : roundOf (q01_Read.C n) (q01_Read.A n) n q01_Read.b0 rc ((St.mk [(.int .i64 x0), (.int .i64 x1), (.ptr 0 []), (.rints .u8 x2), (.ptr 1 [])] [(some (.var (.ints .u64 4 x3))), (some (.var (.ints .u64 4 x4)))])) = q01_Read.l4_0.r (fun a0 a1 => ((Prod.mk (.exit 0) (St.mk [(.ptr 0 []), (.ptr 1 [])] [(some (.var (.ints .u64 4 a0))), (some (.var (.ints .u64 4 a1)))])) : Ex × St)) n (fun y0 y1 y2 y3 y4 => rc ((St.mk [(.int .i64 y0), (.int .i64 y1), (.ptr 0 []), (.rints .u8 y2), (.ptr 1 [])] [(some (.var (.ints .u64 4 y3))), (some (.var (.ints .u64 4 y4)))]))) x0 x1 x2 x3 x4 := by kernel_rfl
theorem q01_Read.l4_0.loop' (n : Nat) : ∀ (m : Nat) (t : (Int × (Int × ((List Int) × ((List Int) × (List Int)))))), loopOf (roundOf (q01_Read.C n) (q01_Read.A n) n q01_Read.b0) m (q01_Read.l4_0.shape t) = q01_Read.l4_0.g (fun a0 a1 => ((Prod.mk (.exit 0) (St.mk [(.ptr 0 []), (.ptr 1 [])] [(some (.var (.ints .u64 4 a0))), (some (.var (.ints .u64 4 a1)))])) : Ex × St)) n m t.1 t.2.1 t.2.2.1 t.2.2.2.1 t.2.2.2.2 :=
  loop_of_round (shape := q01_Read.l4_0.shape) (body := roundOf (q01_Read.C n) (q01_Read.A n) n q01_Read.b0) (g := fun m t => q01_Read.l4_0.g (fun a0 a1 => ((Prod.mk (.exit 0) (St.mk [(.ptr 0 []), (.ptr 1 [])] [(some (.var (.ints .u64 4 a0))), (some (.var (.ints .u64 4 a1)))])) : Ex × St)) n m t.1 t.2.1 t.2.2.1 t.2.2.2.1 t.2.2.2.2) (fun t => rfl)
    fun m t ih => (q01_Read.l4_0.round n (loopOf (roundOf (q01_Read.C n) (q01_Read.A n) n q01_Read.b0) m) t.1 t.2.1 t.2.2.1 t.2.2.2.1 t.2.2.2.2).trans (congrFun (congrFun (congrFun (congrFun (congrFun (congrArg (q01_Read.l4_0.r (fun a0 a1 => ((Prod.mk (.exit 0) (St.mk [(.ptr 0 []), (.ptr 1 [])] [(some (.var (.ints .u64 4 a0))), (some (.var (.ints .u64 4 a1)))])) : Ex × St)) n) (funext fun y0 => funext fun y1 => funext fun y2 => funext fun y3 => funext fun y4 => ih (y0, y1, y2, y3, y4))) t.1) t.2.1) t.2.2.1) t.2.2.2.1) t.2.2.2.2)
theorem q01_Read.l4_0.loop (n m : Nat) (t : (Int × (Int × ((List Int) × ((List Int) × (List Int)))))) : loopOf (roundOf (q01_Read.C n) (q01_Read.A n) n q01_Read.b0) m (q01_Read.l4_0.shape t) = (q01_Read.l4_0.m n m t).map q01_Read.l4_0.res :=
  (q01_Read.l4_0.loop' n m t).trans (q01_Read.l4_0.gmap q01_Read.l4_0.res (fun a0 a1 => (a0, a1)) n m t.1 t.2.1 t.2.2.1 t.2.2.2.1 t.2.2.2.2)
theorem q01_Read.gmap {α β : Type} (h : β → α) (mk0 : (List Int) → β) (n : Nat) (a0 : (List Int)) : q01_Read.g (fun a0 => (h (mk0 a0))) n a0 = (q01_Read.g mk0 n a0).map h := by
  unfold q01_Read.g
  exact (bindO_map fun r2 => rfl)
theorem q01_Read.run (n : Nat) (a0 : (List Int)) : runF (q01_Read.C n) (q01_Read.A n) n Tryd.f65 [(.rints .u8 a0)] [] (fun v o => some (v, o)) = q01_Read.g (fun a0 => ((Prod.mk (.ints .u64 4 a0) []) : AV × Blks)) n a0 := by kernel_rfl
theorem q01_Read.call (hmix : Tryd.prog.follows .mixedOrders = true) (n : Nat) (t : (List Int)) (u) (h : q01_Read.m n t = some u) : FnC Tryd.prog abiG 65 (q01_Read.shape t).1 (q01_Read.shape t).2 (q01_Read.res u).1 (q01_Read.res u).2 := by
  have hg : ∀ f m, (q01_Read.C n).Γ f = some m → CalleeS Tryd.prog abiG f m := by
    intro f m hm
    unfold q01_Read.C at hm
    simp only at hm
    first
    | (cases hm; done)
    | (split at hm <;> first
    | (cases hm; done))
  have hb : Tryd.f65.body = some (Tryd.f65.body.getD .skip) := by kernel_rfl
  refine runF_calls (C := q01_Read.C n) (A := q01_Read.A n) (n := n) (fn := Tryd.f65) hg hmix Tryd.func65 hb ?_ ?_ (by decide) rfl rfl (by show 1 ≤ Tryd.f65.ntmps; decide) ?_
  · rw [show loopsIn (Tryd.f65.body.getD .skip) = [q01_Read.b0] by kernel_rfl]
    intro b hb m hm
    simp only [List.mem_cons, List.not_mem_nil, or_false] at hb
    rcases hb with rfl
    · have e : (q01_Read.A n).loop (key q01_Read.b0) = some (.mk' q01_Read.l4_0.pat (q01_Read.l4_0.m n n) q01_Read.l4_0.resK) := by rw [show key q01_Read.b0 = 4 by kernel_rfl]; rfl
      rw [e] at hm
      cases hm
      exact (LoopS.of (res := q01_Read.l4_0.res) (fun R u K => rfl) q01_Read.l4_0.pat_shape fun t => q01_Read.l4_0.loop n n t)
  · intro a ha m hm
    cases (show none = some m from hm)
  · rw [show runF (q01_Read.C n) (q01_Read.A n) n Tryd.f65 (q01_Read.shape t).1 (q01_Read.shape t).2 (fun v o => some (v, o)) = _ from q01_Read.run n t]
    have e := q01_Read.gmap q01_Read.res (fun a0 => a0) n t
    unfold q01_Read.m at h
    rw [h] at e
    exact e
theorem q01_Read.s (hmix : Tryd.prog.follows .mixedOrders = true) (n : Nat) : CalleeS Tryd.prog abiG 65 (q01_Read.c n) :=
  CalleeS.of (res := q01_Read.res) (shape := q01_Read.shape) (fun R u K => rfl) (fun args lent t h => by
    unfold q01_Read.pat at h
    split at h
    · cases h; rfl
    · cases h) fun t u h => (q01_Read.call hmix n t u h).ok Tryd.func65 (by decide) (by kernel_rfl)
end
section
theorem q02_Sum.l4_0.rmap {α β : Type} (h : β → α) (mk0 : (List Int) → (List Int) → β) (n : Nat) (f : (List Int) → (List Int) → Option β)  (x0 : (List Int)) (x1 : (List Int)) : q02_Sum.l4_0.r (fun a0 a1 => (h (mk0 a0 a1))) n (fun y0 y1 => (f y0 y1).map h) x0 x1 = (q02_Sum.l4_0.r mk0 n f x0 x1).map h := by
  unfold q02_Sum.l4_0.r
  exact (ite_map (ite_map rfl rfl) rfl)
theorem q02_Sum.l4_0.gmap {α β : Type} (h : β → α) (mk0 : (List Int) → (List Int) → β) (n : Nat) : ∀ (m : Nat) (x0 : (List Int)) (x1 : (List Int)), q02_Sum.l4_0.g (fun a0 a1 => (h (mk0 a0 a1))) n m x0 x1 = (q02_Sum.l4_0.g mk0 n m x0 x1).map h
  | 0, _, _ => rfl
  | m + 1, x0, x1 => by
    unfold q02_Sum.l4_0.g
    rw [← q02_Sum.l4_0.rmap]
    congr
    · funext y0 y1; exact q02_Sum.l4_0.gmap h mk0 n m y0 y1
theorem q02_Sum.l4_0.pat_shape : ∀ st t, q02_Sum.l4_0.pat st = some t → st = q02_Sum.l4_0.shape t := by
  intro st t h
  unfold q02_Sum.l4_0.pat at h
  split at h
  · cases h; rfl
  · cases h
theorem q02_Sum.l4_0.round (n : Nat) (rc : St → Option (Ex × St)) (x0 : (List Int)) (x1 : (List Int)) : roundOf (q02_Sum.C n) (q02_Sum.A n) n q02_Sum.b0 rc ((St.mk [(.own 0 1), (.ptr 1 [])] [(some (.ints .u8 x0)), (some (.var (.ints .u64 4 x1)))])) = q02_Sum.l4_0.r (fun a0 a1 => ((Prod.mk (.exit 0) (St.mk [(.own 0 1), (.ptr 1 [])] [(some (.ints .u8 a0)), (some (.var (.ints .u64 4 a1)))])) : Ex × St)) n (fun y0 y1 => rc ((St.mk [(.own 0 1), (.ptr 1 [])] [(some (.ints .u8 y0)), (some (.var (.ints .u64 4 y1)))]))) x0 x1 := by kernel_rfl
theorem q02_Sum.l4_0.loop' (n : Nat) : ∀ (m : Nat) (t : ((List Int) × (List Int))), loopOf (roundOf (q02_Sum.C n) (q02_Sum.A n) n q02_Sum.b0) m (q02_Sum.l4_0.shape t) = q02_Sum.l4_0.g (fun a0 a1 => ((Prod.mk (.exit 0) (St.mk [(.own 0 1), (.ptr 1 [])] [(some (.ints .u8 a0)), (some (.var (.ints .u64 4 a1)))])) : Ex × St)) n m t.1 t.2 :=
  loop_of_round (shape := q02_Sum.l4_0.shape) (body := roundOf (q02_Sum.C n) (q02_Sum.A n) n q02_Sum.b0) (g := fun m t => q02_Sum.l4_0.g (fun a0 a1 => ((Prod.mk (.exit 0) (St.mk [(.own 0 1), (.ptr 1 [])] [(some (.ints .u8 a0)), (some (.var (.ints .u64 4 a1)))])) : Ex × St)) n m t.1 t.2) (fun t => rfl)
    fun m t ih => (q02_Sum.l4_0.round n (loopOf (roundOf (q02_Sum.C n) (q02_Sum.A n) n q02_Sum.b0) m) t.1 t.2).trans (congrFun (congrFun (congrArg (q02_Sum.l4_0.r (fun a0 a1 => ((Prod.mk (.exit 0) (St.mk [(.own 0 1), (.ptr 1 [])] [(some (.ints .u8 a0)), (some (.var (.ints .u64 4 a1)))])) : Ex × St)) n) (funext fun y0 => funext fun y1 => ih (y0, y1))) t.1) t.2)
theorem q02_Sum.l4_0.loop (n m : Nat) (t : ((List Int) × (List Int))) : loopOf (roundOf (q02_Sum.C n) (q02_Sum.A n) n q02_Sum.b0) m (q02_Sum.l4_0.shape t) = (q02_Sum.l4_0.m n m t).map q02_Sum.l4_0.res :=
  (q02_Sum.l4_0.loop' n m t).trans (q02_Sum.l4_0.gmap q02_Sum.l4_0.res (fun a0 a1 => (a0, a1)) n m t.1 t.2)
theorem q02_Sum.l17_0.rmap {α β : Type} (h : β → α) (mk0 : Int → Int → (List Int) → (List Int) → (List Int) → (List Int) → (List Int) → β) (n : Nat) (f : Int → Int → Int → (List Int) → (List Int) → (List Int) → (List Int) → (List Int) → Option β)  (x0 : Int) (x1 : Int) (x2 : Int) (x3 : (List Int)) (x4 : (List Int)) (x5 : (List Int)) (x6 : (List Int)) (x7 : (List Int)) : q02_Sum.l17_0.r (fun a0 a1 a2 a3 a4 a5 a6 => (h (mk0 a0 a1 a2 a3 a4 a5 a6))) n (fun y0 y1 y2 y3 y4 y5 y6 y7 => (f y0 y1 y2 y3 y4 y5 y6 y7).map h) x0 x1 x2 x3 x4 x5 x6 x7 = (q02_Sum.l17_0.r mk0 n f x0 x1 x2 x3 x4 x5 x6 x7).map h := by
  unfold q02_Sum.l17_0.r
  exact (ite_map (ite_map (ite_map (ite_map (ite_map (ite_map (ite_map (ite_map rfl rfl) rfl) rfl) rfl) rfl) rfl) rfl) rfl)
theorem q02_Sum.l17_0.gmap {α β : Type} (h : β → α) (mk0 : Int → Int → (List Int) → (List Int) → (List Int) → (List Int) → (List Int) → β) (n : Nat) : ∀ (m : Nat) (x0 : Int) (x1 : Int) (x2 : Int) (x3 : (List Int)) (x4 : (List Int)) (x5 : (List Int)) (x6 : (List Int)) (x7 : (List Int)), q02_Sum.l17_0.g (fun a0 a1 a2 a3 a4 a5 a6 => (h (mk0 a0 a1 a2 a3 a4 a5 a6))) n m x0 x1 x2 x3 x4 x5 x6 x7 = (q02_Sum.l17_0.g mk0 n m x0 x1 x2 x3 x4 x5 x6 x7).map h
  | 0, _, _, _, _, _, _, _, _ => rfl
  | m + 1, x0, x1, x2, x3, x4, x5, x6, x7 => by
    unfold q02_Sum.l17_0.g
    rw [← q02_Sum.l17_0.rmap]
    congr
    · funext y0 y1 y2 y3 y4 y5 y6 y7; exact q02_Sum.l17_0.gmap h mk0 n m y0 y1 y2 y3 y4 y5 y6 y7
theorem q02_Sum.l17_0.pat_shape : ∀ st t, q02_Sum.l17_0.pat st = some t → st = q02_Sum.l17_0.shape t := by
  intro st t h
  unfold q02_Sum.l17_0.pat at h
  split at h
  · cases h; rfl
  · cases h
theorem q02_Sum.l17_0.round (n : Nat) (rc : St → Option (Ex × St)) (x0 : Int) (x1 : Int) (x2 : Int) (x3 : (List Int)) (x4 : (List Int)) (x5 : (List Int)) (x6 : (List Int)) (x7 : (List Int)) : roundOf (q02_Sum.C n) (q02_Sum.A n) n q02_Sum.b3 rc ((St.mk [(.int .i64 x0), (.own 0 1), (.int .i64 x1), (.own 1 1), (.int .i64 x2), (.own 2 1), (.own 3 1), (.ptr 4 [])] [(some (.ints .u64 x3)), (some (.ints .u8 x4)), (some (.ints .i64 x5)), (some (.ints .u64 x6)), (some (.var (.ints .u64 4 x7)))])) = q02_Sum.l17_0.r (fun a0 a1 a2 a3 a4 a5 a6 => ((Prod.mk (.exit 6) (St.mk [(.int .i64 a0), (.own 0 1), (.own 1 1), (.int .i64 a1), (.own 2 1), (.own 3 1), (.ptr 4 [])] [(some (.ints .u64 a2)), (some (.ints .u8 a3)), (some (.ints .i64 a4)), (some (.ints .u64 a5)), (some (.var (.ints .u64 4 a6)))])) : Ex × St)) n (fun y0 y1 y2 y3 y4 y5 y6 y7 => rc ((St.mk [(.int .i64 y0), (.own 0 1), (.int .i64 y1), (.own 1 1), (.int .i64 y2), (.own 2 1), (.own 3 1), (.ptr 4 [])] [(some (.ints .u64 y3)), (some (.ints .u8 y4)), (some (.ints .i64 y5)), (some (.ints .u64 y6)), (some (.var (.ints .u64 4 y7)))]))) x0 x1 x2 x3 x4 x5 x6 x7 := by kernel_rfl
theorem q02_Sum.l17_0.loop' (n : Nat) : ∀ (m : Nat) (t : (Int × (Int × (Int × ((List Int) × ((List Int) × ((List Int) × ((List Int) × (List Int))))))))), loopOf (roundOf (q02_Sum.C n) (q02_Sum.A n) n q02_Sum.b3) m (q02_Sum.l17_0.shape t) = q02_Sum.l17_0.g (fun a0 a1 a2 a3 a4 a5 a6 => ((Prod.mk (.exit 6) (St.mk [(.int .i64 a0), (.own 0 1), (.own 1 1), (.int .i64 a1), (.own 2 1), (.own 3 1), (.ptr 4 [])] [(some (.ints .u64 a2)), (some (.ints .u8 a3)), (some (.ints .i64 a4)), (some (.ints .u64 a5)), (some (.var (.ints .u64 4 a6)))])) : Ex × St)) n m t.1 t.2.1 t.2.2.1 t.2.2.2.1 t.2.2.2.2.1 t.2.2.2.2.2.1 t.2.2.2.2.2.2.1 t.2.2.2.2.2.2.2 :=
  loop_of_round (shape := q02_Sum.l17_0.shape) (body := roundOf (q02_Sum.C n) (q02_Sum.A n) n q02_Sum.b3) (g := fun m t => q02_Sum.l17_0.g (fun a0 a1 a2 a3 a4 a5 a6 => ((Prod.mk (.exit 6) (St.mk [(.int .i64 a0), (.own 0 1), (.own 1 1), (.int .i64 a1), (.own 2 1), (.own 3 1), (.ptr 4 [])] [(some (.ints .u64 a2)), (some (.ints .u8 a3)), (some (.ints .i64 a4)), (some (.ints .u64 a5)), (some (.var (.ints .u64 4 a6)))])) : Ex × St)) n m t.1 t.2.1 t.2.2.1 t.2.2.2.1 t.2.2.2.2.1 t.2.2.2.2.2.1 t.2.2.2.2.2.2.1 t.2.2.2.2.2.2.2) (fun t => rfl)
    fun m t ih => (q02_Sum.l17_0.round n (loopOf (roundOf (q02_Sum.C n) (q02_Sum.A n) n q02_Sum.b3) m) t.1 t.2.1 t.2.2.1 t.2.2.2.1 t.2.2.2.2.1 t.2.2.2.2.2.1 t.2.2.2.2.2.2.1 t.2.2.2.2.2.2.2).trans (congrFun (congrFun (congrFun (congrFun (congrFun (congrFun (congrFun (congrFun (congrArg (q02_Sum.l17_0.r (fun a0 a1 a2 a3 a4 a5 a6 => ((Prod.mk (.exit 6) (St.mk [(.int .i64 a0), (.own 0 1), (.own 1 1), (.int .i64 a1), (.own 2 1), (.own 3 1), (.ptr 4 [])] [(some (.ints .u64 a2)), (some (.ints .u8 a3)), (some (.ints .i64 a4)), (some (.ints .u64 a5)), (some (.var (.ints .u64 4 a6)))])) : Ex × St)) n) (funext fun y0 => funext fun y1 => funext fun y2 => funext fun y3 => funext fun y4 => funext fun y5 => funext fun y6 => funext fun y7 => ih (y0, y1, y2, y3, y4, y5, y6, y7))) t.1) t.2.1) t.2.2.1) t.2.2.2.1) t.2.2.2.2.1) t.2.2.2.2.2.1) t.2.2.2.2.2.2.1) t.2.2.2.2.2.2.2)
theorem q02_Sum.l17_0.loop (n m : Nat) (t : (Int × (Int × (Int × ((List Int) × ((List Int) × ((List Int) × ((List Int) × (List Int))))))))) : loopOf (roundOf (q02_Sum.C n) (q02_Sum.A n) n q02_Sum.b3) m (q02_Sum.l17_0.shape t) = (q02_Sum.l17_0.m n m t).map q02_Sum.l17_0.res :=
  (q02_Sum.l17_0.loop' n m t).trans (q02_Sum.l17_0.gmap q02_Sum.l17_0.res (fun a0 a1 a2 a3 a4 a5 a6 => (a0, a1, a2, a3, a4, a5, a6)) n m t.1 t.2.1 t.2.2.1 t.2.2.2.1 t.2.2.2.2.1 t.2.2.2.2.2.1 t.2.2.2.2.2.2.1 t.2.2.2.2.2.2.2)
theorem q02_Sum.l14_0.rmap {α β : Type} (h : β → α) (mk0 : Int → (List Int) → (List Int) → (List Int) → (List Int) → (List Int) → β) (n : Nat) (f : Int → Int → (List Int) → (List Int) → (List Int) → (List Int) → (List Int) → Option β)  (x0 : Int) (x1 : Int) (x2 : (List Int)) (x3 : (List Int)) (x4 : (List Int)) (x5 : (List Int)) (x6 : (List Int)) : q02_Sum.l14_0.r (fun a0 a1 a2 a3 a4 a5 => (h (mk0 a0 a1 a2 a3 a4 a5))) n (fun y0 y1 y2 y3 y4 y5 y6 => (f y0 y1 y2 y3 y4 y5 y6).map h) x0 x1 x2 x3 x4 x5 x6 = (q02_Sum.l14_0.r mk0 n f x0 x1 x2 x3 x4 x5 x6).map h := by
  unfold q02_Sum.l14_0.r
  exact (ite_map (bindO_map fun r6 => rfl) rfl)
theorem q02_Sum.l14_0.gmap {α β : Type} (h : β → α) (mk0 : Int → (List Int) → (List Int) → (List Int) → (List Int) → (List Int) → β) (n : Nat) : ∀ (m : Nat) (x0 : Int) (x1 : Int) (x2 : (List Int)) (x3 : (List Int)) (x4 : (List Int)) (x5 : (List Int)) (x6 : (List Int)), q02_Sum.l14_0.g (fun a0 a1 a2 a3 a4 a5 => (h (mk0 a0 a1 a2 a3 a4 a5))) n m x0 x1 x2 x3 x4 x5 x6 = (q02_Sum.l14_0.g mk0 n m x0 x1 x2 x3 x4 x5 x6).map h
  | 0, _, _, _, _, _, _, _ => rfl
  | m + 1, x0, x1, x2, x3, x4, x5, x6 => by
    unfold q02_Sum.l14_0.g
    rw [← q02_Sum.l14_0.rmap]
    congr
    · funext y0 y1 y2 y3 y4 y5 y6; exact q02_Sum.l14_0.gmap h mk0 n m y0 y1 y2 y3 y4 y5 y6
theorem q02_Sum.l14_0.pat_shape : ∀ st t, q02_Sum.l14_0.pat st = some t → st = q02_Sum.l14_0.shape t := by
  intro st t h
  unfold q02_Sum.l14_0.pat at h
  split at h
  · cases h; rfl
  · cases h
theorem q02_Sum.l14_0.round (n : Nat) (rc : St → Option (Ex × St)) (x0 : Int) (x1 : Int) (x2 : (List Int)) (x3 : (List Int)) (x4 : (List Int)) (x5 : (List Int)) (x6 : (List Int)) : roundOf (q02_Sum.C n) (q02_Sum.A n) n q02_Sum.b2 rc ((St.mk [(.int .i64 x0), (.own 0 1), (.own 1 1), (.int .i64 x1), (.own 2 1), (.own 3 1), (.ptr 4 [])] [(some (.ints .u64 x2)), (some (.ints .u8 x3)), (some (.ints .i64 x4)), (some (.ints .u64 x5)), (some (.var (.ints .u64 4 x6)))])) = q02_Sum.l14_0.r (fun a0 a1 a2 a3 a4 a5 => ((Prod.mk (.exit 4) (St.mk [(.own 0 1), (.own 1 1), (.own 2 1), (.int .i64 a0), (.own 3 1), (.ptr 4 [])] [(some (.ints .u64 a1)), (some (.ints .i64 a2)), (some (.ints .u64 a3)), (some (.ints .u8 a4)), (some (.var (.ints .u64 4 a5)))])) : Ex × St)) n (fun y0 y1 y2 y3 y4 y5 y6 => rc ((St.mk [(.int .i64 y0), (.own 0 1), (.own 1 1), (.int .i64 y1), (.own 2 1), (.own 3 1), (.ptr 4 [])] [(some (.ints .u64 y2)), (some (.ints .u8 y3)), (some (.ints .i64 y4)), (some (.ints .u64 y5)), (some (.var (.ints .u64 4 y6)))]))) x0 x1 x2 x3 x4 x5 x6 := by kernel_rfl
theorem q02_Sum.l14_0.loop' (n : Nat) : ∀ (m : Nat) (t : (Int × (Int × ((List Int) × ((List Int) × ((List Int) × ((List Int) × (List Int)))))))), loopOf (roundOf (q02_Sum.C n) (q02_Sum.A n) n q02_Sum.b2) m (q02_Sum.l14_0.shape t) = q02_Sum.l14_0.g (fun a0 a1 a2 a3 a4 a5 => ((Prod.mk (.exit 4) (St.mk [(.own 0 1), (.own 1 1), (.own 2 1), (.int .i64 a0), (.own 3 1), (.ptr 4 [])] [(some (.ints .u64 a1)), (some (.ints .i64 a2)), (some (.ints .u64 a3)), (some (.ints .u8 a4)), (some (.var (.ints .u64 4 a5)))])) : Ex × St)) n m t.1 t.2.1 t.2.2.1 t.2.2.2.1 t.2.2.2.2.1 t.2.2.2.2.2.1 t.2.2.2.2.2.2 :=
  loop_of_round (shape := q02_Sum.l14_0.shape) (body := roundOf (q02_Sum.C n) (q02_Sum.A n) n q02_Sum.b2) (g := fun m t => q02_Sum.l14_0.g (fun a0 a1 a2 a3 a4 a5 => ((Prod.mk (.exit 4) (St.mk [(.own 0 1), (.own 1 1), (.own 2 1), (.int .i64 a0), (.own 3 1), (.ptr 4 [])] [(some (.ints .u64 a1)), (some (.ints .i64 a2)), (some (.ints .u64 a3)), (some (.ints .u8 a4)), (some (.var (.ints .u64 4 a5)))])) : Ex × St)) n m t.1 t.2.1 t.2.2.1 t.2.2.2.1 t.2.2.2.2.1 t.2.2.2.2.2.1 t.2.2.2.2.2.2) (fun t => rfl)
    fun m t ih => (q02_Sum.l14_0.round n (loopOf (roundOf (q02_Sum.C n) (q02_Sum.A n) n q02_Sum.b2) m) t.1 t.2.1 t.2.2.1 t.2.2.2.1 t.2.2.2.2.1 t.2.2.2.2.2.1 t.2.2.2.2.2.2).trans (congrFun (congrFun (congrFun (congrFun (congrFun (congrFun (congrFun (congrArg (q02_Sum.l14_0.r (fun a0 a1 a2 a3 a4 a5 => ((Prod.mk (.exit 4) (St.mk [(.own 0 1), (.own 1 1), (.own 2 1), (.int .i64 a0), (.own 3 1), (.ptr 4 [])] [(some (.ints .u64 a1)), (some (.ints .i64 a2)), (some (.ints .u64 a3)), (some (.ints .u8 a4)), (some (.var (.ints .u64 4 a5)))])) : Ex × St)) n) (funext fun y0 => funext fun y1 => funext fun y2 => funext fun y3 => funext fun y4 => funext fun y5 => funext fun y6 => ih (y0, y1, y2, y3, y4, y5, y6))) t.1) t.2.1) t.2.2.1) t.2.2.2.1) t.2.2.2.2.1) t.2.2.2.2.2.1) t.2.2.2.2.2.2)
theorem q02_Sum.l14_0.loop (n m : Nat) (t : (Int × (Int × ((List Int) × ((List Int) × ((List Int) × ((List Int) × (List Int)))))))) : loopOf (roundOf (q02_Sum.C n) (q02_Sum.A n) n q02_Sum.b2) m (q02_Sum.l14_0.shape t) = (q02_Sum.l14_0.m n m t).map q02_Sum.l14_0.res :=
  (q02_Sum.l14_0.loop' n m t).trans (q02_Sum.l14_0.gmap q02_Sum.l14_0.res (fun a0 a1 a2 a3 a4 a5 => (a0, a1, a2, a3, a4, a5)) n m t.1 t.2.1 t.2.2.1 t.2.2.2.1 t.2.2.2.2.1 t.2.2.2.2.2.1 t.2.2.2.2.2.2)
theorem q02_Sum.l11_0.rmap {α β : Type} (h : β → α) (mk0 : (List Int) → (List Int) → β) (n : Nat) (f : Int → (List Int) → (List Int) → (List Int) → (List Int) → (List Int) → Option β)  (x0 : Int) (x1 : (List Int)) (x2 : (List Int)) (x3 : (List Int)) (x4 : (List Int)) (x5 : (List Int)) : q02_Sum.l11_0.r (fun a0 a1 => (h (mk0 a0 a1))) n (fun y0 y1 y2 y3 y4 y5 => (f y0 y1 y2 y3 y4 y5).map h) x0 x1 x2 x3 x4 x5 = (q02_Sum.l11_0.r mk0 n f x0 x1 x2 x3 x4 x5).map h := by
  unfold q02_Sum.l11_0.r
  exact (ite_map (bindO_map fun r6 => (bindO_map fun r8 => match r8 with | (.inl r8) => rfl | (.inr r8) => rfl)) rfl)
theorem q02_Sum.l11_0.gmap {α β : Type} (h : β → α) (mk0 : (List Int) → (List Int) → β) (n : Nat) : ∀ (m : Nat) (x0 : Int) (x1 : (List Int)) (x2 : (List Int)) (x3 : (List Int)) (x4 : (List Int)) (x5 : (List Int)), q02_Sum.l11_0.g (fun a0 a1 => (h (mk0 a0 a1))) n m x0 x1 x2 x3 x4 x5 = (q02_Sum.l11_0.g mk0 n m x0 x1 x2 x3 x4 x5).map h
  | 0, _, _, _, _, _, _ => rfl
  | m + 1, x0, x1, x2, x3, x4, x5 => by
    unfold q02_Sum.l11_0.g
    rw [← q02_Sum.l11_0.rmap]
    congr
    · funext y0 y1 y2 y3 y4 y5; exact q02_Sum.l11_0.gmap h mk0 n m y0 y1 y2 y3 y4 y5
theorem q02_Sum.l11_0.pat_shape : ∀ st t, q02_Sum.l11_0.pat st = some t → st = q02_Sum.l11_0.shape t := by
  intro st t h
  unfold q02_Sum.l11_0.pat at h
  split at h
  · cases h; rfl
  · cases h
theorem q02_Sum.l11_0.round (n : Nat) (rc : St → Option (Ex × St)) (x0 : Int) (x1 : (List Int)) (x2 : (List Int)) (x3 : (List Int)) (x4 : (List Int)) (x5 : (List Int)) : roundOf (q02_Sum.C n) (q02_Sum.A n) n q02_Sum.b1 rc ((St.mk [(.int .i64 x0), (.own 0 1), (.own 1 1), (.own 2 1), (.own 3 1), (.ptr 4 [])] [(some (.ints .u8 x1)), (some (.ints .u64 x2)), (some (.ints .i64 x3)), (some (.ints .u64 x4)), (some (.var (.ints .u64 4 x5)))])) = q02_Sum.l11_0.r (fun a0 a1 => ((Prod.mk (.exit 2) (St.mk [(.own 0 1), (.ptr 1 [])] [(some (.ints .u64 a0)), (some (.var (.ints .u64 4 a1)))])) : Ex × St)) n (fun y0 y1 y2 y3 y4 y5 => rc ((St.mk [(.int .i64 y0), (.own 0 1), (.own 1 1), (.own 2 1), (.own 3 1), (.ptr 4 [])] [(some (.ints .u8 y1)), (some (.ints .u64 y2)), (some (.ints .i64 y3)), (some (.ints .u64 y4)), (some (.var (.ints .u64 4 y5)))]))) x0 x1 x2 x3 x4 x5 := by kernel_rfl
theorem q02_Sum.l11_0.loop' (n : Nat) : ∀ (m : Nat) (t : (Int × ((List Int) × ((List Int) × ((List Int) × ((List Int) × (List Int))))))), loopOf (roundOf (q02_Sum.C n) (q02_Sum.A n) n q02_Sum.b1) m (q02_Sum.l11_0.shape t) = q02_Sum.l11_0.g (fun a0 a1 => ((Prod.mk (.exit 2) (St.mk [(.own 0 1), (.ptr 1 [])] [(some (.ints .u64 a0)), (some (.var (.ints .u64 4 a1)))])) : Ex × St)) n m t.1 t.2.1 t.2.2.1 t.2.2.2.1 t.2.2.2.2.1 t.2.2.2.2.2 :=
  loop_of_round (shape := q02_Sum.l11_0.shape) (body := roundOf (q02_Sum.C n) (q02_Sum.A n) n q02_Sum.b1) (g := fun m t => q02_Sum.l11_0.g (fun a0 a1 => ((Prod.mk (.exit 2) (St.mk [(.own 0 1), (.ptr 1 [])] [(some (.ints .u64 a0)), (some (.var (.ints .u64 4 a1)))])) : Ex × St)) n m t.1 t.2.1 t.2.2.1 t.2.2.2.1 t.2.2.2.2.1 t.2.2.2.2.2) (fun t => rfl)
    fun m t ih => (q02_Sum.l11_0.round n (loopOf (roundOf (q02_Sum.C n) (q02_Sum.A n) n q02_Sum.b1) m) t.1 t.2.1 t.2.2.1 t.2.2.2.1 t.2.2.2.2.1 t.2.2.2.2.2).trans (congrFun (congrFun (congrFun (congrFun (congrFun (congrFun (congrArg (q02_Sum.l11_0.r (fun a0 a1 => ((Prod.mk (.exit 2) (St.mk [(.own 0 1), (.ptr 1 [])] [(some (.ints .u64 a0)), (some (.var (.ints .u64 4 a1)))])) : Ex × St)) n) (funext fun y0 => funext fun y1 => funext fun y2 => funext fun y3 => funext fun y4 => funext fun y5 => ih (y0, y1, y2, y3, y4, y5))) t.1) t.2.1) t.2.2.1) t.2.2.2.1) t.2.2.2.2.1) t.2.2.2.2.2)
theorem q02_Sum.l11_0.loop (n m : Nat) (t : (Int × ((List Int) × ((List Int) × ((List Int) × ((List Int) × (List Int))))))) : loopOf (roundOf (q02_Sum.C n) (q02_Sum.A n) n q02_Sum.b1) m (q02_Sum.l11_0.shape t) = (q02_Sum.l11_0.m n m t).map q02_Sum.l11_0.res :=
  (q02_Sum.l11_0.loop' n m t).trans (q02_Sum.l11_0.gmap q02_Sum.l11_0.res (fun a0 a1 => (a0, a1)) n m t.1 t.2.1 t.2.2.1 t.2.2.2.1 t.2.2.2.2.1 t.2.2.2.2.2)
theorem q02_Sum.l26_0.rmap {α β : Type} (h : β → α) (mk0 : Int → (List Int) → (List Int) → (List Int) → β) (n : Nat) (f : Int → Int → (List Int) → (List Int) → (List Int) → Option β)  (x0 : Int) (x1 : Int) (x2 : (List Int)) (x3 : (List Int)) (x4 : (List Int)) : q02_Sum.l26_0.r (fun a0 a1 a2 a3 => (h (mk0 a0 a1 a2 a3))) n (fun y0 y1 y2 y3 y4 => (f y0 y1 y2 y3 y4).map h) x0 x1 x2 x3 x4 = (q02_Sum.l26_0.r mk0 n f x0 x1 x2 x3 x4).map h := by
  unfold q02_Sum.l26_0.r
  exact (ite_map (ite_map (ite_map (ite_map (ite_map rfl rfl) rfl) rfl) rfl) rfl)
theorem q02_Sum.l26_0.gmap {α β : Type} (h : β → α) (mk0 : Int → (List Int) → (List Int) → (List Int) → β) (n : Nat) : ∀ (m : Nat) (x0 : Int) (x1 : Int) (x2 : (List Int)) (x3 : (List Int)) (x4 : (List Int)), q02_Sum.l26_0.g (fun a0 a1 a2 a3 => (h (mk0 a0 a1 a2 a3))) n m x0 x1 x2 x3 x4 = (q02_Sum.l26_0.g mk0 n m x0 x1 x2 x3 x4).map h
  | 0, _, _, _, _, _ => rfl
  | m + 1, x0, x1, x2, x3, x4 => by
    unfold q02_Sum.l26_0.g
    rw [← q02_Sum.l26_0.rmap]
    congr
    · funext y0 y1 y2 y3 y4; exact q02_Sum.l26_0.gmap h mk0 n m y0 y1 y2 y3 y4
theorem q02_Sum.l26_0.pat_shape : ∀ st t, q02_Sum.l26_0.pat st = some t → st = q02_Sum.l26_0.shape t := by
  intro st t h
  unfold q02_Sum.l26_0.pat at h
  split at h
  · cases h; rfl
  · cases h
theorem q02_Sum.l26_0.round (n : Nat) (rc : St → Option (Ex × St)) (x0 : Int) (x1 : Int) (x2 : (List Int)) (x3 : (List Int)) (x4 : (List Int)) : roundOf (q02_Sum.C n) (q02_Sum.A n) n q02_Sum.b5 rc ((St.mk [(.int .i64 x0), (.own 0 1), (.own 1 1), (.int .i64 x1), (.ptr 2 [])] [(some (.ints .u8 x2)), (some (.ints .u64 x3)), (some (.var (.ints .u64 4 x4)))])) = q02_Sum.l26_0.r (fun a0 a1 a2 a3 => ((Prod.mk (.exit 10) (St.mk [(.int .i64 a0), (.own 0 1), (.own 1 1), (.ptr 2 [])] [(some (.ints .u8 a1)), (some (.ints .u64 a2)), (some (.var (.ints .u64 4 a3)))])) : Ex × St)) n (fun y0 y1 y2 y3 y4 => rc ((St.mk [(.int .i64 y0), (.own 0 1), (.own 1 1), (.int .i64 y1), (.ptr 2 [])] [(some (.ints .u8 y2)), (some (.ints .u64 y3)), (some (.var (.ints .u64 4 y4)))]))) x0 x1 x2 x3 x4 := by kernel_rfl
theorem q02_Sum.l26_0.loop' (n : Nat) : ∀ (m : Nat) (t : (Int × (Int × ((List Int) × ((List Int) × (List Int)))))), loopOf (roundOf (q02_Sum.C n) (q02_Sum.A n) n q02_Sum.b5) m (q02_Sum.l26_0.shape t) = q02_Sum.l26_0.g (fun a0 a1 a2 a3 => ((Prod.mk (.exit 10) (St.mk [(.int .i64 a0), (.own 0 1), (.own 1 1), (.ptr 2 [])] [(some (.ints .u8 a1)), (some (.ints .u64 a2)), (some (.var (.ints .u64 4 a3)))])) : Ex × St)) n m t.1 t.2.1 t.2.2.1 t.2.2.2.1 t.2.2.2.2 :=
  loop_of_round (shape := q02_Sum.l26_0.shape) (body := roundOf (q02_Sum.C n) (q02_Sum.A n) n q02_Sum.b5) (g := fun m t => q02_Sum.l26_0.g (fun a0 a1 a2 a3 => ((Prod.mk (.exit 10) (St.mk [(.int .i64 a0), (.own 0 1), (.own 1 1), (.ptr 2 [])] [(some (.ints .u8 a1)), (some (.ints .u64 a2)), (some (.var (.ints .u64 4 a3)))])) : Ex × St)) n m t.1 t.2.1 t.2.2.1 t.2.2.2.1 t.2.2.2.2) (fun t => rfl)
    fun m t ih => (q02_Sum.l26_0.round n (loopOf (roundOf (q02_Sum.C n) (q02_Sum.A n) n q02_Sum.b5) m) t.1 t.2.1 t.2.2.1 t.2.2.2.1 t.2.2.2.2).trans (congrFun (congrFun (congrFun (congrFun (congrFun (congrArg (q02_Sum.l26_0.r (fun a0 a1 a2 a3 => ((Prod.mk (.exit 10) (St.mk [(.int .i64 a0), (.own 0 1), (.own 1 1), (.ptr 2 [])] [(some (.ints .u8 a1)), (some (.ints .u64 a2)), (some (.var (.ints .u64 4 a3)))])) : Ex × St)) n) (funext fun y0 => funext fun y1 => funext fun y2 => funext fun y3 => funext fun y4 => ih (y0, y1, y2, y3, y4))) t.1) t.2.1) t.2.2.1) t.2.2.2.1) t.2.2.2.2)
theorem q02_Sum.l26_0.loop (n m : Nat) (t : (Int × (Int × ((List Int) × ((List Int) × (List Int)))))) : loopOf (roundOf (q02_Sum.C n) (q02_Sum.A n) n q02_Sum.b5) m (q02_Sum.l26_0.shape t) = (q02_Sum.l26_0.m n m t).map q02_Sum.l26_0.res :=
  (q02_Sum.l26_0.loop' n m t).trans (q02_Sum.l26_0.gmap q02_Sum.l26_0.res (fun a0 a1 a2 a3 => (a0, a1, a2, a3)) n m t.1 t.2.1 t.2.2.1 t.2.2.2.1 t.2.2.2.2)
theorem q02_Sum.l23_0.rmap {α β : Type} (h : β → α) (mk0 : (List Int) → (List Int) → β) (n : Nat) (f : Int → (List Int) → (List Int) → (List Int) → Option β)  (x0 : Int) (x1 : (List Int)) (x2 : (List Int)) (x3 : (List Int)) : q02_Sum.l23_0.r (fun a0 a1 => (h (mk0 a0 a1))) n (fun y0 y1 y2 y3 => (f y0 y1 y2 y3).map h) x0 x1 x2 x3 = (q02_Sum.l23_0.r mk0 n f x0 x1 x2 x3).map h := by
  unfold q02_Sum.l23_0.r
  exact (ite_map (bindO_map fun r6 => rfl) rfl)
theorem q02_Sum.l23_0.gmap {α β : Type} (h : β → α) (mk0 : (List Int) → (List Int) → β) (n : Nat) : ∀ (m : Nat) (x0 : Int) (x1 : (List Int)) (x2 : (List Int)) (x3 : (List Int)), q02_Sum.l23_0.g (fun a0 a1 => (h (mk0 a0 a1))) n m x0 x1 x2 x3 = (q02_Sum.l23_0.g mk0 n m x0 x1 x2 x3).map h
  | 0, _, _, _, _ => rfl
  | m + 1, x0, x1, x2, x3 => by
    unfold q02_Sum.l23_0.g
    rw [← q02_Sum.l23_0.rmap]
    congr
    · funext y0 y1 y2 y3; exact q02_Sum.l23_0.gmap h mk0 n m y0 y1 y2 y3
theorem q02_Sum.l23_0.pat_shape : ∀ st t, q02_Sum.l23_0.pat st = some t → st = q02_Sum.l23_0.shape t := by
  intro st t h
  unfold q02_Sum.l23_0.pat at h
  split at h
  · cases h; rfl
  · cases h
theorem q02_Sum.l23_0.round (n : Nat) (rc : St → Option (Ex × St)) (x0 : Int) (x1 : (List Int)) (x2 : (List Int)) (x3 : (List Int)) : roundOf (q02_Sum.C n) (q02_Sum.A n) n q02_Sum.b4 rc ((St.mk [(.int .i64 x0), (.own 0 1), (.own 1 1), (.ptr 2 [])] [(some (.ints .u8 x1)), (some (.ints .u64 x2)), (some (.var (.ints .u64 4 x3)))])) = q02_Sum.l23_0.r (fun a0 a1 => ((Prod.mk (.exit 8) (St.mk [(.own 0 1), (.ptr 1 [])] [(some (.ints .u8 a0)), (some (.var (.ints .u64 4 a1)))])) : Ex × St)) n (fun y0 y1 y2 y3 => rc ((St.mk [(.int .i64 y0), (.own 0 1), (.own 1 1), (.ptr 2 [])] [(some (.ints .u8 y1)), (some (.ints .u64 y2)), (some (.var (.ints .u64 4 y3)))]))) x0 x1 x2 x3 := by kernel_rfl
theorem q02_Sum.l23_0.loop' (n : Nat) : ∀ (m : Nat) (t : (Int × ((List Int) × ((List Int) × (List Int))))), loopOf (roundOf (q02_Sum.C n) (q02_Sum.A n) n q02_Sum.b4) m (q02_Sum.l23_0.shape t) = q02_Sum.l23_0.g (fun a0 a1 => ((Prod.mk (.exit 8) (St.mk [(.own 0 1), (.ptr 1 [])] [(some (.ints .u8 a0)), (some (.var (.ints .u64 4 a1)))])) : Ex × St)) n m t.1 t.2.1 t.2.2.1 t.2.2.2 :=
  loop_of_round (shape := q02_Sum.l23_0.shape) (body := roundOf (q02_Sum.C n) (q02_Sum.A n) n q02_Sum.b4) (g := fun m t => q02_Sum.l23_0.g (fun a0 a1 => ((Prod.mk (.exit 8) (St.mk [(.own 0 1), (.ptr 1 [])] [(some (.ints .u8 a0)), (some (.var (.ints .u64 4 a1)))])) : Ex × St)) n m t.1 t.2.1 t.2.2.1 t.2.2.2) (fun t => rfl)
    fun m t ih => (q02_Sum.l23_0.round n (loopOf (roundOf (q02_Sum.C n) (q02_Sum.A n) n q02_Sum.b4) m) t.1 t.2.1 t.2.2.1 t.2.2.2).trans (congrFun (congrFun (congrFun (congrFun (congrArg (q02_Sum.l23_0.r (fun a0 a1 => ((Prod.mk (.exit 8) (St.mk [(.own 0 1), (.ptr 1 [])] [(some (.ints .u8 a0)), (some (.var (.ints .u64 4 a1)))])) : Ex × St)) n) (funext fun y0 => funext fun y1 => funext fun y2 => funext fun y3 => ih (y0, y1, y2, y3))) t.1) t.2.1) t.2.2.1) t.2.2.2)
theorem q02_Sum.l23_0.loop (n m : Nat) (t : (Int × ((List Int) × ((List Int) × (List Int))))) : loopOf (roundOf (q02_Sum.C n) (q02_Sum.A n) n q02_Sum.b4) m (q02_Sum.l23_0.shape t) = (q02_Sum.l23_0.m n m t).map q02_Sum.l23_0.res :=
  (q02_Sum.l23_0.loop' n m t).trans (q02_Sum.l23_0.gmap q02_Sum.l23_0.res (fun a0 a1 => (a0, a1)) n m t.1 t.2.1 t.2.2.1 t.2.2.2)
theorem q02_Sum.gmap {α β : Type} (h : β → α) (mk0 : (List Int) → β) (n : Nat) (a0 : (List Int)) : q02_Sum.g (fun a0 => (h (mk0 a0))) n a0 = (q02_Sum.g mk0 n a0).map h := by
  unfold q02_Sum.g
  exact (ite_map (ite_map (bindO_map fun r6 => (ite_map (ite_map (ite_map (ite_map (bindO_map fun r16 => (bindO_map fun r18 => (bindO_map fun r20 => (bindO_map fun r22 => (bindO_map fun r24 => rfl))))) rfl) rfl) rfl) rfl)) rfl) rfl)
theorem q02_Sum.run (n : Nat) (a0 : (List Int)) : runF (q02_Sum.C n) (q02_Sum.A n) n Tryd.f62 [(.rints .u8 a0)] [] (fun v o => some (v, o)) = q02_Sum.g (fun a0 => ((Prod.mk (.ints .u64 4 a0) []) : AV × Blks)) n a0 := by kernel_rfl
theorem q02_Sum.call (hmix : Tryd.prog.follows .mixedOrders = true) (n : Nat) (t : (List Int)) (u) (h : q02_Sum.m n t = some u) : FnC Tryd.prog abiG 62 (q02_Sum.shape t).1 (q02_Sum.shape t).2 (q02_Sum.res u).1 (q02_Sum.res u).2 := by
  have hg : ∀ f m, (q02_Sum.C n).Γ f = some m → CalleeS Tryd.prog abiG f m := by
    intro f m hm
    unfold q02_Sum.C at hm
    simp only at hm
    first
    | (cases hm; done)
    | (split at hm <;> first
    | (cases hm; exact q02_turns.s hmix n)
    | (cases hm; exact q02_keys.s hmix n)
    | (cases hm; exact q02_mix.s hmix n)
    | (cases hm; exact q01_Read.s hmix n)
    | (cases hm; done))
  have hb : Tryd.f62.body = some (Tryd.f62.body.getD .skip) := by kernel_rfl
  refine runF_calls (C := q02_Sum.C n) (A := q02_Sum.A n) (n := n) (fn := Tryd.f62) hg hmix Tryd.func62 hb ?_ ?_ (by decide) rfl rfl (by show 1 ≤ Tryd.f62.ntmps; decide) ?_
  · rw [show loopsIn (Tryd.f62.body.getD .skip) = [q02_Sum.b0, q02_Sum.b1, q02_Sum.b2, q02_Sum.b3, q02_Sum.b4, q02_Sum.b5] by kernel_rfl]
    intro b hb m hm
    simp only [List.mem_cons, List.not_mem_nil, or_false] at hb
    rcases hb with rfl | rfl | rfl | rfl | rfl | rfl
    · have e : (q02_Sum.A n).loop (key q02_Sum.b0) = some (.mk' q02_Sum.l4_0.pat (q02_Sum.l4_0.m n n) q02_Sum.l4_0.resK) := by rw [show key q02_Sum.b0 = 4 by kernel_rfl]; rfl
      rw [e] at hm
      cases hm
      exact (LoopS.of (res := q02_Sum.l4_0.res) (fun R u K => rfl) q02_Sum.l4_0.pat_shape fun t => q02_Sum.l4_0.loop n n t)
    · have e : (q02_Sum.A n).loop (key q02_Sum.b1) = some (.mk' q02_Sum.l11_0.pat (q02_Sum.l11_0.m n n) q02_Sum.l11_0.resK) := by rw [show key q02_Sum.b1 = 11 by kernel_rfl]; rfl
      rw [e] at hm
      cases hm
      exact (LoopS.of (res := q02_Sum.l11_0.res) (fun R u K => rfl) q02_Sum.l11_0.pat_shape fun t => q02_Sum.l11_0.loop n n t)
    · have e : (q02_Sum.A n).loop (key q02_Sum.b2) = some (.mk' q02_Sum.l14_0.pat (q02_Sum.l14_0.m n n) q02_Sum.l14_0.resK) := by rw [show key q02_Sum.b2 = 14 by kernel_rfl]; rfl
      rw [e] at hm
      cases hm
      exact (LoopS.of (res := q02_Sum.l14_0.res) (fun R u K => rfl) q02_Sum.l14_0.pat_shape fun t => q02_Sum.l14_0.loop n n t)
    · have e : (q02_Sum.A n).loop (key q02_Sum.b3) = some (.mk' q02_Sum.l17_0.pat (q02_Sum.l17_0.m n n) q02_Sum.l17_0.resK) := by rw [show key q02_Sum.b3 = 17 by kernel_rfl]; rfl
      rw [e] at hm
      cases hm
      exact (LoopS.of (res := q02_Sum.l17_0.res) (fun R u K => rfl) q02_Sum.l17_0.pat_shape fun t => q02_Sum.l17_0.loop n n t)
    · have e : (q02_Sum.A n).loop (key q02_Sum.b4) = some (.mk' q02_Sum.l23_0.pat (q02_Sum.l23_0.m n n) q02_Sum.l23_0.resK) := by rw [show key q02_Sum.b4 = 23 by kernel_rfl]; rfl
      rw [e] at hm
      cases hm
      exact (LoopS.of (res := q02_Sum.l23_0.res) (fun R u K => rfl) q02_Sum.l23_0.pat_shape fun t => q02_Sum.l23_0.loop n n t)
    · have e : (q02_Sum.A n).loop (key q02_Sum.b5) = some (.mk' q02_Sum.l26_0.pat (q02_Sum.l26_0.m n n) q02_Sum.l26_0.resK) := by rw [show key q02_Sum.b5 = 26 by kernel_rfl]; rfl
      rw [e] at hm
      cases hm
      exact (LoopS.of (res := q02_Sum.l26_0.res) (fun R u K => rfl) q02_Sum.l26_0.pat_shape fun t => q02_Sum.l26_0.loop n n t)
  · intro a ha m hm
    cases (show none = some m from hm)
  · rw [show runF (q02_Sum.C n) (q02_Sum.A n) n Tryd.f62 (q02_Sum.shape t).1 (q02_Sum.shape t).2 (fun v o => some (v, o)) = _ from q02_Sum.run n t]
    have e := q02_Sum.gmap q02_Sum.res (fun a0 => a0) n t
    unfold q02_Sum.m at h
    rw [h] at e
    exact e
theorem q02_Sum.s (hmix : Tryd.prog.follows .mixedOrders = true) (n : Nat) : CalleeS Tryd.prog abiG 62 (q02_Sum.c n) :=
  CalleeS.of (res := q02_Sum.res) (shape := q02_Sum.shape) (fun R u K => rfl) (fun args lent t h => by
    unfold q02_Sum.pat at h
    split at h
    · cases h; rfl
    · cases h) fun t u h => (q02_Sum.call hmix n t u h).ok Tryd.func62 (by decide) (by kernel_rfl)
end
section
noncomputable section
noncomputable def word_Bytes.C (n : Nat) : Ctx := ⟨Tryd.prog, abiG, fun f => match f with
 | _ => none, fun _ => false⟩
def word_Bytes.live : Nat → List Nat × List Nat := fun k => match k with
 | 3 => ([6, 3, 1], [3])
 | _ => ([], [])
def word_Bytes.jlive : Nat → List Nat × List Nat := fun k => match k with
 | _ => ([], [])
def word_Bytes.l3_0.r {α : Type} (mk0 : (List Int) → α) (n : Nat) (rc : Int → (List Int) → (List Int) → Option α)  (x0 : Int) (x1 : (List Int)) (x2 : (List Int)) : Option α :=
  if (decide (x0 < 32)) = true then
   if 0 ≤ (IntKind.wrap .i64 (Int.tdiv x0 8)) then
    if (IntKind.wrap .i64 (Int.tdiv x0 8)) < 4 then
     if 0 ≤ (IntKind.wrap .i64 ((Int.tmod x0 8) * 8)) then
      if 0 ≤ (IntKind.wrap .i64 (31 - x0)) then
       if (IntKind.wrap .i64 (31 - x0)) < (((List.length x1) : Nat) : Int) then
        rc (IntKind.wrap .i64 (x0 + 1)) (List.set x1 (Int.toNat (IntKind.wrap .i64 (31 - x0))) (IntKind.wrap .u8 (ishr .u64 (List.getD x2 (Int.toNat (IntKind.wrap .i64 (Int.tdiv x0 8))) 0) (IntKind.wrap .i64 ((Int.tmod x0 8) * 8))))) x2
       else
        none
      else
       none
     else
      none
    else
     none
   else
    none
  else
   some (mk0 x1)
def word_Bytes.l3_0.g {α : Type} (mk0 : (List Int) → α) (n : Nat) : Nat → Int → (List Int) → (List Int) → Option α
 | 0, _, _, _ => none
 | m + 1, x0, x1, x2 => word_Bytes.l3_0.r mk0 n (fun y0 y1 y2 => word_Bytes.l3_0.g mk0 n m y0 y1 y2)  x0 x1 x2
def word_Bytes.l3_0.m (n m : Nat) (t : (Int × ((List Int) × (List Int)))) : Option (List Int) := word_Bytes.l3_0.g (fun a0 => a0) n m t.1 t.2.1 t.2.2
def word_Bytes.l3_0.pat : St → Option (Int × ((List Int) × (List Int)))
 | (St.mk [(.int .i64 x0), (.own 0 1), (.ptr 1 [])] [(some (.ints .u8 x1)), (some (.var (.ints .u64 4 x2)))]) => some (x0, x1, x2)
 | _ => none
def word_Bytes.l3_0.shape (t : (Int × ((List Int) × (List Int)))) : St := (St.mk [(.int .i64 t.1), (.own 0 1), (.ptr 1 [])] [(some (.ints .u8 t.2.1)), (some (.var (.ints .u64 4 t.2.2)))])
def word_Bytes.l3_0.res : (List Int) → Ex × St
 | u => (Prod.mk (.exit 0) (St.mk [(.own 0 1)] [(some (.ints .u8 u))]))
def word_Bytes.l3_0.resK {R : Type} (u : (List Int)) (K : Ex → St → Option R) : Option R := (fun p : Ex × St => K p.1 p.2) (Prod.mk (.exit 0) (St.mk [(.own 0 1)] [(some (.ints .u8 u))]))
noncomputable def word_Bytes.A (n : Nat) : Ann := ⟨Tryd.f56.ntmps, 0, word_Bytes.live, [(3, (.ints .u8))], [(some (.ints .u8))], fun k => match k with
 | 3 => some (.mk' word_Bytes.l3_0.pat (word_Bytes.l3_0.m n n) word_Bytes.l3_0.resK)
 | _ => none, word_Bytes.jlive, lookJ []⟩
noncomputable def word_Bytes.b0 : Code := (loopsIn (Tryd.f56.body.getD .skip)).getD 0 .skip
def word_Bytes.g {α : Type} (mk0 : (List Int) → α) (n : Nat) (a0 : (List Int)) : Option α :=
 bindO (word_Bytes.l3_0.m n n (0, ([0, 0, 0, 0, 0, 0, 0, 0, 0, 0, 0, 0, 0, 0, 0, 0, 0, 0, 0, 0, 0, 0, 0, 0, 0, 0, 0, 0, 0, 0, 0, 0] : List Int), a0)) fun r2 =>
  some (mk0 r2)
def word_Bytes.m (n : Nat) (t : (List Int)) : Option (List Int) := word_Bytes.g (fun a0 => a0) n t
def word_Bytes.pat : List AV → Blks → Option (List Int)
 | [(.ints .u64 4 a0)], [] => some a0
 | _, _ => none
def word_Bytes.shape (t : (List Int)) : List AV × Blks := ([(.ints .u64 4 t)], [])
def word_Bytes.res : (List Int) → AV × Blks
 | u => (Prod.mk (.own 0 1) [(some (.ints .u8 u))])
def word_Bytes.resK {R : Type} (u : (List Int)) (K : AV → Blks → Option R) : Option R := (fun p : AV × Blks => K p.1 p.2) (Prod.mk (.own 0 1) [(some (.ints .u8 u))])
def word_Bytes.c (n : Nat) : Abs.Callee := .mk' [] [none] word_Bytes.pat (word_Bytes.m n) word_Bytes.resK
end
end
section
theorem word_Bytes.l3_0.rmap {α β : Type} (h : β → α) (mk0 : (List Int) → β) (n : Nat) (f : Int → (List Int) → (List Int) → Option β)  (x0 : Int) (x1 : (List Int)) (x2 : (List Int)) : word_Bytes.l3_0.r (fun a0 => (h (mk0 a0))) n (fun y0 y1 y2 => (f y0 y1 y2).map h) x0 x1 x2 = (word_Bytes.l3_0.r mk0 n f x0 x1 x2).map h := by
  unfold word_Bytes.l3_0.r
  exact (ite_map (ite_map (ite_map (ite_map (ite_map (ite_map rfl rfl) rfl) rfl) rfl) rfl) rfl)
theorem word_Bytes.l3_0.gmap {α β : Type} (h : β → α) (mk0 : (List Int) → β) (n : Nat) : ∀ (m : Nat) (x0 : Int) (x1 : (List Int)) (x2 : (List Int)), word_Bytes.l3_0.g (fun a0 => (h (mk0 a0))) n m x0 x1 x2 = (word_Bytes.l3_0.g mk0 n m x0 x1 x2).map h
  | 0, _, _, _ => rfl
  | m + 1, x0, x1, x2 => by
    unfold word_Bytes.l3_0.g
    rw [← word_Bytes.l3_0.rmap]
    congr
    · funext y0 y1 y2; exact word_Bytes.l3_0.gmap h mk0 n m y0 y1 y2
theorem word_Bytes.l3_0.pat_shape : ∀ st t, word_Bytes.l3_0.pat st = some t → st = word_Bytes.l3_0.shape t := by
  intro st t h
  unfold word_Bytes.l3_0.pat at h
  split at h
  · cases h; rfl
  · cases h
theorem word_Bytes.l3_0.round (n : Nat) (rc : St → Option (Ex × St)) (x0 : Int) (x1 : (List Int)) (x2 : (List Int)) : roundOf (word_Bytes.C n) (word_Bytes.A n) n word_Bytes.b0 rc ((St.mk [(.int .i64 x0), (.own 0 1), (.ptr 1 [])] [(some (.ints .u8 x1)), (some (.var (.ints .u64 4 x2)))])) = word_Bytes.l3_0.r (fun a0 => ((Prod.mk (.exit 0) (St.mk [(.own 0 1)] [(some (.ints .u8 a0))])) : Ex × St)) n (fun y0 y1 y2 => rc ((St.mk [(.int .i64 y0), (.own 0 1), (.ptr 1 [])] [(some (.ints .u8 y1)), (some (.var (.ints .u64 4 y2)))]))) x0 x1 x2 := by kernel_rfl
theorem word_Bytes.l3_0.loop' (n : Nat) : ∀ (m : Nat) (t : (Int × ((List Int) × (List Int)))), loopOf (roundOf (word_Bytes.C n) (word_Bytes.A n) n word_Bytes.b0) m (word_Bytes.l3_0.shape t) = word_Bytes.l3_0.g (fun a0 => ((Prod.mk (.exit 0) (St.mk [(.own 0 1)] [(some (.ints .u8 a0))])) : Ex × St)) n m t.1 t.2.1 t.2.2 :=
  loop_of_round (shape := word_Bytes.l3_0.shape) (body := roundOf (word_Bytes.C n) (word_Bytes.A n) n word_Bytes.b0) (g := fun m t => word_Bytes.l3_0.g (fun a0 => ((Prod.mk (.exit 0) (St.mk [(.own 0 1)] [(some (.ints .u8 a0))])) : Ex × St)) n m t.1 t.2.1 t.2.2) (fun t => rfl)
    fun m t ih => (word_Bytes.l3_0.round n (loopOf (roundOf (word_Bytes.C n) (word_Bytes.A n) n word_Bytes.b0) m) t.1 t.2.1 t.2.2).trans (congrFun (congrFun (congrFun (congrArg (word_Bytes.l3_0.r (fun a0 => ((Prod.mk (.exit 0) (St.mk [(.own 0 1)] [(some (.ints .u8 a0))])) : Ex × St)) n) (funext fun y0 => funext fun y1 => funext fun y2 => ih (y0, y1, y2))) t.1) t.2.1) t.2.2)
theorem word_Bytes.l3_0.loop (n m : Nat) (t : (Int × ((List Int) × (List Int)))) : loopOf (roundOf (word_Bytes.C n) (word_Bytes.A n) n word_Bytes.b0) m (word_Bytes.l3_0.shape t) = (word_Bytes.l3_0.m n m t).map word_Bytes.l3_0.res :=
  (word_Bytes.l3_0.loop' n m t).trans (word_Bytes.l3_0.gmap word_Bytes.l3_0.res (fun a0 => a0) n m t.1 t.2.1 t.2.2)
theorem word_Bytes.gmap {α β : Type} (h : β → α) (mk0 : (List Int) → β) (n : Nat) (a0 : (List Int)) : word_Bytes.g (fun a0 => (h (mk0 a0))) n a0 = (word_Bytes.g mk0 n a0).map h := by
  unfold word_Bytes.g
  exact (bindO_map fun r2 => rfl)
theorem word_Bytes.run (n : Nat) (a0 : (List Int)) : runF (word_Bytes.C n) (word_Bytes.A n) n Tryd.f56 [(.ints .u64 4 a0)] [] (fun v o => some (v, o)) = word_Bytes.g (fun a0 => ((Prod.mk (.own 0 1) [(some (.ints .u8 a0))]) : AV × Blks)) n a0 := by kernel_rfl
theorem word_Bytes.call (hmix : Tryd.prog.follows .mixedOrders = true) (n : Nat) (t : (List Int)) (u) (h : word_Bytes.m n t = some u) : FnC Tryd.prog abiG 56 (word_Bytes.shape t).1 (word_Bytes.shape t).2 (word_Bytes.res u).1 (word_Bytes.res u).2 := by
  have hg : ∀ f m, (word_Bytes.C n).Γ f = some m → CalleeS Tryd.prog abiG f m := by
    intro f m hm
    unfold word_Bytes.C at hm
    simp only at hm
    first
    | (cases hm; done)
    | (split at hm <;> first
    | (cases hm; done))
  have hb : Tryd.f56.body = some (Tryd.f56.body.getD .skip) := by kernel_rfl
  refine runF_calls (C := word_Bytes.C n) (A := word_Bytes.A n) (n := n) (fn := Tryd.f56) hg hmix Tryd.func56 hb ?_ ?_ (by decide) rfl rfl (by show 1 ≤ Tryd.f56.ntmps; decide) ?_
  · rw [show loopsIn (Tryd.f56.body.getD .skip) = [word_Bytes.b0] by kernel_rfl]
    intro b hb m hm
    simp only [List.mem_cons, List.not_mem_nil, or_false] at hb
    rcases hb with rfl
    · have e : (word_Bytes.A n).loop (key word_Bytes.b0) = some (.mk' word_Bytes.l3_0.pat (word_Bytes.l3_0.m n n) word_Bytes.l3_0.resK) := by rw [show key word_Bytes.b0 = 3 by kernel_rfl]; rfl
      rw [e] at hm
      cases hm
      exact (LoopS.of (res := word_Bytes.l3_0.res) (fun R u K => rfl) word_Bytes.l3_0.pat_shape fun t => word_Bytes.l3_0.loop n n t)
  · intro a ha m hm
    cases (show none = some m from hm)
  · rw [show runF (word_Bytes.C n) (word_Bytes.A n) n Tryd.f56 (word_Bytes.shape t).1 (word_Bytes.shape t).2 (fun v o => some (v, o)) = _ from word_Bytes.run n t]
    have e := word_Bytes.gmap word_Bytes.res (fun a0 => a0) n t
    unfold word_Bytes.m at h
    rw [h] at e
    exact e
theorem word_Bytes.s (hmix : Tryd.prog.follows .mixedOrders = true) (n : Nat) : CalleeS Tryd.prog abiG 56 (word_Bytes.c n) :=
  CalleeS.of (res := word_Bytes.res) (shape := word_Bytes.shape) (fun R u K => rfl) (fun args lent t h => by
    unfold word_Bytes.pat at h
    split at h
    · cases h; rfl
    · cases h) fun t u h => (word_Bytes.call hmix n t u h).ok Tryd.func56 (by decide) (by kernel_rfl)
end
section
noncomputable section
noncomputable def q01_Bytes.C (n : Nat) : Ctx := ⟨Tryd.prog, abiG, fun f => match f with
 | _ => none, fun _ => false⟩
def q01_Bytes.live : Nat → List Nat × List Nat := fun k => match k with
 | 3 => ([4, 3, 1], [3])
 | _ => ([], [])
def q01_Bytes.jlive : Nat → List Nat × List Nat := fun k => match k with
 | _ => ([], [])
def q01_Bytes.l3_0.r {α : Type} (mk0 : (List Int) → α) (n : Nat) (rc : Int → (List Int) → (List Int) → Option α)  (x0 : Int) (x1 : (List Int)) (x2 : (List Int)) : Option α :=
  if (decide (x0 < 32)) = true then
   if 0 ≤ (IntKind.wrap .i64 (Int.tdiv (IntKind.wrap .i64 (31 - x0)) 8)) then
    if (IntKind.wrap .i64 (Int.tdiv (IntKind.wrap .i64 (31 - x0)) 8)) < 4 then
     if 0 ≤ (IntKind.wrap .u64 (IntKind.wrap .i64 ((Int.tmod (IntKind.wrap .i64 (31 - x0)) 8) * 8))) then
      if ((((List.length x1) + 1) * 1) ≤ 70368744177664 ∧ ((List.length x1) + 1) ≤ 9223372036854775807) then
       rc (IntKind.wrap .i64 (x0 + 1)) (x1 ++ [(IntKind.wrap .u8 (ishr .u64 (List.getD x2 (Int.toNat (IntKind.wrap .i64 (Int.tdiv (IntKind.wrap .i64 (31 - x0)) 8))) 0) (IntKind.wrap .u64 (IntKind.wrap .i64 ((Int.tmod (IntKind.wrap .i64 (31 - x0)) 8) * 8)))))]) x2
      else
       none
     else
      none
    else
     none
   else
    none
  else
   some (mk0 x1)
def q01_Bytes.l3_0.g {α : Type} (mk0 : (List Int) → α) (n : Nat) : Nat → Int → (List Int) → (List Int) → Option α
 | 0, _, _, _ => none
 | m + 1, x0, x1, x2 => q01_Bytes.l3_0.r mk0 n (fun y0 y1 y2 => q01_Bytes.l3_0.g mk0 n m y0 y1 y2)  x0 x1 x2
def q01_Bytes.l3_0.m (n m : Nat) (t : (Int × ((List Int) × (List Int)))) : Option (List Int) := q01_Bytes.l3_0.g (fun a0 => a0) n m t.1 t.2.1 t.2.2
def q01_Bytes.l3_0.pat : St → Option (Int × ((List Int) × (List Int)))
 | (St.mk [(.int .i64 x0), (.own 0 1), (.ptr 1 [])] [(some (.ints .u8 x1)), (some (.var (.ints .u64 4 x2)))]) => some (x0, x1, x2)
 | _ => none
def q01_Bytes.l3_0.shape (t : (Int × ((List Int) × (List Int)))) : St := (St.mk [(.int .i64 t.1), (.own 0 1), (.ptr 1 [])] [(some (.ints .u8 t.2.1)), (some (.var (.ints .u64 4 t.2.2)))])
def q01_Bytes.l3_0.res : (List Int) → Ex × St
 | u => (Prod.mk (.exit 0) (St.mk [(.own 0 1)] [(some (.ints .u8 u))]))
def q01_Bytes.l3_0.resK {R : Type} (u : (List Int)) (K : Ex → St → Option R) : Option R := (fun p : Ex × St => K p.1 p.2) (Prod.mk (.exit 0) (St.mk [(.own 0 1)] [(some (.ints .u8 u))]))
noncomputable def q01_Bytes.A (n : Nat) : Ann := ⟨Tryd.f55.ntmps, 0, q01_Bytes.live, [(3, (.ints .u8))], [(some (.ints .u8))], fun k => match k with
 | 3 => some (.mk' q01_Bytes.l3_0.pat (q01_Bytes.l3_0.m n n) q01_Bytes.l3_0.resK)
 | _ => none, q01_Bytes.jlive, lookJ []⟩
noncomputable def q01_Bytes.b0 : Code := (loopsIn (Tryd.f55.body.getD .skip)).getD 0 .skip
def q01_Bytes.g {α : Type} (mk0 : (List Int) → α) (n : Nat) (a0 : (List Int)) : Option α :=
 bindO (q01_Bytes.l3_0.m n n (0, [], a0)) fun r2 =>
  some (mk0 r2)
def q01_Bytes.m (n : Nat) (t : (List Int)) : Option (List Int) := q01_Bytes.g (fun a0 => a0) n t
def q01_Bytes.pat : List AV → Blks → Option (List Int)
 | [(.ints .u64 4 a0)], [] => some a0
 | _, _ => none
def q01_Bytes.shape (t : (List Int)) : List AV × Blks := ([(.ints .u64 4 t)], [])
def q01_Bytes.res : (List Int) → AV × Blks
 | u => (Prod.mk (.own 0 1) [(some (.ints .u8 u))])
def q01_Bytes.resK {R : Type} (u : (List Int)) (K : AV → Blks → Option R) : Option R := (fun p : AV × Blks => K p.1 p.2) (Prod.mk (.own 0 1) [(some (.ints .u8 u))])
def q01_Bytes.c (n : Nat) : Abs.Callee := .mk' [] [none] q01_Bytes.pat (q01_Bytes.m n) q01_Bytes.resK
end
end
section
theorem q01_Bytes.l3_0.rmap {α β : Type} (h : β → α) (mk0 : (List Int) → β) (n : Nat) (f : Int → (List Int) → (List Int) → Option β)  (x0 : Int) (x1 : (List Int)) (x2 : (List Int)) : q01_Bytes.l3_0.r (fun a0 => (h (mk0 a0))) n (fun y0 y1 y2 => (f y0 y1 y2).map h) x0 x1 x2 = (q01_Bytes.l3_0.r mk0 n f x0 x1 x2).map h := by
  unfold q01_Bytes.l3_0.r
  exact (ite_map (ite_map (ite_map (ite_map (ite_map rfl rfl) rfl) rfl) rfl) rfl)
theorem q01_Bytes.l3_0.gmap {α β : Type} (h : β → α) (mk0 : (List Int) → β) (n : Nat) : ∀ (m : Nat) (x0 : Int) (x1 : (List Int)) (x2 : (List Int)), q01_Bytes.l3_0.g (fun a0 => (h (mk0 a0))) n m x0 x1 x2 = (q01_Bytes.l3_0.g mk0 n m x0 x1 x2).map h
  | 0, _, _, _ => rfl
  | m + 1, x0, x1, x2 => by
    unfold q01_Bytes.l3_0.g
    rw [← q01_Bytes.l3_0.rmap]
    congr
    · funext y0 y1 y2; exact q01_Bytes.l3_0.gmap h mk0 n m y0 y1 y2
theorem q01_Bytes.l3_0.pat_shape : ∀ st t, q01_Bytes.l3_0.pat st = some t → st = q01_Bytes.l3_0.shape t := by
  intro st t h
  unfold q01_Bytes.l3_0.pat at h
  split at h
  · cases h; rfl
  · cases h
theorem q01_Bytes.l3_0.round (n : Nat) (rc : St → Option (Ex × St)) (x0 : Int) (x1 : (List Int)) (x2 : (List Int)) : roundOf (q01_Bytes.C n) (q01_Bytes.A n) n q01_Bytes.b0 rc ((St.mk [(.int .i64 x0), (.own 0 1), (.ptr 1 [])] [(some (.ints .u8 x1)), (some (.var (.ints .u64 4 x2)))])) = q01_Bytes.l3_0.r (fun a0 => ((Prod.mk (.exit 0) (St.mk [(.own 0 1)] [(some (.ints .u8 a0))])) : Ex × St)) n (fun y0 y1 y2 => rc ((St.mk [(.int .i64 y0), (.own 0 1), (.ptr 1 [])] [(some (.ints .u8 y1)), (some (.var (.ints .u64 4 y2)))]))) x0 x1 x2 := by kernel_rfl
theorem q01_Bytes.l3_0.loop' (n : Nat) : ∀ (m : Nat) (t : (Int × ((List Int) × (List Int)))), loopOf (roundOf (q01_Bytes.C n) (q01_Bytes.A n) n q01_Bytes.b0) m (q01_Bytes.l3_0.shape t) = q01_Bytes.l3_0.g (fun a0 => ((Prod.mk (.exit 0) (St.mk [(.own 0 1)] [(some (.ints .u8 a0))])) : Ex × St)) n m t.1 t.2.1 t.2.2 :=
  loop_of_round (shape := q01_Bytes.l3_0.shape) (body := roundOf (q01_Bytes.C n) (q01_Bytes.A n) n q01_Bytes.b0) (g := fun m t => q01_Bytes.l3_0.g (fun a0 => ((Prod.mk (.exit 0) (St.mk [(.own 0 1)] [(some (.ints .u8 a0))])) : Ex × St)) n m t.1 t.2.1 t.2.2) (fun t => rfl)
    fun m t ih => (q01_Bytes.l3_0.round n (loopOf (roundOf (q01_Bytes.C n) (q01_Bytes.A n) n q01_Bytes.b0) m) t.1 t.2.1 t.2.2).trans (congrFun (congrFun (congrFun (congrArg (q01_Bytes.l3_0.r (fun a0 => ((Prod.mk (.exit 0) (St.mk [(.own 0 1)] [(some (.ints .u8 a0))])) : Ex × St)) n) (funext fun y0 => funext fun y1 => funext fun y2 => ih (y0, y1, y2))) t.1) t.2.1) t.2.2)
theorem q01_Bytes.l3_0.loop (n m : Nat) (t : (Int × ((List Int) × (List Int)))) : loopOf (roundOf (q01_Bytes.C n) (q01_Bytes.A n) n q01_Bytes.b0) m (q01_Bytes.l3_0.shape t) = (q01_Bytes.l3_0.m n m t).map q01_Bytes.l3_0.res :=
  (q01_Bytes.l3_0.loop' n m t).trans (q01_Bytes.l3_0.gmap q01_Bytes.l3_0.res (fun a0 => a0) n m t.1 t.2.1 t.2.2)
theorem q01_Bytes.gmap {α β : Type} (h : β → α) (mk0 : (List Int) → β) (n : Nat) (a0 : (List Int)) : q01_Bytes.g (fun a0 => (h (mk0 a0))) n a0 = (q01_Bytes.g mk0 n a0).map h := by
  unfold q01_Bytes.g
  exact (bindO_map fun r2 => rfl)
theorem q01_Bytes.run (n : Nat) (a0 : (List Int)) : runF (q01_Bytes.C n) (q01_Bytes.A n) n Tryd.f55 [(.ints .u64 4 a0)] [] (fun v o => some (v, o)) = q01_Bytes.g (fun a0 => ((Prod.mk (.own 0 1) [(some (.ints .u8 a0))]) : AV × Blks)) n a0 := by kernel_rfl
theorem q01_Bytes.call (hmix : Tryd.prog.follows .mixedOrders = true) (n : Nat) (t : (List Int)) (u) (h : q01_Bytes.m n t = some u) : FnC Tryd.prog abiG 55 (q01_Bytes.shape t).1 (q01_Bytes.shape t).2 (q01_Bytes.res u).1 (q01_Bytes.res u).2 := by
  have hg : ∀ f m, (q01_Bytes.C n).Γ f = some m → CalleeS Tryd.prog abiG f m := by
    intro f m hm
    unfold q01_Bytes.C at hm
    simp only at hm
    first
    | (cases hm; done)
    | (split at hm <;> first
    | (cases hm; done))
  have hb : Tryd.f55.body = some (Tryd.f55.body.getD .skip) := by kernel_rfl
  refine runF_calls (C := q01_Bytes.C n) (A := q01_Bytes.A n) (n := n) (fn := Tryd.f55) hg hmix Tryd.func55 hb ?_ ?_ (by decide) rfl rfl (by show 1 ≤ Tryd.f55.ntmps; decide) ?_
  · rw [show loopsIn (Tryd.f55.body.getD .skip) = [q01_Bytes.b0] by kernel_rfl]
    intro b hb m hm
    simp only [List.mem_cons, List.not_mem_nil, or_false] at hb
    rcases hb with rfl
    · have e : (q01_Bytes.A n).loop (key q01_Bytes.b0) = some (.mk' q01_Bytes.l3_0.pat (q01_Bytes.l3_0.m n n) q01_Bytes.l3_0.resK) := by rw [show key q01_Bytes.b0 = 3 by kernel_rfl]; rfl
      rw [e] at hm
      cases hm
      exact (LoopS.of (res := q01_Bytes.l3_0.res) (fun R u K => rfl) q01_Bytes.l3_0.pat_shape fun t => q01_Bytes.l3_0.loop n n t)
  · intro a ha m hm
    cases (show none = some m from hm)
  · rw [show runF (q01_Bytes.C n) (q01_Bytes.A n) n Tryd.f55 (q01_Bytes.shape t).1 (q01_Bytes.shape t).2 (fun v o => some (v, o)) = _ from q01_Bytes.run n t]
    have e := q01_Bytes.gmap q01_Bytes.res (fun a0 => a0) n t
    unfold q01_Bytes.m at h
    rw [h] at e
    exact e
theorem q01_Bytes.s (hmix : Tryd.prog.follows .mixedOrders = true) (n : Nat) : CalleeS Tryd.prog abiG 55 (q01_Bytes.c n) :=
  CalleeS.of (res := q01_Bytes.res) (shape := q01_Bytes.shape) (fun R u K => rfl) (fun args lent t h => by
    unfold q01_Bytes.pat at h
    split at h
    · cases h; rfl
    · cases h) fun t u h => (q01_Bytes.call hmix n t u h).ok Tryd.func55 (by decide) (by kernel_rfl)
end
section
noncomputable section
noncomputable def word_From.C (n : Nat) : Ctx := ⟨Tryd.prog, abiG, fun f => match f with
 | _ => none, fun _ => false⟩
def word_From.live : Nat → List Nat × List Nat := fun k => match k with
 | _ => ([], [])
def word_From.jlive : Nat → List Nat × List Nat := fun k => match k with
 | _ => ([], [])
noncomputable def word_From.A (n : Nat) : Ann := ⟨Tryd.f69.ntmps, 0, word_From.live, [], [none], fun k => match k with
 | _ => none, word_From.jlive, lookJ []⟩
def word_From.g {α : Type} (mk0 : (List Int) → α) (n : Nat) (a0 : Int) : Option α :=
 some (mk0 [a0, 0, 0, 0])
def word_From.m (n : Nat) (t : Int) : Option (List Int) := word_From.g (fun a0 => a0) n t
def word_From.pat : List AV → Blks → Option Int
 | [(.int .u64 a0)], [] => some a0
 | _, _ => none
def word_From.shape (t : Int) : List AV × Blks := ([(.int .u64 t)], [])
def word_From.res : (List Int) → AV × Blks
 | u => (Prod.mk (.ints .u64 4 u) [])
def word_From.resK {R : Type} (u : (List Int)) (K : AV → Blks → Option R) : Option R := (fun p : AV × Blks => K p.1 p.2) (Prod.mk (.ints .u64 4 u) [])
def word_From.c (n : Nat) : Abs.Callee := .mk' [] [none] word_From.pat (word_From.m n) word_From.resK
end
end
section
noncomputable section
noncomputable def abi_number.C (n : Nat) : Ctx := ⟨Tryd.prog, abiG, fun f => match f with
 | 69 => some (word_From.c n)
 | 56 => some (word_Bytes.c n)
 | _ => none, fun _ => false⟩
def abi_number.live : Nat → List Nat × List Nat := fun k => match k with
 | _ => ([], [])
def abi_number.jlive : Nat → List Nat × List Nat := fun k => match k with
 | _ => ([], [])
noncomputable def abi_number.A (n : Nat) : Ann := ⟨Tryd.f61.ntmps, 0, abi_number.live, [], [(some (.ints .u8))], fun k => match k with
 | _ => none, abi_number.jlive, lookJ []⟩
def abi_number.g {α : Type} (mk0 : (List Int) → α) (n : Nat) (a0 : Int) : Option α :=
 bindO (word_From.m n (IntKind.wrap .u64 a0)) fun r2 =>
  bindO (word_Bytes.m n r2) fun r4 =>
   some (mk0 r4)
def abi_number.m (n : Nat) (t : Int) : Option (List Int) := abi_number.g (fun a0 => a0) n t
def abi_number.pat : List AV → Blks → Option Int
 | [(.int .i64 a0)], [] => some a0
 | _, _ => none
def abi_number.shape (t : Int) : List AV × Blks := ([(.int .i64 t)], [])
def abi_number.res : (List Int) → AV × Blks
 | u => (Prod.mk (.own 0 1) [(some (.ints .u8 u))])
def abi_number.resK {R : Type} (u : (List Int)) (K : AV → Blks → Option R) : Option R := (fun p : AV × Blks => K p.1 p.2) (Prod.mk (.own 0 1) [(some (.ints .u8 u))])
def abi_number.c (n : Nat) : Abs.Callee := .mk' [] [none] abi_number.pat (abi_number.m n) abi_number.resK
end
end
section
noncomputable section
noncomputable def abi_Encode.C (n : Nat) : Ctx := ⟨Tryd.prog, abiG, fun f => match f with
 | 56 => some (word_Bytes.c n)
 | 61 => some (abi_number.c n)
 | _ => none, fun _ => false⟩
def abi_Encode.live : Nat → List Nat × List Nat := fun k => match k with
 | 3 => ([9, 8, 7, 3, 0, 4], [3, 4])
 | _ => ([], [])
def abi_Encode.jlive : Nat → List Nat × List Nat := fun k => match k with
 | _ => ([], [])
def abi_Encode.l3_0.r {α : Type} (mk0 : (List Int) → (List Int) → α) (n : Nat) (rc : Int → Int → (List AV) → (List AV) → (List Int) → (List Int) → Option α)  (x0 : Int) (x1 : Int) (x2 : (List AV)) (x3 : (List AV)) (x4 : (List Int)) (x5 : (List Int)) : Option α :=
  if (decide (x0 < x1)) = true then
   if 0 ≤ x0 then
    if x0 < (((List.length x2) : Nat) : Int) then
     bindO (tkAgg 3 (List.getD x2 (Int.toNat x0) AV.any)) fun r10 =>
      bindO (tkBool (List.getD r10 0 AV.any)) fun r12 =>
       bindO (tkInts .u64 4 (List.getD r10 1 AV.any)) fun r14 =>
        bindO (tkRints .u8 (List.getD r10 2 AV.any)) fun r16 =>
         if (!r12) = true then
          bindO (word_Bytes.m n r14) fun r20 =>
           if ((((List.length x4) + (List.length r20)) * 1) ≤ 70368744177664 ∧ ((List.length x4) + (List.length r20)) ≤ 9223372036854775807) then
            rc (IntKind.wrap .i64 (x0 + 1)) x1 x2 x3 (x4 ++ r20) x5
           else
            none
         else
          bindO (abi_number.m n (IntKind.wrap .i64 ((IntKind.wrap .i64 (32 * (((List.length x3) : Nat) : Int))) + (((List.length x5) : Nat) : Int)))) fun r20 =>
           if ((((List.length x4) + (List.length r20)) * 1) ≤ 70368744177664 ∧ ((List.length x4) + (List.length r20)) ≤ 9223372036854775807) then
            bindO (abi_number.m n (((List.length r16) : Nat) : Int)) fun r24 =>
             if ((((List.length x5) + (List.length r24)) * 1) ≤ 70368744177664 ∧ ((List.length x5) + (List.length r24)) ≤ 9223372036854775807) then
              if ((((List.length (x5 ++ r24)) + (List.length r16)) * 1) ≤ 70368744177664 ∧ ((List.length (x5 ++ r24)) + (List.length r16)) ≤ 9223372036854775807) then
               if 0 ≤ (Int.tmod (IntKind.wrap .i64 (32 - (Int.tmod (((List.length r16) : Nat) : Int) 32))) 32) then
                if ((((List.length ((x5 ++ r24) ++ r16)) + (List.length (List.replicate (Int.toNat (Int.tmod (IntKind.wrap .i64 (32 - (Int.tmod (((List.length r16) : Nat) : Int) 32))) 32)) (0 : Int)))) * 1) ≤ 70368744177664 ∧ ((List.length ((x5 ++ r24) ++ r16)) + (List.length (List.replicate (Int.toNat (Int.tmod (IntKind.wrap .i64 (32 - (Int.tmod (((List.length r16) : Nat) : Int) 32))) 32)) (0 : Int)))) ≤ 9223372036854775807) then
                 rc (IntKind.wrap .i64 (x0 + 1)) x1 x2 x3 (x4 ++ r20) (((x5 ++ r24) ++ r16) ++ (List.replicate (Int.toNat (Int.tmod (IntKind.wrap .i64 (32 - (Int.tmod (((List.length r16) : Nat) : Int) 32))) 32)) (0 : Int)))
                else
                 none
               else
                none
              else
               none
             else
              none
           else
            none
    else
     none
   else
    none
  else
   some (mk0 x4 x5)
def abi_Encode.l3_0.g {α : Type} (mk0 : (List Int) → (List Int) → α) (n : Nat) : Nat → Int → Int → (List AV) → (List AV) → (List Int) → (List Int) → Option α
 | 0, _, _, _, _, _, _ => none
 | m + 1, x0, x1, x2, x3, x4, x5 => abi_Encode.l3_0.r mk0 n (fun y0 y1 y2 y3 y4 y5 => abi_Encode.l3_0.g mk0 n m y0 y1 y2 y3 y4 y5)  x0 x1 x2 x3 x4 x5
def abi_Encode.l3_0.m (n m : Nat) (t : (Int × (Int × ((List AV) × ((List AV) × ((List Int) × (List Int))))))) : Option ((List Int) × (List Int)) := abi_Encode.l3_0.g (fun a0 a1 => (a0, a1)) n m t.1 t.2.1 t.2.2.1 t.2.2.2.1 t.2.2.2.2.1 t.2.2.2.2.2
def abi_Encode.l3_0.pat : St → Option (Int × (Int × ((List AV) × ((List AV) × ((List Int) × (List Int))))))
 | (St.mk [(.int .i64 x0), (.int .i64 x1), (.robjs 69 6 x2), (.own 0 1), (.robjs 69 6 x3), (.own 1 1)] [(some (.ints .u8 x4)), (some (.ints .u8 x5))]) => some (x0, x1, x2, x3, x4, x5)
 | _ => none
def abi_Encode.l3_0.shape (t : (Int × (Int × ((List AV) × ((List AV) × ((List Int) × (List Int))))))) : St := (St.mk [(.int .i64 t.1), (.int .i64 t.2.1), (.robjs 69 6 t.2.2.1), (.own 0 1), (.robjs 69 6 t.2.2.2.1), (.own 1 1)] [(some (.ints .u8 t.2.2.2.2.1)), (some (.ints .u8 t.2.2.2.2.2))])
def abi_Encode.l3_0.res : ((List Int) × (List Int)) → Ex × St
 | u => (Prod.mk (.exit 0) (St.mk [(.own 0 1), (.own 1 1)] [(some (.ints .u8 u.1)), (some (.ints .u8 u.2))]))
def abi_Encode.l3_0.resK {R : Type} (u : ((List Int) × (List Int))) (K : Ex → St → Option R) : Option R := (fun p : Ex × St => K p.1 p.2) (Prod.mk (.exit 0) (St.mk [(.own 0 1), (.own 1 1)] [(some (.ints .u8 u.1)), (some (.ints .u8 u.2))]))
noncomputable def abi_Encode.A (n : Nat) : Ann := ⟨Tryd.f20.ntmps, 0, abi_Encode.live, [(0, (.objs 69 6)), (7, (.objs 69 6)), (3, (.ints .u8)), (4, (.ints .u8))], [(some (.ints .u8))], fun k => match k with
 | 3 => some (.mk' abi_Encode.l3_0.pat (abi_Encode.l3_0.m n n) abi_Encode.l3_0.resK)
 | _ => none, abi_Encode.jlive, lookJ []⟩
noncomputable def abi_Encode.b0 : Code := (loopsIn (Tryd.f20.body.getD .skip)).getD 0 .skip
def abi_Encode.g {α : Type} (mk0 : (List Int) → α) (n : Nat) (a0 : (List AV)) : Option α :=
 bindO (abi_Encode.l3_0.m n n (0, (((List.length a0) : Nat) : Int), a0, a0, [], [])) fun r2 =>
  if ((((List.length (Prod.fst r2)) + (List.length (Prod.snd r2))) * 1) ≤ 70368744177664 ∧ ((List.length (Prod.fst r2)) + (List.length (Prod.snd r2))) ≤ 9223372036854775807) then
   some (mk0 ((Prod.fst r2) ++ (Prod.snd r2)))
  else
   none
def abi_Encode.m (n : Nat) (t : (List AV)) : Option (List Int) := abi_Encode.g (fun a0 => a0) n t
def abi_Encode.pat : List AV → Blks → Option (List AV)
 | [(.robjs 69 6 a0)], [] => some a0
 | _, _ => none
def abi_Encode.shape (t : (List AV)) : List AV × Blks := ([(.robjs 69 6 t)], [])
def abi_Encode.res : (List Int) → AV × Blks
 | u => (Prod.mk (.own 0 1) [(some (.ints .u8 u))])
def abi_Encode.resK {R : Type} (u : (List Int)) (K : AV → Blks → Option R) : Option R := (fun p : AV × Blks => K p.1 p.2) (Prod.mk (.own 0 1) [(some (.ints .u8 u))])
def abi_Encode.c (n : Nat) : Abs.Callee := .mk' [] [(some (.objs 69 6))] abi_Encode.pat (abi_Encode.m n) abi_Encode.resK
end
end
section
theorem word_From.gmap {α β : Type} (h : β → α) (mk0 : (List Int) → β) (n : Nat) (a0 : Int) : word_From.g (fun a0 => (h (mk0 a0))) n a0 = (word_From.g mk0 n a0).map h := by
  unfold word_From.g
  exact rfl
theorem word_From.run (n : Nat) (a0 : Int) : runF (word_From.C n) (word_From.A n) n Tryd.f69 [(.int .u64 a0)] [] (fun v o => some (v, o)) = word_From.g (fun a0 => ((Prod.mk (.ints .u64 4 a0) []) : AV × Blks)) n a0 := by kernel_rfl
theorem word_From.call (hmix : Tryd.prog.follows .mixedOrders = true) (n : Nat) (t : Int) (u) (h : word_From.m n t = some u) : FnC Tryd.prog abiG 69 (word_From.shape t).1 (word_From.shape t).2 (word_From.res u).1 (word_From.res u).2 := by
  have hg : ∀ f m, (word_From.C n).Γ f = some m → CalleeS Tryd.prog abiG f m := by
    intro f m hm
    unfold word_From.C at hm
    simp only at hm
    first
    | (cases hm; done)
    | (split at hm <;> first
    | (cases hm; done))
  have hb : Tryd.f69.body = some (Tryd.f69.body.getD .skip) := by kernel_rfl
  refine runF_calls (C := word_From.C n) (A := word_From.A n) (n := n) (fn := Tryd.f69) hg hmix Tryd.func69 hb ?_ ?_ (by decide) rfl rfl (by show 1 ≤ Tryd.f69.ntmps; decide) ?_
  · rw [show loopsIn (Tryd.f69.body.getD .skip) = [] by kernel_rfl]
    intro b hb
    cases hb
  · intro a ha m hm
    cases (show none = some m from hm)
  · rw [show runF (word_From.C n) (word_From.A n) n Tryd.f69 (word_From.shape t).1 (word_From.shape t).2 (fun v o => some (v, o)) = _ from word_From.run n t]
    have e := word_From.gmap word_From.res (fun a0 => a0) n t
    unfold word_From.m at h
    rw [h] at e
    exact e
theorem word_From.s (hmix : Tryd.prog.follows .mixedOrders = true) (n : Nat) : CalleeS Tryd.prog abiG 69 (word_From.c n) :=
  CalleeS.of (res := word_From.res) (shape := word_From.shape) (fun R u K => rfl) (fun args lent t h => by
    unfold word_From.pat at h
    split at h
    · cases h; rfl
    · cases h) fun t u h => (word_From.call hmix n t u h).ok Tryd.func69 (by decide) (by kernel_rfl)
end
section
theorem abi_number.gmap {α β : Type} (h : β → α) (mk0 : (List Int) → β) (n : Nat) (a0 : Int) : abi_number.g (fun a0 => (h (mk0 a0))) n a0 = (abi_number.g mk0 n a0).map h := by
  unfold abi_number.g
  exact (bindO_map fun r2 => (bindO_map fun r4 => rfl))
theorem abi_number.run (n : Nat) (a0 : Int) : runF (abi_number.C n) (abi_number.A n) n Tryd.f61 [(.int .i64 a0)] [] (fun v o => some (v, o)) = abi_number.g (fun a0 => ((Prod.mk (.own 0 1) [(some (.ints .u8 a0))]) : AV × Blks)) n a0 := by kernel_rfl
theorem abi_number.call (hmix : Tryd.prog.follows .mixedOrders = true) (n : Nat) (t : Int) (u) (h : abi_number.m n t = some u) : FnC Tryd.prog abiG 61 (abi_number.shape t).1 (abi_number.shape t).2 (abi_number.res u).1 (abi_number.res u).2 := by
  have hg : ∀ f m, (abi_number.C n).Γ f = some m → CalleeS Tryd.prog abiG f m := by
    intro f m hm
    unfold abi_number.C at hm
    simp only at hm
    first
    | (cases hm; done)
    | (split at hm <;> first
    | (cases hm; exact word_From.s hmix n)
    | (cases hm; exact word_Bytes.s hmix n)
    | (cases hm; done))
  have hb : Tryd.f61.body = some (Tryd.f61.body.getD .skip) := by kernel_rfl
  refine runF_calls (C := abi_number.C n) (A := abi_number.A n) (n := n) (fn := Tryd.f61) hg hmix Tryd.func61 hb ?_ ?_ (by decide) rfl rfl (by show 1 ≤ Tryd.f61.ntmps; decide) ?_
  · rw [show loopsIn (Tryd.f61.body.getD .skip) = [] by kernel_rfl]
    intro b hb
    cases hb
  · intro a ha m hm
    cases (show none = some m from hm)
  · rw [show runF (abi_number.C n) (abi_number.A n) n Tryd.f61 (abi_number.shape t).1 (abi_number.shape t).2 (fun v o => some (v, o)) = _ from abi_number.run n t]
    have e := abi_number.gmap abi_number.res (fun a0 => a0) n t
    unfold abi_number.m at h
    rw [h] at e
    exact e
theorem abi_number.s (hmix : Tryd.prog.follows .mixedOrders = true) (n : Nat) : CalleeS Tryd.prog abiG 61 (abi_number.c n) :=
  CalleeS.of (res := abi_number.res) (shape := abi_number.shape) (fun R u K => rfl) (fun args lent t h => by
    unfold abi_number.pat at h
    split at h
    · cases h; rfl
    · cases h) fun t u h => (abi_number.call hmix n t u h).ok Tryd.func61 (by decide) (by kernel_rfl)
end
section
theorem abi_Encode.l3_0.rmap {α β : Type} (h : β → α) (mk0 : (List Int) → (List Int) → β) (n : Nat) (f : Int → Int → (List AV) → (List AV) → (List Int) → (List Int) → Option β)  (x0 : Int) (x1 : Int) (x2 : (List AV)) (x3 : (List AV)) (x4 : (List Int)) (x5 : (List Int)) : abi_Encode.l3_0.r (fun a0 a1 => (h (mk0 a0 a1))) n (fun y0 y1 y2 y3 y4 y5 => (f y0 y1 y2 y3 y4 y5).map h) x0 x1 x2 x3 x4 x5 = (abi_Encode.l3_0.r mk0 n f x0 x1 x2 x3 x4 x5).map h := by
  unfold abi_Encode.l3_0.r
  exact (ite_map (ite_map (ite_map (bindO_map fun r10 => (bindO_map fun r12 => (bindO_map fun r14 => (bindO_map fun r16 => (ite_map (bindO_map fun r20 => (ite_map rfl rfl)) (bindO_map fun r20 => (ite_map (bindO_map fun r24 => (ite_map (ite_map (ite_map (ite_map rfl rfl) rfl) rfl) rfl)) rfl))))))) rfl) rfl) rfl)
theorem abi_Encode.l3_0.gmap {α β : Type} (h : β → α) (mk0 : (List Int) → (List Int) → β) (n : Nat) : ∀ (m : Nat) (x0 : Int) (x1 : Int) (x2 : (List AV)) (x3 : (List AV)) (x4 : (List Int)) (x5 : (List Int)), abi_Encode.l3_0.g (fun a0 a1 => (h (mk0 a0 a1))) n m x0 x1 x2 x3 x4 x5 = (abi_Encode.l3_0.g mk0 n m x0 x1 x2 x3 x4 x5).map h
  | 0, _, _, _, _, _, _ => rfl
  | m + 1, x0, x1, x2, x3, x4, x5 => by
    unfold abi_Encode.l3_0.g
    rw [← abi_Encode.l3_0.rmap]
    congr
    · funext y0 y1 y2 y3 y4 y5; exact abi_Encode.l3_0.gmap h mk0 n m y0 y1 y2 y3 y4 y5
theorem abi_Encode.l3_0.pat_shape : ∀ st t, abi_Encode.l3_0.pat st = some t → st = abi_Encode.l3_0.shape t := by
  intro st t h
  unfold abi_Encode.l3_0.pat at h
  split at h
  · cases h; rfl
  · cases h
theorem abi_Encode.l3_0.round (n : Nat) (rc : St → Option (Ex × St)) (x0 : Int) (x1 : Int) (x2 : (List AV)) (x3 : (List AV)) (x4 : (List Int)) (x5 : (List Int)) : roundOf (abi_Encode.C n) (abi_Encode.A n) n abi_Encode.b0 rc ((St.mk [(.int .i64 x0), (.int .i64 x1), (.robjs 69 6 x2), (.own 0 1), (.robjs 69 6 x3), (.own 1 1)] [(some (.ints .u8 x4)), (some (.ints .u8 x5))])) = abi_Encode.l3_0.r (fun a0 a1 => ((Prod.mk (.exit 0) (St.mk [(.own 0 1), (.own 1 1)] [(some (.ints .u8 a0)), (some (.ints .u8 a1))])) : Ex × St)) n (fun y0 y1 y2 y3 y4 y5 => rc ((St.mk [(.int .i64 y0), (.int .i64 y1), (.robjs 69 6 y2), (.own 0 1), (.robjs 69 6 y3), (.own 1 1)] [(some (.ints .u8 y4)), (some (.ints .u8 y5))]))) x0 x1 x2 x3 x4 x5 := by kernel_rfl
theorem abi_Encode.l3_0.loop' (n : Nat) : ∀ (m : Nat) (t : (Int × (Int × ((List AV) × ((List AV) × ((List Int) × (List Int))))))), loopOf (roundOf (abi_Encode.C n) (abi_Encode.A n) n abi_Encode.b0) m (abi_Encode.l3_0.shape t) = abi_Encode.l3_0.g (fun a0 a1 => ((Prod.mk (.exit 0) (St.mk [(.own 0 1), (.own 1 1)] [(some (.ints .u8 a0)), (some (.ints .u8 a1))])) : Ex × St)) n m t.1 t.2.1 t.2.2.1 t.2.2.2.1 t.2.2.2.2.1 t.2.2.2.2.2 :=
  loop_of_round (shape := abi_Encode.l3_0.shape) (body := roundOf (abi_Encode.C n) (abi_Encode.A n) n abi_Encode.b0) (g := fun m t => abi_Encode.l3_0.g (fun a0 a1 => ((Prod.mk (.exit 0) (St.mk [(.own 0 1), (.own 1 1)] [(some (.ints .u8 a0)), (some (.ints .u8 a1))])) : Ex × St)) n m t.1 t.2.1 t.2.2.1 t.2.2.2.1 t.2.2.2.2.1 t.2.2.2.2.2) (fun t => rfl)
    fun m t ih => (abi_Encode.l3_0.round n (loopOf (roundOf (abi_Encode.C n) (abi_Encode.A n) n abi_Encode.b0) m) t.1 t.2.1 t.2.2.1 t.2.2.2.1 t.2.2.2.2.1 t.2.2.2.2.2).trans (congrFun (congrFun (congrFun (congrFun (congrFun (congrFun (congrArg (abi_Encode.l3_0.r (fun a0 a1 => ((Prod.mk (.exit 0) (St.mk [(.own 0 1), (.own 1 1)] [(some (.ints .u8 a0)), (some (.ints .u8 a1))])) : Ex × St)) n) (funext fun y0 => funext fun y1 => funext fun y2 => funext fun y3 => funext fun y4 => funext fun y5 => ih (y0, y1, y2, y3, y4, y5))) t.1) t.2.1) t.2.2.1) t.2.2.2.1) t.2.2.2.2.1) t.2.2.2.2.2)
theorem abi_Encode.l3_0.loop (n m : Nat) (t : (Int × (Int × ((List AV) × ((List AV) × ((List Int) × (List Int))))))) : loopOf (roundOf (abi_Encode.C n) (abi_Encode.A n) n abi_Encode.b0) m (abi_Encode.l3_0.shape t) = (abi_Encode.l3_0.m n m t).map abi_Encode.l3_0.res :=
  (abi_Encode.l3_0.loop' n m t).trans (abi_Encode.l3_0.gmap abi_Encode.l3_0.res (fun a0 a1 => (a0, a1)) n m t.1 t.2.1 t.2.2.1 t.2.2.2.1 t.2.2.2.2.1 t.2.2.2.2.2)
theorem abi_Encode.gmap {α β : Type} (h : β → α) (mk0 : (List Int) → β) (n : Nat) (a0 : (List AV)) : abi_Encode.g (fun a0 => (h (mk0 a0))) n a0 = (abi_Encode.g mk0 n a0).map h := by
  unfold abi_Encode.g
  exact (bindO_map fun r2 => (ite_map rfl rfl))
theorem abi_Encode.run (n : Nat) (a0 : (List AV)) : runF (abi_Encode.C n) (abi_Encode.A n) n Tryd.f20 [(.robjs 69 6 a0)] [] (fun v o => some (v, o)) = abi_Encode.g (fun a0 => ((Prod.mk (.own 0 1) [(some (.ints .u8 a0))]) : AV × Blks)) n a0 := by kernel_rfl
theorem abi_Encode.call (hmix : Tryd.prog.follows .mixedOrders = true) (n : Nat) (t : (List AV)) (u) (h : abi_Encode.m n t = some u) : FnC Tryd.prog abiG 20 (abi_Encode.shape t).1 (abi_Encode.shape t).2 (abi_Encode.res u).1 (abi_Encode.res u).2 := by
  have hg : ∀ f m, (abi_Encode.C n).Γ f = some m → CalleeS Tryd.prog abiG f m := by
    intro f m hm
    unfold abi_Encode.C at hm
    simp only at hm
    first
    | (cases hm; done)
    | (split at hm <;> first
    | (cases hm; exact word_Bytes.s hmix n)
    | (cases hm; exact abi_number.s hmix n)
    | (cases hm; done))
  have hb : Tryd.f20.body = some (Tryd.f20.body.getD .skip) := by kernel_rfl
  refine runF_calls (C := abi_Encode.C n) (A := abi_Encode.A n) (n := n) (fn := Tryd.f20) hg hmix Tryd.func20 hb ?_ ?_ (by decide) rfl rfl (by show 1 ≤ Tryd.f20.ntmps; decide) ?_
  · rw [show loopsIn (Tryd.f20.body.getD .skip) = [abi_Encode.b0] by kernel_rfl]
    intro b hb m hm
    simp only [List.mem_cons, List.not_mem_nil, or_false] at hb
    rcases hb with rfl
    · have e : (abi_Encode.A n).loop (key abi_Encode.b0) = some (.mk' abi_Encode.l3_0.pat (abi_Encode.l3_0.m n n) abi_Encode.l3_0.resK) := by rw [show key abi_Encode.b0 = 3 by kernel_rfl]; rfl
      rw [e] at hm
      cases hm
      exact (LoopS.of (res := abi_Encode.l3_0.res) (fun R u K => rfl) abi_Encode.l3_0.pat_shape fun t => abi_Encode.l3_0.loop n n t)
  · intro a ha m hm
    cases (show none = some m from hm)
  · rw [show runF (abi_Encode.C n) (abi_Encode.A n) n Tryd.f20 (abi_Encode.shape t).1 (abi_Encode.shape t).2 (fun v o => some (v, o)) = _ from abi_Encode.run n t]
    have e := abi_Encode.gmap abi_Encode.res (fun a0 => a0) n t
    unfold abi_Encode.m at h
    rw [h] at e
    exact e
theorem abi_Encode.s (hmix : Tryd.prog.follows .mixedOrders = true) (n : Nat) : CalleeS Tryd.prog abiG 20 (abi_Encode.c n) :=
  CalleeS.of (res := abi_Encode.res) (shape := abi_Encode.shape) (fun R u K => rfl) (fun args lent t h => by
    unfold abi_Encode.pat at h
    split at h
    · cases h; rfl
    · cases h) fun t u h => (abi_Encode.call hmix n t u h).ok Tryd.func20 (by decide) (by kernel_rfl)
end
section
noncomputable section
noncomputable def q01_From.C (n : Nat) : Ctx := ⟨Tryd.prog, abiG, fun f => match f with
 | _ => none, fun _ => false⟩
def q01_From.live : Nat → List Nat × List Nat := fun k => match k with
 | _ => ([], [])
def q01_From.jlive : Nat → List Nat × List Nat := fun k => match k with
 | _ => ([], [])
noncomputable def q01_From.A (n : Nat) : Ann := ⟨Tryd.f51.ntmps, 0, q01_From.live, [], [none], fun k => match k with
 | _ => none, q01_From.jlive, lookJ []⟩
def q01_From.g {α : Type} (mk0 : (List Int) → α) (n : Nat) (a0 : Int) : Option α :=
 some (mk0 [a0, 0, 0, 0])
def q01_From.m (n : Nat) (t : Int) : Option (List Int) := q01_From.g (fun a0 => a0) n t
def q01_From.pat : List AV → Blks → Option Int
 | [(.int .u64 a0)], [] => some a0
 | _, _ => none
def q01_From.shape (t : Int) : List AV × Blks := ([(.int .u64 t)], [])
def q01_From.res : (List Int) → AV × Blks
 | u => (Prod.mk (.ints .u64 4 u) [])
def q01_From.resK {R : Type} (u : (List Int)) (K : AV → Blks → Option R) : Option R := (fun p : AV × Blks => K p.1 p.2) (Prod.mk (.ints .u64 4 u) [])
def q01_From.c (n : Nat) : Abs.Callee := .mk' [] [none] q01_From.pat (q01_From.m n) q01_From.resK
end
end
section
noncomputable section
noncomputable def q05_Encode.C (n : Nat) : Ctx := ⟨Tryd.prog, abiG, fun f => match f with
 | 55 => some (q01_Bytes.c n)
 | 51 => some (q01_From.c n)
 | _ => none, fun _ => false⟩
def q05_Encode.live : Nat → List Nat × List Nat := fun k => match k with
 | 3 => ([5, 0, 3, 4], [3, 4])
 | 11 => ([4, 5, 0, 3], [5, 0, 3, 4])
 | _ => ([], [])
def q05_Encode.jlive : Nat → List Nat × List Nat := fun k => match k with
 | _ => ([], [])
def q05_Encode.l11_0.r {α : Type} (mk0 : Int → (List AV) → (List Int) → (List Int) → α) (n : Nat) (rc : Int → (List AV) → (List Int) → (List Int) → Option α)  (x0 : Int) (x1 : (List AV)) (x2 : (List Int)) (x3 : (List Int)) : Option α :=
  if ((Int.tmod (((List.length x2) : Nat) : Int) 32) != 0) = true then
   if ((((List.length x2) + 1) * 1) ≤ 70368744177664 ∧ ((List.length x2) + 1) ≤ 9223372036854775807) then
    rc x0 x1 (x2 ++ [0]) x3
   else
    none
  else
   some (mk0 x0 x1 x3 x2)
def q05_Encode.l11_0.g {α : Type} (mk0 : Int → (List AV) → (List Int) → (List Int) → α) (n : Nat) : Nat → Int → (List AV) → (List Int) → (List Int) → Option α
 | 0, _, _, _, _ => none
 | m + 1, x0, x1, x2, x3 => q05_Encode.l11_0.r mk0 n (fun y0 y1 y2 y3 => q05_Encode.l11_0.g mk0 n m y0 y1 y2 y3)  x0 x1 x2 x3
def q05_Encode.l11_0.m (n m : Nat) (t : (Int × ((List AV) × ((List Int) × (List Int))))) : Option (Int × ((List AV) × ((List Int) × (List Int)))) := q05_Encode.l11_0.g (fun a0 a1 a2 a3 => (a0, a1, a2, a3)) n m t.1 t.2.1 t.2.2.1 t.2.2.2
def q05_Encode.l11_0.pat : St → Option (Int × ((List AV) × ((List Int) × (List Int))))
 | (St.mk [(.own 0 1), (.int .i64 x0), (.robjs 69 6 x1), (.own 1 1)] [(some (.ints .u8 x2)), (some (.ints .u8 x3))]) => some (x0, x1, x2, x3)
 | _ => none
def q05_Encode.l11_0.shape (t : (Int × ((List AV) × ((List Int) × (List Int))))) : St := (St.mk [(.own 0 1), (.int .i64 t.1), (.robjs 69 6 t.2.1), (.own 1 1)] [(some (.ints .u8 t.2.2.1)), (some (.ints .u8 t.2.2.2))])
def q05_Encode.l11_0.res : (Int × ((List AV) × ((List Int) × (List Int)))) → Ex × St
 | u => (Prod.mk (.exit 2) (St.mk [(.int .i64 u.1), (.robjs 69 6 u.2.1), (.own 0 1), (.own 1 1)] [(some (.ints .u8 u.2.2.1)), (some (.ints .u8 u.2.2.2))]))
def q05_Encode.l11_0.resK {R : Type} (u : (Int × ((List AV) × ((List Int) × (List Int))))) (K : Ex → St → Option R) : Option R := (fun p : Ex × St => K p.1 p.2) (Prod.mk (.exit 2) (St.mk [(.int .i64 u.1), (.robjs 69 6 u.2.1), (.own 0 1), (.own 1 1)] [(some (.ints .u8 u.2.2.1)), (some (.ints .u8 u.2.2.2))]))
def q05_Encode.l3_0.r {α : Type} (mk0 : (List Int) → (List Int) → α) (n : Nat) (rc : Int → (List AV) → (List Int) → (List Int) → Option α)  (x0 : Int) (x1 : (List AV)) (x2 : (List Int)) (x3 : (List Int)) : Option α :=
  if (decide (x0 < (((List.length x1) : Nat) : Int))) = true then
   if 0 ≤ x0 then
    if x0 < (((List.length x1) : Nat) : Int) then
     bindO (tkAgg 3 (List.getD x1 (Int.toNat x0) AV.any)) fun r10 =>
      bindO (tkBool (List.getD r10 0 AV.any)) fun r12 =>
       bindO (tkInts .u64 4 (List.getD r10 1 AV.any)) fun r14 =>
        bindO (tkRints .u8 (List.getD r10 2 AV.any)) fun r16 =>
         if (!r12) = true then
          if 0 ≤ x0 then
           if x0 < (((List.length x1) : Nat) : Int) then
            bindO (tkAgg 3 (List.getD x1 (Int.toNat x0) AV.any)) fun r24 =>
             bindO (tkBool (List.getD r24 0 AV.any)) fun r26 =>
              bindO (tkInts .u64 4 (List.getD r24 1 AV.any)) fun r28 =>
               bindO (tkRints .u8 (List.getD r24 2 AV.any)) fun r30 =>
                bindO (q01_Bytes.m n r28) fun r32 =>
                 if ((((List.length x2) + (List.length r32)) * 1) ≤ 70368744177664 ∧ ((List.length x2) + (List.length r32)) ≤ 9223372036854775807) then
                  rc (IntKind.wrap .i64 (x0 + 1)) x1 (x2 ++ r32) x3
                 else
                  none
           else
            none
          else
           none
         else
          bindO (q01_From.m n (IntKind.wrap .u64 (IntKind.wrap .i64 ((IntKind.wrap .i64 (32 * (((List.length x1) : Nat) : Int))) + (((List.length x3) : Nat) : Int))))) fun r20 =>
           bindO (q01_Bytes.m n r20) fun r22 =>
            if ((((List.length x2) + (List.length r22)) * 1) ≤ 70368744177664 ∧ ((List.length x2) + (List.length r22)) ≤ 9223372036854775807) then
             if 0 ≤ x0 then
              if x0 < (((List.length x1) : Nat) : Int) then
               bindO (tkAgg 3 (List.getD x1 (Int.toNat x0) AV.any)) fun r30 =>
                bindO (tkBool (List.getD r30 0 AV.any)) fun r32 =>
                 bindO (tkInts .u64 4 (List.getD r30 1 AV.any)) fun r34 =>
                  bindO (tkRints .u8 (List.getD r30 2 AV.any)) fun r36 =>
                   bindO (q01_From.m n (IntKind.wrap .u64 (((List.length r36) : Nat) : Int))) fun r38 =>
                    bindO (q01_Bytes.m n r38) fun r40 =>
                     if ((((List.length x3) + (List.length r40)) * 1) ≤ 70368744177664 ∧ ((List.length x3) + (List.length r40)) ≤ 9223372036854775807) then
                      if 0 ≤ x0 then
                       if x0 < (((List.length x1) : Nat) : Int) then
                        bindO (tkAgg 3 (List.getD x1 (Int.toNat x0) AV.any)) fun r48 =>
                         bindO (tkBool (List.getD r48 0 AV.any)) fun r50 =>
                          bindO (tkInts .u64 4 (List.getD r48 1 AV.any)) fun r52 =>
                           bindO (tkRints .u8 (List.getD r48 2 AV.any)) fun r54 =>
                            if ((((List.length (x3 ++ r40)) + (List.length r54)) * 1) ≤ 70368744177664 ∧ ((List.length (x3 ++ r40)) + (List.length r54)) ≤ 9223372036854775807) then
                             bindO (q05_Encode.l11_0.m n n (x0, x1, ((x3 ++ r40) ++ r54), (x2 ++ r22))) fun r58 =>
                              rc (IntKind.wrap .i64 ((Prod.fst r58) + 1)) (Prod.fst r58.2) (Prod.fst (Prod.snd r58).2) (Prod.snd (Prod.snd r58).2)
                            else
                             none
                       else
                        none
                      else
                       none
                     else
                      none
              else
               none
             else
              none
            else
             none
    else
     none
   else
    none
  else
   some (mk0 x2 x3)
def q05_Encode.l3_0.g {α : Type} (mk0 : (List Int) → (List Int) → α) (n : Nat) : Nat → Int → (List AV) → (List Int) → (List Int) → Option α
 | 0, _, _, _, _ => none
 | m + 1, x0, x1, x2, x3 => q05_Encode.l3_0.r mk0 n (fun y0 y1 y2 y3 => q05_Encode.l3_0.g mk0 n m y0 y1 y2 y3)  x0 x1 x2 x3
def q05_Encode.l3_0.m (n m : Nat) (t : (Int × ((List AV) × ((List Int) × (List Int))))) : Option ((List Int) × (List Int)) := q05_Encode.l3_0.g (fun a0 a1 => (a0, a1)) n m t.1 t.2.1 t.2.2.1 t.2.2.2
def q05_Encode.l3_0.pat : St → Option (Int × ((List AV) × ((List Int) × (List Int))))
 | (St.mk [(.int .i64 x0), (.robjs 69 6 x1), (.own 0 1), (.own 1 1)] [(some (.ints .u8 x2)), (some (.ints .u8 x3))]) => some (x0, x1, x2, x3)
 | _ => none
def q05_Encode.l3_0.shape (t : (Int × ((List AV) × ((List Int) × (List Int))))) : St := (St.mk [(.int .i64 t.1), (.robjs 69 6 t.2.1), (.own 0 1), (.own 1 1)] [(some (.ints .u8 t.2.2.1)), (some (.ints .u8 t.2.2.2))])
def q05_Encode.l3_0.res : ((List Int) × (List Int)) → Ex × St
 | u => (Prod.mk (.exit 0) (St.mk [(.own 0 1), (.own 1 1)] [(some (.ints .u8 u.1)), (some (.ints .u8 u.2))]))
def q05_Encode.l3_0.resK {R : Type} (u : ((List Int) × (List Int))) (K : Ex → St → Option R) : Option R := (fun p : Ex × St => K p.1 p.2) (Prod.mk (.exit 0) (St.mk [(.own 0 1), (.own 1 1)] [(some (.ints .u8 u.1)), (some (.ints .u8 u.2))]))
noncomputable def q05_Encode.A (n : Nat) : Ann := ⟨Tryd.f21.ntmps, 0, q05_Encode.live, [(0, (.objs 69 6)), (3, (.ints .u8)), (4, (.ints .u8))], [(some (.ints .u8))], fun k => match k with
 | 11 => some (.mk' q05_Encode.l11_0.pat (q05_Encode.l11_0.m n n) q05_Encode.l11_0.resK)
 | 3 => some (.mk' q05_Encode.l3_0.pat (q05_Encode.l3_0.m n n) q05_Encode.l3_0.resK)
 | _ => none, q05_Encode.jlive, lookJ []⟩
noncomputable def q05_Encode.b0 : Code := (loopsIn (Tryd.f21.body.getD .skip)).getD 0 .skip
noncomputable def q05_Encode.b1 : Code := (loopsIn (Tryd.f21.body.getD .skip)).getD 1 .skip
def q05_Encode.g {α : Type} (mk0 : (List Int) → α) (n : Nat) (a0 : (List AV)) : Option α :=
 bindO (q05_Encode.l3_0.m n n (0, a0, [], [])) fun r2 =>
  if ((((List.length (Prod.fst r2)) + (List.length (Prod.snd r2))) * 1) ≤ 70368744177664 ∧ ((List.length (Prod.fst r2)) + (List.length (Prod.snd r2))) ≤ 9223372036854775807) then
   some (mk0 ((Prod.fst r2) ++ (Prod.snd r2)))
  else
   none
def q05_Encode.m (n : Nat) (t : (List AV)) : Option (List Int) := q05_Encode.g (fun a0 => a0) n t
def q05_Encode.pat : List AV → Blks → Option (List AV)
 | [(.robjs 69 6 a0)], [] => some a0
 | _, _ => none
def q05_Encode.shape (t : (List AV)) : List AV × Blks := ([(.robjs 69 6 t)], [])
def q05_Encode.res : (List Int) → AV × Blks
 | u => (Prod.mk (.own 0 1) [(some (.ints .u8 u))])
def q05_Encode.resK {R : Type} (u : (List Int)) (K : AV → Blks → Option R) : Option R := (fun p : AV × Blks => K p.1 p.2) (Prod.mk (.own 0 1) [(some (.ints .u8 u))])
def q05_Encode.c (n : Nat) : Abs.Callee := .mk' [] [(some (.objs 69 6))] q05_Encode.pat (q05_Encode.m n) q05_Encode.resK
end
end
section
theorem q01_From.gmap {α β : Type} (h : β → α) (mk0 : (List Int) → β) (n : Nat) (a0 : Int) : q01_From.g (fun a0 => (h (mk0 a0))) n a0 = (q01_From.g mk0 n a0).map h := by
  unfold q01_From.g
  exact rfl
theorem q01_From.run (n : Nat) (a0 : Int) : runF (q01_From.C n) (q01_From.A n) n Tryd.f51 [(.int .u64 a0)] [] (fun v o => some (v, o)) = q01_From.g (fun a0 => ((Prod.mk (.ints .u64 4 a0) []) : AV × Blks)) n a0 := by kernel_rfl
theorem q01_From.call (hmix : Tryd.prog.follows .mixedOrders = true) (n : Nat) (t : Int) (u) (h : q01_From.m n t = some u) : FnC Tryd.prog abiG 51 (q01_From.shape t).1 (q01_From.shape t).2 (q01_From.res u).1 (q01_From.res u).2 := by
  have hg : ∀ f m, (q01_From.C n).Γ f = some m → CalleeS Tryd.prog abiG f m := by
    intro f m hm
    unfold q01_From.C at hm
    simp only at hm
    first
    | (cases hm; done)
    | (split at hm <;> first
    | (cases hm; done))
  have hb : Tryd.f51.body = some (Tryd.f51.body.getD .skip) := by kernel_rfl
  refine runF_calls (C := q01_From.C n) (A := q01_From.A n) (n := n) (fn := Tryd.f51) hg hmix Tryd.func51 hb ?_ ?_ (by decide) rfl rfl (by show 1 ≤ Tryd.f51.ntmps; decide) ?_
  · rw [show loopsIn (Tryd.f51.body.getD .skip) = [] by kernel_rfl]
    intro b hb
    cases hb
  · intro a ha m hm
    cases (show none = some m from hm)
  · rw [show runF (q01_From.C n) (q01_From.A n) n Tryd.f51 (q01_From.shape t).1 (q01_From.shape t).2 (fun v o => some (v, o)) = _ from q01_From.run n t]
    have e := q01_From.gmap q01_From.res (fun a0 => a0) n t
    unfold q01_From.m at h
    rw [h] at e
    exact e
theorem q01_From.s (hmix : Tryd.prog.follows .mixedOrders = true) (n : Nat) : CalleeS Tryd.prog abiG 51 (q01_From.c n) :=
  CalleeS.of (res := q01_From.res) (shape := q01_From.shape) (fun R u K => rfl) (fun args lent t h => by
    unfold q01_From.pat at h
    split at h
    · cases h; rfl
    · cases h) fun t u h => (q01_From.call hmix n t u h).ok Tryd.func51 (by decide) (by kernel_rfl)
end
section
theorem q05_Encode.l11_0.rmap {α β : Type} (h : β → α) (mk0 : Int → (List AV) → (List Int) → (List Int) → β) (n : Nat) (f : Int → (List AV) → (List Int) → (List Int) → Option β)  (x0 : Int) (x1 : (List AV)) (x2 : (List Int)) (x3 : (List Int)) : q05_Encode.l11_0.r (fun a0 a1 a2 a3 => (h (mk0 a0 a1 a2 a3))) n (fun y0 y1 y2 y3 => (f y0 y1 y2 y3).map h) x0 x1 x2 x3 = (q05_Encode.l11_0.r mk0 n f x0 x1 x2 x3).map h := by
  unfold q05_Encode.l11_0.r
  exact (ite_map (ite_map rfl rfl) rfl)
theorem q05_Encode.l11_0.gmap {α β : Type} (h : β → α) (mk0 : Int → (List AV) → (List Int) → (List Int) → β) (n : Nat) : ∀ (m : Nat) (x0 : Int) (x1 : (List AV)) (x2 : (List Int)) (x3 : (List Int)), q05_Encode.l11_0.g (fun a0 a1 a2 a3 => (h (mk0 a0 a1 a2 a3))) n m x0 x1 x2 x3 = (q05_Encode.l11_0.g mk0 n m x0 x1 x2 x3).map h
  | 0, _, _, _, _ => rfl
  | m + 1, x0, x1, x2, x3 => by
    unfold q05_Encode.l11_0.g
    rw [← q05_Encode.l11_0.rmap]
    congr
    · funext y0 y1 y2 y3; exact q05_Encode.l11_0.gmap h mk0 n m y0 y1 y2 y3
theorem q05_Encode.l11_0.pat_shape : ∀ st t, q05_Encode.l11_0.pat st = some t → st = q05_Encode.l11_0.shape t := by
  intro st t h
  unfold q05_Encode.l11_0.pat at h
  split at h
  · cases h; rfl
  · cases h
theorem q05_Encode.l11_0.round (n : Nat) (rc : St → Option (Ex × St)) (x0 : Int) (x1 : (List AV)) (x2 : (List Int)) (x3 : (List Int)) : roundOf (q05_Encode.C n) (q05_Encode.A n) n q05_Encode.b1 rc ((St.mk [(.own 0 1), (.int .i64 x0), (.robjs 69 6 x1), (.own 1 1)] [(some (.ints .u8 x2)), (some (.ints .u8 x3))])) = q05_Encode.l11_0.r (fun a0 a1 a2 a3 => ((Prod.mk (.exit 2) (St.mk [(.int .i64 a0), (.robjs 69 6 a1), (.own 0 1), (.own 1 1)] [(some (.ints .u8 a2)), (some (.ints .u8 a3))])) : Ex × St)) n (fun y0 y1 y2 y3 => rc ((St.mk [(.own 0 1), (.int .i64 y0), (.robjs 69 6 y1), (.own 1 1)] [(some (.ints .u8 y2)), (some (.ints .u8 y3))]))) x0 x1 x2 x3 := by kernel_rfl
theorem q05_Encode.l11_0.loop' (n : Nat) : ∀ (m : Nat) (t : (Int × ((List AV) × ((List Int) × (List Int))))), loopOf (roundOf (q05_Encode.C n) (q05_Encode.A n) n q05_Encode.b1) m (q05_Encode.l11_0.shape t) = q05_Encode.l11_0.g (fun a0 a1 a2 a3 => ((Prod.mk (.exit 2) (St.mk [(.int .i64 a0), (.robjs 69 6 a1), (.own 0 1), (.own 1 1)] [(some (.ints .u8 a2)), (some (.ints .u8 a3))])) : Ex × St)) n m t.1 t.2.1 t.2.2.1 t.2.2.2 :=
  loop_of_round (shape := q05_Encode.l11_0.shape) (body := roundOf (q05_Encode.C n) (q05_Encode.A n) n q05_Encode.b1) (g := fun m t => q05_Encode.l11_0.g (fun a0 a1 a2 a3 => ((Prod.mk (.exit 2) (St.mk [(.int .i64 a0), (.robjs 69 6 a1), (.own 0 1), (.own 1 1)] [(some (.ints .u8 a2)), (some (.ints .u8 a3))])) : Ex × St)) n m t.1 t.2.1 t.2.2.1 t.2.2.2) (fun t => rfl)
    fun m t ih => (q05_Encode.l11_0.round n (loopOf (roundOf (q05_Encode.C n) (q05_Encode.A n) n q05_Encode.b1) m) t.1 t.2.1 t.2.2.1 t.2.2.2).trans (congrFun (congrFun (congrFun (congrFun (congrArg (q05_Encode.l11_0.r (fun a0 a1 a2 a3 => ((Prod.mk (.exit 2) (St.mk [(.int .i64 a0), (.robjs 69 6 a1), (.own 0 1), (.own 1 1)] [(some (.ints .u8 a2)), (some (.ints .u8 a3))])) : Ex × St)) n) (funext fun y0 => funext fun y1 => funext fun y2 => funext fun y3 => ih (y0, y1, y2, y3))) t.1) t.2.1) t.2.2.1) t.2.2.2)
theorem q05_Encode.l11_0.loop (n m : Nat) (t : (Int × ((List AV) × ((List Int) × (List Int))))) : loopOf (roundOf (q05_Encode.C n) (q05_Encode.A n) n q05_Encode.b1) m (q05_Encode.l11_0.shape t) = (q05_Encode.l11_0.m n m t).map q05_Encode.l11_0.res :=
  (q05_Encode.l11_0.loop' n m t).trans (q05_Encode.l11_0.gmap q05_Encode.l11_0.res (fun a0 a1 a2 a3 => (a0, a1, a2, a3)) n m t.1 t.2.1 t.2.2.1 t.2.2.2)
theorem q05_Encode.l3_0.rmap {α β : Type} (h : β → α) (mk0 : (List Int) → (List Int) → β) (n : Nat) (f : Int → (List AV) → (List Int) → (List Int) → Option β)  (x0 : Int) (x1 : (List AV)) (x2 : (List Int)) (x3 : (List Int)) : q05_Encode.l3_0.r (fun a0 a1 => (h (mk0 a0 a1))) n (fun y0 y1 y2 y3 => (f y0 y1 y2 y3).map h) x0 x1 x2 x3 = (q05_Encode.l3_0.r mk0 n f x0 x1 x2 x3).map h := by
  unfold q05_Encode.l3_0.r
  exact (ite_map (ite_map (ite_map (bindO_map fun r10 => (bindO_map fun r12 => (bindO_map fun r14 => (bindO_map fun r16 => (ite_map (ite_map (ite_map (bindO_map fun r24 => (bindO_map fun r26 => (bindO_map fun r28 => (bindO_map fun r30 => (bindO_map fun r32 => (ite_map rfl rfl)))))) rfl) rfl) (bindO_map fun r20 => (bindO_map fun r22 => (ite_map (ite_map (ite_map (bindO_map fun r30 => (bindO_map fun r32 => (bindO_map fun r34 => (bindO_map fun r36 => (bindO_map fun r38 => (bindO_map fun r40 => (ite_map (ite_map (ite_map (bindO_map fun r48 => (bindO_map fun r50 => (bindO_map fun r52 => (bindO_map fun r54 => (ite_map (bindO_map fun r58 => rfl) rfl))))) rfl) rfl) rfl))))))) rfl) rfl) rfl)))))))) rfl) rfl) rfl)
theorem q05_Encode.l3_0.gmap {α β : Type} (h : β → α) (mk0 : (List Int) → (List Int) → β) (n : Nat) : ∀ (m : Nat) (x0 : Int) (x1 : (List AV)) (x2 : (List Int)) (x3 : (List Int)), q05_Encode.l3_0.g (fun a0 a1 => (h (mk0 a0 a1))) n m x0 x1 x2 x3 = (q05_Encode.l3_0.g mk0 n m x0 x1 x2 x3).map h
  | 0, _, _, _, _ => rfl
  | m + 1, x0, x1, x2, x3 => by
    unfold q05_Encode.l3_0.g
    rw [← q05_Encode.l3_0.rmap]
    congr
    · funext y0 y1 y2 y3; exact q05_Encode.l3_0.gmap h mk0 n m y0 y1 y2 y3
theorem q05_Encode.l3_0.pat_shape : ∀ st t, q05_Encode.l3_0.pat st = some t → st = q05_Encode.l3_0.shape t := by
  intro st t h
  unfold q05_Encode.l3_0.pat at h
  split at h
  · cases h; rfl
  · cases h
theorem q05_Encode.l3_0.round (n : Nat) (rc : St → Option (Ex × St)) (x0 : Int) (x1 : (List AV)) (x2 : (List Int)) (x3 : (List Int)) : roundOf (q05_Encode.C n) (q05_Encode.A n) n q05_Encode.b0 rc ((St.mk [(.int .i64 x0), (.robjs 69 6 x1), (.own 0 1), (.own 1 1)] [(some (.ints .u8 x2)), (some (.ints .u8 x3))])) = q05_Encode.l3_0.r (fun a0 a1 => ((Prod.mk (.exit 0) (St.mk [(.own 0 1), (.own 1 1)] [(some (.ints .u8 a0)), (some (.ints .u8 a1))])) : Ex × St)) n (fun y0 y1 y2 y3 => rc ((St.mk [(.int .i64 y0), (.robjs 69 6 y1), (.own 0 1), (.own 1 1)] [(some (.ints .u8 y2)), (some (.ints .u8 y3))]))) x0 x1 x2 x3 := by kernel_rfl
theorem q05_Encode.l3_0.loop' (n : Nat) : ∀ (m : Nat) (t : (Int × ((List AV) × ((List Int) × (List Int))))), loopOf (roundOf (q05_Encode.C n) (q05_Encode.A n) n q05_Encode.b0) m (q05_Encode.l3_0.shape t) = q05_Encode.l3_0.g (fun a0 a1 => ((Prod.mk (.exit 0) (St.mk [(.own 0 1), (.own 1 1)] [(some (.ints .u8 a0)), (some (.ints .u8 a1))])) : Ex × St)) n m t.1 t.2.1 t.2.2.1 t.2.2.2 :=
  loop_of_round (shape := q05_Encode.l3_0.shape) (body := roundOf (q05_Encode.C n) (q05_Encode.A n) n q05_Encode.b0) (g := fun m t => q05_Encode.l3_0.g (fun a0 a1 => ((Prod.mk (.exit 0) (St.mk [(.own 0 1), (.own 1 1)] [(some (.ints .u8 a0)), (some (.ints .u8 a1))])) : Ex × St)) n m t.1 t.2.1 t.2.2.1 t.2.2.2) (fun t => rfl)
    fun m t ih => (q05_Encode.l3_0.round n (loopOf (roundOf (q05_Encode.C n) (q05_Encode.A n) n q05_Encode.b0) m) t.1 t.2.1 t.2.2.1 t.2.2.2).trans (congrFun (congrFun (congrFun (congrFun (congrArg (q05_Encode.l3_0.r (fun a0 a1 => ((Prod.mk (.exit 0) (St.mk [(.own 0 1), (.own 1 1)] [(some (.ints .u8 a0)), (some (.ints .u8 a1))])) : Ex × St)) n) (funext fun y0 => funext fun y1 => funext fun y2 => funext fun y3 => ih (y0, y1, y2, y3))) t.1) t.2.1) t.2.2.1) t.2.2.2)
theorem q05_Encode.l3_0.loop (n m : Nat) (t : (Int × ((List AV) × ((List Int) × (List Int))))) : loopOf (roundOf (q05_Encode.C n) (q05_Encode.A n) n q05_Encode.b0) m (q05_Encode.l3_0.shape t) = (q05_Encode.l3_0.m n m t).map q05_Encode.l3_0.res :=
  (q05_Encode.l3_0.loop' n m t).trans (q05_Encode.l3_0.gmap q05_Encode.l3_0.res (fun a0 a1 => (a0, a1)) n m t.1 t.2.1 t.2.2.1 t.2.2.2)
theorem q05_Encode.gmap {α β : Type} (h : β → α) (mk0 : (List Int) → β) (n : Nat) (a0 : (List AV)) : q05_Encode.g (fun a0 => (h (mk0 a0))) n a0 = (q05_Encode.g mk0 n a0).map h := by
  unfold q05_Encode.g
  exact (bindO_map fun r2 => (ite_map rfl rfl))
theorem q05_Encode.run (n : Nat) (a0 : (List AV)) : runF (q05_Encode.C n) (q05_Encode.A n) n Tryd.f21 [(.robjs 69 6 a0)] [] (fun v o => some (v, o)) = q05_Encode.g (fun a0 => ((Prod.mk (.own 0 1) [(some (.ints .u8 a0))]) : AV × Blks)) n a0 := by kernel_rfl
theorem q05_Encode.call (hmix : Tryd.prog.follows .mixedOrders = true) (n : Nat) (t : (List AV)) (u) (h : q05_Encode.m n t = some u) : FnC Tryd.prog abiG 21 (q05_Encode.shape t).1 (q05_Encode.shape t).2 (q05_Encode.res u).1 (q05_Encode.res u).2 := by
  have hg : ∀ f m, (q05_Encode.C n).Γ f = some m → CalleeS Tryd.prog abiG f m := by
    intro f m hm
    unfold q05_Encode.C at hm
    simp only at hm
    first
    | (cases hm; done)
    | (split at hm <;> first
    | (cases hm; exact q01_Bytes.s hmix n)
    | (cases hm; exact q01_From.s hmix n)
    | (cases hm; done))
  have hb : Tryd.f21.body = some (Tryd.f21.body.getD .skip) := by kernel_rfl
  refine runF_calls (C := q05_Encode.C n) (A := q05_Encode.A n) (n := n) (fn := Tryd.f21) hg hmix Tryd.func21 hb ?_ ?_ (by decide) rfl rfl (by show 1 ≤ Tryd.f21.ntmps; decide) ?_
  · rw [show loopsIn (Tryd.f21.body.getD .skip) = [q05_Encode.b0, q05_Encode.b1] by kernel_rfl]
    intro b hb m hm
    simp only [List.mem_cons, List.not_mem_nil, or_false] at hb
    rcases hb with rfl | rfl
    · have e : (q05_Encode.A n).loop (key q05_Encode.b0) = some (.mk' q05_Encode.l3_0.pat (q05_Encode.l3_0.m n n) q05_Encode.l3_0.resK) := by rw [show key q05_Encode.b0 = 3 by kernel_rfl]; rfl
      rw [e] at hm
      cases hm
      exact (LoopS.of (res := q05_Encode.l3_0.res) (fun R u K => rfl) q05_Encode.l3_0.pat_shape fun t => q05_Encode.l3_0.loop n n t)
    · have e : (q05_Encode.A n).loop (key q05_Encode.b1) = some (.mk' q05_Encode.l11_0.pat (q05_Encode.l11_0.m n n) q05_Encode.l11_0.resK) := by rw [show key q05_Encode.b1 = 11 by kernel_rfl]; rfl
      rw [e] at hm
      cases hm
      exact (LoopS.of (res := q05_Encode.l11_0.res) (fun R u K => rfl) q05_Encode.l11_0.pat_shape fun t => q05_Encode.l11_0.loop n n t)
  · intro a ha m hm
    cases (show none = some m from hm)
  · rw [show runF (q05_Encode.C n) (q05_Encode.A n) n Tryd.f21 (q05_Encode.shape t).1 (q05_Encode.shape t).2 (fun v o => some (v, o)) = _ from q05_Encode.run n t]
    have e := q05_Encode.gmap q05_Encode.res (fun a0 => a0) n t
    unfold q05_Encode.m at h
    rw [h] at e
    exact e
theorem q05_Encode.s (hmix : Tryd.prog.follows .mixedOrders = true) (n : Nat) : CalleeS Tryd.prog abiG 21 (q05_Encode.c n) :=
  CalleeS.of (res := q05_Encode.res) (shape := q05_Encode.shape) (fun R u K => rfl) (fun args lent t h => by
    unfold q05_Encode.pat at h
    split at h
    · cases h; rfl
    · cases h) fun t u h => (q05_Encode.call hmix n t u h).ok Tryd.func21 (by decide) (by kernel_rfl)
end
section
noncomputable section
noncomputable def l05_much.C (n : Nat) : Ctx := ⟨Tryd.prog, abiG, fun f => match f with
 | _ => none, fun _ => false⟩
def l05_much.live : Nat → List Nat × List Nat := fun k => match k with
 | 3 => ([4, 0, 3], [3])
 | _ => ([], [])
def l05_much.jlive : Nat → List Nat × List Nat := fun k => match k with
 | _ => ([], [])
def l05_much.l3_0.r {α : Type} (mk0 : Int → α) (n : Nat) (rc : Int → (List AV) → Int → Option α)  (x0 : Int) (x1 : (List AV)) (x2 : Int) : Option α :=
  if (decide (x0 < (((List.length x1) : Nat) : Int))) = true then
   if (decide (x2 ≤ 2000)) = true then
    if 0 ≤ x0 then
     if x0 < (((List.length x1) : Nat) : Int) then
      bindO (tkAgg 3 (List.getD x1 (Int.toNat x0) AV.any)) fun r12 =>
       bindO (tkBool (List.getD r12 0 AV.any)) fun r14 =>
        bindO (tkInts .u64 4 (List.getD r12 1 AV.any)) fun r16 =>
         bindO (tkRints .u8 (List.getD r12 2 AV.any)) fun r18 =>
          rc (IntKind.wrap .i64 (x0 + 1)) x1 (IntKind.wrap .i64 (x2 + (IntKind.wrap .i64 ((if 2000 < (((List.length r18) : Nat) : Int) then 2000 else (((List.length r18) : Nat) : Int)) + 1))))
     else
      none
    else
     none
   else
    some (mk0 x2)
  else
   some (mk0 x2)
def l05_much.l3_0.g {α : Type} (mk0 : Int → α) (n : Nat) : Nat → Int → (List AV) → Int → Option α
 | 0, _, _, _ => none
 | m + 1, x0, x1, x2 => l05_much.l3_0.r mk0 n (fun y0 y1 y2 => l05_much.l3_0.g mk0 n m y0 y1 y2)  x0 x1 x2
def l05_much.l3_0.m (n m : Nat) (t : (Int × ((List AV) × Int))) : Option Int := l05_much.l3_0.g (fun a0 => a0) n m t.1 t.2.1 t.2.2
def l05_much.l3_0.pat : St → Option (Int × ((List AV) × Int))
 | (St.mk [(.int .i64 x0), (.robjs 69 6 x1), (.int .i64 x2)] []) => some (x0, x1, x2)
 | _ => none
def l05_much.l3_0.shape (t : (Int × ((List AV) × Int))) : St := (St.mk [(.int .i64 t.1), (.robjs 69 6 t.2.1), (.int .i64 t.2.2)] [])
def l05_much.l3_0.res : Int → Ex × St
 | u => (Prod.mk (.exit 0) (St.mk [(.int .i64 u)] []))
def l05_much.l3_0.resK {R : Type} (u : Int) (K : Ex → St → Option R) : Option R := (fun p : Ex × St => K p.1 p.2) (Prod.mk (.exit 0) (St.mk [(.int .i64 u)] []))
noncomputable def l05_much.A (n : Nat) : Ann := ⟨Tryd.f17.ntmps, 0, l05_much.live, [(0, (.objs 69 6))], [none], fun k => match k with
 | 3 => some (.mk' l05_much.l3_0.pat (l05_much.l3_0.m n n) l05_much.l3_0.resK)
 | _ => none, l05_much.jlive, lookJ []⟩
noncomputable def l05_much.b0 : Code := (loopsIn (Tryd.f17.body.getD .skip)).getD 0 .skip
def l05_much.g {α : Type} (mk0 : Bool → α) (n : Nat) (a0 : (List AV)) : Option α :=
 bindO (l05_much.l3_0.m n n (0, a0, (((List.length a0) : Nat) : Int))) fun r2 =>
  some (mk0 (decide (r2 > 2000)))
def l05_much.m (n : Nat) (t : (List AV)) : Option Bool := l05_much.g (fun a0 => a0) n t
def l05_much.pat : List AV → Blks → Option (List AV)
 | [(.robjs 69 6 a0)], [] => some a0
 | _, _ => none
def l05_much.shape (t : (List AV)) : List AV × Blks := ([(.robjs 69 6 t)], [])
def l05_much.res : Bool → AV × Blks
 | u => (Prod.mk (.bool u) [])
def l05_much.resK {R : Type} (u : Bool) (K : AV → Blks → Option R) : Option R := (fun p : AV × Blks => K p.1 p.2) (Prod.mk (.bool u) [])
def l05_much.c (n : Nat) : Abs.Callee := .mk' [] [(some (.objs 69 6))] l05_much.pat (l05_much.m n) l05_much.resK
end
end
section
theorem l05_much.l3_0.rmap {α β : Type} (h : β → α) (mk0 : Int → β) (n : Nat) (f : Int → (List AV) → Int → Option β)  (x0 : Int) (x1 : (List AV)) (x2 : Int) : l05_much.l3_0.r (fun a0 => (h (mk0 a0))) n (fun y0 y1 y2 => (f y0 y1 y2).map h) x0 x1 x2 = (l05_much.l3_0.r mk0 n f x0 x1 x2).map h := by
  unfold l05_much.l3_0.r
  exact (ite_map (ite_map (ite_map (ite_map (bindO_map fun r12 => (bindO_map fun r14 => (bindO_map fun r16 => (bindO_map fun r18 => rfl)))) rfl) rfl) rfl) rfl)
theorem l05_much.l3_0.gmap {α β : Type} (h : β → α) (mk0 : Int → β) (n : Nat) : ∀ (m : Nat) (x0 : Int) (x1 : (List AV)) (x2 : Int), l05_much.l3_0.g (fun a0 => (h (mk0 a0))) n m x0 x1 x2 = (l05_much.l3_0.g mk0 n m x0 x1 x2).map h
  | 0, _, _, _ => rfl
  | m + 1, x0, x1, x2 => by
    unfold l05_much.l3_0.g
    rw [← l05_much.l3_0.rmap]
    congr
    · funext y0 y1 y2; exact l05_much.l3_0.gmap h mk0 n m y0 y1 y2
theorem l05_much.l3_0.pat_shape : ∀ st t, l05_much.l3_0.pat st = some t → st = l05_much.l3_0.shape t := by
  intro st t h
  unfold l05_much.l3_0.pat at h
  split at h
  · cases h; rfl
  · cases h
theorem l05_much.l3_0.round (n : Nat) (rc : St → Option (Ex × St)) (x0 : Int) (x1 : (List AV)) (x2 : Int) : roundOf (l05_much.C n) (l05_much.A n) n l05_much.b0 rc ((St.mk [(.int .i64 x0), (.robjs 69 6 x1), (.int .i64 x2)] [])) = l05_much.l3_0.r (fun a0 => ((Prod.mk (.exit 0) (St.mk [(.int .i64 a0)] [])) : Ex × St)) n (fun y0 y1 y2 => rc ((St.mk [(.int .i64 y0), (.robjs 69 6 y1), (.int .i64 y2)] []))) x0 x1 x2 := by kernel_rfl
theorem l05_much.l3_0.loop' (n : Nat) : ∀ (m : Nat) (t : (Int × ((List AV) × Int))), loopOf (roundOf (l05_much.C n) (l05_much.A n) n l05_much.b0) m (l05_much.l3_0.shape t) = l05_much.l3_0.g (fun a0 => ((Prod.mk (.exit 0) (St.mk [(.int .i64 a0)] [])) : Ex × St)) n m t.1 t.2.1 t.2.2 :=
  loop_of_round (shape := l05_much.l3_0.shape) (body := roundOf (l05_much.C n) (l05_much.A n) n l05_much.b0) (g := fun m t => l05_much.l3_0.g (fun a0 => ((Prod.mk (.exit 0) (St.mk [(.int .i64 a0)] [])) : Ex × St)) n m t.1 t.2.1 t.2.2) (fun t => rfl)
    fun m t ih => (l05_much.l3_0.round n (loopOf (roundOf (l05_much.C n) (l05_much.A n) n l05_much.b0) m) t.1 t.2.1 t.2.2).trans (congrFun (congrFun (congrFun (congrArg (l05_much.l3_0.r (fun a0 => ((Prod.mk (.exit 0) (St.mk [(.int .i64 a0)] [])) : Ex × St)) n) (funext fun y0 => funext fun y1 => funext fun y2 => ih (y0, y1, y2))) t.1) t.2.1) t.2.2)
theorem l05_much.l3_0.loop (n m : Nat) (t : (Int × ((List AV) × Int))) : loopOf (roundOf (l05_much.C n) (l05_much.A n) n l05_much.b0) m (l05_much.l3_0.shape t) = (l05_much.l3_0.m n m t).map l05_much.l3_0.res :=
  (l05_much.l3_0.loop' n m t).trans (l05_much.l3_0.gmap l05_much.l3_0.res (fun a0 => a0) n m t.1 t.2.1 t.2.2)
theorem l05_much.gmap {α β : Type} (h : β → α) (mk0 : Bool → β) (n : Nat) (a0 : (List AV)) : l05_much.g (fun a0 => (h (mk0 a0))) n a0 = (l05_much.g mk0 n a0).map h := by
  unfold l05_much.g
  exact (bindO_map fun r2 => rfl)
theorem l05_much.run (n : Nat) (a0 : (List AV)) : runF (l05_much.C n) (l05_much.A n) n Tryd.f17 [(.robjs 69 6 a0)] [] (fun v o => some (v, o)) = l05_much.g (fun a0 => ((Prod.mk (.bool a0) []) : AV × Blks)) n a0 := by kernel_rfl
theorem l05_much.call (hmix : Tryd.prog.follows .mixedOrders = true) (n : Nat) (t : (List AV)) (u) (h : l05_much.m n t = some u) : FnC Tryd.prog abiG 17 (l05_much.shape t).1 (l05_much.shape t).2 (l05_much.res u).1 (l05_much.res u).2 := by
  have hg : ∀ f m, (l05_much.C n).Γ f = some m → CalleeS Tryd.prog abiG f m := by
    intro f m hm
    unfold l05_much.C at hm
    simp only at hm
    first
    | (cases hm; done)
    | (split at hm <;> first
    | (cases hm; done))
  have hb : Tryd.f17.body = some (Tryd.f17.body.getD .skip) := by kernel_rfl
  refine runF_calls (C := l05_much.C n) (A := l05_much.A n) (n := n) (fn := Tryd.f17) hg hmix Tryd.func17 hb ?_ ?_ (by decide) rfl rfl (by show 1 ≤ Tryd.f17.ntmps; decide) ?_
  · rw [show loopsIn (Tryd.f17.body.getD .skip) = [l05_much.b0] by kernel_rfl]
    intro b hb m hm
    simp only [List.mem_cons, List.not_mem_nil, or_false] at hb
    rcases hb with rfl
    · have e : (l05_much.A n).loop (key l05_much.b0) = some (.mk' l05_much.l3_0.pat (l05_much.l3_0.m n n) l05_much.l3_0.resK) := by rw [show key l05_much.b0 = 3 by kernel_rfl]; rfl
      rw [e] at hm
      cases hm
      exact (LoopS.of (res := l05_much.l3_0.res) (fun R u K => rfl) l05_much.l3_0.pat_shape fun t => l05_much.l3_0.loop n n t)
  · intro a ha m hm
    cases (show none = some m from hm)
  · rw [show runF (l05_much.C n) (l05_much.A n) n Tryd.f17 (l05_much.shape t).1 (l05_much.shape t).2 (fun v o => some (v, o)) = _ from l05_much.run n t]
    have e := l05_much.gmap l05_much.res (fun a0 => a0) n t
    unfold l05_much.m at h
    rw [h] at e
    exact e
theorem l05_much.s (hmix : Tryd.prog.follows .mixedOrders = true) (n : Nat) : CalleeS Tryd.prog abiG 17 (l05_much.c n) :=
  CalleeS.of (res := l05_much.res) (shape := l05_much.shape) (fun R u K => rfl) (fun args lent t h => by
    unfold l05_much.pat at h
    split at h
    · cases h; rfl
    · cases h) fun t u h => (l05_much.call hmix n t u h).ok Tryd.func17 (by decide) (by kernel_rfl)
end
section
noncomputable section
noncomputable def abi_Selector.C (n : Nat) : Ctx := ⟨Tryd.prog, abiG, fun f => match f with
 | 57 => some (keccak_Sum.c n)
 | 56 => some (word_Bytes.c n)
 | _ => none, fun _ => false⟩
def abi_Selector.live : Nat → List Nat × List Nat := fun k => match k with
 | _ => ([], [])
def abi_Selector.jlive : Nat → List Nat × List Nat := fun k => match k with
 | _ => ([], [])
noncomputable def abi_Selector.A (n : Nat) : Ann := ⟨Tryd.f22.ntmps, 0, abi_Selector.live, [], [(some (.ints .u8))], fun k => match k with
 | _ => none, abi_Selector.jlive, lookJ []⟩
def abi_Selector.g {α : Type} (mk0 : (List Int) → α) (n : Nat) (a0 : ByteArray) : Option α :=
 bindO (keccak_Sum.m n (Go.Abs.bytesOf a0)) fun r2 =>
  bindO (word_Bytes.m n r2) fun r4 =>
   if 4 ≤ (((List.length r4) : Nat) : Int) then
    some (mk0 (List.take (Go.Abs.span (List.length r4) 0 (Option.some 4)) r4))
   else
    none
def abi_Selector.m (n : Nat) (t : ByteArray) : Option (List Int) := abi_Selector.g (fun a0 => a0) n t
def abi_Selector.pat : List AV → Blks → Option ByteArray
 | [(.str a0)], [] => some a0
 | _, _ => none
def abi_Selector.shape (t : ByteArray) : List AV × Blks := ([(.str t)], [])
def abi_Selector.res : (List Int) → AV × Blks
 | u => (Prod.mk (.own 0 1) [(some (.ints .u8 u))])
def abi_Selector.resK {R : Type} (u : (List Int)) (K : AV → Blks → Option R) : Option R := (fun p : AV × Blks => K p.1 p.2) (Prod.mk (.own 0 1) [(some (.ints .u8 u))])
def abi_Selector.c (n : Nat) : Abs.Callee := .mk' [] [none] abi_Selector.pat (abi_Selector.m n) abi_Selector.resK
end
end
section
theorem abi_Selector.gmap {α β : Type} (h : β → α) (mk0 : (List Int) → β) (n : Nat) (a0 : ByteArray) : abi_Selector.g (fun a0 => (h (mk0 a0))) n a0 = (abi_Selector.g mk0 n a0).map h := by
  unfold abi_Selector.g
  exact (bindO_map fun r2 => (bindO_map fun r4 => (ite_map rfl rfl)))
theorem abi_Selector.run (n : Nat) (a0 : ByteArray) : runF (abi_Selector.C n) (abi_Selector.A n) n Tryd.f22 [(.str a0)] [] (fun v o => some (v, o)) = abi_Selector.g (fun a0 => ((Prod.mk (.own 0 1) [(some (.ints .u8 a0))]) : AV × Blks)) n a0 := by kernel_rfl
theorem abi_Selector.call (hmix : Tryd.prog.follows .mixedOrders = true) (n : Nat) (t : ByteArray) (u) (h : abi_Selector.m n t = some u) : FnC Tryd.prog abiG 22 (abi_Selector.shape t).1 (abi_Selector.shape t).2 (abi_Selector.res u).1 (abi_Selector.res u).2 := by
  have hg : ∀ f m, (abi_Selector.C n).Γ f = some m → CalleeS Tryd.prog abiG f m := by
    intro f m hm
    unfold abi_Selector.C at hm
    simp only at hm
    first
    | (cases hm; done)
    | (split at hm <;> first
    | (cases hm; exact keccak_Sum.s hmix n)
    | (cases hm; exact word_Bytes.s hmix n)
    | (cases hm; done))
  have hb : Tryd.f22.body = some (Tryd.f22.body.getD .skip) := by kernel_rfl
  refine runF_calls (C := abi_Selector.C n) (A := abi_Selector.A n) (n := n) (fn := Tryd.f22) hg hmix Tryd.func22 hb ?_ ?_ (by decide) rfl rfl (by show 1 ≤ Tryd.f22.ntmps; decide) ?_
  · rw [show loopsIn (Tryd.f22.body.getD .skip) = [] by kernel_rfl]
    intro b hb
    cases hb
  · intro a ha m hm
    cases (show none = some m from hm)
  · rw [show runF (abi_Selector.C n) (abi_Selector.A n) n Tryd.f22 (abi_Selector.shape t).1 (abi_Selector.shape t).2 (fun v o => some (v, o)) = _ from abi_Selector.run n t]
    have e := abi_Selector.gmap abi_Selector.res (fun a0 => a0) n t
    unfold abi_Selector.m at h
    rw [h] at e
    exact e
theorem abi_Selector.s (hmix : Tryd.prog.follows .mixedOrders = true) (n : Nat) : CalleeS Tryd.prog abiG 22 (abi_Selector.c n) :=
  CalleeS.of (res := abi_Selector.res) (shape := abi_Selector.shape) (fun R u K => rfl) (fun args lent t h => by
    unfold abi_Selector.pat at h
    split at h
    · cases h; rfl
    · cases h) fun t u h => (abi_Selector.call hmix n t u h).ok Tryd.func22 (by decide) (by kernel_rfl)
end
section
noncomputable section
noncomputable def q05_Selector.C (n : Nat) : Ctx := ⟨Tryd.prog, abiG, fun f => match f with
 | 62 => some (q02_Sum.c n)
 | 55 => some (q01_Bytes.c n)
 | _ => none, fun _ => false⟩
def q05_Selector.live : Nat → List Nat × List Nat := fun k => match k with
 | _ => ([], [])
def q05_Selector.jlive : Nat → List Nat × List Nat := fun k => match k with
 | _ => ([], [])
noncomputable def q05_Selector.A (n : Nat) : Ann := ⟨Tryd.f23.ntmps, 0, q05_Selector.live, [], [(some (.ints .u8))], fun k => match k with
 | _ => none, q05_Selector.jlive, lookJ []⟩
def q05_Selector.g {α : Type} (mk0 : (List Int) → α) (n : Nat) (a0 : ByteArray) : Option α :=
 bindO (q02_Sum.m n (Go.Abs.bytesOf a0)) fun r2 =>
  bindO (q01_Bytes.m n r2) fun r4 =>
   if 4 ≤ (((List.length r4) : Nat) : Int) then
    some (mk0 (List.take (Go.Abs.span (List.length r4) 0 (Option.some 4)) r4))
   else
    none
def q05_Selector.m (n : Nat) (t : ByteArray) : Option (List Int) := q05_Selector.g (fun a0 => a0) n t
def q05_Selector.pat : List AV → Blks → Option ByteArray
 | [(.str a0)], [] => some a0
 | _, _ => none
def q05_Selector.shape (t : ByteArray) : List AV × Blks := ([(.str t)], [])
def q05_Selector.res : (List Int) → AV × Blks
 | u => (Prod.mk (.own 0 1) [(some (.ints .u8 u))])
def q05_Selector.resK {R : Type} (u : (List Int)) (K : AV → Blks → Option R) : Option R := (fun p : AV × Blks => K p.1 p.2) (Prod.mk (.own 0 1) [(some (.ints .u8 u))])
def q05_Selector.c (n : Nat) : Abs.Callee := .mk' [] [none] q05_Selector.pat (q05_Selector.m n) q05_Selector.resK
end
end
section
theorem q05_Selector.gmap {α β : Type} (h : β → α) (mk0 : (List Int) → β) (n : Nat) (a0 : ByteArray) : q05_Selector.g (fun a0 => (h (mk0 a0))) n a0 = (q05_Selector.g mk0 n a0).map h := by
  unfold q05_Selector.g
  exact (bindO_map fun r2 => (bindO_map fun r4 => (ite_map rfl rfl)))
theorem q05_Selector.run (n : Nat) (a0 : ByteArray) : runF (q05_Selector.C n) (q05_Selector.A n) n Tryd.f23 [(.str a0)] [] (fun v o => some (v, o)) = q05_Selector.g (fun a0 => ((Prod.mk (.own 0 1) [(some (.ints .u8 a0))]) : AV × Blks)) n a0 := by kernel_rfl
theorem q05_Selector.call (hmix : Tryd.prog.follows .mixedOrders = true) (n : Nat) (t : ByteArray) (u) (h : q05_Selector.m n t = some u) : FnC Tryd.prog abiG 23 (q05_Selector.shape t).1 (q05_Selector.shape t).2 (q05_Selector.res u).1 (q05_Selector.res u).2 := by
  have hg : ∀ f m, (q05_Selector.C n).Γ f = some m → CalleeS Tryd.prog abiG f m := by
    intro f m hm
    unfold q05_Selector.C at hm
    simp only at hm
    first
    | (cases hm; done)
    | (split at hm <;> first
    | (cases hm; exact q02_Sum.s hmix n)
    | (cases hm; exact q01_Bytes.s hmix n)
    | (cases hm; done))
  have hb : Tryd.f23.body = some (Tryd.f23.body.getD .skip) := by kernel_rfl
  refine runF_calls (C := q05_Selector.C n) (A := q05_Selector.A n) (n := n) (fn := Tryd.f23) hg hmix Tryd.func23 hb ?_ ?_ (by decide) rfl rfl (by show 1 ≤ Tryd.f23.ntmps; decide) ?_
  · rw [show loopsIn (Tryd.f23.body.getD .skip) = [] by kernel_rfl]
    intro b hb
    cases hb
  · intro a ha m hm
    cases (show none = some m from hm)
  · rw [show runF (q05_Selector.C n) (q05_Selector.A n) n Tryd.f23 (q05_Selector.shape t).1 (q05_Selector.shape t).2 (fun v o => some (v, o)) = _ from q05_Selector.run n t]
    have e := q05_Selector.gmap q05_Selector.res (fun a0 => a0) n t
    unfold q05_Selector.m at h
    rw [h] at e
    exact e
theorem q05_Selector.s (hmix : Tryd.prog.follows .mixedOrders = true) (n : Nat) : CalleeS Tryd.prog abiG 23 (q05_Selector.c n) :=
  CalleeS.of (res := q05_Selector.res) (shape := q05_Selector.shape) (fun R u K => rfl) (fun args lent t h => by
    unfold q05_Selector.pat at h
    split at h
    · cases h; rfl
    · cases h) fun t u h => (q05_Selector.call hmix n t u h).ok Tryd.func23 (by decide) (by kernel_rfl)
end
