/- What the program's functions compute, as plain functions, each with its proof: the function does just that. Condition: the plain function has an answer. -/
import Derived.Test.YtmpflhdnlkjajaaDoorAbsE6
import Derived.Test.YtmpflhdnlkjajaaDoorProg
import Derived.Test.YtmpflhdnlkjajaaDoorFnKeccakParts1
set_option linter.unusedVariables false
set_option linter.unusedSimpArgs false
set_option maxRecDepth 100000
open Go Go.Abs Go.Proofs
section
noncomputable section
noncomputable def word_Read.C (n : Nat) : Ctx := ⟨Tryd.prog, kecG, fun f => match f with
 | _ => none⟩
def word_Read.live : Nat → List Nat × List Nat := fun k => match k with
 | 4 => ([13, 12, 3, 0, 2], [3, 2])
 | _ => ([], [])
def word_Read.jlive : Nat → List Nat × List Nat := fun k => match k with
 | _ => ([], [])
def word_Read.l4_0.r {α : Type} (mk0 : (List Int) → (List Int) → α) (n : Nat) (rc : Int → Int → (List Int) → (List Int) → (List Int) → Option α)  (x0 : Int) (x1 : Int) (x2 : (List Int)) (x3 : (List Int)) (x4 : (List Int)) : Option α :=
  if (decide (x0 < x1)) = true then
   if 0 ≤ (IntKind.wrap .i64 (Int.tdiv x0 8)) then
    if (IntKind.wrap .i64 (Int.tdiv x0 8)) < 4 then
     if 0 ≤ (IntKind.wrap .i64 ((IntKind.wrap .i64 ((((List.length x2) : Nat) : Int) - 1)) - x0)) then
      if (IntKind.wrap .i64 ((IntKind.wrap .i64 ((((List.length x2) : Nat) : Int) - 1)) - x0)) < (((List.length x2) : Nat) : Int) then
       if 0 ≤ (IntKind.wrap .i64 ((Int.tmod x0 8) * 8)) then
        if 0 ≤ (IntKind.wrap .i64 (Int.tdiv x0 8)) then
         if (IntKind.wrap .i64 (Int.tdiv x0 8)) < 4 then
          rc (IntKind.wrap .i64 (x0 + 1)) x1 x2 (List.set x3 (Int.toNat (IntKind.wrap .i64 (Int.tdiv x0 8))) (ibits BinOp.or .u64 (List.getD x3 (Int.toNat (IntKind.wrap .i64 (Int.tdiv x0 8))) 0) (ishl .u64 (IntKind.wrap .u64 (List.getD x2 (Int.toNat (IntKind.wrap .i64 ((IntKind.wrap .i64 ((((List.length x2) : Nat) : Int) - 1)) - x0))) 0)) (IntKind.wrap .i64 ((Int.tmod x0 8) * 8))))) x4
         else
          none
        else
         none
       else
        none
      else
       none
     else
      none
    else
     none
   else
    none
  else
   some (mk0 x3 x4)
def word_Read.l4_0.g {α : Type} (mk0 : (List Int) → (List Int) → α) (n : Nat) : Nat → Int → Int → (List Int) → (List Int) → (List Int) → Option α
 | 0, _, _, _, _, _ => none
 | m + 1, x0, x1, x2, x3, x4 => word_Read.l4_0.r mk0 n (fun y0 y1 y2 y3 y4 => word_Read.l4_0.g mk0 n m y0 y1 y2 y3 y4)  x0 x1 x2 x3 x4
def word_Read.l4_0.m (n m : Nat) (t : (Int × (Int × ((List Int) × ((List Int) × (List Int)))))) : Option ((List Int) × (List Int)) := word_Read.l4_0.g (fun a0 a1 => (a0, a1)) n m t.1 t.2.1 t.2.2.1 t.2.2.2.1 t.2.2.2.2
def word_Read.l4_0.pat : St → Option (Int × (Int × ((List Int) × ((List Int) × (List Int)))))
 | (St.mk [(.int .i64 x0), (.int .i64 x1), (.ptr 0 []), (.rints .u8 x2), (.ptr 1 [])] [(some (.var (.ints .u64 4 x3))), (some (.var (.ints .u64 4 x4)))]) => some (x0, x1, x2, x3, x4)
 | _ => none
def word_Read.l4_0.shape (t : (Int × (Int × ((List Int) × ((List Int) × (List Int)))))) : St := (St.mk [(.int .i64 t.1), (.int .i64 t.2.1), (.ptr 0 []), (.rints .u8 t.2.2.1), (.ptr 1 [])] [(some (.var (.ints .u64 4 t.2.2.2.1))), (some (.var (.ints .u64 4 t.2.2.2.2)))])
def word_Read.l4_0.res : ((List Int) × (List Int)) → Ex × St
 | u => (Prod.mk (.exit 0) (St.mk [(.ptr 0 []), (.ptr 1 [])] [(some (.var (.ints .u64 4 u.1))), (some (.var (.ints .u64 4 u.2)))]))
def word_Read.l4_0.resK {R : Type} (u : ((List Int) × (List Int))) (K : Ex → St → Option R) : Option R := (fun p : Ex × St => K p.1 p.2) (Prod.mk (.exit 0) (St.mk [(.ptr 0 []), (.ptr 1 [])] [(some (.var (.ints .u64 4 u.1))), (some (.var (.ints .u64 4 u.2)))]))
noncomputable def word_Read.A (n : Nat) : Ann := ⟨Tryd.f12.ntmps, 0, word_Read.live, [(0, (.ints .u8))], [none], fun k => match k with
 | 4 => some (.mk' word_Read.l4_0.pat (word_Read.l4_0.m n n) word_Read.l4_0.resK)
 | _ => none, word_Read.jlive, lookJ []⟩
noncomputable def word_Read.b0 : Code := (loopsIn (Tryd.f12.body.getD .skip)).getD 0 .skip
def word_Read.g {α : Type} (mk0 : (List Int) → α) (n : Nat) (a0 : (List Int)) : Option α :=
 if 0 ≤ (if 0 > (IntKind.wrap .i64 ((((List.length a0) : Nat) : Int) - 32)) then 0 else (IntKind.wrap .i64 ((((List.length a0) : Nat) : Int) - 32))) then
  if (if 0 > (IntKind.wrap .i64 ((((List.length a0) : Nat) : Int) - 32)) then 0 else (IntKind.wrap .i64 ((((List.length a0) : Nat) : Int) - 32))) ≤ (((List.length a0) : Nat) : Int) then
   bindO (word_Read.l4_0.m n n (0, (((List.length (Go.Abs.cut a0 (Int.toNat (if 0 > (IntKind.wrap .i64 ((((List.length a0) : Nat) : Int) - 32)) then 0 else (IntKind.wrap .i64 ((((List.length a0) : Nat) : Int) - 32)))) (Option.none))) : Nat) : Int), (Go.Abs.cut a0 (Int.toNat (if 0 > (IntKind.wrap .i64 ((((List.length a0) : Nat) : Int) - 32)) then 0 else (IntKind.wrap .i64 ((((List.length a0) : Nat) : Int) - 32)))) (Option.none)), [0, 0, 0, 0], [0, 0, 0, 0])) fun r6 =>
    some (mk0 (Prod.fst r6))
  else
   none
 else
  none
def word_Read.m (n : Nat) (t : (List Int)) : Option (List Int) := word_Read.g (fun a0 => a0) n t
def word_Read.pat : List AV → Blks → Option (List Int)
 | [(.rints .u8 a0)], [] => some a0
 | _, _ => none
def word_Read.shape (t : (List Int)) : List AV × Blks := ([(.rints .u8 t)], [])
def word_Read.res : (List Int) → AV × Blks
 | u => (Prod.mk (.ints .u64 4 u) [])
def word_Read.resK {R : Type} (u : (List Int)) (K : AV → Blks → Option R) : Option R := (fun p : AV × Blks => K p.1 p.2) (Prod.mk (.ints .u64 4 u) [])
def word_Read.c (n : Nat) : Abs.Callee := .mk' [] [(some (.ints .u8))] word_Read.pat (word_Read.m n) word_Read.resK
end
end
section
noncomputable section
noncomputable def keccak_Sum.C (n : Nat) : Ctx := ⟨Tryd.prog, kecG, fun f => match f with
 | 11 => some (keccak_state_take.c n)
 | 12 => some (word_Read.c n)
 | _ => none⟩
def keccak_Sum.live : Nat → List Nat × List Nat := fun k => match k with
 | 2 => ([0, 3, 2], [0, 3, 2])
 | 12 => ([30, 3, 5, 2], [5, 2])
 | _ => ([], [])
def keccak_Sum.jlive : Nat → List Nat × List Nat := fun k => match k with
 | _ => ([], [])
def keccak_Sum.l2_0.r {α : Type} (mk0 : (List Int) → (List Int) → (List Int) → α) (n : Nat) (rc : (List Int) → (List Int) → (List Int) → Option α)  (x0 : (List Int)) (x1 : (List Int)) (x2 : (List Int)) : Option α :=
  if (decide ((((List.length x0) : Nat) : Int) ≥ 136)) = true then
   if 136 ≤ (((List.length x0) : Nat) : Int) then
    bindO (keccak_state_take.m n (Prod.mk (Go.Abs.cut x0 0 (Option.some 136)) x1)) fun r8 =>
     if 136 ≤ (((List.length x0) : Nat) : Int) then
      rc (Go.Abs.cut x0 136 (Option.none)) r8 x2
     else
      none
   else
    none
  else
   some (mk0 x0 x1 x2)
def keccak_Sum.l2_0.g {α : Type} (mk0 : (List Int) → (List Int) → (List Int) → α) (n : Nat) : Nat → (List Int) → (List Int) → (List Int) → Option α
 | 0, _, _, _ => none
 | m + 1, x0, x1, x2 => keccak_Sum.l2_0.r mk0 n (fun y0 y1 y2 => keccak_Sum.l2_0.g mk0 n m y0 y1 y2)  x0 x1 x2
def keccak_Sum.l2_0.m (n m : Nat) (t : ((List Int) × ((List Int) × (List Int)))) : Option ((List Int) × ((List Int) × (List Int))) := keccak_Sum.l2_0.g (fun a0 a1 a2 => (a0, a1, a2)) n m t.1 t.2.1 t.2.2
def keccak_Sum.l2_0.pat : St → Option ((List Int) × ((List Int) × (List Int)))
 | (St.mk [(.rints .u8 x0), (.ptr 0 []), (.ptr 1 [])] [(some (.var (.ints .u64 25 x1))), (some (.var (.ints .u64 4 x2)))]) => some (x0, x1, x2)
 | _ => none
def keccak_Sum.l2_0.shape (t : ((List Int) × ((List Int) × (List Int)))) : St := (St.mk [(.rints .u8 t.1), (.ptr 0 []), (.ptr 1 [])] [(some (.var (.ints .u64 25 t.2.1))), (some (.var (.ints .u64 4 t.2.2)))])
def keccak_Sum.l2_0.res : ((List Int) × ((List Int) × (List Int))) → Ex × St
 | u => (Prod.mk (.exit 0) (St.mk [(.rints .u8 u.1), (.ptr 0 []), (.ptr 1 [])] [(some (.var (.ints .u64 25 u.2.1))), (some (.var (.ints .u64 4 u.2.2)))]))
def keccak_Sum.l2_0.resK {R : Type} (u : ((List Int) × ((List Int) × (List Int)))) (K : Ex → St → Option R) : Option R := (fun p : Ex × St => K p.1 p.2) (Prod.mk (.exit 0) (St.mk [(.rints .u8 u.1), (.ptr 0 []), (.ptr 1 [])] [(some (.var (.ints .u64 25 u.2.1))), (some (.var (.ints .u64 4 u.2.2)))]))
def keccak_Sum.l12_0.r {α : Type} (mk0 : (List Int) → (List Int) → α) (n : Nat) (rc : Int → (List Int) → (List Int) → (List Int) → Option α)  (x0 : Int) (x1 : (List Int)) (x2 : (List Int)) (x3 : (List Int)) : Option α :=
  if (decide (x0 < 32)) = true then
   if 0 ≤ (IntKind.wrap .i64 (Int.tdiv x0 8)) then
    if (IntKind.wrap .i64 (Int.tdiv x0 8)) < 25 then
     if 0 ≤ (IntKind.wrap .i64 ((Int.tmod x0 8) * 8)) then
      if 0 ≤ x0 then
       if x0 < 32 then
        rc (IntKind.wrap .i64 (x0 + 1)) x1 (List.set x2 (Int.toNat x0) (IntKind.wrap .u8 (ishr .u64 (List.getD x1 (Int.toNat (IntKind.wrap .i64 (Int.tdiv x0 8))) 0) (IntKind.wrap .i64 ((Int.tmod x0 8) * 8))))) x3
       else
        none
      else
       none
     else
      none
    else
     none
   else
    none
  else
   some (mk0 x2 x3)
def keccak_Sum.l12_0.g {α : Type} (mk0 : (List Int) → (List Int) → α) (n : Nat) : Nat → Int → (List Int) → (List Int) → (List Int) → Option α
 | 0, _, _, _, _ => none
 | m + 1, x0, x1, x2, x3 => keccak_Sum.l12_0.r mk0 n (fun y0 y1 y2 y3 => keccak_Sum.l12_0.g mk0 n m y0 y1 y2 y3)  x0 x1 x2 x3
def keccak_Sum.l12_0.m (n m : Nat) (t : (Int × ((List Int) × ((List Int) × (List Int))))) : Option ((List Int) × (List Int)) := keccak_Sum.l12_0.g (fun a0 a1 => (a0, a1)) n m t.1 t.2.1 t.2.2.1 t.2.2.2
def keccak_Sum.l12_0.pat : St → Option (Int × ((List Int) × ((List Int) × (List Int))))
 | (St.mk [(.int .i64 x0), (.ptr 0 []), (.ptr 1 []), (.ptr 2 [])] [(some (.var (.ints .u64 25 x1))), (some (.var (.ints .u8 32 x2))), (some (.var (.ints .u64 4 x3)))]) => some (x0, x1, x2, x3)
 | _ => none
def keccak_Sum.l12_0.shape (t : (Int × ((List Int) × ((List Int) × (List Int))))) : St := (St.mk [(.int .i64 t.1), (.ptr 0 []), (.ptr 1 []), (.ptr 2 [])] [(some (.var (.ints .u64 25 t.2.1))), (some (.var (.ints .u8 32 t.2.2.1))), (some (.var (.ints .u64 4 t.2.2.2)))])
def keccak_Sum.l12_0.res : ((List Int) × (List Int)) → Ex × St
 | u => (Prod.mk (.exit 2) (St.mk [(.ptr 0 []), (.ptr 1 [])] [(some (.var (.ints .u8 32 u.1))), (some (.var (.ints .u64 4 u.2)))]))
def keccak_Sum.l12_0.resK {R : Type} (u : ((List Int) × (List Int))) (K : Ex → St → Option R) : Option R := (fun p : Ex × St => K p.1 p.2) (Prod.mk (.exit 2) (St.mk [(.ptr 0 []), (.ptr 1 [])] [(some (.var (.ints .u8 32 u.1))), (some (.var (.ints .u64 4 u.2)))]))
noncomputable def keccak_Sum.A (n : Nat) : Ann := ⟨Tryd.f7.ntmps, 0, keccak_Sum.live, [(0, (.ints .u8))], [none], fun k => match k with
 | 2 => some (.mk' keccak_Sum.l2_0.pat (keccak_Sum.l2_0.m n n) keccak_Sum.l2_0.resK)
 | 12 => some (.mk' keccak_Sum.l12_0.pat (keccak_Sum.l12_0.m n n) keccak_Sum.l12_0.resK)
 | _ => none, keccak_Sum.jlive, lookJ []⟩
noncomputable def keccak_Sum.b0 : Code := (loopsIn (Tryd.f7.body.getD .skip)).getD 0 .skip
noncomputable def keccak_Sum.b1 : Code := (loopsIn (Tryd.f7.body.getD .skip)).getD 1 .skip
def keccak_Sum.g {α : Type} (mk0 : (List Int) → α) (n : Nat) (a0 : (List Int)) : Option α :=
 bindO (keccak_Sum.l2_0.m n n (a0, ([0, 0, 0, 0, 0, 0, 0, 0, 0, 0, 0, 0, 0, 0, 0, 0, 0, 0, 0, 0, 0, 0, 0, 0, 0] : List Int), [0, 0, 0, 0])) fun r2 =>
  if (((List.length (Prod.fst r2)) : Nat) : Int) < 136 then
   if (((List.length (Prod.fst r2)) : Nat) : Int) < 136 then
    bindO (keccak_state_take.m n (Prod.mk (List.take 136 (List.drop 0 (List.set (List.set ([] ++ ((List.take 136 (Prod.fst r2)) ++ (List.drop (0 + (Min.min (List.length (Prod.fst r2)) 136)) ([0, 0, 0, 0, 0, 0, 0, 0, 0, 0, 0, 0, 0, 0, 0, 0, 0, 0, 0, 0, 0, 0, 0, 0, 0, 0, 0, 0, 0, 0, 0, 0, 0, 0, 0, 0, 0, 0, 0, 0, 0, 0, 0, 0, 0, 0, 0, 0, 0, 0, 0, 0, 0, 0, 0, 0, 0, 0, 0, 0, 0, 0, 0, 0, 0, 0, 0, 0, 0, 0, 0, 0, 0, 0, 0, 0, 0, 0, 0, 0, 0, 0, 0, 0, 0, 0, 0, 0, 0, 0, 0, 0, 0, 0, 0, 0, 0, 0, 0, 0, 0, 0, 0, 0, 0, 0, 0, 0, 0, 0, 0, 0, 0, 0, 0, 0, 0, 0, 0, 0, 0, 0, 0, 0, 0, 0, 0, 0, 0, 0, 0, 0, 0, 0, 0, 0] : List Int)))) (Int.toNat (((List.length (Prod.fst r2)) : Nat) : Int)) (ibits BinOp.xor .u8 (List.getD ([] ++ ((List.take 136 (Prod.fst r2)) ++ (List.drop (0 + (Min.min (List.length (Prod.fst r2)) 136)) ([0, 0, 0, 0, 0, 0, 0, 0, 0, 0, 0, 0, 0, 0, 0, 0, 0, 0, 0, 0, 0, 0, 0, 0, 0, 0, 0, 0, 0, 0, 0, 0, 0, 0, 0, 0, 0, 0, 0, 0, 0, 0, 0, 0, 0, 0, 0, 0, 0, 0, 0, 0, 0, 0, 0, 0, 0, 0, 0, 0, 0, 0, 0, 0, 0, 0, 0, 0, 0, 0, 0, 0, 0, 0, 0, 0, 0, 0, 0, 0, 0, 0, 0, 0, 0, 0, 0, 0, 0, 0, 0, 0, 0, 0, 0, 0, 0, 0, 0, 0, 0, 0, 0, 0, 0, 0, 0, 0, 0, 0, 0, 0, 0, 0, 0, 0, 0, 0, 0, 0, 0, 0, 0, 0, 0, 0, 0, 0, 0, 0, 0, 0, 0, 0, 0, 0] : List Int)))) (Int.toNat (((List.length (Prod.fst r2)) : Nat) : Int)) 0) 1)) 135 (ibits BinOp.xor .u8 (List.getD (List.set ([] ++ ((List.take 136 (Prod.fst r2)) ++ (List.drop (0 + (Min.min (List.length (Prod.fst r2)) 136)) ([0, 0, 0, 0, 0, 0, 0, 0, 0, 0, 0, 0, 0, 0, 0, 0, 0, 0, 0, 0, 0, 0, 0, 0, 0, 0, 0, 0, 0, 0, 0, 0, 0, 0, 0, 0, 0, 0, 0, 0, 0, 0, 0, 0, 0, 0, 0, 0, 0, 0, 0, 0, 0, 0, 0, 0, 0, 0, 0, 0, 0, 0, 0, 0, 0, 0, 0, 0, 0, 0, 0, 0, 0, 0, 0, 0, 0, 0, 0, 0, 0, 0, 0, 0, 0, 0, 0, 0, 0, 0, 0, 0, 0, 0, 0, 0, 0, 0, 0, 0, 0, 0, 0, 0, 0, 0, 0, 0, 0, 0, 0, 0, 0, 0, 0, 0, 0, 0, 0, 0, 0, 0, 0, 0, 0, 0, 0, 0, 0, 0, 0, 0, 0, 0, 0, 0] : List Int)))) (Int.toNat (((List.length (Prod.fst r2)) : Nat) : Int)) (ibits BinOp.xor .u8 (List.getD ([] ++ ((List.take 136 (Prod.fst r2)) ++ (List.drop (0 + (Min.min (List.length (Prod.fst r2)) 136)) ([0, 0, 0, 0, 0, 0, 0, 0, 0, 0, 0, 0, 0, 0, 0, 0, 0, 0, 0, 0, 0, 0, 0, 0, 0, 0, 0, 0, 0, 0, 0, 0, 0, 0, 0, 0, 0, 0, 0, 0, 0, 0, 0, 0, 0, 0, 0, 0, 0, 0, 0, 0, 0, 0, 0, 0, 0, 0, 0, 0, 0, 0, 0, 0, 0, 0, 0, 0, 0, 0, 0, 0, 0, 0, 0, 0, 0, 0, 0, 0, 0, 0, 0, 0, 0, 0, 0, 0, 0, 0, 0, 0, 0, 0, 0, 0, 0, 0, 0, 0, 0, 0, 0, 0, 0, 0, 0, 0, 0, 0, 0, 0, 0, 0, 0, 0, 0, 0, 0, 0, 0, 0, 0, 0, 0, 0, 0, 0, 0, 0, 0, 0, 0, 0, 0, 0] : List Int)))) (Int.toNat (((List.length (Prod.fst r2)) : Nat) : Int)) 0) 1)) 135 0) 128)))) (Prod.fst (Prod.snd r2)))) fun r8 =>
     bindO (keccak_Sum.l12_0.m n n (0, r8, ([0, 0, 0, 0, 0, 0, 0, 0, 0, 0, 0, 0, 0, 0, 0, 0, 0, 0, 0, 0, 0, 0, 0, 0, 0, 0, 0, 0, 0, 0, 0, 0] : List Int), (Prod.snd (Prod.snd r2)))) fun r10 =>
      bindO (word_Read.m n (List.take 32 (List.drop 0 (Prod.fst r10)))) fun r12 =>
       some (mk0 r12)
   else
    none
  else
   none
def keccak_Sum.m (n : Nat) (t : (List Int)) : Option (List Int) := keccak_Sum.g (fun a0 => a0) n t
def keccak_Sum.pat : List AV → Blks → Option (List Int)
 | [(.rints .u8 a0)], [] => some a0
 | _, _ => none
def keccak_Sum.shape (t : (List Int)) : List AV × Blks := ([(.rints .u8 t)], [])
def keccak_Sum.res : (List Int) → AV × Blks
 | u => (Prod.mk (.ints .u64 4 u) [])
def keccak_Sum.resK {R : Type} (u : (List Int)) (K : AV → Blks → Option R) : Option R := (fun p : AV × Blks => K p.1 p.2) (Prod.mk (.ints .u64 4 u) [])
def keccak_Sum.c (n : Nat) : Abs.Callee := .mk' [] [(some (.ints .u8))] keccak_Sum.pat (keccak_Sum.m n) keccak_Sum.resK
end
end
section
theorem keccak_state_take.l1_0.rmap {α β : Type} (h : β → α) (mk0 : (List Int) → β) (n : Nat) (f : Int → Int → (List Int) → (List Int) → Option β)  (x0 : Int) (x1 : Int) (x2 : (List Int)) (x3 : (List Int)) : keccak_state_take.l1_0.r (fun a0 => (h (mk0 a0))) n (fun y0 y1 y2 y3 => (f y0 y1 y2 y3).map h) x0 x1 x2 x3 = (keccak_state_take.l1_0.r mk0 n f x0 x1 x2 x3).map h := by
  unfold keccak_state_take.l1_0.r
  exact (ite_map (ite_map (ite_map (ite_map (ite_map (ite_map (ite_map (ite_map rfl rfl) rfl) rfl) rfl) rfl) rfl) rfl) rfl)
theorem keccak_state_take.l1_0.gmap {α β : Type} (h : β → α) (mk0 : (List Int) → β) (n : Nat) : ∀ (m : Nat) (x0 : Int) (x1 : Int) (x2 : (List Int)) (x3 : (List Int)), keccak_state_take.l1_0.g (fun a0 => (h (mk0 a0))) n m x0 x1 x2 x3 = (keccak_state_take.l1_0.g mk0 n m x0 x1 x2 x3).map h
  | 0, _, _, _, _ => rfl
  | m + 1, x0, x1, x2, x3 => by
    unfold keccak_state_take.l1_0.g
    rw [← keccak_state_take.l1_0.rmap]
    congr
    · funext y0 y1 y2 y3; exact keccak_state_take.l1_0.gmap h mk0 n m y0 y1 y2 y3
theorem keccak_state_take.l1_0.pat_shape : ∀ st t, keccak_state_take.l1_0.pat st = some t → st = keccak_state_take.l1_0.shape t := by
  intro st t h
  unfold keccak_state_take.l1_0.pat at h
  split at h
  · cases h; rfl
  · cases h
theorem keccak_state_take.l1_0.round (n : Nat) (rc : St → Option (Ex × St)) (x0 : Int) (x1 : Int) (x2 : (List Int)) (x3 : (List Int)) : roundOf (keccak_state_take.C n) (keccak_state_take.A n) n keccak_state_take.b0 rc ((St.mk [(.int .i64 x0), (.int .i64 x1), (.rints .u8 x2), (.ptr 0 [])] [(some (.var (.ints .u64 25 x3)))])) = keccak_state_take.l1_0.r (fun a0 => ((Prod.mk (.exit 0) (St.mk [(.ptr 0 [])] [(some (.var (.ints .u64 25 a0)))])) : Ex × St)) n (fun y0 y1 y2 y3 => rc ((St.mk [(.int .i64 y0), (.int .i64 y1), (.rints .u8 y2), (.ptr 0 [])] [(some (.var (.ints .u64 25 y3)))]))) x0 x1 x2 x3 := by kernel_rfl
theorem keccak_state_take.l1_0.loop' (n : Nat) : ∀ (m : Nat) (t : (Int × (Int × ((List Int) × (List Int))))), loopOf (roundOf (keccak_state_take.C n) (keccak_state_take.A n) n keccak_state_take.b0) m (keccak_state_take.l1_0.shape t) = keccak_state_take.l1_0.g (fun a0 => ((Prod.mk (.exit 0) (St.mk [(.ptr 0 [])] [(some (.var (.ints .u64 25 a0)))])) : Ex × St)) n m t.1 t.2.1 t.2.2.1 t.2.2.2 :=
  loop_of_round (shape := keccak_state_take.l1_0.shape) (body := roundOf (keccak_state_take.C n) (keccak_state_take.A n) n keccak_state_take.b0) (g := fun m t => keccak_state_take.l1_0.g (fun a0 => ((Prod.mk (.exit 0) (St.mk [(.ptr 0 [])] [(some (.var (.ints .u64 25 a0)))])) : Ex × St)) n m t.1 t.2.1 t.2.2.1 t.2.2.2) (fun t => rfl)
    fun m t ih => (keccak_state_take.l1_0.round n (loopOf (roundOf (keccak_state_take.C n) (keccak_state_take.A n) n keccak_state_take.b0) m) t.1 t.2.1 t.2.2.1 t.2.2.2).trans (congrFun (congrFun (congrFun (congrFun (congrArg (keccak_state_take.l1_0.r (fun a0 => ((Prod.mk (.exit 0) (St.mk [(.ptr 0 [])] [(some (.var (.ints .u64 25 a0)))])) : Ex × St)) n) (funext fun y0 => funext fun y1 => funext fun y2 => funext fun y3 => ih (y0, y1, y2, y3))) t.1) t.2.1) t.2.2.1) t.2.2.2)
theorem keccak_state_take.l1_0.loop (n m : Nat) (t : (Int × (Int × ((List Int) × (List Int))))) : loopOf (roundOf (keccak_state_take.C n) (keccak_state_take.A n) n keccak_state_take.b0) m (keccak_state_take.l1_0.shape t) = (keccak_state_take.l1_0.m n m t).map keccak_state_take.l1_0.res :=
  (keccak_state_take.l1_0.loop' n m t).trans (keccak_state_take.l1_0.gmap keccak_state_take.l1_0.res (fun a0 => a0) n m t.1 t.2.1 t.2.2.1 t.2.2.2)
theorem keccak_state_take.gmap {α β : Type} (h : β → α) (mk0 : (List Int) → β) (n : Nat) (b : (List Int)) (s : (List Int)) : keccak_state_take.g (fun a0 => (h (mk0 a0))) n b s = (keccak_state_take.g mk0 n b s).map h := by
  unfold keccak_state_take.g
  exact (bindO_map fun r2 => (bindO_map fun r4 => rfl))
theorem keccak_state_take.run (n : Nat) (b : (List Int)) (s : (List Int)) : runF (keccak_state_take.C n) (keccak_state_take.A n) n Tryd.f11 [(.ptr 0 []), (.rints .u8 b)] [(some (.var (.ints .u64 25 s)))] (fun v o => some (v, o)) = keccak_state_take.g (fun a0 => ((Prod.mk (.tup []) [(some (.var (.ints .u64 25 a0)))]) : AV × Blks)) n b s := by kernel_rfl
theorem keccak_state_take.call (hmix : Tryd.prog.follows .mixedOrders = true) (n : Nat) (t : ((List Int) × (List Int))) (u) (h : keccak_state_take.m n t = some u) : FnC Tryd.prog kecG 11 (keccak_state_take.shape t).1 (keccak_state_take.shape t).2 (keccak_state_take.res u).1 (keccak_state_take.res u).2 := by
  have hg : ∀ f m, (keccak_state_take.C n).Γ f = some m → CalleeS Tryd.prog kecG f m := by
    intro f m hm
    unfold keccak_state_take.C at hm
    simp only at hm
    first
    | (cases hm; done)
    | (split at hm <;> first
    | (cases hm; exact keccak_state_mix.s hmix n)
    | (cases hm; done))
  have hb : Tryd.f11.body = some (Tryd.f11.body.getD .skip) := by kernel_rfl
  refine runF_calls (C := keccak_state_take.C n) (A := keccak_state_take.A n) (n := n) (fn := Tryd.f11) hg hmix Tryd.func11 hb ?_ ?_ (by decide) rfl rfl (by show 2 ≤ Tryd.f11.ntmps; decide) ?_
  · rw [show loopsIn (Tryd.f11.body.getD .skip) = [keccak_state_take.b0] by kernel_rfl]
    intro b hb m hm
    simp only [List.mem_cons, List.not_mem_nil, or_false] at hb
    rcases hb with rfl
    · have e : (keccak_state_take.A n).loop (key keccak_state_take.b0) = some (.mk' keccak_state_take.l1_0.pat (keccak_state_take.l1_0.m n n) keccak_state_take.l1_0.resK) := by rw [show key keccak_state_take.b0 = 1 by kernel_rfl]; rfl
      rw [e] at hm
      cases hm
      exact LoopS.of (res := keccak_state_take.l1_0.res) (fun R u K => rfl) keccak_state_take.l1_0.pat_shape fun t => keccak_state_take.l1_0.loop n n t
  · intro a ha m hm
    cases (show none = some m from hm)
  · rw [show runF (keccak_state_take.C n) (keccak_state_take.A n) n Tryd.f11 (keccak_state_take.shape t).1 (keccak_state_take.shape t).2 (fun v o => some (v, o)) = _ from keccak_state_take.run n t.1 t.2]
    have e := keccak_state_take.gmap keccak_state_take.res (fun a0 => a0) n t.1 t.2
    unfold keccak_state_take.m at h
    rw [h] at e
    exact e
theorem keccak_state_take.s (hmix : Tryd.prog.follows .mixedOrders = true) (n : Nat) : CalleeS Tryd.prog kecG 11 (keccak_state_take.c n) :=
  CalleeS.of (res := keccak_state_take.res) (shape := keccak_state_take.shape) (fun R u K => rfl) (fun args lent t h => by
    unfold keccak_state_take.pat at h
    split at h
    · cases h; rfl
    · cases h) fun t u h => (keccak_state_take.call hmix n t u h).ok Tryd.func11 (by decide) (by kernel_rfl)
end
section
theorem word_Read.l4_0.rmap {α β : Type} (h : β → α) (mk0 : (List Int) → (List Int) → β) (n : Nat) (f : Int → Int → (List Int) → (List Int) → (List Int) → Option β)  (x0 : Int) (x1 : Int) (x2 : (List Int)) (x3 : (List Int)) (x4 : (List Int)) : word_Read.l4_0.r (fun a0 a1 => (h (mk0 a0 a1))) n (fun y0 y1 y2 y3 y4 => (f y0 y1 y2 y3 y4).map h) x0 x1 x2 x3 x4 = (word_Read.l4_0.r mk0 n f x0 x1 x2 x3 x4).map h := by
  unfold word_Read.l4_0.r
  exact (ite_map (ite_map (ite_map (ite_map (ite_map (ite_map (ite_map (ite_map rfl rfl) rfl) rfl) rfl) rfl) rfl) rfl) rfl)
theorem word_Read.l4_0.gmap {α β : Type} (h : β → α) (mk0 : (List Int) → (List Int) → β) (n : Nat) : ∀ (m : Nat) (x0 : Int) (x1 : Int) (x2 : (List Int)) (x3 : (List Int)) (x4 : (List Int)), word_Read.l4_0.g (fun a0 a1 => (h (mk0 a0 a1))) n m x0 x1 x2 x3 x4 = (word_Read.l4_0.g mk0 n m x0 x1 x2 x3 x4).map h
  | 0, _, _, _, _, _ => rfl
  | m + 1, x0, x1, x2, x3, x4 => by
    unfold word_Read.l4_0.g
    rw [← word_Read.l4_0.rmap]
    congr
    · funext y0 y1 y2 y3 y4; exact word_Read.l4_0.gmap h mk0 n m y0 y1 y2 y3 y4
theorem word_Read.l4_0.pat_shape : ∀ st t, word_Read.l4_0.pat st = some t → st = word_Read.l4_0.shape t := by
  intro st t h
  unfold word_Read.l4_0.pat at h
  split at h
  · cases h; rfl
  · cases h
theorem word_Read.l4_0.round (n : Nat) (rc : St → Option (Ex × St)) (x0 : Int) (x1 : Int) (x2 : (List Int)) (x3 : (List Int)) (x4 : (List Int)) : roundOf (word_Read.C n) (word_Read.A n) n word_Read.b0 rc ((St.mk [(.int .i64 x0), (.int .i64 x1), (.ptr 0 []), (.rints .u8 x2), (.ptr 1 [])] [(some (.var (.ints .u64 4 x3))), (some (.var (.ints .u64 4 x4)))])) = word_Read.l4_0.r (fun a0 a1 => ((Prod.mk (.exit 0) (St.mk [(.ptr 0 []), (.ptr 1 [])] [(some (.var (.ints .u64 4 a0))), (some (.var (.ints .u64 4 a1)))])) : Ex × St)) n (fun y0 y1 y2 y3 y4 => rc ((St.mk [(.int .i64 y0), (.int .i64 y1), (.ptr 0 []), (.rints .u8 y2), (.ptr 1 [])] [(some (.var (.ints .u64 4 y3))), (some (.var (.ints .u64 4 y4)))]))) x0 x1 x2 x3 x4 := by kernel_rfl
theorem word_Read.l4_0.loop' (n : Nat) : ∀ (m : Nat) (t : (Int × (Int × ((List Int) × ((List Int) × (List Int)))))), loopOf (roundOf (word_Read.C n) (word_Read.A n) n word_Read.b0) m (word_Read.l4_0.shape t) = word_Read.l4_0.g (fun a0 a1 => ((Prod.mk (.exit 0) (St.mk [(.ptr 0 []), (.ptr 1 [])] [(some (.var (.ints .u64 4 a0))), (some (.var (.ints .u64 4 a1)))])) : Ex × St)) n m t.1 t.2.1 t.2.2.1 t.2.2.2.1 t.2.2.2.2 :=
  loop_of_round (shape := word_Read.l4_0.shape) (body := roundOf (word_Read.C n) (word_Read.A n) n word_Read.b0) (g := fun m t => word_Read.l4_0.g (fun a0 a1 => ((Prod.mk (.exit 0) (St.mk [(.ptr 0 []), (.ptr 1 [])] [(some (.var (.ints .u64 4 a0))), (some (.var (.ints .u64 4 a1)))])) : Ex × St)) n m t.1 t.2.1 t.2.2.1 t.2.2.2.1 t.2.2.2.2) (fun t => rfl)
    fun m t ih => (word_Read.l4_0.round n (loopOf (roundOf (word_Read.C n) (word_Read.A n) n word_Read.b0) m) t.1 t.2.1 t.2.2.1 t.2.2.2.1 t.2.2.2.2).trans (congrFun (congrFun (congrFun (congrFun (congrFun (congrArg (word_Read.l4_0.r (fun a0 a1 => ((Prod.mk (.exit 0) (St.mk [(.ptr 0 []), (.ptr 1 [])] [(some (.var (.ints .u64 4 a0))), (some (.var (.ints .u64 4 a1)))])) : Ex × St)) n) (funext fun y0 => funext fun y1 => funext fun y2 => funext fun y3 => funext fun y4 => ih (y0, y1, y2, y3, y4))) t.1) t.2.1) t.2.2.1) t.2.2.2.1) t.2.2.2.2)
theorem word_Read.l4_0.loop (n m : Nat) (t : (Int × (Int × ((List Int) × ((List Int) × (List Int)))))) : loopOf (roundOf (word_Read.C n) (word_Read.A n) n word_Read.b0) m (word_Read.l4_0.shape t) = (word_Read.l4_0.m n m t).map word_Read.l4_0.res :=
  (word_Read.l4_0.loop' n m t).trans (word_Read.l4_0.gmap word_Read.l4_0.res (fun a0 a1 => (a0, a1)) n m t.1 t.2.1 t.2.2.1 t.2.2.2.1 t.2.2.2.2)
theorem word_Read.gmap {α β : Type} (h : β → α) (mk0 : (List Int) → β) (n : Nat) (a0 : (List Int)) : word_Read.g (fun a0 => (h (mk0 a0))) n a0 = (word_Read.g mk0 n a0).map h := by
  unfold word_Read.g
  exact (ite_map (ite_map (bindO_map fun r6 => rfl) rfl) rfl)
theorem word_Read.run (n : Nat) (a0 : (List Int)) : runF (word_Read.C n) (word_Read.A n) n Tryd.f12 [(.rints .u8 a0)] [] (fun v o => some (v, o)) = word_Read.g (fun a0 => ((Prod.mk (.ints .u64 4 a0) []) : AV × Blks)) n a0 := by kernel_rfl
theorem word_Read.call (hmix : Tryd.prog.follows .mixedOrders = true) (n : Nat) (t : (List Int)) (u) (h : word_Read.m n t = some u) : FnC Tryd.prog kecG 12 (word_Read.shape t).1 (word_Read.shape t).2 (word_Read.res u).1 (word_Read.res u).2 := by
  have hg : ∀ f m, (word_Read.C n).Γ f = some m → CalleeS Tryd.prog kecG f m := by
    intro f m hm
    unfold word_Read.C at hm
    simp only at hm
    first
    | (cases hm; done)
    | (split at hm <;> first
    | (cases hm; done))
  have hb : Tryd.f12.body = some (Tryd.f12.body.getD .skip) := by kernel_rfl
  refine runF_calls (C := word_Read.C n) (A := word_Read.A n) (n := n) (fn := Tryd.f12) hg hmix Tryd.func12 hb ?_ ?_ (by decide) rfl rfl (by show 1 ≤ Tryd.f12.ntmps; decide) ?_
  · rw [show loopsIn (Tryd.f12.body.getD .skip) = [word_Read.b0] by kernel_rfl]
    intro b hb m hm
    simp only [List.mem_cons, List.not_mem_nil, or_false] at hb
    rcases hb with rfl
    · have e : (word_Read.A n).loop (key word_Read.b0) = some (.mk' word_Read.l4_0.pat (word_Read.l4_0.m n n) word_Read.l4_0.resK) := by rw [show key word_Read.b0 = 4 by kernel_rfl]; rfl
      rw [e] at hm
      cases hm
      exact LoopS.of (res := word_Read.l4_0.res) (fun R u K => rfl) word_Read.l4_0.pat_shape fun t => word_Read.l4_0.loop n n t
  · intro a ha m hm
    cases (show none = some m from hm)
  · rw [show runF (word_Read.C n) (word_Read.A n) n Tryd.f12 (word_Read.shape t).1 (word_Read.shape t).2 (fun v o => some (v, o)) = _ from word_Read.run n t]
    have e := word_Read.gmap word_Read.res (fun a0 => a0) n t
    unfold word_Read.m at h
    rw [h] at e
    exact e
theorem word_Read.s (hmix : Tryd.prog.follows .mixedOrders = true) (n : Nat) : CalleeS Tryd.prog kecG 12 (word_Read.c n) :=
  CalleeS.of (res := word_Read.res) (shape := word_Read.shape) (fun R u K => rfl) (fun args lent t h => by
    unfold word_Read.pat at h
    split at h
    · cases h; rfl
    · cases h) fun t u h => (word_Read.call hmix n t u h).ok Tryd.func12 (by decide) (by kernel_rfl)
end
section
theorem keccak_Sum.l2_0.rmap {α β : Type} (h : β → α) (mk0 : (List Int) → (List Int) → (List Int) → β) (n : Nat) (f : (List Int) → (List Int) → (List Int) → Option β)  (x0 : (List Int)) (x1 : (List Int)) (x2 : (List Int)) : keccak_Sum.l2_0.r (fun a0 a1 a2 => (h (mk0 a0 a1 a2))) n (fun y0 y1 y2 => (f y0 y1 y2).map h) x0 x1 x2 = (keccak_Sum.l2_0.r mk0 n f x0 x1 x2).map h := by
  unfold keccak_Sum.l2_0.r
  exact (ite_map (ite_map (bindO_map fun r8 => (ite_map rfl rfl)) rfl) rfl)
theorem keccak_Sum.l2_0.gmap {α β : Type} (h : β → α) (mk0 : (List Int) → (List Int) → (List Int) → β) (n : Nat) : ∀ (m : Nat) (x0 : (List Int)) (x1 : (List Int)) (x2 : (List Int)), keccak_Sum.l2_0.g (fun a0 a1 a2 => (h (mk0 a0 a1 a2))) n m x0 x1 x2 = (keccak_Sum.l2_0.g mk0 n m x0 x1 x2).map h
  | 0, _, _, _ => rfl
  | m + 1, x0, x1, x2 => by
    unfold keccak_Sum.l2_0.g
    rw [← keccak_Sum.l2_0.rmap]
    congr
    · funext y0 y1 y2; exact keccak_Sum.l2_0.gmap h mk0 n m y0 y1 y2
theorem keccak_Sum.l2_0.pat_shape : ∀ st t, keccak_Sum.l2_0.pat st = some t → st = keccak_Sum.l2_0.shape t := by
  intro st t h
  unfold keccak_Sum.l2_0.pat at h
  split at h
  · cases h; rfl
  · cases h
theorem keccak_Sum.l2_0.round (n : Nat) (rc : St → Option (Ex × St)) (x0 : (List Int)) (x1 : (List Int)) (x2 : (List Int)) : roundOf (keccak_Sum.C n) (keccak_Sum.A n) n keccak_Sum.b0 rc ((St.mk [(.rints .u8 x0), (.ptr 0 []), (.ptr 1 [])] [(some (.var (.ints .u64 25 x1))), (some (.var (.ints .u64 4 x2)))])) = keccak_Sum.l2_0.r (fun a0 a1 a2 => ((Prod.mk (.exit 0) (St.mk [(.rints .u8 a0), (.ptr 0 []), (.ptr 1 [])] [(some (.var (.ints .u64 25 a1))), (some (.var (.ints .u64 4 a2)))])) : Ex × St)) n (fun y0 y1 y2 => rc ((St.mk [(.rints .u8 y0), (.ptr 0 []), (.ptr 1 [])] [(some (.var (.ints .u64 25 y1))), (some (.var (.ints .u64 4 y2)))]))) x0 x1 x2 := by kernel_rfl
theorem keccak_Sum.l2_0.loop' (n : Nat) : ∀ (m : Nat) (t : ((List Int) × ((List Int) × (List Int)))), loopOf (roundOf (keccak_Sum.C n) (keccak_Sum.A n) n keccak_Sum.b0) m (keccak_Sum.l2_0.shape t) = keccak_Sum.l2_0.g (fun a0 a1 a2 => ((Prod.mk (.exit 0) (St.mk [(.rints .u8 a0), (.ptr 0 []), (.ptr 1 [])] [(some (.var (.ints .u64 25 a1))), (some (.var (.ints .u64 4 a2)))])) : Ex × St)) n m t.1 t.2.1 t.2.2 :=
  loop_of_round (shape := keccak_Sum.l2_0.shape) (body := roundOf (keccak_Sum.C n) (keccak_Sum.A n) n keccak_Sum.b0) (g := fun m t => keccak_Sum.l2_0.g (fun a0 a1 a2 => ((Prod.mk (.exit 0) (St.mk [(.rints .u8 a0), (.ptr 0 []), (.ptr 1 [])] [(some (.var (.ints .u64 25 a1))), (some (.var (.ints .u64 4 a2)))])) : Ex × St)) n m t.1 t.2.1 t.2.2) (fun t => rfl)
    fun m t ih => (keccak_Sum.l2_0.round n (loopOf (roundOf (keccak_Sum.C n) (keccak_Sum.A n) n keccak_Sum.b0) m) t.1 t.2.1 t.2.2).trans (congrFun (congrFun (congrFun (congrArg (keccak_Sum.l2_0.r (fun a0 a1 a2 => ((Prod.mk (.exit 0) (St.mk [(.rints .u8 a0), (.ptr 0 []), (.ptr 1 [])] [(some (.var (.ints .u64 25 a1))), (some (.var (.ints .u64 4 a2)))])) : Ex × St)) n) (funext fun y0 => funext fun y1 => funext fun y2 => ih (y0, y1, y2))) t.1) t.2.1) t.2.2)
theorem keccak_Sum.l2_0.loop (n m : Nat) (t : ((List Int) × ((List Int) × (List Int)))) : loopOf (roundOf (keccak_Sum.C n) (keccak_Sum.A n) n keccak_Sum.b0) m (keccak_Sum.l2_0.shape t) = (keccak_Sum.l2_0.m n m t).map keccak_Sum.l2_0.res :=
  (keccak_Sum.l2_0.loop' n m t).trans (keccak_Sum.l2_0.gmap keccak_Sum.l2_0.res (fun a0 a1 a2 => (a0, a1, a2)) n m t.1 t.2.1 t.2.2)
theorem keccak_Sum.l12_0.rmap {α β : Type} (h : β → α) (mk0 : (List Int) → (List Int) → β) (n : Nat) (f : Int → (List Int) → (List Int) → (List Int) → Option β)  (x0 : Int) (x1 : (List Int)) (x2 : (List Int)) (x3 : (List Int)) : keccak_Sum.l12_0.r (fun a0 a1 => (h (mk0 a0 a1))) n (fun y0 y1 y2 y3 => (f y0 y1 y2 y3).map h) x0 x1 x2 x3 = (keccak_Sum.l12_0.r mk0 n f x0 x1 x2 x3).map h := by
  unfold keccak_Sum.l12_0.r
  exact (ite_map (ite_map (ite_map (ite_map (ite_map (ite_map rfl rfl) rfl) rfl) rfl) rfl) rfl)
theorem keccak_Sum.l12_0.gmap {α β : Type} (h : β → α) (mk0 : (List Int) → (List Int) → β) (n : Nat) : ∀ (m : Nat) (x0 : Int) (x1 : (List Int)) (x2 : (List Int)) (x3 : (List Int)), keccak_Sum.l12_0.g (fun a0 a1 => (h (mk0 a0 a1))) n m x0 x1 x2 x3 = (keccak_Sum.l12_0.g mk0 n m x0 x1 x2 x3).map h
  | 0, _, _, _, _ => rfl
  | m + 1, x0, x1, x2, x3 => by
    unfold keccak_Sum.l12_0.g
    rw [← keccak_Sum.l12_0.rmap]
    congr
    · funext y0 y1 y2 y3; exact keccak_Sum.l12_0.gmap h mk0 n m y0 y1 y2 y3
theorem keccak_Sum.l12_0.pat_shape : ∀ st t, keccak_Sum.l12_0.pat st = some t → st = keccak_Sum.l12_0.shape t := by
  intro st t h
  unfold keccak_Sum.l12_0.pat at h
  split at h
  · cases h; rfl
  · cases h
theorem keccak_Sum.l12_0.round (n : Nat) (rc : St → Option (Ex × St)) (x0 : Int) (x1 : (List Int)) (x2 : (List Int)) (x3 : (List Int)) : roundOf (keccak_Sum.C n) (keccak_Sum.A n) n keccak_Sum.b1 rc ((St.mk [(.int .i64 x0), (.ptr 0 []), (.ptr 1 []), (.ptr 2 [])] [(some (.var (.ints .u64 25 x1))), (some (.var (.ints .u8 32 x2))), (some (.var (.ints .u64 4 x3)))])) = keccak_Sum.l12_0.r (fun a0 a1 => ((Prod.mk (.exit 2) (St.mk [(.ptr 0 []), (.ptr 1 [])] [(some (.var (.ints .u8 32 a0))), (some (.var (.ints .u64 4 a1)))])) : Ex × St)) n (fun y0 y1 y2 y3 => rc ((St.mk [(.int .i64 y0), (.ptr 0 []), (.ptr 1 []), (.ptr 2 [])] [(some (.var (.ints .u64 25 y1))), (some (.var (.ints .u8 32 y2))), (some (.var (.ints .u64 4 y3)))]))) x0 x1 x2 x3 := by kernel_rfl
theorem keccak_Sum.l12_0.loop' (n : Nat) : ∀ (m : Nat) (t : (Int × ((List Int) × ((List Int) × (List Int))))), loopOf (roundOf (keccak_Sum.C n) (keccak_Sum.A n) n keccak_Sum.b1) m (keccak_Sum.l12_0.shape t) = keccak_Sum.l12_0.g (fun a0 a1 => ((Prod.mk (.exit 2) (St.mk [(.ptr 0 []), (.ptr 1 [])] [(some (.var (.ints .u8 32 a0))), (some (.var (.ints .u64 4 a1)))])) : Ex × St)) n m t.1 t.2.1 t.2.2.1 t.2.2.2 :=
  loop_of_round (shape := keccak_Sum.l12_0.shape) (body := roundOf (keccak_Sum.C n) (keccak_Sum.A n) n keccak_Sum.b1) (g := fun m t => keccak_Sum.l12_0.g (fun a0 a1 => ((Prod.mk (.exit 2) (St.mk [(.ptr 0 []), (.ptr 1 [])] [(some (.var (.ints .u8 32 a0))), (some (.var (.ints .u64 4 a1)))])) : Ex × St)) n m t.1 t.2.1 t.2.2.1 t.2.2.2) (fun t => rfl)
    fun m t ih => (keccak_Sum.l12_0.round n (loopOf (roundOf (keccak_Sum.C n) (keccak_Sum.A n) n keccak_Sum.b1) m) t.1 t.2.1 t.2.2.1 t.2.2.2).trans (congrFun (congrFun (congrFun (congrFun (congrArg (keccak_Sum.l12_0.r (fun a0 a1 => ((Prod.mk (.exit 2) (St.mk [(.ptr 0 []), (.ptr 1 [])] [(some (.var (.ints .u8 32 a0))), (some (.var (.ints .u64 4 a1)))])) : Ex × St)) n) (funext fun y0 => funext fun y1 => funext fun y2 => funext fun y3 => ih (y0, y1, y2, y3))) t.1) t.2.1) t.2.2.1) t.2.2.2)
theorem keccak_Sum.l12_0.loop (n m : Nat) (t : (Int × ((List Int) × ((List Int) × (List Int))))) : loopOf (roundOf (keccak_Sum.C n) (keccak_Sum.A n) n keccak_Sum.b1) m (keccak_Sum.l12_0.shape t) = (keccak_Sum.l12_0.m n m t).map keccak_Sum.l12_0.res :=
  (keccak_Sum.l12_0.loop' n m t).trans (keccak_Sum.l12_0.gmap keccak_Sum.l12_0.res (fun a0 a1 => (a0, a1)) n m t.1 t.2.1 t.2.2.1 t.2.2.2)
theorem keccak_Sum.gmap {α β : Type} (h : β → α) (mk0 : (List Int) → β) (n : Nat) (a0 : (List Int)) : keccak_Sum.g (fun a0 => (h (mk0 a0))) n a0 = (keccak_Sum.g mk0 n a0).map h := by
  unfold keccak_Sum.g
  exact (bindO_map fun r2 => (ite_map (ite_map (bindO_map fun r8 => (bindO_map fun r10 => (bindO_map fun r12 => rfl))) rfl) rfl))
theorem keccak_Sum.run (n : Nat) (a0 : (List Int)) : runF (keccak_Sum.C n) (keccak_Sum.A n) n Tryd.f7 [(.rints .u8 a0)] [] (fun v o => some (v, o)) = keccak_Sum.g (fun a0 => ((Prod.mk (.ints .u64 4 a0) []) : AV × Blks)) n a0 := by kernel_rfl
theorem keccak_Sum.call (hmix : Tryd.prog.follows .mixedOrders = true) (n : Nat) (t : (List Int)) (u) (h : keccak_Sum.m n t = some u) : FnC Tryd.prog kecG 7 (keccak_Sum.shape t).1 (keccak_Sum.shape t).2 (keccak_Sum.res u).1 (keccak_Sum.res u).2 := by
  have hg : ∀ f m, (keccak_Sum.C n).Γ f = some m → CalleeS Tryd.prog kecG f m := by
    intro f m hm
    unfold keccak_Sum.C at hm
    simp only at hm
    first
    | (cases hm; done)
    | (split at hm <;> first
    | (cases hm; exact keccak_state_take.s hmix n)
    | (cases hm; exact word_Read.s hmix n)
    | (cases hm; done))
  have hb : Tryd.f7.body = some (Tryd.f7.body.getD .skip) := by kernel_rfl
  refine runF_calls (C := keccak_Sum.C n) (A := keccak_Sum.A n) (n := n) (fn := Tryd.f7) hg hmix Tryd.func7 hb ?_ ?_ (by decide) rfl rfl (by show 1 ≤ Tryd.f7.ntmps; decide) ?_
  · rw [show loopsIn (Tryd.f7.body.getD .skip) = [keccak_Sum.b0, keccak_Sum.b1] by kernel_rfl]
    intro b hb m hm
    simp only [List.mem_cons, List.not_mem_nil, or_false] at hb
    rcases hb with rfl | rfl
    · have e : (keccak_Sum.A n).loop (key keccak_Sum.b0) = some (.mk' keccak_Sum.l2_0.pat (keccak_Sum.l2_0.m n n) keccak_Sum.l2_0.resK) := by rw [show key keccak_Sum.b0 = 2 by kernel_rfl]; rfl
      rw [e] at hm
      cases hm
      exact LoopS.of (res := keccak_Sum.l2_0.res) (fun R u K => rfl) keccak_Sum.l2_0.pat_shape fun t => keccak_Sum.l2_0.loop n n t
    · have e : (keccak_Sum.A n).loop (key keccak_Sum.b1) = some (.mk' keccak_Sum.l12_0.pat (keccak_Sum.l12_0.m n n) keccak_Sum.l12_0.resK) := by rw [show key keccak_Sum.b1 = 12 by kernel_rfl]; rfl
      rw [e] at hm
      cases hm
      exact LoopS.of (res := keccak_Sum.l12_0.res) (fun R u K => rfl) keccak_Sum.l12_0.pat_shape fun t => keccak_Sum.l12_0.loop n n t
  · intro a ha m hm
    cases (show none = some m from hm)
  · rw [show runF (keccak_Sum.C n) (keccak_Sum.A n) n Tryd.f7 (keccak_Sum.shape t).1 (keccak_Sum.shape t).2 (fun v o => some (v, o)) = _ from keccak_Sum.run n t]
    have e := keccak_Sum.gmap keccak_Sum.res (fun a0 => a0) n t
    unfold keccak_Sum.m at h
    rw [h] at e
    exact e
theorem keccak_Sum.s (hmix : Tryd.prog.follows .mixedOrders = true) (n : Nat) : CalleeS Tryd.prog kecG 7 (keccak_Sum.c n) :=
  CalleeS.of (res := keccak_Sum.res) (shape := keccak_Sum.shape) (fun R u K => rfl) (fun args lent t h => by
    unfold keccak_Sum.pat at h
    split at h
    · cases h; rfl
    · cases h) fun t u h => (keccak_Sum.call hmix n t u h).ok Tryd.func7 (by decide) (by kernel_rfl)
end
section
noncomputable section
noncomputable def q01_Read.C (n : Nat) : Ctx := ⟨Tryd.prog, kecG, fun f => match f with
 | _ => none⟩
def q01_Read.live : Nat → List Nat × List Nat := fun k => match k with
 | 4 => ([5, 4, 3, 0, 2], [3, 2])
 | _ => ([], [])
def q01_Read.jlive : Nat → List Nat × List Nat := fun k => match k with
 | _ => ([], [])
def q01_Read.l4_0.r {α : Type} (mk0 : (List Int) → (List Int) → α) (n : Nat) (rc : Int → Int → (List Int) → (List Int) → (List Int) → Option α)  (x0 : Int) (x1 : Int) (x2 : (List Int)) (x3 : (List Int)) (x4 : (List Int)) : Option α :=
  if (decide (x0 < 32)) = true then
   if (decide (x0 < x1)) = true then
    if 0 ≤ (IntKind.wrap .i64 (Int.tdiv x0 8)) then
     if (IntKind.wrap .i64 (Int.tdiv x0 8)) < 4 then
      if 0 ≤ (IntKind.wrap .i64 ((IntKind.wrap .i64 (x1 - 1)) - x0)) then
       if (IntKind.wrap .i64 ((IntKind.wrap .i64 (x1 - 1)) - x0)) < (((List.length x2) : Nat) : Int) then
        if 0 ≤ (IntKind.wrap .u64 (IntKind.wrap .i64 ((Int.tmod x0 8) * 8))) then
         if 0 ≤ (IntKind.wrap .i64 (Int.tdiv x0 8)) then
          if (IntKind.wrap .i64 (Int.tdiv x0 8)) < 4 then
           rc (IntKind.wrap .i64 (x0 + 1)) x1 x2 (List.set x3 (Int.toNat (IntKind.wrap .i64 (Int.tdiv x0 8))) (ibits BinOp.or .u64 (List.getD x3 (Int.toNat (IntKind.wrap .i64 (Int.tdiv x0 8))) 0) (ishl .u64 (IntKind.wrap .u64 (List.getD x2 (Int.toNat (IntKind.wrap .i64 ((IntKind.wrap .i64 (x1 - 1)) - x0))) 0)) (IntKind.wrap .u64 (IntKind.wrap .i64 ((Int.tmod x0 8) * 8)))))) x4
          else
           none
         else
          none
        else
         none
       else
        none
      else
       none
     else
      none
    else
     none
   else
    some (mk0 x3 x4)
  else
   some (mk0 x3 x4)
def q01_Read.l4_0.g {α : Type} (mk0 : (List Int) → (List Int) → α) (n : Nat) : Nat → Int → Int → (List Int) → (List Int) → (List Int) → Option α
 | 0, _, _, _, _, _ => none
 | m + 1, x0, x1, x2, x3, x4 => q01_Read.l4_0.r mk0 n (fun y0 y1 y2 y3 y4 => q01_Read.l4_0.g mk0 n m y0 y1 y2 y3 y4)  x0 x1 x2 x3 x4
def q01_Read.l4_0.m (n m : Nat) (t : (Int × (Int × ((List Int) × ((List Int) × (List Int)))))) : Option ((List Int) × (List Int)) := q01_Read.l4_0.g (fun a0 a1 => (a0, a1)) n m t.1 t.2.1 t.2.2.1 t.2.2.2.1 t.2.2.2.2
def q01_Read.l4_0.pat : St → Option (Int × (Int × ((List Int) × ((List Int) × (List Int)))))
 | (St.mk [(.int .i64 x0), (.int .i64 x1), (.ptr 0 []), (.rints .u8 x2), (.ptr 1 [])] [(some (.var (.ints .u64 4 x3))), (some (.var (.ints .u64 4 x4)))]) => some (x0, x1, x2, x3, x4)
 | _ => none
def q01_Read.l4_0.shape (t : (Int × (Int × ((List Int) × ((List Int) × (List Int)))))) : St := (St.mk [(.int .i64 t.1), (.int .i64 t.2.1), (.ptr 0 []), (.rints .u8 t.2.2.1), (.ptr 1 [])] [(some (.var (.ints .u64 4 t.2.2.2.1))), (some (.var (.ints .u64 4 t.2.2.2.2)))])
def q01_Read.l4_0.res : ((List Int) × (List Int)) → Ex × St
 | u => (Prod.mk (.exit 0) (St.mk [(.ptr 0 []), (.ptr 1 [])] [(some (.var (.ints .u64 4 u.1))), (some (.var (.ints .u64 4 u.2)))]))
def q01_Read.l4_0.resK {R : Type} (u : ((List Int) × (List Int))) (K : Ex → St → Option R) : Option R := (fun p : Ex × St => K p.1 p.2) (Prod.mk (.exit 0) (St.mk [(.ptr 0 []), (.ptr 1 [])] [(some (.var (.ints .u64 4 u.1))), (some (.var (.ints .u64 4 u.2)))]))
noncomputable def q01_Read.A (n : Nat) : Ann := ⟨Tryd.f16.ntmps, 0, q01_Read.live, [(0, (.ints .u8))], [none], fun k => match k with
 | 4 => some (.mk' q01_Read.l4_0.pat (q01_Read.l4_0.m n n) q01_Read.l4_0.resK)
 | _ => none, q01_Read.jlive, lookJ []⟩
noncomputable def q01_Read.b0 : Code := (loopsIn (Tryd.f16.body.getD .skip)).getD 0 .skip
def q01_Read.g {α : Type} (mk0 : (List Int) → α) (n : Nat) (a0 : (List Int)) : Option α :=
 bindO (q01_Read.l4_0.m n n (0, (((List.length a0) : Nat) : Int), a0, [0, 0, 0, 0], [0, 0, 0, 0])) fun r2 =>
  some (mk0 (Prod.fst r2))
def q01_Read.m (n : Nat) (t : (List Int)) : Option (List Int) := q01_Read.g (fun a0 => a0) n t
def q01_Read.pat : List AV → Blks → Option (List Int)
 | [(.rints .u8 a0)], [] => some a0
 | _, _ => none
def q01_Read.shape (t : (List Int)) : List AV × Blks := ([(.rints .u8 t)], [])
def q01_Read.res : (List Int) → AV × Blks
 | u => (Prod.mk (.ints .u64 4 u) [])
def q01_Read.resK {R : Type} (u : (List Int)) (K : AV → Blks → Option R) : Option R := (fun p : AV × Blks => K p.1 p.2) (Prod.mk (.ints .u64 4 u) [])
def q01_Read.c (n : Nat) : Abs.Callee := .mk' [] [(some (.ints .u8))] q01_Read.pat (q01_Read.m n) q01_Read.resK
end
end
section
noncomputable section
noncomputable def q02_Sum.C (n : Nat) : Ctx := ⟨Tryd.prog, kecG, fun f => match f with
 | 13 => some (q02_turns.c n)
 | 14 => some (q02_keys.c n)
 | 15 => some (q02_mix.c n)
 | 16 => some (q01_Read.c n)
 | _ => none⟩
def q02_Sum.live : Nat → List Nat × List Nat := fun k => match k with
 | 4 => ([3, 2], [3, 2])
 | 11 => ([7, 3, 6, 4, 5, 2], [6, 2])
 | 14 => ([8, 6, 3, 7, 4, 5, 2], [6, 4, 5, 7, 3, 2])
 | 17 => ([9, 6, 8, 3, 7, 4, 5, 2], [8, 6, 3, 7, 4, 5, 2])
 | 23 => ([11, 10, 6, 2], [10, 2])
 | 26 => ([12, 10, 6, 11, 2], [11, 10, 6, 2])
 | _ => ([], [])
def q02_Sum.jlive : Nat → List Nat × List Nat := fun k => match k with
 | _ => ([], [])
def q02_Sum.l4_0.r {α : Type} (mk0 : (List Int) → (List Int) → α) (n : Nat) (rc : (List Int) → (List Int) → Option α)  (x0 : (List Int)) (x1 : (List Int)) : Option α :=
  if ((Int.tmod (((List.length x0) : Nat) : Int) 136) != 0) = true then
   if ((((List.length x0) + 1) * 1) ≤ 70368744177664 ∧ ((List.length x0) + 1) ≤ 9223372036854775807) then
    rc (x0 ++ [0]) x1
   else
    none
  else
   some (mk0 x0 x1)
def q02_Sum.l4_0.g {α : Type} (mk0 : (List Int) → (List Int) → α) (n : Nat) : Nat → (List Int) → (List Int) → Option α
 | 0, _, _ => none
 | m + 1, x0, x1 => q02_Sum.l4_0.r mk0 n (fun y0 y1 => q02_Sum.l4_0.g mk0 n m y0 y1)  x0 x1
def q02_Sum.l4_0.m (n m : Nat) (t : ((List Int) × (List Int))) : Option ((List Int) × (List Int)) := q02_Sum.l4_0.g (fun a0 a1 => (a0, a1)) n m t.1 t.2
def q02_Sum.l4_0.pat : St → Option ((List Int) × (List Int))
 | (St.mk [(.own 0 1), (.ptr 1 [])] [(some (.ints .u8 x0)), (some (.var (.ints .u64 4 x1)))]) => some (x0, x1)
 | _ => none
def q02_Sum.l4_0.shape (t : ((List Int) × (List Int))) : St := (St.mk [(.own 0 1), (.ptr 1 [])] [(some (.ints .u8 t.1)), (some (.var (.ints .u64 4 t.2)))])
def q02_Sum.l4_0.res : ((List Int) × (List Int)) → Ex × St
 | u => (Prod.mk (.exit 0) (St.mk [(.own 0 1), (.ptr 1 [])] [(some (.ints .u8 u.1)), (some (.var (.ints .u64 4 u.2)))]))
def q02_Sum.l4_0.resK {R : Type} (u : ((List Int) × (List Int))) (K : Ex → St → Option R) : Option R := (fun p : Ex × St => K p.1 p.2) (Prod.mk (.exit 0) (St.mk [(.own 0 1), (.ptr 1 [])] [(some (.ints .u8 u.1)), (some (.var (.ints .u64 4 u.2)))]))
def q02_Sum.l17_0.r {α : Type} (mk0 : Int → Int → (List Int) → (List Int) → (List Int) → (List Int) → (List Int) → α) (n : Nat) (rc : Int → Int → Int → (List Int) → (List Int) → (List Int) → (List Int) → (List Int) → Option α)  (x0 : Int) (x1 : Int) (x2 : Int) (x3 : (List Int)) (x4 : (List Int)) (x5 : (List Int)) (x6 : (List Int)) (x7 : (List Int)) : Option α :=
  if (decide (x0 < 8)) = true then
   if 0 ≤ x1 then
    if x1 < (((List.length x3) : Nat) : Int) then
     if 0 ≤ (IntKind.wrap .i64 ((IntKind.wrap .i64 (x2 + (IntKind.wrap .i64 (8 * x1)))) + x0)) then
      if (IntKind.wrap .i64 ((IntKind.wrap .i64 (x2 + (IntKind.wrap .i64 (8 * x1)))) + x0)) < (((List.length x4) : Nat) : Int) then
       if 0 ≤ (IntKind.wrap .u64 (IntKind.wrap .i64 (8 * x0))) then
        if 0 ≤ x1 then
         if x1 < (((List.length x3) : Nat) : Int) then
          rc (IntKind.wrap .i64 (x0 + 1)) x1 x2 (List.set x3 (Int.toNat x1) (ibits BinOp.xor .u64 (List.getD x3 (Int.toNat x1) 0) (ishl .u64 (IntKind.wrap .u64 (List.getD x4 (Int.toNat (IntKind.wrap .i64 ((IntKind.wrap .i64 (x2 + (IntKind.wrap .i64 (8 * x1)))) + x0))) 0)) (IntKind.wrap .u64 (IntKind.wrap .i64 (8 * x0)))))) x4 x5 x6 x7
         else
          none
        else
         none
       else
        none
      else
       none
     else
      none
    else
     none
   else
    none
  else
   some (mk0 x1 x2 x3 x4 x5 x6 x7)
def q02_Sum.l17_0.g {α : Type} (mk0 : Int → Int → (List Int) → (List Int) → (List Int) → (List Int) → (List Int) → α) (n : Nat) : Nat → Int → Int → Int → (List Int) → (List Int) → (List Int) → (List Int) → (List Int) → Option α
 | 0, _, _, _, _, _, _, _, _ => none
 | m + 1, x0, x1, x2, x3, x4, x5, x6, x7 => q02_Sum.l17_0.r mk0 n (fun y0 y1 y2 y3 y4 y5 y6 y7 => q02_Sum.l17_0.g mk0 n m y0 y1 y2 y3 y4 y5 y6 y7)  x0 x1 x2 x3 x4 x5 x6 x7
def q02_Sum.l17_0.m (n m : Nat) (t : (Int × (Int × (Int × ((List Int) × ((List Int) × ((List Int) × ((List Int) × (List Int))))))))) : Option (Int × (Int × ((List Int) × ((List Int) × ((List Int) × ((List Int) × (List Int))))))) := q02_Sum.l17_0.g (fun a0 a1 a2 a3 a4 a5 a6 => (a0, a1, a2, a3, a4, a5, a6)) n m t.1 t.2.1 t.2.2.1 t.2.2.2.1 t.2.2.2.2.1 t.2.2.2.2.2.1 t.2.2.2.2.2.2.1 t.2.2.2.2.2.2.2
def q02_Sum.l17_0.pat : St → Option (Int × (Int × (Int × ((List Int) × ((List Int) × ((List Int) × ((List Int) × (List Int))))))))
 | (St.mk [(.int .i64 x0), (.own 0 1), (.int .i64 x1), (.own 1 1), (.int .i64 x2), (.own 2 1), (.own 3 1), (.ptr 4 [])] [(some (.ints .u64 x3)), (some (.ints .u8 x4)), (some (.ints .i64 x5)), (some (.ints .u64 x6)), (some (.var (.ints .u64 4 x7)))]) => some (x0, x1, x2, x3, x4, x5, x6, x7)
 | _ => none
def q02_Sum.l17_0.shape (t : (Int × (Int × (Int × ((List Int) × ((List Int) × ((List Int) × ((List Int) × (List Int))))))))) : St := (St.mk [(.int .i64 t.1), (.own 0 1), (.int .i64 t.2.1), (.own 1 1), (.int .i64 t.2.2.1), (.own 2 1), (.own 3 1), (.ptr 4 [])] [(some (.ints .u64 t.2.2.2.1)), (some (.ints .u8 t.2.2.2.2.1)), (some (.ints .i64 t.2.2.2.2.2.1)), (some (.ints .u64 t.2.2.2.2.2.2.1)), (some (.var (.ints .u64 4 t.2.2.2.2.2.2.2)))])
def q02_Sum.l17_0.res : (Int × (Int × ((List Int) × ((List Int) × ((List Int) × ((List Int) × (List Int))))))) → Ex × St
 | u => (Prod.mk (.exit 6) (St.mk [(.int .i64 u.1), (.own 0 1), (.own 1 1), (.int .i64 u.2.1), (.own 2 1), (.own 3 1), (.ptr 4 [])] [(some (.ints .u64 u.2.2.1)), (some (.ints .u8 u.2.2.2.1)), (some (.ints .i64 u.2.2.2.2.1)), (some (.ints .u64 u.2.2.2.2.2.1)), (some (.var (.ints .u64 4 u.2.2.2.2.2.2)))]))
def q02_Sum.l17_0.resK {R : Type} (u : (Int × (Int × ((List Int) × ((List Int) × ((List Int) × ((List Int) × (List Int)))))))) (K : Ex → St → Option R) : Option R := (fun p : Ex × St => K p.1 p.2) (Prod.mk (.exit 6) (St.mk [(.int .i64 u.1), (.own 0 1), (.own 1 1), (.int .i64 u.2.1), (.own 2 1), (.own 3 1), (.ptr 4 [])] [(some (.ints .u64 u.2.2.1)), (some (.ints .u8 u.2.2.2.1)), (some (.ints .i64 u.2.2.2.2.1)), (some (.ints .u64 u.2.2.2.2.2.1)), (some (.var (.ints .u64 4 u.2.2.2.2.2.2)))]))
def q02_Sum.l14_0.r {α : Type} (mk0 : Int → (List Int) → (List Int) → (List Int) → (List Int) → (List Int) → α) (n : Nat) (rc : Int → Int → (List Int) → (List Int) → (List Int) → (List Int) → (List Int) → Option α)  (x0 : Int) (x1 : Int) (x2 : (List Int)) (x3 : (List Int)) (x4 : (List Int)) (x5 : (List Int)) (x6 : (List Int)) : Option α :=
  if (decide (x0 < 17)) = true then
   bindO (q02_Sum.l17_0.m n n (0, x0, x1, x2, x3, x4, x5, x6)) fun r6 =>
    rc (IntKind.wrap .i64 ((Prod.fst r6) + 1)) (Prod.fst (Prod.snd r6)) (Prod.fst (Prod.snd (Prod.snd r6))) (Prod.fst (Prod.snd (Prod.snd (Prod.snd r6)))) (Prod.fst (Prod.snd (Prod.snd (Prod.snd (Prod.snd r6))))) (Prod.fst (Prod.snd (Prod.snd (Prod.snd (Prod.snd (Prod.snd r6)))))) (Prod.snd (Prod.snd (Prod.snd (Prod.snd (Prod.snd (Prod.snd r6))))))
  else
   some (mk0 x1 x2 x4 x5 x3 x6)
def q02_Sum.l14_0.g {α : Type} (mk0 : Int → (List Int) → (List Int) → (List Int) → (List Int) → (List Int) → α) (n : Nat) : Nat → Int → Int → (List Int) → (List Int) → (List Int) → (List Int) → (List Int) → Option α
 | 0, _, _, _, _, _, _, _ => none
 | m + 1, x0, x1, x2, x3, x4, x5, x6 => q02_Sum.l14_0.r mk0 n (fun y0 y1 y2 y3 y4 y5 y6 => q02_Sum.l14_0.g mk0 n m y0 y1 y2 y3 y4 y5 y6)  x0 x1 x2 x3 x4 x5 x6
def q02_Sum.l14_0.m (n m : Nat) (t : (Int × (Int × ((List Int) × ((List Int) × ((List Int) × ((List Int) × (List Int)))))))) : Option (Int × ((List Int) × ((List Int) × ((List Int) × ((List Int) × (List Int)))))) := q02_Sum.l14_0.g (fun a0 a1 a2 a3 a4 a5 => (a0, a1, a2, a3, a4, a5)) n m t.1 t.2.1 t.2.2.1 t.2.2.2.1 t.2.2.2.2.1 t.2.2.2.2.2.1 t.2.2.2.2.2.2
def q02_Sum.l14_0.pat : St → Option (Int × (Int × ((List Int) × ((List Int) × ((List Int) × ((List Int) × (List Int)))))))
 | (St.mk [(.int .i64 x0), (.own 0 1), (.own 1 1), (.int .i64 x1), (.own 2 1), (.own 3 1), (.ptr 4 [])] [(some (.ints .u64 x2)), (some (.ints .u8 x3)), (some (.ints .i64 x4)), (some (.ints .u64 x5)), (some (.var (.ints .u64 4 x6)))]) => some (x0, x1, x2, x3, x4, x5, x6)
 | _ => none
def q02_Sum.l14_0.shape (t : (Int × (Int × ((List Int) × ((List Int) × ((List Int) × ((List Int) × (List Int)))))))) : St := (St.mk [(.int .i64 t.1), (.own 0 1), (.own 1 1), (.int .i64 t.2.1), (.own 2 1), (.own 3 1), (.ptr 4 [])] [(some (.ints .u64 t.2.2.1)), (some (.ints .u8 t.2.2.2.1)), (some (.ints .i64 t.2.2.2.2.1)), (some (.ints .u64 t.2.2.2.2.2.1)), (some (.var (.ints .u64 4 t.2.2.2.2.2.2)))])
def q02_Sum.l14_0.res : (Int × ((List Int) × ((List Int) × ((List Int) × ((List Int) × (List Int)))))) → Ex × St
 | u => (Prod.mk (.exit 4) (St.mk [(.own 0 1), (.own 1 1), (.own 2 1), (.int .i64 u.1), (.own 3 1), (.ptr 4 [])] [(some (.ints .u64 u.2.1)), (some (.ints .i64 u.2.2.1)), (some (.ints .u64 u.2.2.2.1)), (some (.ints .u8 u.2.2.2.2.1)), (some (.var (.ints .u64 4 u.2.2.2.2.2)))]))
def q02_Sum.l14_0.resK {R : Type} (u : (Int × ((List Int) × ((List Int) × ((List Int) × ((List Int) × (List Int))))))) (K : Ex → St → Option R) : Option R := (fun p : Ex × St => K p.1 p.2) (Prod.mk (.exit 4) (St.mk [(.own 0 1), (.own 1 1), (.own 2 1), (.int .i64 u.1), (.own 3 1), (.ptr 4 [])] [(some (.ints .u64 u.2.1)), (some (.ints .i64 u.2.2.1)), (some (.ints .u64 u.2.2.2.1)), (some (.ints .u8 u.2.2.2.2.1)), (some (.var (.ints .u64 4 u.2.2.2.2.2)))]))
def q02_Sum.l11_0.r {α : Type} (mk0 : (List Int) → (List Int) → α) (n : Nat) (rc : Int → (List Int) → (List Int) → (List Int) → (List Int) → (List Int) → Option α)  (x0 : Int) (x1 : (List Int)) (x2 : (List Int)) (x3 : (List Int)) (x4 : (List Int)) (x5 : (List Int)) : Option α :=
  if (decide (x0 < (((List.length x1) : Nat) : Int))) = true then
   bindO (q02_Sum.l14_0.m n n (0, x0, x2, x1, x3, x4, x5)) fun r6 =>
    bindO (q02_mix.m n (Prod.mk (Prod.fst (Prod.snd r6)) (Prod.mk (Prod.fst (Prod.snd (Prod.snd r6))) (Prod.fst (Prod.snd (Prod.snd (Prod.snd r6))))))) fun r8 => match r8 with
     | (.inl r8) =>
      rc (IntKind.wrap .i64 ((Prod.fst r6) + 136)) (Prod.fst (Prod.snd (Prod.snd (Prod.snd (Prod.snd r6))))) r8 (Prod.fst (Prod.snd (Prod.snd r6))) (Prod.fst (Prod.snd (Prod.snd (Prod.snd r6)))) (Prod.snd (Prod.snd (Prod.snd (Prod.snd (Prod.snd r6)))))
     | (.inr r8) =>
      none
  else
   some (mk0 x2 x5)
def q02_Sum.l11_0.g {α : Type} (mk0 : (List Int) → (List Int) → α) (n : Nat) : Nat → Int → (List Int) → (List Int) → (List Int) → (List Int) → (List Int) → Option α
 | 0, _, _, _, _, _, _ => none
 | m + 1, x0, x1, x2, x3, x4, x5 => q02_Sum.l11_0.r mk0 n (fun y0 y1 y2 y3 y4 y5 => q02_Sum.l11_0.g mk0 n m y0 y1 y2 y3 y4 y5)  x0 x1 x2 x3 x4 x5
def q02_Sum.l11_0.m (n m : Nat) (t : (Int × ((List Int) × ((List Int) × ((List Int) × ((List Int) × (List Int))))))) : Option ((List Int) × (List Int)) := q02_Sum.l11_0.g (fun a0 a1 => (a0, a1)) n m t.1 t.2.1 t.2.2.1 t.2.2.2.1 t.2.2.2.2.1 t.2.2.2.2.2
def q02_Sum.l11_0.pat : St → Option (Int × ((List Int) × ((List Int) × ((List Int) × ((List Int) × (List Int))))))
 | (St.mk [(.int .i64 x0), (.own 0 1), (.own 1 1), (.own 2 1), (.own 3 1), (.ptr 4 [])] [(some (.ints .u8 x1)), (some (.ints .u64 x2)), (some (.ints .i64 x3)), (some (.ints .u64 x4)), (some (.var (.ints .u64 4 x5)))]) => some (x0, x1, x2, x3, x4, x5)
 | _ => none
def q02_Sum.l11_0.shape (t : (Int × ((List Int) × ((List Int) × ((List Int) × ((List Int) × (List Int))))))) : St := (St.mk [(.int .i64 t.1), (.own 0 1), (.own 1 1), (.own 2 1), (.own 3 1), (.ptr 4 [])] [(some (.ints .u8 t.2.1)), (some (.ints .u64 t.2.2.1)), (some (.ints .i64 t.2.2.2.1)), (some (.ints .u64 t.2.2.2.2.1)), (some (.var (.ints .u64 4 t.2.2.2.2.2)))])
def q02_Sum.l11_0.res : ((List Int) × (List Int)) → Ex × St
 | u => (Prod.mk (.exit 2) (St.mk [(.own 0 1), (.ptr 1 [])] [(some (.ints .u64 u.1)), (some (.var (.ints .u64 4 u.2)))]))
def q02_Sum.l11_0.resK {R : Type} (u : ((List Int) × (List Int))) (K : Ex → St → Option R) : Option R := (fun p : Ex × St => K p.1 p.2) (Prod.mk (.exit 2) (St.mk [(.own 0 1), (.ptr 1 [])] [(some (.ints .u64 u.1)), (some (.var (.ints .u64 4 u.2)))]))
def q02_Sum.l26_0.r {α : Type} (mk0 : Int → (List Int) → (List Int) → (List Int) → α) (n : Nat) (rc : Int → Int → (List Int) → (List Int) → (List Int) → Option α)  (x0 : Int) (x1 : Int) (x2 : (List Int)) (x3 : (List Int)) (x4 : (List Int)) : Option α :=
  if (decide (x0 < 8)) = true then
   if 0 ≤ x1 then
    if x1 < (((List.length x3) : Nat) : Int) then
     if 0 ≤ (IntKind.wrap .u64 (IntKind.wrap .i64 (8 * x0))) then
      if ((((List.length x2) + 1) * 1) ≤ 70368744177664 ∧ ((List.length x2) + 1) ≤ 9223372036854775807) then
       rc (IntKind.wrap .i64 (x0 + 1)) x1 (x2 ++ [(IntKind.wrap .u8 (ishr .u64 (List.getD x3 (Int.toNat x1) 0) (IntKind.wrap .u64 (IntKind.wrap .i64 (8 * x0)))))]) x3 x4
      else
       none
     else
      none
    else
     none
   else
    none
  else
   some (mk0 x1 x2 x3 x4)
def q02_Sum.l26_0.g {α : Type} (mk0 : Int → (List Int) → (List Int) → (List Int) → α) (n : Nat) : Nat → Int → Int → (List Int) → (List Int) → (List Int) → Option α
 | 0, _, _, _, _, _ => none
 | m + 1, x0, x1, x2, x3, x4 => q02_Sum.l26_0.r mk0 n (fun y0 y1 y2 y3 y4 => q02_Sum.l26_0.g mk0 n m y0 y1 y2 y3 y4)  x0 x1 x2 x3 x4
def q02_Sum.l26_0.m (n m : Nat) (t : (Int × (Int × ((List Int) × ((List Int) × (List Int)))))) : Option (Int × ((List Int) × ((List Int) × (List Int)))) := q02_Sum.l26_0.g (fun a0 a1 a2 a3 => (a0, a1, a2, a3)) n m t.1 t.2.1 t.2.2.1 t.2.2.2.1 t.2.2.2.2
def q02_Sum.l26_0.pat : St → Option (Int × (Int × ((List Int) × ((List Int) × (List Int)))))
 | (St.mk [(.int .i64 x0), (.own 0 1), (.own 1 1), (.int .i64 x1), (.ptr 2 [])] [(some (.ints .u8 x2)), (some (.ints .u64 x3)), (some (.var (.ints .u64 4 x4)))]) => some (x0, x1, x2, x3, x4)
 | _ => none
def q02_Sum.l26_0.shape (t : (Int × (Int × ((List Int) × ((List Int) × (List Int)))))) : St := (St.mk [(.int .i64 t.1), (.own 0 1), (.own 1 1), (.int .i64 t.2.1), (.ptr 2 [])] [(some (.ints .u8 t.2.2.1)), (some (.ints .u64 t.2.2.2.1)), (some (.var (.ints .u64 4 t.2.2.2.2)))])
def q02_Sum.l26_0.res : (Int × ((List Int) × ((List Int) × (List Int)))) → Ex × St
 | u => (Prod.mk (.exit 10) (St.mk [(.int .i64 u.1), (.own 0 1), (.own 1 1), (.ptr 2 [])] [(some (.ints .u8 u.2.1)), (some (.ints .u64 u.2.2.1)), (some (.var (.ints .u64 4 u.2.2.2)))]))
def q02_Sum.l26_0.resK {R : Type} (u : (Int × ((List Int) × ((List Int) × (List Int))))) (K : Ex → St → Option R) : Option R := (fun p : Ex × St => K p.1 p.2) (Prod.mk (.exit 10) (St.mk [(.int .i64 u.1), (.own 0 1), (.own 1 1), (.ptr 2 [])] [(some (.ints .u8 u.2.1)), (some (.ints .u64 u.2.2.1)), (some (.var (.ints .u64 4 u.2.2.2)))]))
def q02_Sum.l23_0.r {α : Type} (mk0 : (List Int) → (List Int) → α) (n : Nat) (rc : Int → (List Int) → (List Int) → (List Int) → Option α)  (x0 : Int) (x1 : (List Int)) (x2 : (List Int)) (x3 : (List Int)) : Option α :=
  if (decide (x0 < 4)) = true then
   bindO (q02_Sum.l26_0.m n n (0, x0, x1, x2, x3)) fun r6 =>
    rc (IntKind.wrap .i64 ((Prod.fst r6) + 1)) (Prod.fst (Prod.snd r6)) (Prod.fst (Prod.snd (Prod.snd r6))) (Prod.snd (Prod.snd (Prod.snd r6)))
  else
   some (mk0 x1 x3)
def q02_Sum.l23_0.g {α : Type} (mk0 : (List Int) → (List Int) → α) (n : Nat) : Nat → Int → (List Int) → (List Int) → (List Int) → Option α
 | 0, _, _, _, _ => none
 | m + 1, x0, x1, x2, x3 => q02_Sum.l23_0.r mk0 n (fun y0 y1 y2 y3 => q02_Sum.l23_0.g mk0 n m y0 y1 y2 y3)  x0 x1 x2 x3
def q02_Sum.l23_0.m (n m : Nat) (t : (Int × ((List Int) × ((List Int) × (List Int))))) : Option ((List Int) × (List Int)) := q02_Sum.l23_0.g (fun a0 a1 => (a0, a1)) n m t.1 t.2.1 t.2.2.1 t.2.2.2
def q02_Sum.l23_0.pat : St → Option (Int × ((List Int) × ((List Int) × (List Int))))
 | (St.mk [(.int .i64 x0), (.own 0 1), (.own 1 1), (.ptr 2 [])] [(some (.ints .u8 x1)), (some (.ints .u64 x2)), (some (.var (.ints .u64 4 x3)))]) => some (x0, x1, x2, x3)
 | _ => none
def q02_Sum.l23_0.shape (t : (Int × ((List Int) × ((List Int) × (List Int))))) : St := (St.mk [(.int .i64 t.1), (.own 0 1), (.own 1 1), (.ptr 2 [])] [(some (.ints .u8 t.2.1)), (some (.ints .u64 t.2.2.1)), (some (.var (.ints .u64 4 t.2.2.2)))])
def q02_Sum.l23_0.res : ((List Int) × (List Int)) → Ex × St
 | u => (Prod.mk (.exit 8) (St.mk [(.own 0 1), (.ptr 1 [])] [(some (.ints .u8 u.1)), (some (.var (.ints .u64 4 u.2)))]))
def q02_Sum.l23_0.resK {R : Type} (u : ((List Int) × (List Int))) (K : Ex → St → Option R) : Option R := (fun p : Ex × St => K p.1 p.2) (Prod.mk (.exit 8) (St.mk [(.own 0 1), (.ptr 1 [])] [(some (.ints .u8 u.1)), (some (.var (.ints .u64 4 u.2)))]))
noncomputable def q02_Sum.A (n : Nat) : Ann := ⟨Tryd.f8.ntmps, 0, q02_Sum.live, [(3, (.ints .u8)), (4, (.ints .i64)), (5, (.ints .u64)), (6, (.ints .u64)), (10, (.ints .u8))], [none], fun k => match k with
 | 4 => some (.mk' q02_Sum.l4_0.pat (q02_Sum.l4_0.m n n) q02_Sum.l4_0.resK)
 | 17 => some (.mk' q02_Sum.l17_0.pat (q02_Sum.l17_0.m n n) q02_Sum.l17_0.resK)
 | 14 => some (.mk' q02_Sum.l14_0.pat (q02_Sum.l14_0.m n n) q02_Sum.l14_0.resK)
 | 11 => some (.mk' q02_Sum.l11_0.pat (q02_Sum.l11_0.m n n) q02_Sum.l11_0.resK)
 | 26 => some (.mk' q02_Sum.l26_0.pat (q02_Sum.l26_0.m n n) q02_Sum.l26_0.resK)
 | 23 => some (.mk' q02_Sum.l23_0.pat (q02_Sum.l23_0.m n n) q02_Sum.l23_0.resK)
 | _ => none, q02_Sum.jlive, lookJ []⟩
noncomputable def q02_Sum.b0 : Code := (loopsIn (Tryd.f8.body.getD .skip)).getD 0 .skip
noncomputable def q02_Sum.b1 : Code := (loopsIn (Tryd.f8.body.getD .skip)).getD 1 .skip
noncomputable def q02_Sum.b2 : Code := (loopsIn (Tryd.f8.body.getD .skip)).getD 2 .skip
noncomputable def q02_Sum.b3 : Code := (loopsIn (Tryd.f8.body.getD .skip)).getD 3 .skip
noncomputable def q02_Sum.b4 : Code := (loopsIn (Tryd.f8.body.getD .skip)).getD 4 .skip
noncomputable def q02_Sum.b5 : Code := (loopsIn (Tryd.f8.body.getD .skip)).getD 5 .skip
def q02_Sum.g {α : Type} (mk0 : (List Int) → α) (n : Nat) (a0 : (List Int)) : Option α :=
 if (((List.length a0) * 1) ≤ 70368744177664 ∧ (List.length a0) ≤ 9223372036854775807) then
  if ((((List.length a0) + 1) * 1) ≤ 70368744177664 ∧ ((List.length a0) + 1) ≤ 9223372036854775807) then
   bindO (q02_Sum.l4_0.m n n ((a0 ++ [1]), [0, 0, 0, 0])) fun r6 =>
    if 0 ≤ (IntKind.wrap .i64 ((((List.length (Prod.fst r6)) : Nat) : Int) - 1)) then
     if (IntKind.wrap .i64 ((((List.length (Prod.fst r6)) : Nat) : Int) - 1)) < (((List.length (Prod.fst r6)) : Nat) : Int) then
      if 0 ≤ (IntKind.wrap .i64 ((((List.length (Prod.fst r6)) : Nat) : Int) - 1)) then
       if (IntKind.wrap .i64 ((((List.length (Prod.fst r6)) : Nat) : Int) - 1)) < (((List.length (Prod.fst r6)) : Nat) : Int) then
        bindO (q02_turns.m n Unit.unit) fun r16 =>
         bindO (q02_keys.m n Unit.unit) fun r18 =>
          bindO (q02_Sum.l11_0.m n n (0, (List.set (Prod.fst r6) (Int.toNat (IntKind.wrap .i64 ((((List.length (Prod.fst r6)) : Nat) : Int) - 1))) (ibits BinOp.xor .u8 (List.getD (Prod.fst r6) (Int.toNat (IntKind.wrap .i64 ((((List.length (Prod.fst r6)) : Nat) : Int) - 1))) 0) 128)), ([0, 0, 0, 0, 0, 0, 0, 0, 0, 0, 0, 0, 0, 0, 0, 0, 0, 0, 0, 0, 0, 0, 0, 0, 0] : List Int), r16, r18, (Prod.snd r6))) fun r20 =>
           bindO (q02_Sum.l23_0.m n n (0, [], (Prod.fst r20), (Prod.snd r20))) fun r22 =>
            bindO (q01_Read.m n (Prod.fst r22)) fun r24 =>
             some (mk0 r24)
       else
        none
      else
       none
     else
      none
    else
     none
  else
   none
 else
  none
def q02_Sum.m (n : Nat) (t : (List Int)) : Option (List Int) := q02_Sum.g (fun a0 => a0) n t
def q02_Sum.pat : List AV → Blks → Option (List Int)
 | [(.rints .u8 a0)], [] => some a0
 | _, _ => none
def q02_Sum.shape (t : (List Int)) : List AV × Blks := ([(.rints .u8 t)], [])
def q02_Sum.res : (List Int) → AV × Blks
 | u => (Prod.mk (.ints .u64 4 u) [])
def q02_Sum.resK {R : Type} (u : (List Int)) (K : AV → Blks → Option R) : Option R := (fun p : AV × Blks => K p.1 p.2) (Prod.mk (.ints .u64 4 u) [])
def q02_Sum.c (n : Nat) : Abs.Callee := .mk' [] [(some (.ints .u8))] q02_Sum.pat (q02_Sum.m n) q02_Sum.resK
end
end
section
theorem q01_Read.l4_0.rmap {α β : Type} (h : β → α) (mk0 : (List Int) → (List Int) → β) (n : Nat) (f : Int → Int → (List Int) → (List Int) → (List Int) → Option β)  (x0 : Int) (x1 : Int) (x2 : (List Int)) (x3 : (List Int)) (x4 : (List Int)) : q01_Read.l4_0.r (fun a0 a1 => (h (mk0 a0 a1))) n (fun y0 y1 y2 y3 y4 => (f y0 y1 y2 y3 y4).map h) x0 x1 x2 x3 x4 = (q01_Read.l4_0.r mk0 n f x0 x1 x2 x3 x4).map h := by
  unfold q01_Read.l4_0.r
  exact (ite_map (ite_map (ite_map (ite_map (ite_map (ite_map (ite_map (ite_map (ite_map rfl rfl) rfl) rfl) rfl) rfl) rfl) rfl) rfl) rfl)
theorem q01_Read.l4_0.gmap {α β : Type} (h : β → α) (mk0 : (List Int) → (List Int) → β) (n : Nat) : ∀ (m : Nat) (x0 : Int) (x1 : Int) (x2 : (List Int)) (x3 : (List Int)) (x4 : (List Int)), q01_Read.l4_0.g (fun a0 a1 => (h (mk0 a0 a1))) n m x0 x1 x2 x3 x4 = (q01_Read.l4_0.g mk0 n m x0 x1 x2 x3 x4).map h
  | 0, _, _, _, _, _ => rfl
  | m + 1, x0, x1, x2, x3, x4 => by
    unfold q01_Read.l4_0.g
    rw [← q01_Read.l4_0.rmap]
    congr
    · funext y0 y1 y2 y3 y4; exact q01_Read.l4_0.gmap h mk0 n m y0 y1 y2 y3 y4
theorem q01_Read.l4_0.pat_shape : ∀ st t, q01_Read.l4_0.pat st = some t → st = q01_Read.l4_0.shape t := by
  intro st t h
  unfold q01_Read.l4_0.pat at h
  split at h
  · cases h; rfl
  · cases h
theorem q01_Read.l4_0.round (n : Nat) (rc : St → Option (Ex × St)) (x0 : Int) (x1 : Int) (x2 : (List Int)) (x3 : (List Int)) (x4 : (List Int)) : roundOf (q01_Read.C n) (q01_Read.A n) n q01_Read.b0 rc ((St.mk [(.int .i64 x0), (.int .i64 x1), (.ptr 0 []), (.rints .u8 x2), (.ptr 1 [])] [(some (.var (.ints .u64 4 x3))), (some (.var (.ints .u64 4 x4)))])) = q01_Read.l4_0.r (fun a0 a1 => ((Prod.mk (.exit 0) (St.mk [(.ptr 0 []), (.ptr 1 [])] [(some (.var (.ints .u64 4 a0))), (some (.var (.ints .u64 4 a1)))])) : Ex × St)) n (fun y0 y1 y2 y3 y4 => rc ((St.mk [(.int .i64 y0), (.int .i64 y1), (.ptr 0 []), (.rints .u8 y2), (.ptr 1 [])] [(some (.var (.ints .u64 4 y3))), (some (.var (.ints .u64 4 y4)))]))) x0 x1 x2 x3 x4 := by kernel_rfl
theorem q01_Read.l4_0.loop' (n : Nat) : ∀ (m : Nat) (t : (Int × (Int × ((List Int) × ((List Int) × (List Int)))))), loopOf (roundOf (q01_Read.C n) (q01_Read.A n) n q01_Read.b0) m (q01_Read.l4_0.shape t) = q01_Read.l4_0.g (fun a0 a1 => ((Prod.mk (.exit 0) (St.mk [(.ptr 0 []), (.ptr 1 [])] [(some (.var (.ints .u64 4 a0))), (some (.var (.ints .u64 4 a1)))])) : Ex × St)) n m t.1 t.2.1 t.2.2.1 t.2.2.2.1 t.2.2.2.2 :=
  loop_of_round (shape := q01_Read.l4_0.shape) (body := roundOf (q01_Read.C n) (q01_Read.A n) n q01_Read.b0) (g := fun m t => q01_Read.l4_0.g (fun a0 a1 => ((Prod.mk (.exit 0) (St.mk [(.ptr 0 []), (.ptr 1 [])] [(some (.var (.ints .u64 4 a0))), (some (.var (.ints .u64 4 a1)))])) : Ex × St)) n m t.1 t.2.1 t.2.2.1 t.2.2.2.1 t.2.2.2.2) (fun t => rfl)
    fun m t ih => (q01_Read.l4_0.round n (loopOf (roundOf (q01_Read.C n) (q01_Read.A n) n q01_Read.b0) m) t.1 t.2.1 t.2.2.1 t.2.2.2.1 t.2.2.2.2).trans (congrFun (congrFun (congrFun (congrFun (congrFun (congrArg (q01_Read.l4_0.r (fun a0 a1 => ((Prod.mk (.exit 0) (St.mk [(.ptr 0 []), (.ptr 1 [])] [(some (.var (.ints .u64 4 a0))), (some (.var (.ints .u64 4 a1)))])) : Ex × St)) n) (funext fun y0 => funext fun y1 => funext fun y2 => funext fun y3 => funext fun y4 => ih (y0, y1, y2, y3, y4))) t.1) t.2.1) t.2.2.1) t.2.2.2.1) t.2.2.2.2)
theorem q01_Read.l4_0.loop (n m : Nat) (t : (Int × (Int × ((List Int) × ((List Int) × (List Int)))))) : loopOf (roundOf (q01_Read.C n) (q01_Read.A n) n q01_Read.b0) m (q01_Read.l4_0.shape t) = (q01_Read.l4_0.m n m t).map q01_Read.l4_0.res :=
  (q01_Read.l4_0.loop' n m t).trans (q01_Read.l4_0.gmap q01_Read.l4_0.res (fun a0 a1 => (a0, a1)) n m t.1 t.2.1 t.2.2.1 t.2.2.2.1 t.2.2.2.2)
theorem q01_Read.gmap {α β : Type} (h : β → α) (mk0 : (List Int) → β) (n : Nat) (a0 : (List Int)) : q01_Read.g (fun a0 => (h (mk0 a0))) n a0 = (q01_Read.g mk0 n a0).map h := by
  unfold q01_Read.g
  exact (bindO_map fun r2 => rfl)
theorem q01_Read.run (n : Nat) (a0 : (List Int)) : runF (q01_Read.C n) (q01_Read.A n) n Tryd.f16 [(.rints .u8 a0)] [] (fun v o => some (v, o)) = q01_Read.g (fun a0 => ((Prod.mk (.ints .u64 4 a0) []) : AV × Blks)) n a0 := by kernel_rfl
theorem q01_Read.call (hmix : Tryd.prog.follows .mixedOrders = true) (n : Nat) (t : (List Int)) (u) (h : q01_Read.m n t = some u) : FnC Tryd.prog kecG 16 (q01_Read.shape t).1 (q01_Read.shape t).2 (q01_Read.res u).1 (q01_Read.res u).2 := by
  have hg : ∀ f m, (q01_Read.C n).Γ f = some m → CalleeS Tryd.prog kecG f m := by
    intro f m hm
    unfold q01_Read.C at hm
    simp only at hm
    first
    | (cases hm; done)
    | (split at hm <;> first
    | (cases hm; done))
  have hb : Tryd.f16.body = some (Tryd.f16.body.getD .skip) := by kernel_rfl
  refine runF_calls (C := q01_Read.C n) (A := q01_Read.A n) (n := n) (fn := Tryd.f16) hg hmix Tryd.func16 hb ?_ ?_ (by decide) rfl rfl (by show 1 ≤ Tryd.f16.ntmps; decide) ?_
  · rw [show loopsIn (Tryd.f16.body.getD .skip) = [q01_Read.b0] by kernel_rfl]
    intro b hb m hm
    simp only [List.mem_cons, List.not_mem_nil, or_false] at hb
    rcases hb with rfl
    · have e : (q01_Read.A n).loop (key q01_Read.b0) = some (.mk' q01_Read.l4_0.pat (q01_Read.l4_0.m n n) q01_Read.l4_0.resK) := by rw [show key q01_Read.b0 = 4 by kernel_rfl]; rfl
      rw [e] at hm
      cases hm
      exact LoopS.of (res := q01_Read.l4_0.res) (fun R u K => rfl) q01_Read.l4_0.pat_shape fun t => q01_Read.l4_0.loop n n t
  · intro a ha m hm
    cases (show none = some m from hm)
  · rw [show runF (q01_Read.C n) (q01_Read.A n) n Tryd.f16 (q01_Read.shape t).1 (q01_Read.shape t).2 (fun v o => some (v, o)) = _ from q01_Read.run n t]
    have e := q01_Read.gmap q01_Read.res (fun a0 => a0) n t
    unfold q01_Read.m at h
    rw [h] at e
    exact e
theorem q01_Read.s (hmix : Tryd.prog.follows .mixedOrders = true) (n : Nat) : CalleeS Tryd.prog kecG 16 (q01_Read.c n) :=
  CalleeS.of (res := q01_Read.res) (shape := q01_Read.shape) (fun R u K => rfl) (fun args lent t h => by
    unfold q01_Read.pat at h
    split at h
    · cases h; rfl
    · cases h) fun t u h => (q01_Read.call hmix n t u h).ok Tryd.func16 (by decide) (by kernel_rfl)
end
section
theorem q02_Sum.l4_0.rmap {α β : Type} (h : β → α) (mk0 : (List Int) → (List Int) → β) (n : Nat) (f : (List Int) → (List Int) → Option β)  (x0 : (List Int)) (x1 : (List Int)) : q02_Sum.l4_0.r (fun a0 a1 => (h (mk0 a0 a1))) n (fun y0 y1 => (f y0 y1).map h) x0 x1 = (q02_Sum.l4_0.r mk0 n f x0 x1).map h := by
  unfold q02_Sum.l4_0.r
  exact (ite_map (ite_map rfl rfl) rfl)
theorem q02_Sum.l4_0.gmap {α β : Type} (h : β → α) (mk0 : (List Int) → (List Int) → β) (n : Nat) : ∀ (m : Nat) (x0 : (List Int)) (x1 : (List Int)), q02_Sum.l4_0.g (fun a0 a1 => (h (mk0 a0 a1))) n m x0 x1 = (q02_Sum.l4_0.g mk0 n m x0 x1).map h
  | 0, _, _ => rfl
  | m + 1, x0, x1 => by
    unfold q02_Sum.l4_0.g
    rw [← q02_Sum.l4_0.rmap]
    congr
    · funext y0 y1; exact q02_Sum.l4_0.gmap h mk0 n m y0 y1
theorem q02_Sum.l4_0.pat_shape : ∀ st t, q02_Sum.l4_0.pat st = some t → st = q02_Sum.l4_0.shape t := by
  intro st t h
  unfold q02_Sum.l4_0.pat at h
  split at h
  · cases h; rfl
  · cases h
theorem q02_Sum.l4_0.round (n : Nat) (rc : St → Option (Ex × St)) (x0 : (List Int)) (x1 : (List Int)) : roundOf (q02_Sum.C n) (q02_Sum.A n) n q02_Sum.b0 rc ((St.mk [(.own 0 1), (.ptr 1 [])] [(some (.ints .u8 x0)), (some (.var (.ints .u64 4 x1)))])) = q02_Sum.l4_0.r (fun a0 a1 => ((Prod.mk (.exit 0) (St.mk [(.own 0 1), (.ptr 1 [])] [(some (.ints .u8 a0)), (some (.var (.ints .u64 4 a1)))])) : Ex × St)) n (fun y0 y1 => rc ((St.mk [(.own 0 1), (.ptr 1 [])] [(some (.ints .u8 y0)), (some (.var (.ints .u64 4 y1)))]))) x0 x1 := by kernel_rfl
theorem q02_Sum.l4_0.loop' (n : Nat) : ∀ (m : Nat) (t : ((List Int) × (List Int))), loopOf (roundOf (q02_Sum.C n) (q02_Sum.A n) n q02_Sum.b0) m (q02_Sum.l4_0.shape t) = q02_Sum.l4_0.g (fun a0 a1 => ((Prod.mk (.exit 0) (St.mk [(.own 0 1), (.ptr 1 [])] [(some (.ints .u8 a0)), (some (.var (.ints .u64 4 a1)))])) : Ex × St)) n m t.1 t.2 :=
  loop_of_round (shape := q02_Sum.l4_0.shape) (body := roundOf (q02_Sum.C n) (q02_Sum.A n) n q02_Sum.b0) (g := fun m t => q02_Sum.l4_0.g (fun a0 a1 => ((Prod.mk (.exit 0) (St.mk [(.own 0 1), (.ptr 1 [])] [(some (.ints .u8 a0)), (some (.var (.ints .u64 4 a1)))])) : Ex × St)) n m t.1 t.2) (fun t => rfl)
    fun m t ih => (q02_Sum.l4_0.round n (loopOf (roundOf (q02_Sum.C n) (q02_Sum.A n) n q02_Sum.b0) m) t.1 t.2).trans (congrFun (congrFun (congrArg (q02_Sum.l4_0.r (fun a0 a1 => ((Prod.mk (.exit 0) (St.mk [(.own 0 1), (.ptr 1 [])] [(some (.ints .u8 a0)), (some (.var (.ints .u64 4 a1)))])) : Ex × St)) n) (funext fun y0 => funext fun y1 => ih (y0, y1))) t.1) t.2)
theorem q02_Sum.l4_0.loop (n m : Nat) (t : ((List Int) × (List Int))) : loopOf (roundOf (q02_Sum.C n) (q02_Sum.A n) n q02_Sum.b0) m (q02_Sum.l4_0.shape t) = (q02_Sum.l4_0.m n m t).map q02_Sum.l4_0.res :=
  (q02_Sum.l4_0.loop' n m t).trans (q02_Sum.l4_0.gmap q02_Sum.l4_0.res (fun a0 a1 => (a0, a1)) n m t.1 t.2)
theorem q02_Sum.l17_0.rmap {α β : Type} (h : β → α) (mk0 : Int → Int → (List Int) → (List Int) → (List Int) → (List Int) → (List Int) → β) (n : Nat) (f : Int → Int → Int → (List Int) → (List Int) → (List Int) → (List Int) → (List Int) → Option β)  (x0 : Int) (x1 : Int) (x2 : Int) (x3 : (List Int)) (x4 : (List Int)) (x5 : (List Int)) (x6 : (List Int)) (x7 : (List Int)) : q02_Sum.l17_0.r (fun a0 a1 a2 a3 a4 a5 a6 => (h (mk0 a0 a1 a2 a3 a4 a5 a6))) n (fun y0 y1 y2 y3 y4 y5 y6 y7 => (f y0 y1 y2 y3 y4 y5 y6 y7).map h) x0 x1 x2 x3 x4 x5 x6 x7 = (q02_Sum.l17_0.r mk0 n f x0 x1 x2 x3 x4 x5 x6 x7).map h := by
  unfold q02_Sum.l17_0.r
  exact (ite_map (ite_map (ite_map (ite_map (ite_map (ite_map (ite_map (ite_map rfl rfl) rfl) rfl) rfl) rfl) rfl) rfl) rfl)
theorem q02_Sum.l17_0.gmap {α β : Type} (h : β → α) (mk0 : Int → Int → (List Int) → (List Int) → (List Int) → (List Int) → (List Int) → β) (n : Nat) : ∀ (m : Nat) (x0 : Int) (x1 : Int) (x2 : Int) (x3 : (List Int)) (x4 : (List Int)) (x5 : (List Int)) (x6 : (List Int)) (x7 : (List Int)), q02_Sum.l17_0.g (fun a0 a1 a2 a3 a4 a5 a6 => (h (mk0 a0 a1 a2 a3 a4 a5 a6))) n m x0 x1 x2 x3 x4 x5 x6 x7 = (q02_Sum.l17_0.g mk0 n m x0 x1 x2 x3 x4 x5 x6 x7).map h
  | 0, _, _, _, _, _, _, _, _ => rfl
  | m + 1, x0, x1, x2, x3, x4, x5, x6, x7 => by
    unfold q02_Sum.l17_0.g
    rw [← q02_Sum.l17_0.rmap]
    congr
    · funext y0 y1 y2 y3 y4 y5 y6 y7; exact q02_Sum.l17_0.gmap h mk0 n m y0 y1 y2 y3 y4 y5 y6 y7
theorem q02_Sum.l17_0.pat_shape : ∀ st t, q02_Sum.l17_0.pat st = some t → st = q02_Sum.l17_0.shape t := by
  intro st t h
  unfold q02_Sum.l17_0.pat at h
  split at h
  · cases h; rfl
  · cases h
theorem q02_Sum.l17_0.round (n : Nat) (rc : St → Option (Ex × St)) (x0 : Int) (x1 : Int) (x2 : Int) (x3 : (List Int)) (x4 : (List Int)) (x5 : (List Int)) (x6 : (List Int)) (x7 : (List Int)) : roundOf (q02_Sum.C n) (q02_Sum.A n) n q02_Sum.b3 rc ((St.mk [(.int .i64 x0), (.own 0 1), (.int .i64 x1), (.own 1 1), (.int .i64 x2), (.own 2 1), (.own 3 1), (.ptr 4 [])] [(some (.ints .u64 x3)), (some (.ints .u8 x4)), (some (.ints .i64 x5)), (some (.ints .u64 x6)), (some (.var (.ints .u64 4 x7)))])) = q02_Sum.l17_0.r (fun a0 a1 a2 a3 a4 a5 a6 => ((Prod.mk (.exit 6) (St.mk [(.int .i64 a0), (.own 0 1), (.own 1 1), (.int .i64 a1), (.own 2 1), (.own 3 1), (.ptr 4 [])] [(some (.ints .u64 a2)), (some (.ints .u8 a3)), (some (.ints .i64 a4)), (some (.ints .u64 a5)), (some (.var (.ints .u64 4 a6)))])) : Ex × St)) n (fun y0 y1 y2 y3 y4 y5 y6 y7 => rc ((St.mk [(.int .i64 y0), (.own 0 1), (.int .i64 y1), (.own 1 1), (.int .i64 y2), (.own 2 1), (.own 3 1), (.ptr 4 [])] [(some (.ints .u64 y3)), (some (.ints .u8 y4)), (some (.ints .i64 y5)), (some (.ints .u64 y6)), (some (.var (.ints .u64 4 y7)))]))) x0 x1 x2 x3 x4 x5 x6 x7 := by kernel_rfl
theorem q02_Sum.l17_0.loop' (n : Nat) : ∀ (m : Nat) (t : (Int × (Int × (Int × ((List Int) × ((List Int) × ((List Int) × ((List Int) × (List Int))))))))), loopOf (roundOf (q02_Sum.C n) (q02_Sum.A n) n q02_Sum.b3) m (q02_Sum.l17_0.shape t) = q02_Sum.l17_0.g (fun a0 a1 a2 a3 a4 a5 a6 => ((Prod.mk (.exit 6) (St.mk [(.int .i64 a0), (.own 0 1), (.own 1 1), (.int .i64 a1), (.own 2 1), (.own 3 1), (.ptr 4 [])] [(some (.ints .u64 a2)), (some (.ints .u8 a3)), (some (.ints .i64 a4)), (some (.ints .u64 a5)), (some (.var (.ints .u64 4 a6)))])) : Ex × St)) n m t.1 t.2.1 t.2.2.1 t.2.2.2.1 t.2.2.2.2.1 t.2.2.2.2.2.1 t.2.2.2.2.2.2.1 t.2.2.2.2.2.2.2 :=
  loop_of_round (shape := q02_Sum.l17_0.shape) (body := roundOf (q02_Sum.C n) (q02_Sum.A n) n q02_Sum.b3) (g := fun m t => q02_Sum.l17_0.g (fun a0 a1 a2 a3 a4 a5 a6 => ((Prod.mk (.exit 6) (St.mk [(.int .i64 a0), (.own 0 1), (.own 1 1), (.int .i64 a1), (.own 2 1), (.own 3 1), (.ptr 4 [])] [(some (.ints .u64 a2)), (some (.ints .u8 a3)), (some (.ints .i64 a4)), (some (.ints .u64 a5)), (some (.var (.ints .u64 4 a6)))])) : Ex × St)) n m t.1 t.2.1 t.2.2.1 t.2.2.2.1 t.2.2.2.2.1 t.2.2.2.2.2.1 t.2.2.2.2.2.2.1 t.2.2.2.2.2.2.2) (fun t => rfl)
    fun m t ih => (q02_Sum.l17_0.round n (loopOf (roundOf (q02_Sum.C n) (q02_Sum.A n) n q02_Sum.b3) m) t.1 t.2.1 t.2.2.1 t.2.2.2.1 t.2.2.2.2.1 t.2.2.2.2.2.1 t.2.2.2.2.2.2.1 t.2.2.2.2.2.2.2).trans (congrFun (congrFun (congrFun (congrFun (congrFun (congrFun (congrFun (congrFun (congrArg (q02_Sum.l17_0.r (fun a0 a1 a2 a3 a4 a5 a6 => ((Prod.mk (.exit 6) (St.mk [(.int .i64 a0), (.own 0 1), (.own 1 1), (.int .i64 a1), (.own 2 1), (.own 3 1), (.ptr 4 [])] [(some (.ints .u64 a2)), (some (.ints .u8 a3)), (some (.ints .i64 a4)), (some (.ints .u64 a5)), (some (.var (.ints .u64 4 a6)))])) : Ex × St)) n) (funext fun y0 => funext fun y1 => funext fun y2 => funext fun y3 => funext fun y4 => funext fun y5 => funext fun y6 => funext fun y7 => ih (y0, y1, y2, y3, y4, y5, y6, y7))) t.1) t.2.1) t.2.2.1) t.2.2.2.1) t.2.2.2.2.1) t.2.2.2.2.2.1) t.2.2.2.2.2.2.1) t.2.2.2.2.2.2.2)
theorem q02_Sum.l17_0.loop (n m : Nat) (t : (Int × (Int × (Int × ((List Int) × ((List Int) × ((List Int) × ((List Int) × (List Int))))))))) : loopOf (roundOf (q02_Sum.C n) (q02_Sum.A n) n q02_Sum.b3) m (q02_Sum.l17_0.shape t) = (q02_Sum.l17_0.m n m t).map q02_Sum.l17_0.res :=
  (q02_Sum.l17_0.loop' n m t).trans (q02_Sum.l17_0.gmap q02_Sum.l17_0.res (fun a0 a1 a2 a3 a4 a5 a6 => (a0, a1, a2, a3, a4, a5, a6)) n m t.1 t.2.1 t.2.2.1 t.2.2.2.1 t.2.2.2.2.1 t.2.2.2.2.2.1 t.2.2.2.2.2.2.1 t.2.2.2.2.2.2.2)
theorem q02_Sum.l14_0.rmap {α β : Type} (h : β → α) (mk0 : Int → (List Int) → (List Int) → (List Int) → (List Int) → (List Int) → β) (n : Nat) (f : Int → Int → (List Int) → (List Int) → (List Int) → (List Int) → (List Int) → Option β)  (x0 : Int) (x1 : Int) (x2 : (List Int)) (x3 : (List Int)) (x4 : (List Int)) (x5 : (List Int)) (x6 : (List Int)) : q02_Sum.l14_0.r (fun a0 a1 a2 a3 a4 a5 => (h (mk0 a0 a1 a2 a3 a4 a5))) n (fun y0 y1 y2 y3 y4 y5 y6 => (f y0 y1 y2 y3 y4 y5 y6).map h) x0 x1 x2 x3 x4 x5 x6 = (q02_Sum.l14_0.r mk0 n f x0 x1 x2 x3 x4 x5 x6).map h := by
  unfold q02_Sum.l14_0.r
  exact (ite_map (bindO_map fun r6 => rfl) rfl)
theorem q02_Sum.l14_0.gmap {α β : Type} (h : β → α) (mk0 : Int → (List Int) → (List Int) → (List Int) → (List Int) → (List Int) → β) (n : Nat) : ∀ (m : Nat) (x0 : Int) (x1 : Int) (x2 : (List Int)) (x3 : (List Int)) (x4 : (List Int)) (x5 : (List Int)) (x6 : (List Int)), q02_Sum.l14_0.g (fun a0 a1 a2 a3 a4 a5 => (h (mk0 a0 a1 a2 a3 a4 a5))) n m x0 x1 x2 x3 x4 x5 x6 = (q02_Sum.l14_0.g mk0 n m x0 x1 x2 x3 x4 x5 x6).map h
  | 0, _, _, _, _, _, _, _ => rfl
  | m + 1, x0, x1, x2, x3, x4, x5, x6 => by
    unfold q02_Sum.l14_0.g
    rw [← q02_Sum.l14_0.rmap]
    congr
    · funext y0 y1 y2 y3 y4 y5 y6; exact q02_Sum.l14_0.gmap h mk0 n m y0 y1 y2 y3 y4 y5 y6
theorem q02_Sum.l14_0.pat_shape : ∀ st t, q02_Sum.l14_0.pat st = some t → st = q02_Sum.l14_0.shape t := by
  intro st t h
  unfold q02_Sum.l14_0.pat at h
  split at h
  · cases h; rfl
  · cases h
theorem q02_Sum.l14_0.round (n : Nat) (rc : St → Option (Ex × St)) (x0 : Int) (x1 : Int) (x2 : (List Int)) (x3 : (List Int)) (x4 : (List Int)) (x5 : (List Int)) (x6 : (List Int)) : roundOf (q02_Sum.C n) (q02_Sum.A n) n q02_Sum.b2 rc ((St.mk [(.int .i64 x0), (.own 0 1), (.own 1 1), (.int .i64 x1), (.own 2 1), (.own 3 1), (.ptr 4 [])] [(some (.ints .u64 x2)), (some (.ints .u8 x3)), (some (.ints .i64 x4)), (some (.ints .u64 x5)), (some (.var (.ints .u64 4 x6)))])) = q02_Sum.l14_0.r (fun a0 a1 a2 a3 a4 a5 => ((Prod.mk (.exit 4) (St.mk [(.own 0 1), (.own 1 1), (.own 2 1), (.int .i64 a0), (.own 3 1), (.ptr 4 [])] [(some (.ints .u64 a1)), (some (.ints .i64 a2)), (some (.ints .u64 a3)), (some (.ints .u8 a4)), (some (.var (.ints .u64 4 a5)))])) : Ex × St)) n (fun y0 y1 y2 y3 y4 y5 y6 => rc ((St.mk [(.int .i64 y0), (.own 0 1), (.own 1 1), (.int .i64 y1), (.own 2 1), (.own 3 1), (.ptr 4 [])] [(some (.ints .u64 y2)), (some (.ints .u8 y3)), (some (.ints .i64 y4)), (some (.ints .u64 y5)), (some (.var (.ints .u64 4 y6)))]))) x0 x1 x2 x3 x4 x5 x6 := by kernel_rfl
theorem q02_Sum.l14_0.loop' (n : Nat) : ∀ (m : Nat) (t : (Int × (Int × ((List Int) × ((List Int) × ((List Int) × ((List Int) × (List Int)))))))), loopOf (roundOf (q02_Sum.C n) (q02_Sum.A n) n q02_Sum.b2) m (q02_Sum.l14_0.shape t) = q02_Sum.l14_0.g (fun a0 a1 a2 a3 a4 a5 => ((Prod.mk (.exit 4) (St.mk [(.own 0 1), (.own 1 1), (.own 2 1), (.int .i64 a0), (.own 3 1), (.ptr 4 [])] [(some (.ints .u64 a1)), (some (.ints .i64 a2)), (some (.ints .u64 a3)), (some (.ints .u8 a4)), (some (.var (.ints .u64 4 a5)))])) : Ex × St)) n m t.1 t.2.1 t.2.2.1 t.2.2.2.1 t.2.2.2.2.1 t.2.2.2.2.2.1 t.2.2.2.2.2.2 :=
  loop_of_round (shape := q02_Sum.l14_0.shape) (body := roundOf (q02_Sum.C n) (q02_Sum.A n) n q02_Sum.b2) (g := fun m t => q02_Sum.l14_0.g (fun a0 a1 a2 a3 a4 a5 => ((Prod.mk (.exit 4) (St.mk [(.own 0 1), (.own 1 1), (.own 2 1), (.int .i64 a0), (.own 3 1), (.ptr 4 [])] [(some (.ints .u64 a1)), (some (.ints .i64 a2)), (some (.ints .u64 a3)), (some (.ints .u8 a4)), (some (.var (.ints .u64 4 a5)))])) : Ex × St)) n m t.1 t.2.1 t.2.2.1 t.2.2.2.1 t.2.2.2.2.1 t.2.2.2.2.2.1 t.2.2.2.2.2.2) (fun t => rfl)
    fun m t ih => (q02_Sum.l14_0.round n (loopOf (roundOf (q02_Sum.C n) (q02_Sum.A n) n q02_Sum.b2) m) t.1 t.2.1 t.2.2.1 t.2.2.2.1 t.2.2.2.2.1 t.2.2.2.2.2.1 t.2.2.2.2.2.2).trans (congrFun (congrFun (congrFun (congrFun (congrFun (congrFun (congrFun (congrArg (q02_Sum.l14_0.r (fun a0 a1 a2 a3 a4 a5 => ((Prod.mk (.exit 4) (St.mk [(.own 0 1), (.own 1 1), (.own 2 1), (.int .i64 a0), (.own 3 1), (.ptr 4 [])] [(some (.ints .u64 a1)), (some (.ints .i64 a2)), (some (.ints .u64 a3)), (some (.ints .u8 a4)), (some (.var (.ints .u64 4 a5)))])) : Ex × St)) n) (funext fun y0 => funext fun y1 => funext fun y2 => funext fun y3 => funext fun y4 => funext fun y5 => funext fun y6 => ih (y0, y1, y2, y3, y4, y5, y6))) t.1) t.2.1) t.2.2.1) t.2.2.2.1) t.2.2.2.2.1) t.2.2.2.2.2.1) t.2.2.2.2.2.2)
theorem q02_Sum.l14_0.loop (n m : Nat) (t : (Int × (Int × ((List Int) × ((List Int) × ((List Int) × ((List Int) × (List Int)))))))) : loopOf (roundOf (q02_Sum.C n) (q02_Sum.A n) n q02_Sum.b2) m (q02_Sum.l14_0.shape t) = (q02_Sum.l14_0.m n m t).map q02_Sum.l14_0.res :=
  (q02_Sum.l14_0.loop' n m t).trans (q02_Sum.l14_0.gmap q02_Sum.l14_0.res (fun a0 a1 a2 a3 a4 a5 => (a0, a1, a2, a3, a4, a5)) n m t.1 t.2.1 t.2.2.1 t.2.2.2.1 t.2.2.2.2.1 t.2.2.2.2.2.1 t.2.2.2.2.2.2)
theorem q02_Sum.l11_0.rmap {α β : Type} (h : β → α) (mk0 : (List Int) → (List Int) → β) (n : Nat) (f : Int → (List Int) → (List Int) → (List Int) → (List Int) → (List Int) → Option β)  (x0 : Int) (x1 : (List Int)) (x2 : (List Int)) (x3 : (List Int)) (x4 : (List Int)) (x5 : (List Int)) : q02_Sum.l11_0.r (fun a0 a1 => (h (mk0 a0 a1))) n (fun y0 y1 y2 y3 y4 y5 => (f y0 y1 y2 y3 y4 y5).map h) x0 x1 x2 x3 x4 x5 = (q02_Sum.l11_0.r mk0 n f x0 x1 x2 x3 x4 x5).map h := by
  unfold q02_Sum.l11_0.r
  exact (ite_map (bindO_map fun r6 => (bindO_map fun r8 => match r8 with | (.inl r8) => rfl | (.inr r8) => rfl)) rfl)
theorem q02_Sum.l11_0.gmap {α β : Type} (h : β → α) (mk0 : (List Int) → (List Int) → β) (n : Nat) : ∀ (m : Nat) (x0 : Int) (x1 : (List Int)) (x2 : (List Int)) (x3 : (List Int)) (x4 : (List Int)) (x5 : (List Int)), q02_Sum.l11_0.g (fun a0 a1 => (h (mk0 a0 a1))) n m x0 x1 x2 x3 x4 x5 = (q02_Sum.l11_0.g mk0 n m x0 x1 x2 x3 x4 x5).map h
  | 0, _, _, _, _, _, _ => rfl
  | m + 1, x0, x1, x2, x3, x4, x5 => by
    unfold q02_Sum.l11_0.g
    rw [← q02_Sum.l11_0.rmap]
    congr
    · funext y0 y1 y2 y3 y4 y5; exact q02_Sum.l11_0.gmap h mk0 n m y0 y1 y2 y3 y4 y5
theorem q02_Sum.l11_0.pat_shape : ∀ st t, q02_Sum.l11_0.pat st = some t → st = q02_Sum.l11_0.shape t := by
  intro st t h
  unfold q02_Sum.l11_0.pat at h
  split at h
  · cases h; rfl
  · cases h
theorem q02_Sum.l11_0.round (n : Nat) (rc : St → Option (Ex × St)) (x0 : Int) (x1 : (List Int)) (x2 : (List Int)) (x3 : (List Int)) (x4 : (List Int)) (x5 : (List Int)) : roundOf (q02_Sum.C n) (q02_Sum.A n) n q02_Sum.b1 rc ((St.mk [(.int .i64 x0), (.own 0 1), (.own 1 1), (.own 2 1), (.own 3 1), (.ptr 4 [])] [(some (.ints .u8 x1)), (some (.ints .u64 x2)), (some (.ints .i64 x3)), (some (.ints .u64 x4)), (some (.var (.ints .u64 4 x5)))])) = q02_Sum.l11_0.r (fun a0 a1 => ((Prod.mk (.exit 2) (St.mk [(.own 0 1), (.ptr 1 [])] [(some (.ints .u64 a0)), (some (.var (.ints .u64 4 a1)))])) : Ex × St)) n (fun y0 y1 y2 y3 y4 y5 => rc ((St.mk [(.int .i64 y0), (.own 0 1), (.own 1 1), (.own 2 1), (.own 3 1), (.ptr 4 [])] [(some (.ints .u8 y1)), (some (.ints .u64 y2)), (some (.ints .i64 y3)), (some (.ints .u64 y4)), (some (.var (.ints .u64 4 y5)))]))) x0 x1 x2 x3 x4 x5 := by kernel_rfl
theorem q02_Sum.l11_0.loop' (n : Nat) : ∀ (m : Nat) (t : (Int × ((List Int) × ((List Int) × ((List Int) × ((List Int) × (List Int))))))), loopOf (roundOf (q02_Sum.C n) (q02_Sum.A n) n q02_Sum.b1) m (q02_Sum.l11_0.shape t) = q02_Sum.l11_0.g (fun a0 a1 => ((Prod.mk (.exit 2) (St.mk [(.own 0 1), (.ptr 1 [])] [(some (.ints .u64 a0)), (some (.var (.ints .u64 4 a1)))])) : Ex × St)) n m t.1 t.2.1 t.2.2.1 t.2.2.2.1 t.2.2.2.2.1 t.2.2.2.2.2 :=
  loop_of_round (shape := q02_Sum.l11_0.shape) (body := roundOf (q02_Sum.C n) (q02_Sum.A n) n q02_Sum.b1) (g := fun m t => q02_Sum.l11_0.g (fun a0 a1 => ((Prod.mk (.exit 2) (St.mk [(.own 0 1), (.ptr 1 [])] [(some (.ints .u64 a0)), (some (.var (.ints .u64 4 a1)))])) : Ex × St)) n m t.1 t.2.1 t.2.2.1 t.2.2.2.1 t.2.2.2.2.1 t.2.2.2.2.2) (fun t => rfl)
    fun m t ih => (q02_Sum.l11_0.round n (loopOf (roundOf (q02_Sum.C n) (q02_Sum.A n) n q02_Sum.b1) m) t.1 t.2.1 t.2.2.1 t.2.2.2.1 t.2.2.2.2.1 t.2.2.2.2.2).trans (congrFun (congrFun (congrFun (congrFun (congrFun (congrFun (congrArg (q02_Sum.l11_0.r (fun a0 a1 => ((Prod.mk (.exit 2) (St.mk [(.own 0 1), (.ptr 1 [])] [(some (.ints .u64 a0)), (some (.var (.ints .u64 4 a1)))])) : Ex × St)) n) (funext fun y0 => funext fun y1 => funext fun y2 => funext fun y3 => funext fun y4 => funext fun y5 => ih (y0, y1, y2, y3, y4, y5))) t.1) t.2.1) t.2.2.1) t.2.2.2.1) t.2.2.2.2.1) t.2.2.2.2.2)
theorem q02_Sum.l11_0.loop (n m : Nat) (t : (Int × ((List Int) × ((List Int) × ((List Int) × ((List Int) × (List Int))))))) : loopOf (roundOf (q02_Sum.C n) (q02_Sum.A n) n q02_Sum.b1) m (q02_Sum.l11_0.shape t) = (q02_Sum.l11_0.m n m t).map q02_Sum.l11_0.res :=
  (q02_Sum.l11_0.loop' n m t).trans (q02_Sum.l11_0.gmap q02_Sum.l11_0.res (fun a0 a1 => (a0, a1)) n m t.1 t.2.1 t.2.2.1 t.2.2.2.1 t.2.2.2.2.1 t.2.2.2.2.2)
theorem q02_Sum.l26_0.rmap {α β : Type} (h : β → α) (mk0 : Int → (List Int) → (List Int) → (List Int) → β) (n : Nat) (f : Int → Int → (List Int) → (List Int) → (List Int) → Option β)  (x0 : Int) (x1 : Int) (x2 : (List Int)) (x3 : (List Int)) (x4 : (List Int)) : q02_Sum.l26_0.r (fun a0 a1 a2 a3 => (h (mk0 a0 a1 a2 a3))) n (fun y0 y1 y2 y3 y4 => (f y0 y1 y2 y3 y4).map h) x0 x1 x2 x3 x4 = (q02_Sum.l26_0.r mk0 n f x0 x1 x2 x3 x4).map h := by
  unfold q02_Sum.l26_0.r
  exact (ite_map (ite_map (ite_map (ite_map (ite_map rfl rfl) rfl) rfl) rfl) rfl)
theorem q02_Sum.l26_0.gmap {α β : Type} (h : β → α) (mk0 : Int → (List Int) → (List Int) → (List Int) → β) (n : Nat) : ∀ (m : Nat) (x0 : Int) (x1 : Int) (x2 : (List Int)) (x3 : (List Int)) (x4 : (List Int)), q02_Sum.l26_0.g (fun a0 a1 a2 a3 => (h (mk0 a0 a1 a2 a3))) n m x0 x1 x2 x3 x4 = (q02_Sum.l26_0.g mk0 n m x0 x1 x2 x3 x4).map h
  | 0, _, _, _, _, _ => rfl
  | m + 1, x0, x1, x2, x3, x4 => by
    unfold q02_Sum.l26_0.g
    rw [← q02_Sum.l26_0.rmap]
    congr
    · funext y0 y1 y2 y3 y4; exact q02_Sum.l26_0.gmap h mk0 n m y0 y1 y2 y3 y4
theorem q02_Sum.l26_0.pat_shape : ∀ st t, q02_Sum.l26_0.pat st = some t → st = q02_Sum.l26_0.shape t := by
  intro st t h
  unfold q02_Sum.l26_0.pat at h
  split at h
  · cases h; rfl
  · cases h
theorem q02_Sum.l26_0.round (n : Nat) (rc : St → Option (Ex × St)) (x0 : Int) (x1 : Int) (x2 : (List Int)) (x3 : (List Int)) (x4 : (List Int)) : roundOf (q02_Sum.C n) (q02_Sum.A n) n q02_Sum.b5 rc ((St.mk [(.int .i64 x0), (.own 0 1), (.own 1 1), (.int .i64 x1), (.ptr 2 [])] [(some (.ints .u8 x2)), (some (.ints .u64 x3)), (some (.var (.ints .u64 4 x4)))])) = q02_Sum.l26_0.r (fun a0 a1 a2 a3 => ((Prod.mk (.exit 10) (St.mk [(.int .i64 a0), (.own 0 1), (.own 1 1), (.ptr 2 [])] [(some (.ints .u8 a1)), (some (.ints .u64 a2)), (some (.var (.ints .u64 4 a3)))])) : Ex × St)) n (fun y0 y1 y2 y3 y4 => rc ((St.mk [(.int .i64 y0), (.own 0 1), (.own 1 1), (.int .i64 y1), (.ptr 2 [])] [(some (.ints .u8 y2)), (some (.ints .u64 y3)), (some (.var (.ints .u64 4 y4)))]))) x0 x1 x2 x3 x4 := by kernel_rfl
theorem q02_Sum.l26_0.loop' (n : Nat) : ∀ (m : Nat) (t : (Int × (Int × ((List Int) × ((List Int) × (List Int)))))), loopOf (roundOf (q02_Sum.C n) (q02_Sum.A n) n q02_Sum.b5) m (q02_Sum.l26_0.shape t) = q02_Sum.l26_0.g (fun a0 a1 a2 a3 => ((Prod.mk (.exit 10) (St.mk [(.int .i64 a0), (.own 0 1), (.own 1 1), (.ptr 2 [])] [(some (.ints .u8 a1)), (some (.ints .u64 a2)), (some (.var (.ints .u64 4 a3)))])) : Ex × St)) n m t.1 t.2.1 t.2.2.1 t.2.2.2.1 t.2.2.2.2 :=
  loop_of_round (shape := q02_Sum.l26_0.shape) (body := roundOf (q02_Sum.C n) (q02_Sum.A n) n q02_Sum.b5) (g := fun m t => q02_Sum.l26_0.g (fun a0 a1 a2 a3 => ((Prod.mk (.exit 10) (St.mk [(.int .i64 a0), (.own 0 1), (.own 1 1), (.ptr 2 [])] [(some (.ints .u8 a1)), (some (.ints .u64 a2)), (some (.var (.ints .u64 4 a3)))])) : Ex × St)) n m t.1 t.2.1 t.2.2.1 t.2.2.2.1 t.2.2.2.2) (fun t => rfl)
    fun m t ih => (q02_Sum.l26_0.round n (loopOf (roundOf (q02_Sum.C n) (q02_Sum.A n) n q02_Sum.b5) m) t.1 t.2.1 t.2.2.1 t.2.2.2.1 t.2.2.2.2).trans (congrFun (congrFun (congrFun (congrFun (congrFun (congrArg (q02_Sum.l26_0.r (fun a0 a1 a2 a3 => ((Prod.mk (.exit 10) (St.mk [(.int .i64 a0), (.own 0 1), (.own 1 1), (.ptr 2 [])] [(some (.ints .u8 a1)), (some (.ints .u64 a2)), (some (.var (.ints .u64 4 a3)))])) : Ex × St)) n) (funext fun y0 => funext fun y1 => funext fun y2 => funext fun y3 => funext fun y4 => ih (y0, y1, y2, y3, y4))) t.1) t.2.1) t.2.2.1) t.2.2.2.1) t.2.2.2.2)
theorem q02_Sum.l26_0.loop (n m : Nat) (t : (Int × (Int × ((List Int) × ((List Int) × (List Int)))))) : loopOf (roundOf (q02_Sum.C n) (q02_Sum.A n) n q02_Sum.b5) m (q02_Sum.l26_0.shape t) = (q02_Sum.l26_0.m n m t).map q02_Sum.l26_0.res :=
  (q02_Sum.l26_0.loop' n m t).trans (q02_Sum.l26_0.gmap q02_Sum.l26_0.res (fun a0 a1 a2 a3 => (a0, a1, a2, a3)) n m t.1 t.2.1 t.2.2.1 t.2.2.2.1 t.2.2.2.2)
theorem q02_Sum.l23_0.rmap {α β : Type} (h : β → α) (mk0 : (List Int) → (List Int) → β) (n : Nat) (f : Int → (List Int) → (List Int) → (List Int) → Option β)  (x0 : Int) (x1 : (List Int)) (x2 : (List Int)) (x3 : (List Int)) : q02_Sum.l23_0.r (fun a0 a1 => (h (mk0 a0 a1))) n (fun y0 y1 y2 y3 => (f y0 y1 y2 y3).map h) x0 x1 x2 x3 = (q02_Sum.l23_0.r mk0 n f x0 x1 x2 x3).map h := by
  unfold q02_Sum.l23_0.r
  exact (ite_map (bindO_map fun r6 => rfl) rfl)
theorem q02_Sum.l23_0.gmap {α β : Type} (h : β → α) (mk0 : (List Int) → (List Int) → β) (n : Nat) : ∀ (m : Nat) (x0 : Int) (x1 : (List Int)) (x2 : (List Int)) (x3 : (List Int)), q02_Sum.l23_0.g (fun a0 a1 => (h (mk0 a0 a1))) n m x0 x1 x2 x3 = (q02_Sum.l23_0.g mk0 n m x0 x1 x2 x3).map h
  | 0, _, _, _, _ => rfl
  | m + 1, x0, x1, x2, x3 => by
    unfold q02_Sum.l23_0.g
    rw [← q02_Sum.l23_0.rmap]
    congr
    · funext y0 y1 y2 y3; exact q02_Sum.l23_0.gmap h mk0 n m y0 y1 y2 y3
theorem q02_Sum.l23_0.pat_shape : ∀ st t, q02_Sum.l23_0.pat st = some t → st = q02_Sum.l23_0.shape t := by
  intro st t h
  unfold q02_Sum.l23_0.pat at h
  split at h
  · cases h; rfl
  · cases h
theorem q02_Sum.l23_0.round (n : Nat) (rc : St → Option (Ex × St)) (x0 : Int) (x1 : (List Int)) (x2 : (List Int)) (x3 : (List Int)) : roundOf (q02_Sum.C n) (q02_Sum.A n) n q02_Sum.b4 rc ((St.mk [(.int .i64 x0), (.own 0 1), (.own 1 1), (.ptr 2 [])] [(some (.ints .u8 x1)), (some (.ints .u64 x2)), (some (.var (.ints .u64 4 x3)))])) = q02_Sum.l23_0.r (fun a0 a1 => ((Prod.mk (.exit 8) (St.mk [(.own 0 1), (.ptr 1 [])] [(some (.ints .u8 a0)), (some (.var (.ints .u64 4 a1)))])) : Ex × St)) n (fun y0 y1 y2 y3 => rc ((St.mk [(.int .i64 y0), (.own 0 1), (.own 1 1), (.ptr 2 [])] [(some (.ints .u8 y1)), (some (.ints .u64 y2)), (some (.var (.ints .u64 4 y3)))]))) x0 x1 x2 x3 := by kernel_rfl
theorem q02_Sum.l23_0.loop' (n : Nat) : ∀ (m : Nat) (t : (Int × ((List Int) × ((List Int) × (List Int))))), loopOf (roundOf (q02_Sum.C n) (q02_Sum.A n) n q02_Sum.b4) m (q02_Sum.l23_0.shape t) = q02_Sum.l23_0.g (fun a0 a1 => ((Prod.mk (.exit 8) (St.mk [(.own 0 1), (.ptr 1 [])] [(some (.ints .u8 a0)), (some (.var (.ints .u64 4 a1)))])) : Ex × St)) n m t.1 t.2.1 t.2.2.1 t.2.2.2 :=
  loop_of_round (shape := q02_Sum.l23_0.shape) (body := roundOf (q02_Sum.C n) (q02_Sum.A n) n q02_Sum.b4) (g := fun m t => q02_Sum.l23_0.g (fun a0 a1 => ((Prod.mk (.exit 8) (St.mk [(.own 0 1), (.ptr 1 [])] [(some (.ints .u8 a0)), (some (.var (.ints .u64 4 a1)))])) : Ex × St)) n m t.1 t.2.1 t.2.2.1 t.2.2.2) (fun t => rfl)
    fun m t ih => (q02_Sum.l23_0.round n (loopOf (roundOf (q02_Sum.C n) (q02_Sum.A n) n q02_Sum.b4) m) t.1 t.2.1 t.2.2.1 t.2.2.2).trans (congrFun (congrFun (congrFun (congrFun (congrArg (q02_Sum.l23_0.r (fun a0 a1 => ((Prod.mk (.exit 8) (St.mk [(.own 0 1), (.ptr 1 [])] [(some (.ints .u8 a0)), (some (.var (.ints .u64 4 a1)))])) : Ex × St)) n) (funext fun y0 => funext fun y1 => funext fun y2 => funext fun y3 => ih (y0, y1, y2, y3))) t.1) t.2.1) t.2.2.1) t.2.2.2)
theorem q02_Sum.l23_0.loop (n m : Nat) (t : (Int × ((List Int) × ((List Int) × (List Int))))) : loopOf (roundOf (q02_Sum.C n) (q02_Sum.A n) n q02_Sum.b4) m (q02_Sum.l23_0.shape t) = (q02_Sum.l23_0.m n m t).map q02_Sum.l23_0.res :=
  (q02_Sum.l23_0.loop' n m t).trans (q02_Sum.l23_0.gmap q02_Sum.l23_0.res (fun a0 a1 => (a0, a1)) n m t.1 t.2.1 t.2.2.1 t.2.2.2)
theorem q02_Sum.gmap {α β : Type} (h : β → α) (mk0 : (List Int) → β) (n : Nat) (a0 : (List Int)) : q02_Sum.g (fun a0 => (h (mk0 a0))) n a0 = (q02_Sum.g mk0 n a0).map h := by
  unfold q02_Sum.g
  exact (ite_map (ite_map (bindO_map fun r6 => (ite_map (ite_map (ite_map (ite_map (bindO_map fun r16 => (bindO_map fun r18 => (bindO_map fun r20 => (bindO_map fun r22 => (bindO_map fun r24 => rfl))))) rfl) rfl) rfl) rfl)) rfl) rfl)
theorem q02_Sum.run (n : Nat) (a0 : (List Int)) : runF (q02_Sum.C n) (q02_Sum.A n) n Tryd.f8 [(.rints .u8 a0)] [] (fun v o => some (v, o)) = q02_Sum.g (fun a0 => ((Prod.mk (.ints .u64 4 a0) []) : AV × Blks)) n a0 := by kernel_rfl
theorem q02_Sum.call (hmix : Tryd.prog.follows .mixedOrders = true) (n : Nat) (t : (List Int)) (u) (h : q02_Sum.m n t = some u) : FnC Tryd.prog kecG 8 (q02_Sum.shape t).1 (q02_Sum.shape t).2 (q02_Sum.res u).1 (q02_Sum.res u).2 := by
  have hg : ∀ f m, (q02_Sum.C n).Γ f = some m → CalleeS Tryd.prog kecG f m := by
    intro f m hm
    unfold q02_Sum.C at hm
    simp only at hm
    first
    | (cases hm; done)
    | (split at hm <;> first
    | (cases hm; exact q02_turns.s hmix n)
    | (cases hm; exact q02_keys.s hmix n)
    | (cases hm; exact q02_mix.s hmix n)
    | (cases hm; exact q01_Read.s hmix n)
    | (cases hm; done))
  have hb : Tryd.f8.body = some (Tryd.f8.body.getD .skip) := by kernel_rfl
  refine runF_calls (C := q02_Sum.C n) (A := q02_Sum.A n) (n := n) (fn := Tryd.f8) hg hmix Tryd.func8 hb ?_ ?_ (by decide) rfl rfl (by show 1 ≤ Tryd.f8.ntmps; decide) ?_
  · rw [show loopsIn (Tryd.f8.body.getD .skip) = [q02_Sum.b0, q02_Sum.b1, q02_Sum.b2, q02_Sum.b3, q02_Sum.b4, q02_Sum.b5] by kernel_rfl]
    intro b hb m hm
    simp only [List.mem_cons, List.not_mem_nil, or_false] at hb
    rcases hb with rfl | rfl | rfl | rfl | rfl | rfl
    · have e : (q02_Sum.A n).loop (key q02_Sum.b0) = some (.mk' q02_Sum.l4_0.pat (q02_Sum.l4_0.m n n) q02_Sum.l4_0.resK) := by rw [show key q02_Sum.b0 = 4 by kernel_rfl]; rfl
      rw [e] at hm
      cases hm
      exact (LoopS.of (res := q02_Sum.l4_0.res) (fun R u K => rfl) q02_Sum.l4_0.pat_shape fun t => q02_Sum.l4_0.loop n n t)
    · have e : (q02_Sum.A n).loop (key q02_Sum.b1) = some (.mk' q02_Sum.l11_0.pat (q02_Sum.l11_0.m n n) q02_Sum.l11_0.resK) := by rw [show key q02_Sum.b1 = 11 by kernel_rfl]; rfl
      rw [e] at hm
      cases hm
      exact (LoopS.of (res := q02_Sum.l11_0.res) (fun R u K => rfl) q02_Sum.l11_0.pat_shape fun t => q02_Sum.l11_0.loop n n t)
    · have e : (q02_Sum.A n).loop (key q02_Sum.b2) = some (.mk' q02_Sum.l14_0.pat (q02_Sum.l14_0.m n n) q02_Sum.l14_0.resK) := by rw [show key q02_Sum.b2 = 14 by kernel_rfl]; rfl
      rw [e] at hm
      cases hm
      exact (LoopS.of (res := q02_Sum.l14_0.res) (fun R u K => rfl) q02_Sum.l14_0.pat_shape fun t => q02_Sum.l14_0.loop n n t)
    · have e : (q02_Sum.A n).loop (key q02_Sum.b3) = some (.mk' q02_Sum.l17_0.pat (q02_Sum.l17_0.m n n) q02_Sum.l17_0.resK) := by rw [show key q02_Sum.b3 = 17 by kernel_rfl]; rfl
      rw [e] at hm
      cases hm
      exact (LoopS.of (res := q02_Sum.l17_0.res) (fun R u K => rfl) q02_Sum.l17_0.pat_shape fun t => q02_Sum.l17_0.loop n n t)
    · have e : (q02_Sum.A n).loop (key q02_Sum.b4) = some (.mk' q02_Sum.l23_0.pat (q02_Sum.l23_0.m n n) q02_Sum.l23_0.resK) := by rw [show key q02_Sum.b4 = 23 by kernel_rfl]; rfl
      rw [e] at hm
      cases hm
      exact (LoopS.of (res := q02_Sum.l23_0.res) (fun R u K => rfl) q02_Sum.l23_0.pat_shape fun t => q02_Sum.l23_0.loop n n t)
    · have e : (q02_Sum.A n).loop (key q02_Sum.b5) = some (.mk' q02_Sum.l26_0.pat (q02_Sum.l26_0.m n n) q02_Sum.l26_0.resK) := by rw [show key q02_Sum.b5 = 26 by kernel_rfl]; rfl
      rw [e] at hm
      cases hm
      exact (LoopS.of (res := q02_Sum.l26_0.res) (fun R u K => rfl) q02_Sum.l26_0.pat_shape fun t => q02_Sum.l26_0.loop n n t)
  · intro a ha m hm
    cases (show none = some m from hm)
  · rw [show runF (q02_Sum.C n) (q02_Sum.A n) n Tryd.f8 (q02_Sum.shape t).1 (q02_Sum.shape t).2 (fun v o => some (v, o)) = _ from q02_Sum.run n t]
    have e := q02_Sum.gmap q02_Sum.res (fun a0 => a0) n t
    unfold q02_Sum.m at h
    rw [h] at e
    exact e
theorem q02_Sum.s (hmix : Tryd.prog.follows .mixedOrders = true) (n : Nat) : CalleeS Tryd.prog kecG 8 (q02_Sum.c n) :=
  CalleeS.of (res := q02_Sum.res) (shape := q02_Sum.shape) (fun R u K => rfl) (fun args lent t h => by
    unfold q02_Sum.pat at h
    split at h
    · cases h; rfl
    · cases h) fun t u h => (q02_Sum.call hmix n t u h).ok Tryd.func8 (by decide) (by kernel_rfl)
end
section
noncomputable section
noncomputable def word_Bytes.C (n : Nat) : Ctx := ⟨Tryd.prog, kecG, fun f => match f with
 | _ => none⟩
def word_Bytes.live : Nat → List Nat × List Nat := fun k => match k with
 | 3 => ([6, 3, 1], [3])
 | _ => ([], [])
def word_Bytes.jlive : Nat → List Nat × List Nat := fun k => match k with
 | _ => ([], [])
def word_Bytes.l3_0.r {α : Type} (mk0 : (List Int) → α) (n : Nat) (rc : Int → (List Int) → (List Int) → Option α)  (x0 : Int) (x1 : (List Int)) (x2 : (List Int)) : Option α :=
  if (decide (x0 < 32)) = true then
   if 0 ≤ (IntKind.wrap .i64 (Int.tdiv x0 8)) then
    if (IntKind.wrap .i64 (Int.tdiv x0 8)) < 4 then
     if 0 ≤ (IntKind.wrap .i64 ((Int.tmod x0 8) * 8)) then
      if 0 ≤ (IntKind.wrap .i64 (31 - x0)) then
       if (IntKind.wrap .i64 (31 - x0)) < (((List.length x1) : Nat) : Int) then
        rc (IntKind.wrap .i64 (x0 + 1)) (List.set x1 (Int.toNat (IntKind.wrap .i64 (31 - x0))) (IntKind.wrap .u8 (ishr .u64 (List.getD x2 (Int.toNat (IntKind.wrap .i64 (Int.tdiv x0 8))) 0) (IntKind.wrap .i64 ((Int.tmod x0 8) * 8))))) x2
       else
        none
      else
       none
     else
      none
    else
     none
   else
    none
  else
   some (mk0 x1)
def word_Bytes.l3_0.g {α : Type} (mk0 : (List Int) → α) (n : Nat) : Nat → Int → (List Int) → (List Int) → Option α
 | 0, _, _, _ => none
 | m + 1, x0, x1, x2 => word_Bytes.l3_0.r mk0 n (fun y0 y1 y2 => word_Bytes.l3_0.g mk0 n m y0 y1 y2)  x0 x1 x2
def word_Bytes.l3_0.m (n m : Nat) (t : (Int × ((List Int) × (List Int)))) : Option (List Int) := word_Bytes.l3_0.g (fun a0 => a0) n m t.1 t.2.1 t.2.2
def word_Bytes.l3_0.pat : St → Option (Int × ((List Int) × (List Int)))
 | (St.mk [(.int .i64 x0), (.own 0 1), (.ptr 1 [])] [(some (.ints .u8 x1)), (some (.var (.ints .u64 4 x2)))]) => some (x0, x1, x2)
 | _ => none
def word_Bytes.l3_0.shape (t : (Int × ((List Int) × (List Int)))) : St := (St.mk [(.int .i64 t.1), (.own 0 1), (.ptr 1 [])] [(some (.ints .u8 t.2.1)), (some (.var (.ints .u64 4 t.2.2)))])
def word_Bytes.l3_0.res : (List Int) → Ex × St
 | u => (Prod.mk (.exit 0) (St.mk [(.own 0 1)] [(some (.ints .u8 u))]))
def word_Bytes.l3_0.resK {R : Type} (u : (List Int)) (K : Ex → St → Option R) : Option R := (fun p : Ex × St => K p.1 p.2) (Prod.mk (.exit 0) (St.mk [(.own 0 1)] [(some (.ints .u8 u))]))
noncomputable def word_Bytes.A (n : Nat) : Ann := ⟨Tryd.f17.ntmps, 0, word_Bytes.live, [(3, (.ints .u8))], [(some (.ints .u8))], fun k => match k with
 | 3 => some (.mk' word_Bytes.l3_0.pat (word_Bytes.l3_0.m n n) word_Bytes.l3_0.resK)
 | _ => none, word_Bytes.jlive, lookJ []⟩
noncomputable def word_Bytes.b0 : Code := (loopsIn (Tryd.f17.body.getD .skip)).getD 0 .skip
def word_Bytes.g {α : Type} (mk0 : (List Int) → α) (n : Nat) (a0 : (List Int)) : Option α :=
 bindO (word_Bytes.l3_0.m n n (0, [0, 0, 0, 0, 0, 0, 0, 0, 0, 0, 0, 0, 0, 0, 0, 0, 0, 0, 0, 0, 0, 0, 0, 0, 0, 0, 0, 0, 0, 0, 0, 0], a0)) fun r2 =>
  some (mk0 r2)
def word_Bytes.m (n : Nat) (t : (List Int)) : Option (List Int) := word_Bytes.g (fun a0 => a0) n t
def word_Bytes.pat : List AV → Blks → Option (List Int)
 | [(.ints .u64 4 a0)], [] => some a0
 | _, _ => none
def word_Bytes.shape (t : (List Int)) : List AV × Blks := ([(.ints .u64 4 t)], [])
def word_Bytes.res : (List Int) → AV × Blks
 | u => (Prod.mk (.own 0 1) [(some (.ints .u8 u))])
def word_Bytes.resK {R : Type} (u : (List Int)) (K : AV → Blks → Option R) : Option R := (fun p : AV × Blks => K p.1 p.2) (Prod.mk (.own 0 1) [(some (.ints .u8 u))])
def word_Bytes.c (n : Nat) : Abs.Callee := .mk' [] [none] word_Bytes.pat (word_Bytes.m n) word_Bytes.resK
end
end
section
noncomputable section
noncomputable def keccak_Join.C (n : Nat) : Ctx := ⟨Tryd.prog, kecG, fun f => match f with
 | 17 => some (word_Bytes.c n)
 | 7 => some (keccak_Sum.c n)
 | _ => none⟩
def keccak_Join.live : Nat → List Nat × List Nat := fun k => match k with
 | 3 => ([12, 11, 10, 3, 2], [3, 2])
 | _ => ([], [])
def keccak_Join.jlive : Nat → List Nat × List Nat := fun k => match k with
 | _ => ([], [])
def keccak_Join.l3_0.r {α : Type} (mk0 : (List Int) → (List Int) → α) (n : Nat) (rc : Int → Int → (List AV) → (List Int) → (List Int) → Option α)  (x0 : Int) (x1 : Int) (x2 : (List AV)) (x3 : (List Int)) (x4 : (List Int)) : Option α :=
  if (decide (x0 < x1)) = true then
   if 0 ≤ x0 then
    if x0 < (((List.length x2) : Nat) : Int) then
     bindO (tkInts .u64 4 (List.getD x2 (Int.toNat x0) AV.any)) fun r10 =>
      bindO (word_Bytes.m n r10) fun r12 =>
       if ((((List.length x3) + (List.length r12)) * 1) ≤ 70368744177664 ∧ ((List.length x3) + (List.length r12)) ≤ 9223372036854775807) then
        rc (IntKind.wrap .i64 (x0 + 1)) x1 x2 (x3 ++ r12) x4
       else
        none
    else
     none
   else
    none
  else
   some (mk0 x3 x4)
def keccak_Join.l3_0.g {α : Type} (mk0 : (List Int) → (List Int) → α) (n : Nat) : Nat → Int → Int → (List AV) → (List Int) → (List Int) → Option α
 | 0, _, _, _, _, _ => none
 | m + 1, x0, x1, x2, x3, x4 => keccak_Join.l3_0.r mk0 n (fun y0 y1 y2 y3 y4 => keccak_Join.l3_0.g mk0 n m y0 y1 y2 y3 y4)  x0 x1 x2 x3 x4
def keccak_Join.l3_0.m (n m : Nat) (t : (Int × (Int × ((List AV) × ((List Int) × (List Int)))))) : Option ((List Int) × (List Int)) := keccak_Join.l3_0.g (fun a0 a1 => (a0, a1)) n m t.1 t.2.1 t.2.2.1 t.2.2.2.1 t.2.2.2.2
def keccak_Join.l3_0.pat : St → Option (Int × (Int × ((List AV) × ((List Int) × (List Int)))))
 | (St.mk [(.int .i64 x0), (.int .i64 x1), (.robjs 26 4 x2), (.own 0 1), (.ptr 1 [])] [(some (.ints .u8 x3)), (some (.var (.ints .u64 4 x4)))]) => some (x0, x1, x2, x3, x4)
 | _ => none
def keccak_Join.l3_0.shape (t : (Int × (Int × ((List AV) × ((List Int) × (List Int)))))) : St := (St.mk [(.int .i64 t.1), (.int .i64 t.2.1), (.robjs 26 4 t.2.2.1), (.own 0 1), (.ptr 1 [])] [(some (.ints .u8 t.2.2.2.1)), (some (.var (.ints .u64 4 t.2.2.2.2)))])
def keccak_Join.l3_0.res : ((List Int) × (List Int)) → Ex × St
 | u => (Prod.mk (.exit 0) (St.mk [(.own 0 1), (.ptr 1 [])] [(some (.ints .u8 u.1)), (some (.var (.ints .u64 4 u.2)))]))
def keccak_Join.l3_0.resK {R : Type} (u : ((List Int) × (List Int))) (K : Ex → St → Option R) : Option R := (fun p : Ex × St => K p.1 p.2) (Prod.mk (.exit 0) (St.mk [(.own 0 1), (.ptr 1 [])] [(some (.ints .u8 u.1)), (some (.var (.ints .u64 4 u.2)))]))
noncomputable def keccak_Join.A (n : Nat) : Ann := ⟨Tryd.f9.ntmps, 0, keccak_Join.live, [(10, (.objs 26 4)), (3, (.ints .u8))], [none], fun k => match k with
 | 3 => some (.mk' keccak_Join.l3_0.pat (keccak_Join.l3_0.m n n) keccak_Join.l3_0.resK)
 | _ => none, keccak_Join.jlive, lookJ []⟩
noncomputable def keccak_Join.b0 : Code := (loopsIn (Tryd.f9.body.getD .skip)).getD 0 .skip
def keccak_Join.g {α : Type} (mk0 : (List Int) → α) (n : Nat) (a0 : (List AV)) : Option α :=
 if 0 ≤ (IntKind.wrap .i64 (32 * (((List.length a0) : Nat) : Int))) then
  if ((IntKind.wrap .i64 (32 * (((List.length a0) : Nat) : Int))) * ((1 : Nat) : Int)) ≤ 140737488355328 then
   if (IntKind.wrap .i64 (32 * (((List.length a0) : Nat) : Int))) ≤ 1152921504606846976 then
    bindO (keccak_Join.l3_0.m n n (0, (((List.length a0) : Nat) : Int), a0, [], [0, 0, 0, 0])) fun r8 =>
     bindO (keccak_Sum.m n (Prod.fst r8)) fun r10 =>
      some (mk0 r10)
   else
    none
  else
   none
 else
  none
def keccak_Join.m (n : Nat) (t : (List AV)) : Option (List Int) := keccak_Join.g (fun a0 => a0) n t
def keccak_Join.pat : List AV → Blks → Option (List AV)
 | [(.robjs 26 4 a0)], [] => some a0
 | _, _ => none
def keccak_Join.shape (t : (List AV)) : List AV × Blks := ([(.robjs 26 4 t)], [])
def keccak_Join.res : (List Int) → AV × Blks
 | u => (Prod.mk (.ints .u64 4 u) [])
def keccak_Join.resK {R : Type} (u : (List Int)) (K : AV → Blks → Option R) : Option R := (fun p : AV × Blks => K p.1 p.2) (Prod.mk (.ints .u64 4 u) [])
def keccak_Join.c (n : Nat) : Abs.Callee := .mk' [] [(some (.objs 26 4))] keccak_Join.pat (keccak_Join.m n) keccak_Join.resK
end
end
section
theorem word_Bytes.l3_0.rmap {α β : Type} (h : β → α) (mk0 : (List Int) → β) (n : Nat) (f : Int → (List Int) → (List Int) → Option β)  (x0 : Int) (x1 : (List Int)) (x2 : (List Int)) : word_Bytes.l3_0.r (fun a0 => (h (mk0 a0))) n (fun y0 y1 y2 => (f y0 y1 y2).map h) x0 x1 x2 = (word_Bytes.l3_0.r mk0 n f x0 x1 x2).map h := by
  unfold word_Bytes.l3_0.r
  exact (ite_map (ite_map (ite_map (ite_map (ite_map (ite_map rfl rfl) rfl) rfl) rfl) rfl) rfl)
theorem word_Bytes.l3_0.gmap {α β : Type} (h : β → α) (mk0 : (List Int) → β) (n : Nat) : ∀ (m : Nat) (x0 : Int) (x1 : (List Int)) (x2 : (List Int)), word_Bytes.l3_0.g (fun a0 => (h (mk0 a0))) n m x0 x1 x2 = (word_Bytes.l3_0.g mk0 n m x0 x1 x2).map h
  | 0, _, _, _ => rfl
  | m + 1, x0, x1, x2 => by
    unfold word_Bytes.l3_0.g
    rw [← word_Bytes.l3_0.rmap]
    congr
    · funext y0 y1 y2; exact word_Bytes.l3_0.gmap h mk0 n m y0 y1 y2
theorem word_Bytes.l3_0.pat_shape : ∀ st t, word_Bytes.l3_0.pat st = some t → st = word_Bytes.l3_0.shape t := by
  intro st t h
  unfold word_Bytes.l3_0.pat at h
  split at h
  · cases h; rfl
  · cases h
theorem word_Bytes.l3_0.round (n : Nat) (rc : St → Option (Ex × St)) (x0 : Int) (x1 : (List Int)) (x2 : (List Int)) : roundOf (word_Bytes.C n) (word_Bytes.A n) n word_Bytes.b0 rc ((St.mk [(.int .i64 x0), (.own 0 1), (.ptr 1 [])] [(some (.ints .u8 x1)), (some (.var (.ints .u64 4 x2)))])) = word_Bytes.l3_0.r (fun a0 => ((Prod.mk (.exit 0) (St.mk [(.own 0 1)] [(some (.ints .u8 a0))])) : Ex × St)) n (fun y0 y1 y2 => rc ((St.mk [(.int .i64 y0), (.own 0 1), (.ptr 1 [])] [(some (.ints .u8 y1)), (some (.var (.ints .u64 4 y2)))]))) x0 x1 x2 := by kernel_rfl
theorem word_Bytes.l3_0.loop' (n : Nat) : ∀ (m : Nat) (t : (Int × ((List Int) × (List Int)))), loopOf (roundOf (word_Bytes.C n) (word_Bytes.A n) n word_Bytes.b0) m (word_Bytes.l3_0.shape t) = word_Bytes.l3_0.g (fun a0 => ((Prod.mk (.exit 0) (St.mk [(.own 0 1)] [(some (.ints .u8 a0))])) : Ex × St)) n m t.1 t.2.1 t.2.2 :=
  loop_of_round (shape := word_Bytes.l3_0.shape) (body := roundOf (word_Bytes.C n) (word_Bytes.A n) n word_Bytes.b0) (g := fun m t => word_Bytes.l3_0.g (fun a0 => ((Prod.mk (.exit 0) (St.mk [(.own 0 1)] [(some (.ints .u8 a0))])) : Ex × St)) n m t.1 t.2.1 t.2.2) (fun t => rfl)
    fun m t ih => (word_Bytes.l3_0.round n (loopOf (roundOf (word_Bytes.C n) (word_Bytes.A n) n word_Bytes.b0) m) t.1 t.2.1 t.2.2).trans (congrFun (congrFun (congrFun (congrArg (word_Bytes.l3_0.r (fun a0 => ((Prod.mk (.exit 0) (St.mk [(.own 0 1)] [(some (.ints .u8 a0))])) : Ex × St)) n) (funext fun y0 => funext fun y1 => funext fun y2 => ih (y0, y1, y2))) t.1) t.2.1) t.2.2)
theorem word_Bytes.l3_0.loop (n m : Nat) (t : (Int × ((List Int) × (List Int)))) : loopOf (roundOf (word_Bytes.C n) (word_Bytes.A n) n word_Bytes.b0) m (word_Bytes.l3_0.shape t) = (word_Bytes.l3_0.m n m t).map word_Bytes.l3_0.res :=
  (word_Bytes.l3_0.loop' n m t).trans (word_Bytes.l3_0.gmap word_Bytes.l3_0.res (fun a0 => a0) n m t.1 t.2.1 t.2.2)
theorem word_Bytes.gmap {α β : Type} (h : β → α) (mk0 : (List Int) → β) (n : Nat) (a0 : (List Int)) : word_Bytes.g (fun a0 => (h (mk0 a0))) n a0 = (word_Bytes.g mk0 n a0).map h := by
  unfold word_Bytes.g
  exact (bindO_map fun r2 => rfl)
theorem word_Bytes.run (n : Nat) (a0 : (List Int)) : runF (word_Bytes.C n) (word_Bytes.A n) n Tryd.f17 [(.ints .u64 4 a0)] [] (fun v o => some (v, o)) = word_Bytes.g (fun a0 => ((Prod.mk (.own 0 1) [(some (.ints .u8 a0))]) : AV × Blks)) n a0 := by kernel_rfl
theorem word_Bytes.call (hmix : Tryd.prog.follows .mixedOrders = true) (n : Nat) (t : (List Int)) (u) (h : word_Bytes.m n t = some u) : FnC Tryd.prog kecG 17 (word_Bytes.shape t).1 (word_Bytes.shape t).2 (word_Bytes.res u).1 (word_Bytes.res u).2 := by
  have hg : ∀ f m, (word_Bytes.C n).Γ f = some m → CalleeS Tryd.prog kecG f m := by
    intro f m hm
    unfold word_Bytes.C at hm
    simp only at hm
    first
    | (cases hm; done)
    | (split at hm <;> first
    | (cases hm; done))
  have hb : Tryd.f17.body = some (Tryd.f17.body.getD .skip) := by kernel_rfl
  refine runF_calls (C := word_Bytes.C n) (A := word_Bytes.A n) (n := n) (fn := Tryd.f17) hg hmix Tryd.func17 hb ?_ ?_ (by decide) rfl rfl (by show 1 ≤ Tryd.f17.ntmps; decide) ?_
  · rw [show loopsIn (Tryd.f17.body.getD .skip) = [word_Bytes.b0] by kernel_rfl]
    intro b hb m hm
    simp only [List.mem_cons, List.not_mem_nil, or_false] at hb
    rcases hb with rfl
    · have e : (word_Bytes.A n).loop (key word_Bytes.b0) = some (.mk' word_Bytes.l3_0.pat (word_Bytes.l3_0.m n n) word_Bytes.l3_0.resK) := by rw [show key word_Bytes.b0 = 3 by kernel_rfl]; rfl
      rw [e] at hm
      cases hm
      exact LoopS.of (res := word_Bytes.l3_0.res) (fun R u K => rfl) word_Bytes.l3_0.pat_shape fun t => word_Bytes.l3_0.loop n n t
  · intro a ha m hm
    cases (show none = some m from hm)
  · rw [show runF (word_Bytes.C n) (word_Bytes.A n) n Tryd.f17 (word_Bytes.shape t).1 (word_Bytes.shape t).2 (fun v o => some (v, o)) = _ from word_Bytes.run n t]
    have e := word_Bytes.gmap word_Bytes.res (fun a0 => a0) n t
    unfold word_Bytes.m at h
    rw [h] at e
    exact e
theorem word_Bytes.s (hmix : Tryd.prog.follows .mixedOrders = true) (n : Nat) : CalleeS Tryd.prog kecG 17 (word_Bytes.c n) :=
  CalleeS.of (res := word_Bytes.res) (shape := word_Bytes.shape) (fun R u K => rfl) (fun args lent t h => by
    unfold word_Bytes.pat at h
    split at h
    · cases h; rfl
    · cases h) fun t u h => (word_Bytes.call hmix n t u h).ok Tryd.func17 (by decide) (by kernel_rfl)
end
section
theorem keccak_Join.l3_0.rmap {α β : Type} (h : β → α) (mk0 : (List Int) → (List Int) → β) (n : Nat) (f : Int → Int → (List AV) → (List Int) → (List Int) → Option β)  (x0 : Int) (x1 : Int) (x2 : (List AV)) (x3 : (List Int)) (x4 : (List Int)) : keccak_Join.l3_0.r (fun a0 a1 => (h (mk0 a0 a1))) n (fun y0 y1 y2 y3 y4 => (f y0 y1 y2 y3 y4).map h) x0 x1 x2 x3 x4 = (keccak_Join.l3_0.r mk0 n f x0 x1 x2 x3 x4).map h := by
  unfold keccak_Join.l3_0.r
  exact (ite_map (ite_map (ite_map (bindO_map fun r10 => (bindO_map fun r12 => (ite_map rfl rfl))) rfl) rfl) rfl)
theorem keccak_Join.l3_0.gmap {α β : Type} (h : β → α) (mk0 : (List Int) → (List Int) → β) (n : Nat) : ∀ (m : Nat) (x0 : Int) (x1 : Int) (x2 : (List AV)) (x3 : (List Int)) (x4 : (List Int)), keccak_Join.l3_0.g (fun a0 a1 => (h (mk0 a0 a1))) n m x0 x1 x2 x3 x4 = (keccak_Join.l3_0.g mk0 n m x0 x1 x2 x3 x4).map h
  | 0, _, _, _, _, _ => rfl
  | m + 1, x0, x1, x2, x3, x4 => by
    unfold keccak_Join.l3_0.g
    rw [← keccak_Join.l3_0.rmap]
    congr
    · funext y0 y1 y2 y3 y4; exact keccak_Join.l3_0.gmap h mk0 n m y0 y1 y2 y3 y4
theorem keccak_Join.l3_0.pat_shape : ∀ st t, keccak_Join.l3_0.pat st = some t → st = keccak_Join.l3_0.shape t := by
  intro st t h
  unfold keccak_Join.l3_0.pat at h
  split at h
  · cases h; rfl
  · cases h
theorem keccak_Join.l3_0.round (n : Nat) (rc : St → Option (Ex × St)) (x0 : Int) (x1 : Int) (x2 : (List AV)) (x3 : (List Int)) (x4 : (List Int)) : roundOf (keccak_Join.C n) (keccak_Join.A n) n keccak_Join.b0 rc ((St.mk [(.int .i64 x0), (.int .i64 x1), (.robjs 26 4 x2), (.own 0 1), (.ptr 1 [])] [(some (.ints .u8 x3)), (some (.var (.ints .u64 4 x4)))])) = keccak_Join.l3_0.r (fun a0 a1 => ((Prod.mk (.exit 0) (St.mk [(.own 0 1), (.ptr 1 [])] [(some (.ints .u8 a0)), (some (.var (.ints .u64 4 a1)))])) : Ex × St)) n (fun y0 y1 y2 y3 y4 => rc ((St.mk [(.int .i64 y0), (.int .i64 y1), (.robjs 26 4 y2), (.own 0 1), (.ptr 1 [])] [(some (.ints .u8 y3)), (some (.var (.ints .u64 4 y4)))]))) x0 x1 x2 x3 x4 := by kernel_rfl
theorem keccak_Join.l3_0.loop' (n : Nat) : ∀ (m : Nat) (t : (Int × (Int × ((List AV) × ((List Int) × (List Int)))))), loopOf (roundOf (keccak_Join.C n) (keccak_Join.A n) n keccak_Join.b0) m (keccak_Join.l3_0.shape t) = keccak_Join.l3_0.g (fun a0 a1 => ((Prod.mk (.exit 0) (St.mk [(.own 0 1), (.ptr 1 [])] [(some (.ints .u8 a0)), (some (.var (.ints .u64 4 a1)))])) : Ex × St)) n m t.1 t.2.1 t.2.2.1 t.2.2.2.1 t.2.2.2.2 :=
  loop_of_round (shape := keccak_Join.l3_0.shape) (body := roundOf (keccak_Join.C n) (keccak_Join.A n) n keccak_Join.b0) (g := fun m t => keccak_Join.l3_0.g (fun a0 a1 => ((Prod.mk (.exit 0) (St.mk [(.own 0 1), (.ptr 1 [])] [(some (.ints .u8 a0)), (some (.var (.ints .u64 4 a1)))])) : Ex × St)) n m t.1 t.2.1 t.2.2.1 t.2.2.2.1 t.2.2.2.2) (fun t => rfl)
    fun m t ih => (keccak_Join.l3_0.round n (loopOf (roundOf (keccak_Join.C n) (keccak_Join.A n) n keccak_Join.b0) m) t.1 t.2.1 t.2.2.1 t.2.2.2.1 t.2.2.2.2).trans (congrFun (congrFun (congrFun (congrFun (congrFun (congrArg (keccak_Join.l3_0.r (fun a0 a1 => ((Prod.mk (.exit 0) (St.mk [(.own 0 1), (.ptr 1 [])] [(some (.ints .u8 a0)), (some (.var (.ints .u64 4 a1)))])) : Ex × St)) n) (funext fun y0 => funext fun y1 => funext fun y2 => funext fun y3 => funext fun y4 => ih (y0, y1, y2, y3, y4))) t.1) t.2.1) t.2.2.1) t.2.2.2.1) t.2.2.2.2)
theorem keccak_Join.l3_0.loop (n m : Nat) (t : (Int × (Int × ((List AV) × ((List Int) × (List Int)))))) : loopOf (roundOf (keccak_Join.C n) (keccak_Join.A n) n keccak_Join.b0) m (keccak_Join.l3_0.shape t) = (keccak_Join.l3_0.m n m t).map keccak_Join.l3_0.res :=
  (keccak_Join.l3_0.loop' n m t).trans (keccak_Join.l3_0.gmap keccak_Join.l3_0.res (fun a0 a1 => (a0, a1)) n m t.1 t.2.1 t.2.2.1 t.2.2.2.1 t.2.2.2.2)
theorem keccak_Join.gmap {α β : Type} (h : β → α) (mk0 : (List Int) → β) (n : Nat) (a0 : (List AV)) : keccak_Join.g (fun a0 => (h (mk0 a0))) n a0 = (keccak_Join.g mk0 n a0).map h := by
  unfold keccak_Join.g
  exact (ite_map (ite_map (ite_map (bindO_map fun r8 => (bindO_map fun r10 => rfl)) rfl) rfl) rfl)
theorem keccak_Join.run (n : Nat) (a0 : (List AV)) : runF (keccak_Join.C n) (keccak_Join.A n) n Tryd.f9 [(.robjs 26 4 a0)] [] (fun v o => some (v, o)) = keccak_Join.g (fun a0 => ((Prod.mk (.ints .u64 4 a0) []) : AV × Blks)) n a0 := by kernel_rfl
theorem keccak_Join.call (hmix : Tryd.prog.follows .mixedOrders = true) (n : Nat) (t : (List AV)) (u) (h : keccak_Join.m n t = some u) : FnC Tryd.prog kecG 9 (keccak_Join.shape t).1 (keccak_Join.shape t).2 (keccak_Join.res u).1 (keccak_Join.res u).2 := by
  have hg : ∀ f m, (keccak_Join.C n).Γ f = some m → CalleeS Tryd.prog kecG f m := by
    intro f m hm
    unfold keccak_Join.C at hm
    simp only at hm
    first
    | (cases hm; done)
    | (split at hm <;> first
    | (cases hm; exact word_Bytes.s hmix n)
    | (cases hm; exact keccak_Sum.s hmix n)
    | (cases hm; done))
  have hb : Tryd.f9.body = some (Tryd.f9.body.getD .skip) := by kernel_rfl
  refine runF_calls (C := keccak_Join.C n) (A := keccak_Join.A n) (n := n) (fn := Tryd.f9) hg hmix Tryd.func9 hb ?_ ?_ (by decide) rfl rfl (by show 1 ≤ Tryd.f9.ntmps; decide) ?_
  · rw [show loopsIn (Tryd.f9.body.getD .skip) = [keccak_Join.b0] by kernel_rfl]
    intro b hb m hm
    simp only [List.mem_cons, List.not_mem_nil, or_false] at hb
    rcases hb with rfl
    · have e : (keccak_Join.A n).loop (key keccak_Join.b0) = some (.mk' keccak_Join.l3_0.pat (keccak_Join.l3_0.m n n) keccak_Join.l3_0.resK) := by rw [show key keccak_Join.b0 = 3 by kernel_rfl]; rfl
      rw [e] at hm
      cases hm
      exact LoopS.of (res := keccak_Join.l3_0.res) (fun R u K => rfl) keccak_Join.l3_0.pat_shape fun t => keccak_Join.l3_0.loop n n t
  · intro a ha m hm
    cases (show none = some m from hm)
  · rw [show runF (keccak_Join.C n) (keccak_Join.A n) n Tryd.f9 (keccak_Join.shape t).1 (keccak_Join.shape t).2 (fun v o => some (v, o)) = _ from keccak_Join.run n t]
    have e := keccak_Join.gmap keccak_Join.res (fun a0 => a0) n t
    unfold keccak_Join.m at h
    rw [h] at e
    exact e
theorem keccak_Join.s (hmix : Tryd.prog.follows .mixedOrders = true) (n : Nat) : CalleeS Tryd.prog kecG 9 (keccak_Join.c n) :=
  CalleeS.of (res := keccak_Join.res) (shape := keccak_Join.shape) (fun R u K => rfl) (fun args lent t h => by
    unfold keccak_Join.pat at h
    split at h
    · cases h; rfl
    · cases h) fun t u h => (keccak_Join.call hmix n t u h).ok Tryd.func9 (by decide) (by kernel_rfl)
end
section
noncomputable section
noncomputable def q01_Bytes.C (n : Nat) : Ctx := ⟨Tryd.prog, kecG, fun f => match f with
 | _ => none⟩
def q01_Bytes.live : Nat → List Nat × List Nat := fun k => match k with
 | 3 => ([4, 3, 1], [3])
 | _ => ([], [])
def q01_Bytes.jlive : Nat → List Nat × List Nat := fun k => match k with
 | _ => ([], [])
def q01_Bytes.l3_0.r {α : Type} (mk0 : (List Int) → α) (n : Nat) (rc : Int → (List Int) → (List Int) → Option α)  (x0 : Int) (x1 : (List Int)) (x2 : (List Int)) : Option α :=
  if (decide (x0 < 32)) = true then
   if 0 ≤ (IntKind.wrap .i64 (Int.tdiv (IntKind.wrap .i64 (31 - x0)) 8)) then
    if (IntKind.wrap .i64 (Int.tdiv (IntKind.wrap .i64 (31 - x0)) 8)) < 4 then
     if 0 ≤ (IntKind.wrap .u64 (IntKind.wrap .i64 ((Int.tmod (IntKind.wrap .i64 (31 - x0)) 8) * 8))) then
      if ((((List.length x1) + 1) * 1) ≤ 70368744177664 ∧ ((List.length x1) + 1) ≤ 9223372036854775807) then
       rc (IntKind.wrap .i64 (x0 + 1)) (x1 ++ [(IntKind.wrap .u8 (ishr .u64 (List.getD x2 (Int.toNat (IntKind.wrap .i64 (Int.tdiv (IntKind.wrap .i64 (31 - x0)) 8))) 0) (IntKind.wrap .u64 (IntKind.wrap .i64 ((Int.tmod (IntKind.wrap .i64 (31 - x0)) 8) * 8)))))]) x2
      else
       none
     else
      none
    else
     none
   else
    none
  else
   some (mk0 x1)
def q01_Bytes.l3_0.g {α : Type} (mk0 : (List Int) → α) (n : Nat) : Nat → Int → (List Int) → (List Int) → Option α
 | 0, _, _, _ => none
 | m + 1, x0, x1, x2 => q01_Bytes.l3_0.r mk0 n (fun y0 y1 y2 => q01_Bytes.l3_0.g mk0 n m y0 y1 y2)  x0 x1 x2
def q01_Bytes.l3_0.m (n m : Nat) (t : (Int × ((List Int) × (List Int)))) : Option (List Int) := q01_Bytes.l3_0.g (fun a0 => a0) n m t.1 t.2.1 t.2.2
def q01_Bytes.l3_0.pat : St → Option (Int × ((List Int) × (List Int)))
 | (St.mk [(.int .i64 x0), (.own 0 1), (.ptr 1 [])] [(some (.ints .u8 x1)), (some (.var (.ints .u64 4 x2)))]) => some (x0, x1, x2)
 | _ => none
def q01_Bytes.l3_0.shape (t : (Int × ((List Int) × (List Int)))) : St := (St.mk [(.int .i64 t.1), (.own 0 1), (.ptr 1 [])] [(some (.ints .u8 t.2.1)), (some (.var (.ints .u64 4 t.2.2)))])
def q01_Bytes.l3_0.res : (List Int) → Ex × St
 | u => (Prod.mk (.exit 0) (St.mk [(.own 0 1)] [(some (.ints .u8 u))]))
def q01_Bytes.l3_0.resK {R : Type} (u : (List Int)) (K : Ex → St → Option R) : Option R := (fun p : Ex × St => K p.1 p.2) (Prod.mk (.exit 0) (St.mk [(.own 0 1)] [(some (.ints .u8 u))]))
noncomputable def q01_Bytes.A (n : Nat) : Ann := ⟨Tryd.f18.ntmps, 0, q01_Bytes.live, [(3, (.ints .u8))], [(some (.ints .u8))], fun k => match k with
 | 3 => some (.mk' q01_Bytes.l3_0.pat (q01_Bytes.l3_0.m n n) q01_Bytes.l3_0.resK)
 | _ => none, q01_Bytes.jlive, lookJ []⟩
noncomputable def q01_Bytes.b0 : Code := (loopsIn (Tryd.f18.body.getD .skip)).getD 0 .skip
def q01_Bytes.g {α : Type} (mk0 : (List Int) → α) (n : Nat) (a0 : (List Int)) : Option α :=
 bindO (q01_Bytes.l3_0.m n n (0, [], a0)) fun r2 =>
  some (mk0 r2)
def q01_Bytes.m (n : Nat) (t : (List Int)) : Option (List Int) := q01_Bytes.g (fun a0 => a0) n t
def q01_Bytes.pat : List AV → Blks → Option (List Int)
 | [(.ints .u64 4 a0)], [] => some a0
 | _, _ => none
def q01_Bytes.shape (t : (List Int)) : List AV × Blks := ([(.ints .u64 4 t)], [])
def q01_Bytes.res : (List Int) → AV × Blks
 | u => (Prod.mk (.own 0 1) [(some (.ints .u8 u))])
def q01_Bytes.resK {R : Type} (u : (List Int)) (K : AV → Blks → Option R) : Option R := (fun p : AV × Blks => K p.1 p.2) (Prod.mk (.own 0 1) [(some (.ints .u8 u))])
def q01_Bytes.c (n : Nat) : Abs.Callee := .mk' [] [none] q01_Bytes.pat (q01_Bytes.m n) q01_Bytes.resK
end
end
section
noncomputable section
noncomputable def q02_Join.C (n : Nat) : Ctx := ⟨Tryd.prog, kecG, fun f => match f with
 | 18 => some (q01_Bytes.c n)
 | 8 => some (q02_Sum.c n)
 | _ => none⟩
def q02_Join.live : Nat → List Nat × List Nat := fun k => match k with
 | 3 => ([4, 0, 3, 2], [3, 2])
 | _ => ([], [])
def q02_Join.jlive : Nat → List Nat × List Nat := fun k => match k with
 | _ => ([], [])
def q02_Join.l3_0.r {α : Type} (mk0 : (List Int) → (List Int) → α) (n : Nat) (rc : Int → (List AV) → (List Int) → (List Int) → Option α)  (x0 : Int) (x1 : (List AV)) (x2 : (List Int)) (x3 : (List Int)) : Option α :=
  if (decide (x0 < (((List.length x1) : Nat) : Int))) = true then
   if 0 ≤ x0 then
    if x0 < (((List.length x1) : Nat) : Int) then
     bindO (tkInts .u64 4 (List.getD x1 (Int.toNat x0) AV.any)) fun r10 =>
      bindO (q01_Bytes.m n r10) fun r12 =>
       if ((((List.length x2) + (List.length r12)) * 1) ≤ 70368744177664 ∧ ((List.length x2) + (List.length r12)) ≤ 9223372036854775807) then
        rc (IntKind.wrap .i64 (x0 + 1)) x1 (x2 ++ r12) x3
       else
        none
    else
     none
   else
    none
  else
   some (mk0 x2 x3)
def q02_Join.l3_0.g {α : Type} (mk0 : (List Int) → (List Int) → α) (n : Nat) : Nat → Int → (List AV) → (List Int) → (List Int) → Option α
 | 0, _, _, _, _ => none
 | m + 1, x0, x1, x2, x3 => q02_Join.l3_0.r mk0 n (fun y0 y1 y2 y3 => q02_Join.l3_0.g mk0 n m y0 y1 y2 y3)  x0 x1 x2 x3
def q02_Join.l3_0.m (n m : Nat) (t : (Int × ((List AV) × ((List Int) × (List Int))))) : Option ((List Int) × (List Int)) := q02_Join.l3_0.g (fun a0 a1 => (a0, a1)) n m t.1 t.2.1 t.2.2.1 t.2.2.2
def q02_Join.l3_0.pat : St → Option (Int × ((List AV) × ((List Int) × (List Int))))
 | (St.mk [(.int .i64 x0), (.robjs 26 4 x1), (.own 0 1), (.ptr 1 [])] [(some (.ints .u8 x2)), (some (.var (.ints .u64 4 x3)))]) => some (x0, x1, x2, x3)
 | _ => none
def q02_Join.l3_0.shape (t : (Int × ((List AV) × ((List Int) × (List Int))))) : St := (St.mk [(.int .i64 t.1), (.robjs 26 4 t.2.1), (.own 0 1), (.ptr 1 [])] [(some (.ints .u8 t.2.2.1)), (some (.var (.ints .u64 4 t.2.2.2)))])
def q02_Join.l3_0.res : ((List Int) × (List Int)) → Ex × St
 | u => (Prod.mk (.exit 0) (St.mk [(.own 0 1), (.ptr 1 [])] [(some (.ints .u8 u.1)), (some (.var (.ints .u64 4 u.2)))]))
def q02_Join.l3_0.resK {R : Type} (u : ((List Int) × (List Int))) (K : Ex → St → Option R) : Option R := (fun p : Ex × St => K p.1 p.2) (Prod.mk (.exit 0) (St.mk [(.own 0 1), (.ptr 1 [])] [(some (.ints .u8 u.1)), (some (.var (.ints .u64 4 u.2)))]))
noncomputable def q02_Join.A (n : Nat) : Ann := ⟨Tryd.f10.ntmps, 0, q02_Join.live, [(0, (.objs 26 4)), (3, (.ints .u8))], [none], fun k => match k with
 | 3 => some (.mk' q02_Join.l3_0.pat (q02_Join.l3_0.m n n) q02_Join.l3_0.resK)
 | _ => none, q02_Join.jlive, lookJ []⟩
noncomputable def q02_Join.b0 : Code := (loopsIn (Tryd.f10.body.getD .skip)).getD 0 .skip
def q02_Join.g {α : Type} (mk0 : (List Int) → α) (n : Nat) (a0 : (List AV)) : Option α :=
 bindO (q02_Join.l3_0.m n n (0, a0, [], [0, 0, 0, 0])) fun r2 =>
  bindO (q02_Sum.m n (Prod.fst r2)) fun r4 =>
   some (mk0 r4)
def q02_Join.m (n : Nat) (t : (List AV)) : Option (List Int) := q02_Join.g (fun a0 => a0) n t
def q02_Join.pat : List AV → Blks → Option (List AV)
 | [(.robjs 26 4 a0)], [] => some a0
 | _, _ => none
def q02_Join.shape (t : (List AV)) : List AV × Blks := ([(.robjs 26 4 t)], [])
def q02_Join.res : (List Int) → AV × Blks
 | u => (Prod.mk (.ints .u64 4 u) [])
def q02_Join.resK {R : Type} (u : (List Int)) (K : AV → Blks → Option R) : Option R := (fun p : AV × Blks => K p.1 p.2) (Prod.mk (.ints .u64 4 u) [])
def q02_Join.c (n : Nat) : Abs.Callee := .mk' [] [(some (.objs 26 4))] q02_Join.pat (q02_Join.m n) q02_Join.resK
end
end
section
theorem q01_Bytes.l3_0.rmap {α β : Type} (h : β → α) (mk0 : (List Int) → β) (n : Nat) (f : Int → (List Int) → (List Int) → Option β)  (x0 : Int) (x1 : (List Int)) (x2 : (List Int)) : q01_Bytes.l3_0.r (fun a0 => (h (mk0 a0))) n (fun y0 y1 y2 => (f y0 y1 y2).map h) x0 x1 x2 = (q01_Bytes.l3_0.r mk0 n f x0 x1 x2).map h := by
  unfold q01_Bytes.l3_0.r
  exact (ite_map (ite_map (ite_map (ite_map (ite_map rfl rfl) rfl) rfl) rfl) rfl)
theorem q01_Bytes.l3_0.gmap {α β : Type} (h : β → α) (mk0 : (List Int) → β) (n : Nat) : ∀ (m : Nat) (x0 : Int) (x1 : (List Int)) (x2 : (List Int)), q01_Bytes.l3_0.g (fun a0 => (h (mk0 a0))) n m x0 x1 x2 = (q01_Bytes.l3_0.g mk0 n m x0 x1 x2).map h
  | 0, _, _, _ => rfl
  | m + 1, x0, x1, x2 => by
    unfold q01_Bytes.l3_0.g
    rw [← q01_Bytes.l3_0.rmap]
    congr
    · funext y0 y1 y2; exact q01_Bytes.l3_0.gmap h mk0 n m y0 y1 y2
theorem q01_Bytes.l3_0.pat_shape : ∀ st t, q01_Bytes.l3_0.pat st = some t → st = q01_Bytes.l3_0.shape t := by
  intro st t h
  unfold q01_Bytes.l3_0.pat at h
  split at h
  · cases h; rfl
  · cases h
theorem q01_Bytes.l3_0.round (n : Nat) (rc : St → Option (Ex × St)) (x0 : Int) (x1 : (List Int)) (x2 : (List Int)) : roundOf (q01_Bytes.C n) (q01_Bytes.A n) n q01_Bytes.b0 rc ((St.mk [(.int .i64 x0), (.own 0 1), (.ptr 1 [])] [(some (.ints .u8 x1)), (some (.var (.ints .u64 4 x2)))])) = q01_Bytes.l3_0.r (fun a0 => ((Prod.mk (.exit 0) (St.mk [(.own 0 1)] [(some (.ints .u8 a0))])) : Ex × St)) n (fun y0 y1 y2 => rc ((St.mk [(.int .i64 y0), (.own 0 1), (.ptr 1 [])] [(some (.ints .u8 y1)), (some (.var (.ints .u64 4 y2)))]))) x0 x1 x2 := by kernel_rfl
theorem q01_Bytes.l3_0.loop' (n : Nat) : ∀ (m : Nat) (t : (Int × ((List Int) × (List Int)))), loopOf (roundOf (q01_Bytes.C n) (q01_Bytes.A n) n q01_Bytes.b0) m (q01_Bytes.l3_0.shape t) = q01_Bytes.l3_0.g (fun a0 => ((Prod.mk (.exit 0) (St.mk [(.own 0 1)] [(some (.ints .u8 a0))])) : Ex × St)) n m t.1 t.2.1 t.2.2 :=
  loop_of_round (shape := q01_Bytes.l3_0.shape) (body := roundOf (q01_Bytes.C n) (q01_Bytes.A n) n q01_Bytes.b0) (g := fun m t => q01_Bytes.l3_0.g (fun a0 => ((Prod.mk (.exit 0) (St.mk [(.own 0 1)] [(some (.ints .u8 a0))])) : Ex × St)) n m t.1 t.2.1 t.2.2) (fun t => rfl)
    fun m t ih => (q01_Bytes.l3_0.round n (loopOf (roundOf (q01_Bytes.C n) (q01_Bytes.A n) n q01_Bytes.b0) m) t.1 t.2.1 t.2.2).trans (congrFun (congrFun (congrFun (congrArg (q01_Bytes.l3_0.r (fun a0 => ((Prod.mk (.exit 0) (St.mk [(.own 0 1)] [(some (.ints .u8 a0))])) : Ex × St)) n) (funext fun y0 => funext fun y1 => funext fun y2 => ih (y0, y1, y2))) t.1) t.2.1) t.2.2)
theorem q01_Bytes.l3_0.loop (n m : Nat) (t : (Int × ((List Int) × (List Int)))) : loopOf (roundOf (q01_Bytes.C n) (q01_Bytes.A n) n q01_Bytes.b0) m (q01_Bytes.l3_0.shape t) = (q01_Bytes.l3_0.m n m t).map q01_Bytes.l3_0.res :=
  (q01_Bytes.l3_0.loop' n m t).trans (q01_Bytes.l3_0.gmap q01_Bytes.l3_0.res (fun a0 => a0) n m t.1 t.2.1 t.2.2)
theorem q01_Bytes.gmap {α β : Type} (h : β → α) (mk0 : (List Int) → β) (n : Nat) (a0 : (List Int)) : q01_Bytes.g (fun a0 => (h (mk0 a0))) n a0 = (q01_Bytes.g mk0 n a0).map h := by
  unfold q01_Bytes.g
  exact (bindO_map fun r2 => rfl)
theorem q01_Bytes.run (n : Nat) (a0 : (List Int)) : runF (q01_Bytes.C n) (q01_Bytes.A n) n Tryd.f18 [(.ints .u64 4 a0)] [] (fun v o => some (v, o)) = q01_Bytes.g (fun a0 => ((Prod.mk (.own 0 1) [(some (.ints .u8 a0))]) : AV × Blks)) n a0 := by kernel_rfl
theorem q01_Bytes.call (hmix : Tryd.prog.follows .mixedOrders = true) (n : Nat) (t : (List Int)) (u) (h : q01_Bytes.m n t = some u) : FnC Tryd.prog kecG 18 (q01_Bytes.shape t).1 (q01_Bytes.shape t).2 (q01_Bytes.res u).1 (q01_Bytes.res u).2 := by
  have hg : ∀ f m, (q01_Bytes.C n).Γ f = some m → CalleeS Tryd.prog kecG f m := by
    intro f m hm
    unfold q01_Bytes.C at hm
    simp only at hm
    first
    | (cases hm; done)
    | (split at hm <;> first
    | (cases hm; done))
  have hb : Tryd.f18.body = some (Tryd.f18.body.getD .skip) := by kernel_rfl
  refine runF_calls (C := q01_Bytes.C n) (A := q01_Bytes.A n) (n := n) (fn := Tryd.f18) hg hmix Tryd.func18 hb ?_ ?_ (by decide) rfl rfl (by show 1 ≤ Tryd.f18.ntmps; decide) ?_
  · rw [show loopsIn (Tryd.f18.body.getD .skip) = [q01_Bytes.b0] by kernel_rfl]
    intro b hb m hm
    simp only [List.mem_cons, List.not_mem_nil, or_false] at hb
    rcases hb with rfl
    · have e : (q01_Bytes.A n).loop (key q01_Bytes.b0) = some (.mk' q01_Bytes.l3_0.pat (q01_Bytes.l3_0.m n n) q01_Bytes.l3_0.resK) := by rw [show key q01_Bytes.b0 = 3 by kernel_rfl]; rfl
      rw [e] at hm
      cases hm
      exact LoopS.of (res := q01_Bytes.l3_0.res) (fun R u K => rfl) q01_Bytes.l3_0.pat_shape fun t => q01_Bytes.l3_0.loop n n t
  · intro a ha m hm
    cases (show none = some m from hm)
  · rw [show runF (q01_Bytes.C n) (q01_Bytes.A n) n Tryd.f18 (q01_Bytes.shape t).1 (q01_Bytes.shape t).2 (fun v o => some (v, o)) = _ from q01_Bytes.run n t]
    have e := q01_Bytes.gmap q01_Bytes.res (fun a0 => a0) n t
    unfold q01_Bytes.m at h
    rw [h] at e
    exact e
theorem q01_Bytes.s (hmix : Tryd.prog.follows .mixedOrders = true) (n : Nat) : CalleeS Tryd.prog kecG 18 (q01_Bytes.c n) :=
  CalleeS.of (res := q01_Bytes.res) (shape := q01_Bytes.shape) (fun R u K => rfl) (fun args lent t h => by
    unfold q01_Bytes.pat at h
    split at h
    · cases h; rfl
    · cases h) fun t u h => (q01_Bytes.call hmix n t u h).ok Tryd.func18 (by decide) (by kernel_rfl)
end
section
theorem q02_Join.l3_0.rmap {α β : Type} (h : β → α) (mk0 : (List Int) → (List Int) → β) (n : Nat) (f : Int → (List AV) → (List Int) → (List Int) → Option β)  (x0 : Int) (x1 : (List AV)) (x2 : (List Int)) (x3 : (List Int)) : q02_Join.l3_0.r (fun a0 a1 => (h (mk0 a0 a1))) n (fun y0 y1 y2 y3 => (f y0 y1 y2 y3).map h) x0 x1 x2 x3 = (q02_Join.l3_0.r mk0 n f x0 x1 x2 x3).map h := by
  unfold q02_Join.l3_0.r
  exact (ite_map (ite_map (ite_map (bindO_map fun r10 => (bindO_map fun r12 => (ite_map rfl rfl))) rfl) rfl) rfl)
theorem q02_Join.l3_0.gmap {α β : Type} (h : β → α) (mk0 : (List Int) → (List Int) → β) (n : Nat) : ∀ (m : Nat) (x0 : Int) (x1 : (List AV)) (x2 : (List Int)) (x3 : (List Int)), q02_Join.l3_0.g (fun a0 a1 => (h (mk0 a0 a1))) n m x0 x1 x2 x3 = (q02_Join.l3_0.g mk0 n m x0 x1 x2 x3).map h
  | 0, _, _, _, _ => rfl
  | m + 1, x0, x1, x2, x3 => by
    unfold q02_Join.l3_0.g
    rw [← q02_Join.l3_0.rmap]
    congr
    · funext y0 y1 y2 y3; exact q02_Join.l3_0.gmap h mk0 n m y0 y1 y2 y3
theorem q02_Join.l3_0.pat_shape : ∀ st t, q02_Join.l3_0.pat st = some t → st = q02_Join.l3_0.shape t := by
  intro st t h
  unfold q02_Join.l3_0.pat at h
  split at h
  · cases h; rfl
  · cases h
theorem q02_Join.l3_0.round (n : Nat) (rc : St → Option (Ex × St)) (x0 : Int) (x1 : (List AV)) (x2 : (List Int)) (x3 : (List Int)) : roundOf (q02_Join.C n) (q02_Join.A n) n q02_Join.b0 rc ((St.mk [(.int .i64 x0), (.robjs 26 4 x1), (.own 0 1), (.ptr 1 [])] [(some (.ints .u8 x2)), (some (.var (.ints .u64 4 x3)))])) = q02_Join.l3_0.r (fun a0 a1 => ((Prod.mk (.exit 0) (St.mk [(.own 0 1), (.ptr 1 [])] [(some (.ints .u8 a0)), (some (.var (.ints .u64 4 a1)))])) : Ex × St)) n (fun y0 y1 y2 y3 => rc ((St.mk [(.int .i64 y0), (.robjs 26 4 y1), (.own 0 1), (.ptr 1 [])] [(some (.ints .u8 y2)), (some (.var (.ints .u64 4 y3)))]))) x0 x1 x2 x3 := by kernel_rfl
theorem q02_Join.l3_0.loop' (n : Nat) : ∀ (m : Nat) (t : (Int × ((List AV) × ((List Int) × (List Int))))), loopOf (roundOf (q02_Join.C n) (q02_Join.A n) n q02_Join.b0) m (q02_Join.l3_0.shape t) = q02_Join.l3_0.g (fun a0 a1 => ((Prod.mk (.exit 0) (St.mk [(.own 0 1), (.ptr 1 [])] [(some (.ints .u8 a0)), (some (.var (.ints .u64 4 a1)))])) : Ex × St)) n m t.1 t.2.1 t.2.2.1 t.2.2.2 :=
  loop_of_round (shape := q02_Join.l3_0.shape) (body := roundOf (q02_Join.C n) (q02_Join.A n) n q02_Join.b0) (g := fun m t => q02_Join.l3_0.g (fun a0 a1 => ((Prod.mk (.exit 0) (St.mk [(.own 0 1), (.ptr 1 [])] [(some (.ints .u8 a0)), (some (.var (.ints .u64 4 a1)))])) : Ex × St)) n m t.1 t.2.1 t.2.2.1 t.2.2.2) (fun t => rfl)
    fun m t ih => (q02_Join.l3_0.round n (loopOf (roundOf (q02_Join.C n) (q02_Join.A n) n q02_Join.b0) m) t.1 t.2.1 t.2.2.1 t.2.2.2).trans (congrFun (congrFun (congrFun (congrFun (congrArg (q02_Join.l3_0.r (fun a0 a1 => ((Prod.mk (.exit 0) (St.mk [(.own 0 1), (.ptr 1 [])] [(some (.ints .u8 a0)), (some (.var (.ints .u64 4 a1)))])) : Ex × St)) n) (funext fun y0 => funext fun y1 => funext fun y2 => funext fun y3 => ih (y0, y1, y2, y3))) t.1) t.2.1) t.2.2.1) t.2.2.2)
theorem q02_Join.l3_0.loop (n m : Nat) (t : (Int × ((List AV) × ((List Int) × (List Int))))) : loopOf (roundOf (q02_Join.C n) (q02_Join.A n) n q02_Join.b0) m (q02_Join.l3_0.shape t) = (q02_Join.l3_0.m n m t).map q02_Join.l3_0.res :=
  (q02_Join.l3_0.loop' n m t).trans (q02_Join.l3_0.gmap q02_Join.l3_0.res (fun a0 a1 => (a0, a1)) n m t.1 t.2.1 t.2.2.1 t.2.2.2)
theorem q02_Join.gmap {α β : Type} (h : β → α) (mk0 : (List Int) → β) (n : Nat) (a0 : (List AV)) : q02_Join.g (fun a0 => (h (mk0 a0))) n a0 = (q02_Join.g mk0 n a0).map h := by
  unfold q02_Join.g
  exact (bindO_map fun r2 => (bindO_map fun r4 => rfl))
theorem q02_Join.run (n : Nat) (a0 : (List AV)) : runF (q02_Join.C n) (q02_Join.A n) n Tryd.f10 [(.robjs 26 4 a0)] [] (fun v o => some (v, o)) = q02_Join.g (fun a0 => ((Prod.mk (.ints .u64 4 a0) []) : AV × Blks)) n a0 := by kernel_rfl
theorem q02_Join.call (hmix : Tryd.prog.follows .mixedOrders = true) (n : Nat) (t : (List AV)) (u) (h : q02_Join.m n t = some u) : FnC Tryd.prog kecG 10 (q02_Join.shape t).1 (q02_Join.shape t).2 (q02_Join.res u).1 (q02_Join.res u).2 := by
  have hg : ∀ f m, (q02_Join.C n).Γ f = some m → CalleeS Tryd.prog kecG f m := by
    intro f m hm
    unfold q02_Join.C at hm
    simp only at hm
    first
    | (cases hm; done)
    | (split at hm <;> first
    | (cases hm; exact q01_Bytes.s hmix n)
    | (cases hm; exact q02_Sum.s hmix n)
    | (cases hm; done))
  have hb : Tryd.f10.body = some (Tryd.f10.body.getD .skip) := by kernel_rfl
  refine runF_calls (C := q02_Join.C n) (A := q02_Join.A n) (n := n) (fn := Tryd.f10) hg hmix Tryd.func10 hb ?_ ?_ (by decide) rfl rfl (by show 1 ≤ Tryd.f10.ntmps; decide) ?_
  · rw [show loopsIn (Tryd.f10.body.getD .skip) = [q02_Join.b0] by kernel_rfl]
    intro b hb m hm
    simp only [List.mem_cons, List.not_mem_nil, or_false] at hb
    rcases hb with rfl
    · have e : (q02_Join.A n).loop (key q02_Join.b0) = some (.mk' q02_Join.l3_0.pat (q02_Join.l3_0.m n n) q02_Join.l3_0.resK) := by rw [show key q02_Join.b0 = 3 by kernel_rfl]; rfl
      rw [e] at hm
      cases hm
      exact (LoopS.of (res := q02_Join.l3_0.res) (fun R u K => rfl) q02_Join.l3_0.pat_shape fun t => q02_Join.l3_0.loop n n t)
  · intro a ha m hm
    cases (show none = some m from hm)
  · rw [show runF (q02_Join.C n) (q02_Join.A n) n Tryd.f10 (q02_Join.shape t).1 (q02_Join.shape t).2 (fun v o => some (v, o)) = _ from q02_Join.run n t]
    have e := q02_Join.gmap q02_Join.res (fun a0 => a0) n t
    unfold q02_Join.m at h
    rw [h] at e
    exact e
theorem q02_Join.s (hmix : Tryd.prog.follows .mixedOrders = true) (n : Nat) : CalleeS Tryd.prog kecG 10 (q02_Join.c n) :=
  CalleeS.of (res := q02_Join.res) (shape := q02_Join.shape) (fun R u K => rfl) (fun args lent t h => by
    unfold q02_Join.pat at h
    split at h
    · cases h; rfl
    · cases h) fun t u h => (q02_Join.call hmix n t u h).ok Tryd.func10 (by decide) (by kernel_rfl)
end
section
noncomputable section
noncomputable def l02_known.C (n : Nat) : Ctx := ⟨Tryd.prog, kecG, fun f => match f with
 | 7 => some (keccak_Sum.c n)
 | 9 => some (keccak_Join.c n)
 | _ => none⟩
def l02_known.live : Nat → List Nat × List Nat := fun k => match k with
 | _ => ([], [])
def l02_known.jlive : Nat → List Nat × List Nat := fun k => match k with
 | _ => ([], [])
noncomputable def l02_known.A (n : Nat) : Ann := ⟨Tryd.f6.ntmps, 0, l02_known.live, [], [none], fun k => match k with
 | _ => none, l02_known.jlive, lookJ []⟩
def l02_known.g {α : Type} (mk0 : Bool → α) (n : Nat)  : Option α :=
 bindO (keccak_Sum.m n []) fun r2 =>
  if (r2 == [8933690324103308400, 16501389505681565499, 10556012783764702144, 14254532742954296124]) = true then
   bindO (keccak_Join.m n []) fun r6 =>
    bindO (keccak_Sum.m n []) fun r8 =>
     some (mk0 (r6 == r8))
  else
   some (mk0 false)
def l02_known.m (n : Nat) (t : Unit) : Option Bool := l02_known.g (fun a0 => a0) n 
def l02_known.pat : List AV → Blks → Option Unit
 | [], [] => some ()
 | _, _ => none
def l02_known.shape (t : Unit) : List AV × Blks := ([], [])
def l02_known.res : Bool → AV × Blks
 | u => (Prod.mk (.bool u) [])
def l02_known.resK {R : Type} (u : Bool) (K : AV → Blks → Option R) : Option R := (fun p : AV × Blks => K p.1 p.2) (Prod.mk (.bool u) [])
def l02_known.c (n : Nat) : Abs.Callee := .mk' [] [] l02_known.pat (l02_known.m n) l02_known.resK
end
end
section
theorem l02_known.gmap {α β : Type} (h : β → α) (mk0 : Bool → β) (n : Nat)  : l02_known.g (fun a0 => (h (mk0 a0))) n  = (l02_known.g mk0 n ).map h := by
  unfold l02_known.g
  exact (bindO_map fun r2 => (ite_map (bindO_map fun r6 => (bindO_map fun r8 => rfl)) rfl))
theorem l02_known.run (n : Nat)  : runF (l02_known.C n) (l02_known.A n) n Tryd.f6 [] [] (fun v o => some (v, o)) = l02_known.g (fun a0 => ((Prod.mk (.bool a0) []) : AV × Blks)) n  := by kernel_rfl
theorem l02_known.call (hmix : Tryd.prog.follows .mixedOrders = true) (n : Nat) (t : Unit) (u) (h : l02_known.m n t = some u) : FnC Tryd.prog kecG 6 (l02_known.shape t).1 (l02_known.shape t).2 (l02_known.res u).1 (l02_known.res u).2 := by
  have hg : ∀ f m, (l02_known.C n).Γ f = some m → CalleeS Tryd.prog kecG f m := by
    intro f m hm
    unfold l02_known.C at hm
    simp only at hm
    first
    | (cases hm; done)
    | (split at hm <;> first
    | (cases hm; exact keccak_Sum.s hmix n)
    | (cases hm; exact keccak_Join.s hmix n)
    | (cases hm; done))
  have hb : Tryd.f6.body = some (Tryd.f6.body.getD .skip) := by kernel_rfl
  refine runF_calls (C := l02_known.C n) (A := l02_known.A n) (n := n) (fn := Tryd.f6) hg hmix Tryd.func6 hb ?_ ?_ (by decide) rfl rfl (by show 0 ≤ Tryd.f6.ntmps; decide) ?_
  · rw [show loopsIn (Tryd.f6.body.getD .skip) = [] by kernel_rfl]
    intro b hb
    cases hb
  · intro a ha m hm
    cases (show none = some m from hm)
  · rw [show runF (l02_known.C n) (l02_known.A n) n Tryd.f6 (l02_known.shape t).1 (l02_known.shape t).2 (fun v o => some (v, o)) = _ from l02_known.run n ]
    have e := l02_known.gmap l02_known.res (fun a0 => a0) n 
    unfold l02_known.m at h
    rw [h] at e
    exact e
theorem l02_known.s (hmix : Tryd.prog.follows .mixedOrders = true) (n : Nat) : CalleeS Tryd.prog kecG 6 (l02_known.c n) :=
  CalleeS.of (res := l02_known.res) (shape := l02_known.shape) (fun R u K => rfl) (fun args lent t h => by
    unfold l02_known.pat at h
    split at h
    · cases h; rfl
    · cases h) fun t u h => (l02_known.call hmix n t u h).ok Tryd.func6 (by decide) (by kernel_rfl)
end
section
noncomputable section
noncomputable def l02_KeccakParts.C (n : Nat) : Ctx := ⟨Tryd.prog, kecG, fun f => match f with
 | 6 => some (l02_known.c n)
 | 9 => some (keccak_Join.c n)
 | 7 => some (keccak_Sum.c n)
 | _ => none⟩
def l02_KeccakParts.live : Nat → List Nat × List Nat := fun k => match k with
 | 8 => ([7, 5, 6], [5, 6])
 | 11 => ([8, 6, 5, 7], [7, 5, 6])
 | _ => ([], [])
def l02_KeccakParts.jlive : Nat → List Nat × List Nat := fun k => match k with
 | _ => ([], [])
def l02_KeccakParts.l11_0.r {α : Type} (mk0 : Int → (List AV) → (List Int) → α) (n : Nat) (rc : Int → Int → (List Int) → (List AV) → Option α)  (x0 : Int) (x1 : Int) (x2 : (List Int)) (x3 : (List AV)) : Option α :=
  if (decide (x0 ≥ 0)) = true then
   if 0 ≤ x1 then
    if x1 < (((List.length x3) : Nat) : Int) then
     bindO (tkInts .u64 4 (List.getD x3 (Int.toNat x1) AV.any)) fun r10 =>
      if 0 ≤ (IntKind.wrap .i64 (Int.tdiv x0 8)) then
       if (IntKind.wrap .i64 (Int.tdiv x0 8)) < 4 then
        bindO (tkInts .u64 4 (List.getD x3 (Int.toNat x1) AV.any)) fun r16 =>
         if 0 ≤ (IntKind.wrap .u64 (IntKind.wrap .i64 ((Int.tmod x0 8) * 8))) then
          if ((((List.length x2) + 1) * 1) ≤ 70368744177664 ∧ ((List.length x2) + 1) ≤ 9223372036854775807) then
           rc (IntKind.wrap .i64 (x0 - 1)) x1 (x2 ++ [(IntKind.wrap .u8 (ishr .u64 (List.getD r16 (Int.toNat (IntKind.wrap .i64 (Int.tdiv x0 8))) 0) (IntKind.wrap .u64 (IntKind.wrap .i64 ((Int.tmod x0 8) * 8)))))]) x3
          else
           none
         else
          none
       else
        none
      else
       none
    else
     none
   else
    none
  else
   some (mk0 x1 x3 x2)
def l02_KeccakParts.l11_0.g {α : Type} (mk0 : Int → (List AV) → (List Int) → α) (n : Nat) : Nat → Int → Int → (List Int) → (List AV) → Option α
 | 0, _, _, _, _ => none
 | m + 1, x0, x1, x2, x3 => l02_KeccakParts.l11_0.r mk0 n (fun y0 y1 y2 y3 => l02_KeccakParts.l11_0.g mk0 n m y0 y1 y2 y3)  x0 x1 x2 x3
def l02_KeccakParts.l11_0.m (n m : Nat) (t : (Int × (Int × ((List Int) × (List AV))))) : Option (Int × ((List AV) × (List Int))) := l02_KeccakParts.l11_0.g (fun a0 a1 a2 => (a0, a1, a2)) n m t.1 t.2.1 t.2.2.1 t.2.2.2
def l02_KeccakParts.l11_0.pat : St → Option (Int × (Int × ((List Int) × (List AV))))
 | (St.mk [(.int .i64 x0), (.own 0 1), (.own 1 4), (.int .i64 x1)] [(some (.ints .u8 x2)), (some (.objs 26 4 x3))]) => some (x0, x1, x2, x3)
 | _ => none
def l02_KeccakParts.l11_0.shape (t : (Int × (Int × ((List Int) × (List AV))))) : St := (St.mk [(.int .i64 t.1), (.own 0 1), (.own 1 4), (.int .i64 t.2.1)] [(some (.ints .u8 t.2.2.1)), (some (.objs 26 4 t.2.2.2))])
def l02_KeccakParts.l11_0.res : (Int × ((List AV) × (List Int))) → Ex × St
 | u => (Prod.mk (.exit 2) (St.mk [(.int .i64 u.1), (.own 0 4), (.own 1 1)] [(some (.objs 26 4 u.2.1)), (some (.ints .u8 u.2.2))]))
def l02_KeccakParts.l11_0.resK {R : Type} (u : (Int × ((List AV) × (List Int)))) (K : Ex → St → Option R) : Option R := (fun p : Ex × St => K p.1 p.2) (Prod.mk (.exit 2) (St.mk [(.int .i64 u.1), (.own 0 4), (.own 1 1)] [(some (.objs 26 4 u.2.1)), (some (.ints .u8 u.2.2))]))
def l02_KeccakParts.l8_0.r {α : Type} (mk0 : (List AV) → (List Int) → α) (n : Nat) (rc : Int → (List AV) → (List Int) → Option α)  (x0 : Int) (x1 : (List AV)) (x2 : (List Int)) : Option α :=
  if (decide (x0 < (((List.length x1) : Nat) : Int))) = true then
   bindO (l02_KeccakParts.l11_0.m n n (31, x0, x2, x1)) fun r6 =>
    rc (IntKind.wrap .i64 ((Prod.fst r6) + 1)) (Prod.fst (Prod.snd r6)) (Prod.snd (Prod.snd r6))
  else
   some (mk0 x1 x2)
def l02_KeccakParts.l8_0.g {α : Type} (mk0 : (List AV) → (List Int) → α) (n : Nat) : Nat → Int → (List AV) → (List Int) → Option α
 | 0, _, _, _ => none
 | m + 1, x0, x1, x2 => l02_KeccakParts.l8_0.r mk0 n (fun y0 y1 y2 => l02_KeccakParts.l8_0.g mk0 n m y0 y1 y2)  x0 x1 x2
def l02_KeccakParts.l8_0.m (n m : Nat) (t : (Int × ((List AV) × (List Int)))) : Option ((List AV) × (List Int)) := l02_KeccakParts.l8_0.g (fun a0 a1 => (a0, a1)) n m t.1 t.2.1 t.2.2
def l02_KeccakParts.l8_0.pat : St → Option (Int × ((List AV) × (List Int)))
 | (St.mk [(.int .i64 x0), (.own 0 4), (.own 1 1)] [(some (.objs 26 4 x1)), (some (.ints .u8 x2))]) => some (x0, x1, x2)
 | _ => none
def l02_KeccakParts.l8_0.shape (t : (Int × ((List AV) × (List Int)))) : St := (St.mk [(.int .i64 t.1), (.own 0 4), (.own 1 1)] [(some (.objs 26 4 t.2.1)), (some (.ints .u8 t.2.2))])
def l02_KeccakParts.l8_0.res : ((List AV) × (List Int)) → Ex × St
 | u => (Prod.mk (.exit 0) (St.mk [(.own 0 4), (.own 1 1)] [(some (.objs 26 4 u.1)), (some (.ints .u8 u.2))]))
def l02_KeccakParts.l8_0.resK {R : Type} (u : ((List AV) × (List Int))) (K : Ex → St → Option R) : Option R := (fun p : Ex × St => K p.1 p.2) (Prod.mk (.exit 0) (St.mk [(.own 0 4), (.own 1 1)] [(some (.objs 26 4 u.1)), (some (.ints .u8 u.2))]))
noncomputable def l02_KeccakParts.A (n : Nat) : Ann := ⟨Tryd.f5.ntmps, 0, l02_KeccakParts.live, [(5, (.objs 26 4)), (6, (.ints .u8))], [none], fun k => match k with
 | 11 => some (.mk' l02_KeccakParts.l11_0.pat (l02_KeccakParts.l11_0.m n n) l02_KeccakParts.l11_0.resK)
 | 8 => some (.mk' l02_KeccakParts.l8_0.pat (l02_KeccakParts.l8_0.m n n) l02_KeccakParts.l8_0.resK)
 | _ => none, l02_KeccakParts.jlive, lookJ []⟩
noncomputable def l02_KeccakParts.b0 : Code := (loopsIn (Tryd.f5.body.getD .skip)).getD 0 .skip
noncomputable def l02_KeccakParts.b1 : Code := (loopsIn (Tryd.f5.body.getD .skip)).getD 1 .skip
def l02_KeccakParts.g {α : Type} (mk0 : Bool → α) (n : Nat) (a0 : (List AV)) (a1 : (List AV)) : Option α :=
 if (decide ((((List.length a0) : Nat) : Int) > 20)) = true then
  bindO (l02_known.m n Unit.unit) fun r4 =>
   some (mk0 r4)
 else
  if (decide ((((List.length a1) : Nat) : Int) > 20)) = true then
   bindO (l02_known.m n Unit.unit) fun r6 =>
    some (mk0 r6)
  else
   bindO (l02_known.m n Unit.unit) fun r6 =>
    if (!r6) = true then
     bindO (l02_known.m n Unit.unit) fun r10 =>
      some (mk0 r10)
    else
     if (((List.length a0) * 32) ≤ 70368744177664 ∧ (List.length a0) ≤ 9223372036854775807) then
      if ((((List.length a0) + (List.length a1)) * 32) ≤ 70368744177664 ∧ ((List.length a0) + (List.length a1)) ≤ 9223372036854775807) then
       bindO (l02_KeccakParts.l8_0.m n n (0, (a0 ++ a1), [])) fun r14 =>
        bindO (keccak_Join.m n (Prod.fst r14)) fun r16 =>
         bindO (keccak_Sum.m n (Prod.snd r14)) fun r18 =>
          some (mk0 (r16 == r18))
      else
       none
     else
      none
def l02_KeccakParts.m (n : Nat) (t : ((List AV) × (List AV))) : Option Bool := l02_KeccakParts.g (fun a0 => a0) n t.1 t.2
def l02_KeccakParts.pat : List AV → Blks → Option ((List AV) × (List AV))
 | [(.robjs 26 4 a0), (.robjs 26 4 a1)], [] => some (a0, a1)
 | _, _ => none
def l02_KeccakParts.shape (t : ((List AV) × (List AV))) : List AV × Blks := ([(.robjs 26 4 t.1), (.robjs 26 4 t.2)], [])
def l02_KeccakParts.res : Bool → AV × Blks
 | u => (Prod.mk (.bool u) [])
def l02_KeccakParts.resK {R : Type} (u : Bool) (K : AV → Blks → Option R) : Option R := (fun p : AV × Blks => K p.1 p.2) (Prod.mk (.bool u) [])
def l02_KeccakParts.c (n : Nat) : Abs.Callee := .mk' [] [(some (.objs 26 4)), (some (.objs 26 4))] l02_KeccakParts.pat (l02_KeccakParts.m n) l02_KeccakParts.resK
end
end
section
theorem l02_KeccakParts.l11_0.rmap {α β : Type} (h : β → α) (mk0 : Int → (List AV) → (List Int) → β) (n : Nat) (f : Int → Int → (List Int) → (List AV) → Option β)  (x0 : Int) (x1 : Int) (x2 : (List Int)) (x3 : (List AV)) : l02_KeccakParts.l11_0.r (fun a0 a1 a2 => (h (mk0 a0 a1 a2))) n (fun y0 y1 y2 y3 => (f y0 y1 y2 y3).map h) x0 x1 x2 x3 = (l02_KeccakParts.l11_0.r mk0 n f x0 x1 x2 x3).map h := by
  unfold l02_KeccakParts.l11_0.r
  exact (ite_map (ite_map (ite_map (bindO_map fun r10 => (ite_map (ite_map (bindO_map fun r16 => (ite_map (ite_map rfl rfl) rfl)) rfl) rfl)) rfl) rfl) rfl)
theorem l02_KeccakParts.l11_0.gmap {α β : Type} (h : β → α) (mk0 : Int → (List AV) → (List Int) → β) (n : Nat) : ∀ (m : Nat) (x0 : Int) (x1 : Int) (x2 : (List Int)) (x3 : (List AV)), l02_KeccakParts.l11_0.g (fun a0 a1 a2 => (h (mk0 a0 a1 a2))) n m x0 x1 x2 x3 = (l02_KeccakParts.l11_0.g mk0 n m x0 x1 x2 x3).map h
  | 0, _, _, _, _ => rfl
  | m + 1, x0, x1, x2, x3 => by
    unfold l02_KeccakParts.l11_0.g
    rw [← l02_KeccakParts.l11_0.rmap]
    congr
    · funext y0 y1 y2 y3; exact l02_KeccakParts.l11_0.gmap h mk0 n m y0 y1 y2 y3
theorem l02_KeccakParts.l11_0.pat_shape : ∀ st t, l02_KeccakParts.l11_0.pat st = some t → st = l02_KeccakParts.l11_0.shape t := by
  intro st t h
  unfold l02_KeccakParts.l11_0.pat at h
  split at h
  · cases h; rfl
  · cases h
theorem l02_KeccakParts.l11_0.round (n : Nat) (rc : St → Option (Ex × St)) (x0 : Int) (x1 : Int) (x2 : (List Int)) (x3 : (List AV)) : roundOf (l02_KeccakParts.C n) (l02_KeccakParts.A n) n l02_KeccakParts.b1 rc ((St.mk [(.int .i64 x0), (.own 0 1), (.own 1 4), (.int .i64 x1)] [(some (.ints .u8 x2)), (some (.objs 26 4 x3))])) = l02_KeccakParts.l11_0.r (fun a0 a1 a2 => ((Prod.mk (.exit 2) (St.mk [(.int .i64 a0), (.own 0 4), (.own 1 1)] [(some (.objs 26 4 a1)), (some (.ints .u8 a2))])) : Ex × St)) n (fun y0 y1 y2 y3 => rc ((St.mk [(.int .i64 y0), (.own 0 1), (.own 1 4), (.int .i64 y1)] [(some (.ints .u8 y2)), (some (.objs 26 4 y3))]))) x0 x1 x2 x3 := by kernel_rfl
theorem l02_KeccakParts.l11_0.loop' (n : Nat) : ∀ (m : Nat) (t : (Int × (Int × ((List Int) × (List AV))))), loopOf (roundOf (l02_KeccakParts.C n) (l02_KeccakParts.A n) n l02_KeccakParts.b1) m (l02_KeccakParts.l11_0.shape t) = l02_KeccakParts.l11_0.g (fun a0 a1 a2 => ((Prod.mk (.exit 2) (St.mk [(.int .i64 a0), (.own 0 4), (.own 1 1)] [(some (.objs 26 4 a1)), (some (.ints .u8 a2))])) : Ex × St)) n m t.1 t.2.1 t.2.2.1 t.2.2.2 :=
  loop_of_round (shape := l02_KeccakParts.l11_0.shape) (body := roundOf (l02_KeccakParts.C n) (l02_KeccakParts.A n) n l02_KeccakParts.b1) (g := fun m t => l02_KeccakParts.l11_0.g (fun a0 a1 a2 => ((Prod.mk (.exit 2) (St.mk [(.int .i64 a0), (.own 0 4), (.own 1 1)] [(some (.objs 26 4 a1)), (some (.ints .u8 a2))])) : Ex × St)) n m t.1 t.2.1 t.2.2.1 t.2.2.2) (fun t => rfl)
    fun m t ih => (l02_KeccakParts.l11_0.round n (loopOf (roundOf (l02_KeccakParts.C n) (l02_KeccakParts.A n) n l02_KeccakParts.b1) m) t.1 t.2.1 t.2.2.1 t.2.2.2).trans (congrFun (congrFun (congrFun (congrFun (congrArg (l02_KeccakParts.l11_0.r (fun a0 a1 a2 => ((Prod.mk (.exit 2) (St.mk [(.int .i64 a0), (.own 0 4), (.own 1 1)] [(some (.objs 26 4 a1)), (some (.ints .u8 a2))])) : Ex × St)) n) (funext fun y0 => funext fun y1 => funext fun y2 => funext fun y3 => ih (y0, y1, y2, y3))) t.1) t.2.1) t.2.2.1) t.2.2.2)
theorem l02_KeccakParts.l11_0.loop (n m : Nat) (t : (Int × (Int × ((List Int) × (List AV))))) : loopOf (roundOf (l02_KeccakParts.C n) (l02_KeccakParts.A n) n l02_KeccakParts.b1) m (l02_KeccakParts.l11_0.shape t) = (l02_KeccakParts.l11_0.m n m t).map l02_KeccakParts.l11_0.res :=
  (l02_KeccakParts.l11_0.loop' n m t).trans (l02_KeccakParts.l11_0.gmap l02_KeccakParts.l11_0.res (fun a0 a1 a2 => (a0, a1, a2)) n m t.1 t.2.1 t.2.2.1 t.2.2.2)
theorem l02_KeccakParts.l8_0.rmap {α β : Type} (h : β → α) (mk0 : (List AV) → (List Int) → β) (n : Nat) (f : Int → (List AV) → (List Int) → Option β)  (x0 : Int) (x1 : (List AV)) (x2 : (List Int)) : l02_KeccakParts.l8_0.r (fun a0 a1 => (h (mk0 a0 a1))) n (fun y0 y1 y2 => (f y0 y1 y2).map h) x0 x1 x2 = (l02_KeccakParts.l8_0.r mk0 n f x0 x1 x2).map h := by
  unfold l02_KeccakParts.l8_0.r
  exact (ite_map (bindO_map fun r6 => rfl) rfl)
theorem l02_KeccakParts.l8_0.gmap {α β : Type} (h : β → α) (mk0 : (List AV) → (List Int) → β) (n : Nat) : ∀ (m : Nat) (x0 : Int) (x1 : (List AV)) (x2 : (List Int)), l02_KeccakParts.l8_0.g (fun a0 a1 => (h (mk0 a0 a1))) n m x0 x1 x2 = (l02_KeccakParts.l8_0.g mk0 n m x0 x1 x2).map h
  | 0, _, _, _ => rfl
  | m + 1, x0, x1, x2 => by
    unfold l02_KeccakParts.l8_0.g
    rw [← l02_KeccakParts.l8_0.rmap]
    congr
    · funext y0 y1 y2; exact l02_KeccakParts.l8_0.gmap h mk0 n m y0 y1 y2
theorem l02_KeccakParts.l8_0.pat_shape : ∀ st t, l02_KeccakParts.l8_0.pat st = some t → st = l02_KeccakParts.l8_0.shape t := by
  intro st t h
  unfold l02_KeccakParts.l8_0.pat at h
  split at h
  · cases h; rfl
  · cases h
theorem l02_KeccakParts.l8_0.round (n : Nat) (rc : St → Option (Ex × St)) (x0 : Int) (x1 : (List AV)) (x2 : (List Int)) : roundOf (l02_KeccakParts.C n) (l02_KeccakParts.A n) n l02_KeccakParts.b0 rc ((St.mk [(.int .i64 x0), (.own 0 4), (.own 1 1)] [(some (.objs 26 4 x1)), (some (.ints .u8 x2))])) = l02_KeccakParts.l8_0.r (fun a0 a1 => ((Prod.mk (.exit 0) (St.mk [(.own 0 4), (.own 1 1)] [(some (.objs 26 4 a0)), (some (.ints .u8 a1))])) : Ex × St)) n (fun y0 y1 y2 => rc ((St.mk [(.int .i64 y0), (.own 0 4), (.own 1 1)] [(some (.objs 26 4 y1)), (some (.ints .u8 y2))]))) x0 x1 x2 := by kernel_rfl
theorem l02_KeccakParts.l8_0.loop' (n : Nat) : ∀ (m : Nat) (t : (Int × ((List AV) × (List Int)))), loopOf (roundOf (l02_KeccakParts.C n) (l02_KeccakParts.A n) n l02_KeccakParts.b0) m (l02_KeccakParts.l8_0.shape t) = l02_KeccakParts.l8_0.g (fun a0 a1 => ((Prod.mk (.exit 0) (St.mk [(.own 0 4), (.own 1 1)] [(some (.objs 26 4 a0)), (some (.ints .u8 a1))])) : Ex × St)) n m t.1 t.2.1 t.2.2 :=
  loop_of_round (shape := l02_KeccakParts.l8_0.shape) (body := roundOf (l02_KeccakParts.C n) (l02_KeccakParts.A n) n l02_KeccakParts.b0) (g := fun m t => l02_KeccakParts.l8_0.g (fun a0 a1 => ((Prod.mk (.exit 0) (St.mk [(.own 0 4), (.own 1 1)] [(some (.objs 26 4 a0)), (some (.ints .u8 a1))])) : Ex × St)) n m t.1 t.2.1 t.2.2) (fun t => rfl)
    fun m t ih => (l02_KeccakParts.l8_0.round n (loopOf (roundOf (l02_KeccakParts.C n) (l02_KeccakParts.A n) n l02_KeccakParts.b0) m) t.1 t.2.1 t.2.2).trans (congrFun (congrFun (congrFun (congrArg (l02_KeccakParts.l8_0.r (fun a0 a1 => ((Prod.mk (.exit 0) (St.mk [(.own 0 4), (.own 1 1)] [(some (.objs 26 4 a0)), (some (.ints .u8 a1))])) : Ex × St)) n) (funext fun y0 => funext fun y1 => funext fun y2 => ih (y0, y1, y2))) t.1) t.2.1) t.2.2)
theorem l02_KeccakParts.l8_0.loop (n m : Nat) (t : (Int × ((List AV) × (List Int)))) : loopOf (roundOf (l02_KeccakParts.C n) (l02_KeccakParts.A n) n l02_KeccakParts.b0) m (l02_KeccakParts.l8_0.shape t) = (l02_KeccakParts.l8_0.m n m t).map l02_KeccakParts.l8_0.res :=
  (l02_KeccakParts.l8_0.loop' n m t).trans (l02_KeccakParts.l8_0.gmap l02_KeccakParts.l8_0.res (fun a0 a1 => (a0, a1)) n m t.1 t.2.1 t.2.2)
theorem l02_KeccakParts.gmap {α β : Type} (h : β → α) (mk0 : Bool → β) (n : Nat) (a0 : (List AV)) (a1 : (List AV)) : l02_KeccakParts.g (fun a0 => (h (mk0 a0))) n a0 a1 = (l02_KeccakParts.g mk0 n a0 a1).map h := by
  unfold l02_KeccakParts.g
  exact (ite_map (bindO_map fun r4 => rfl) (ite_map (bindO_map fun r6 => rfl) (bindO_map fun r6 => (ite_map (bindO_map fun r10 => rfl) (ite_map (ite_map (bindO_map fun r14 => (bindO_map fun r16 => (bindO_map fun r18 => rfl))) rfl) rfl)))))
theorem l02_KeccakParts.run (n : Nat) (a0 : (List AV)) (a1 : (List AV)) : runF (l02_KeccakParts.C n) (l02_KeccakParts.A n) n Tryd.f5 [(.robjs 26 4 a0), (.robjs 26 4 a1)] [] (fun v o => some (v, o)) = l02_KeccakParts.g (fun a0 => ((Prod.mk (.bool a0) []) : AV × Blks)) n a0 a1 := by kernel_rfl
theorem l02_KeccakParts.call (hmix : Tryd.prog.follows .mixedOrders = true) (n : Nat) (t : ((List AV) × (List AV))) (u) (h : l02_KeccakParts.m n t = some u) : FnC Tryd.prog kecG 5 (l02_KeccakParts.shape t).1 (l02_KeccakParts.shape t).2 (l02_KeccakParts.res u).1 (l02_KeccakParts.res u).2 := by
  have hg : ∀ f m, (l02_KeccakParts.C n).Γ f = some m → CalleeS Tryd.prog kecG f m := by
    intro f m hm
    unfold l02_KeccakParts.C at hm
    simp only at hm
    first
    | (cases hm; done)
    | (split at hm <;> first
    | (cases hm; exact l02_known.s hmix n)
    | (cases hm; exact keccak_Join.s hmix n)
    | (cases hm; exact keccak_Sum.s hmix n)
    | (cases hm; done))
  have hb : Tryd.f5.body = some (Tryd.f5.body.getD .skip) := by kernel_rfl
  refine runF_calls (C := l02_KeccakParts.C n) (A := l02_KeccakParts.A n) (n := n) (fn := Tryd.f5) hg hmix Tryd.func5 hb ?_ ?_ (by decide) rfl rfl (by show 2 ≤ Tryd.f5.ntmps; decide) ?_
  · rw [show loopsIn (Tryd.f5.body.getD .skip) = [l02_KeccakParts.b0, l02_KeccakParts.b1] by kernel_rfl]
    intro b hb m hm
    simp only [List.mem_cons, List.not_mem_nil, or_false] at hb
    rcases hb with rfl | rfl
    · have e : (l02_KeccakParts.A n).loop (key l02_KeccakParts.b0) = some (.mk' l02_KeccakParts.l8_0.pat (l02_KeccakParts.l8_0.m n n) l02_KeccakParts.l8_0.resK) := by rw [show key l02_KeccakParts.b0 = 8 by kernel_rfl]; rfl
      rw [e] at hm
      cases hm
      exact LoopS.of (res := l02_KeccakParts.l8_0.res) (fun R u K => rfl) l02_KeccakParts.l8_0.pat_shape fun t => l02_KeccakParts.l8_0.loop n n t
    · have e : (l02_KeccakParts.A n).loop (key l02_KeccakParts.b1) = some (.mk' l02_KeccakParts.l11_0.pat (l02_KeccakParts.l11_0.m n n) l02_KeccakParts.l11_0.resK) := by rw [show key l02_KeccakParts.b1 = 11 by kernel_rfl]; rfl
      rw [e] at hm
      cases hm
      exact LoopS.of (res := l02_KeccakParts.l11_0.res) (fun R u K => rfl) l02_KeccakParts.l11_0.pat_shape fun t => l02_KeccakParts.l11_0.loop n n t
  · intro a ha m hm
    cases (show none = some m from hm)
  · rw [show runF (l02_KeccakParts.C n) (l02_KeccakParts.A n) n Tryd.f5 (l02_KeccakParts.shape t).1 (l02_KeccakParts.shape t).2 (fun v o => some (v, o)) = _ from l02_KeccakParts.run n t.1 t.2]
    have e := l02_KeccakParts.gmap l02_KeccakParts.res (fun a0 => a0) n t.1 t.2
    unfold l02_KeccakParts.m at h
    rw [h] at e
    exact e
theorem l02_KeccakParts.s (hmix : Tryd.prog.follows .mixedOrders = true) (n : Nat) : CalleeS Tryd.prog kecG 5 (l02_KeccakParts.c n) :=
  CalleeS.of (res := l02_KeccakParts.res) (shape := l02_KeccakParts.shape) (fun R u K => rfl) (fun args lent t h => by
    unfold l02_KeccakParts.pat at h
    split at h
    · cases h; rfl
    · cases h) fun t u h => (l02_KeccakParts.call hmix n t u h).ok Tryd.func5 (by decide) (by kernel_rfl)
end
