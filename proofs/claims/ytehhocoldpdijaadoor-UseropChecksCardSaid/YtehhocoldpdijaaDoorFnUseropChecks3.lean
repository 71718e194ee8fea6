/- What the program's functions compute, as plain functions, each with its proof: the function does just that. Condition: the plain function has an answer. -/
import Derived.Test.YtehhocoldpdijaaDoorAbsF6
import Derived.Test.YtehhocoldpdijaaDoorProg
import Derived.Test.YtehhocoldpdijaaDoorFnUseropChecks1
import Derived.Test.YtehhocoldpdijaaDoorFnUseropChecks2
set_option linter.unusedVariables false
set_option linter.unusedSimpArgs false
set_option maxRecDepth 100000
open Go Go.Abs Go.Proofs
section
noncomputable section
noncomputable def keccak_state_turn.C (n : Nat) : Ctx := ⟨Tryd.prog, abiG, fun f => match f with
 | 130 => some (bits_RotateLeft64.c n)
 | _ => none, fun _ => false⟩
def keccak_state_turn.live : Nat → List Nat × List Nat := fun k => match k with
 | 2 => ([9, 0, 2], [])
 | _ => ([], [])
def keccak_state_turn.jlive : Nat → List Nat × List Nat := fun k => match k with
 | _ => ([], [])
def keccak_state_turn.l2_0.r {α : Type} (mk0 : (List Int) → α) (n : Nat) (rc : Int → Int → (List Int) → Option α)  (x0 : Int) (x1 : Int) (x2 : (List Int)) : Option α :=
  if (decide (x0 < 24)) = true then
   if 0 ≤ x0 then
    if x0 < 24 then
     if 0 ≤ (List.getD ([10, 7, 11, 17, 18, 3, 5, 16, 8, 21, 24, 4, 15, 23, 19, 13, 12, 2, 20, 14, 22, 9, 6, 1] : List Int) (Int.toNat x0) 0) then
      if (List.getD ([10, 7, 11, 17, 18, 3, 5, 16, 8, 21, 24, 4, 15, 23, 19, 13, 12, 2, 20, 14, 22, 9, 6, 1] : List Int) (Int.toNat x0) 0) < 25 then
       if 0 ≤ x0 then
        if x0 < 24 then
         if 0 ≤ x0 then
          if x0 < 24 then
           bindO (bits_RotateLeft64.m n (Prod.mk x1 (List.getD ([1, 3, 6, 10, 15, 21, 28, 36, 45, 55, 2, 14, 27, 41, 56, 8, 25, 43, 62, 18, 39, 61, 20, 44] : List Int) (Int.toNat x0) 0))) fun r22 =>
            if 0 ≤ (List.getD ([10, 7, 11, 17, 18, 3, 5, 16, 8, 21, 24, 4, 15, 23, 19, 13, 12, 2, 20, 14, 22, 9, 6, 1] : List Int) (Int.toNat x0) 0) then
             if (List.getD ([10, 7, 11, 17, 18, 3, 5, 16, 8, 21, 24, 4, 15, 23, 19, 13, 12, 2, 20, 14, 22, 9, 6, 1] : List Int) (Int.toNat x0) 0) < 25 then
              rc (IntKind.wrap .i64 (x0 + 1)) (List.getD x2 (Int.toNat (List.getD ([10, 7, 11, 17, 18, 3, 5, 16, 8, 21, 24, 4, 15, 23, 19, 13, 12, 2, 20, 14, 22, 9, 6, 1] : List Int) (Int.toNat x0) 0)) 0) (List.set x2 (Int.toNat (List.getD ([10, 7, 11, 17, 18, 3, 5, 16, 8, 21, 24, 4, 15, 23, 19, 13, 12, 2, 20, 14, 22, 9, 6, 1] : List Int) (Int.toNat x0) 0)) r22)
             else
              none
            else
             none
          else
           none
         else
          none
        else
         none
       else
        none
      else
       none
     else
      none
    else
     none
   else
    none
  else
   some (mk0 x2)
def keccak_state_turn.l2_0.g {α : Type} (mk0 : (List Int) → α) (n : Nat) : Nat → Int → Int → (List Int) → Option α
 | 0, _, _, _ => none
 | m + 1, x0, x1, x2 => keccak_state_turn.l2_0.r mk0 n (fun y0 y1 y2 => keccak_state_turn.l2_0.g mk0 n m y0 y1 y2)  x0 x1 x2
def keccak_state_turn.l2_0.m (n m : Nat) (t : (Int × (Int × (List Int)))) : Option (List Int) := keccak_state_turn.l2_0.g (fun a0 => a0) n m t.1 t.2.1 t.2.2
def keccak_state_turn.l2_0.pat : St → Option (Int × (Int × (List Int)))
 | (St.mk [(.int .i64 x0), (.ptr 0 []), (.int .u64 x1)] [(some (.var (.ints .u64 25 x2)))]) => some (x0, x1, x2)
 | _ => none
def keccak_state_turn.l2_0.shape (t : (Int × (Int × (List Int)))) : St := (St.mk [(.int .i64 t.1), (.ptr 0 []), (.int .u64 t.2.1)] [(some (.var (.ints .u64 25 t.2.2)))])
def keccak_state_turn.l2_0.res : (List Int) → Ex × St
 | u => (Prod.mk (.exit 0) (St.mk [] [(some (.var (.ints .u64 25 u)))]))
def keccak_state_turn.l2_0.resK {R : Type} (u : (List Int)) (K : Ex → St → Option R) : Option R := (fun p : Ex × St => K p.1 p.2) (Prod.mk (.exit 0) (St.mk [] [(some (.var (.ints .u64 25 u)))]))
noncomputable def keccak_state_turn.A (n : Nat) : Ann := ⟨Tryd.f125.ntmps, 1, keccak_state_turn.live, [], [], fun k => match k with
 | 2 => some (.mk' keccak_state_turn.l2_0.pat (keccak_state_turn.l2_0.m n n) keccak_state_turn.l2_0.resK)
 | _ => none, keccak_state_turn.jlive, lookJ []⟩
noncomputable def keccak_state_turn.b0 : Code := (loopsIn (Tryd.f125.body.getD .skip)).getD 0 .skip
def keccak_state_turn.g {α : Type} (mk0 : (List Int) → α) (n : Nat) (s : (List Int)) : Option α :=
 bindO (keccak_state_turn.l2_0.m n n (0, (List.getD s 1 0), s)) fun r2 =>
  some (mk0 r2)
def keccak_state_turn.m (n : Nat) (t : (List Int)) : Option (List Int) := keccak_state_turn.g (fun a0 => a0) n t
def keccak_state_turn.pat : List AV → Blks → Option (List Int)
 | [(.ptr 0 [])], [(some (.var (.ints .u64 25 s)))] => some s
 | _, _ => none
def keccak_state_turn.shape (t : (List Int)) : List AV × Blks := ([(.ptr 0 [])], [(some (.var (.ints .u64 25 t)))])
def keccak_state_turn.res : (List Int) → AV × Blks
 | u => (Prod.mk (.tup []) [(some (.var (.ints .u64 25 u)))])
def keccak_state_turn.resK {R : Type} (u : (List Int)) (K : AV → Blks → Option R) : Option R := (fun p : AV × Blks => K p.1 p.2) (Prod.mk (.tup []) [(some (.var (.ints .u64 25 u)))])
def keccak_state_turn.c (n : Nat) : Abs.Callee := .mk' [true] [none] keccak_state_turn.pat (keccak_state_turn.m n) keccak_state_turn.resK
end
end
section
noncomputable section
noncomputable def keccak_state_row.C (n : Nat) : Ctx := ⟨Tryd.prog, abiG, fun f => match f with
 | _ => none, fun _ => false⟩
def keccak_state_row.live : Nat → List Nat × List Nat := fun k => match k with
 | 1 => ([2, 0], [])
 | 5 => ([17, 0, 2, 3], [2, 0])
 | _ => ([], [])
def keccak_state_row.jlive : Nat → List Nat × List Nat := fun k => match k with
 | _ => ([], [])
def keccak_state_row.l5_0.r {α : Type} (mk0 : Int → (List Int) → α) (n : Nat) (rc : Int → Int → (List Int) → (List Int) → Option α)  (x0 : Int) (x1 : Int) (x2 : (List Int)) (x3 : (List Int)) : Option α :=
  if (decide (x0 < 5)) = true then
   if 0 ≤ x0 then
    if x0 < 5 then
     if 0 ≤ (Int.tmod (IntKind.wrap .i64 (x0 + 1)) 5) then
      if (Int.tmod (IntKind.wrap .i64 (x0 + 1)) 5) < 5 then
       if 0 ≤ (Int.tmod (IntKind.wrap .i64 (x0 + 2)) 5) then
        if (Int.tmod (IntKind.wrap .i64 (x0 + 2)) 5) < 5 then
         if 0 ≤ (IntKind.wrap .i64 (x1 + x0)) then
          if (IntKind.wrap .i64 (x1 + x0)) < 25 then
           rc (IntKind.wrap .i64 (x0 + 1)) x1 (List.set x2 (Int.toNat (IntKind.wrap .i64 (x1 + x0))) (ibits BinOp.xor .u64 (List.getD x3 (Int.toNat x0) 0) (ibits BinOp.and .u64 (ibits BinOp.xor .u64 (if false = true then (-1) else 18446744073709551615) (List.getD x3 (Int.toNat (Int.tmod (IntKind.wrap .i64 (x0 + 1)) 5)) 0)) (List.getD x3 (Int.toNat (Int.tmod (IntKind.wrap .i64 (x0 + 2)) 5)) 0)))) x3
          else
           none
         else
          none
        else
         none
       else
        none
      else
       none
     else
      none
    else
     none
   else
    none
  else
   some (mk0 x1 x2)
def keccak_state_row.l5_0.g {α : Type} (mk0 : Int → (List Int) → α) (n : Nat) : Nat → Int → Int → (List Int) → (List Int) → Option α
 | 0, _, _, _, _ => none
 | m + 1, x0, x1, x2, x3 => keccak_state_row.l5_0.r mk0 n (fun y0 y1 y2 y3 => keccak_state_row.l5_0.g mk0 n m y0 y1 y2 y3)  x0 x1 x2 x3
def keccak_state_row.l5_0.m (n m : Nat) (t : (Int × (Int × ((List Int) × (List Int))))) : Option (Int × (List Int)) := keccak_state_row.l5_0.g (fun a0 a1 => (a0, a1)) n m t.1 t.2.1 t.2.2.1 t.2.2.2
def keccak_state_row.l5_0.pat : St → Option (Int × (Int × ((List Int) × (List Int))))
 | (St.mk [(.int .i64 x0), (.ptr 0 []), (.int .i64 x1), (.ptr 1 [])] [(some (.var (.ints .u64 25 x2))), (some (.var (.ints .u64 5 x3)))]) => some (x0, x1, x2, x3)
 | _ => none
def keccak_state_row.l5_0.shape (t : (Int × (Int × ((List Int) × (List Int))))) : St := (St.mk [(.int .i64 t.1), (.ptr 0 []), (.int .i64 t.2.1), (.ptr 1 [])] [(some (.var (.ints .u64 25 t.2.2.1))), (some (.var (.ints .u64 5 t.2.2.2)))])
def keccak_state_row.l5_0.res : (Int × (List Int)) → Ex × St
 | u => (Prod.mk (.exit 2) (St.mk [(.int .i64 u.1), (.ptr 0 [])] [(some (.var (.ints .u64 25 u.2)))]))
def keccak_state_row.l5_0.resK {R : Type} (u : (Int × (List Int))) (K : Ex → St → Option R) : Option R := (fun p : Ex × St => K p.1 p.2) (Prod.mk (.exit 2) (St.mk [(.int .i64 u.1), (.ptr 0 [])] [(some (.var (.ints .u64 25 u.2)))]))
def keccak_state_row.l1_0.r {α : Type} (mk0 : (List Int) → α) (n : Nat) (rc : Int → (List Int) → Option α)  (x0 : Int) (x1 : (List Int)) : Option α :=
  if (decide (x0 < 25)) = true then
   if 0 ≤ (IntKind.wrap .i64 (x0 + 5)) then
    if (IntKind.wrap .i64 (x0 + 5)) ≤ 25 then
     if 0 ≤ x0 then
      if x0 ≤ (IntKind.wrap .i64 (x0 + 5)) then
       if 5 ≤ (Go.Abs.span 25 (Int.toNat x0) (Option.some (Int.toNat (IntKind.wrap .i64 (x0 + 5))))) then
        bindO (keccak_state_row.l5_0.m n n (0, x0, x1, (List.take 5 (List.drop (Int.toNat x0) x1)))) fun r16 =>
         rc (IntKind.wrap .i64 ((Prod.fst r16) + 5)) (Prod.snd r16)
       else
        none
      else
       none
     else
      none
    else
     none
   else
    none
  else
   some (mk0 x1)
def keccak_state_row.l1_0.g {α : Type} (mk0 : (List Int) → α) (n : Nat) : Nat → Int → (List Int) → Option α
 | 0, _, _ => none
 | m + 1, x0, x1 => keccak_state_row.l1_0.r mk0 n (fun y0 y1 => keccak_state_row.l1_0.g mk0 n m y0 y1)  x0 x1
def keccak_state_row.l1_0.m (n m : Nat) (t : (Int × (List Int))) : Option (List Int) := keccak_state_row.l1_0.g (fun a0 => a0) n m t.1 t.2
def keccak_state_row.l1_0.pat : St → Option (Int × (List Int))
 | (St.mk [(.int .i64 x0), (.ptr 0 [])] [(some (.var (.ints .u64 25 x1)))]) => some (x0, x1)
 | _ => none
def keccak_state_row.l1_0.shape (t : (Int × (List Int))) : St := (St.mk [(.int .i64 t.1), (.ptr 0 [])] [(some (.var (.ints .u64 25 t.2)))])
def keccak_state_row.l1_0.res : (List Int) → Ex × St
 | u => (Prod.mk (.exit 0) (St.mk [] [(some (.var (.ints .u64 25 u)))]))
def keccak_state_row.l1_0.resK {R : Type} (u : (List Int)) (K : Ex → St → Option R) : Option R := (fun p : Ex × St => K p.1 p.2) (Prod.mk (.exit 0) (St.mk [] [(some (.var (.ints .u64 25 u)))]))
noncomputable def keccak_state_row.A (n : Nat) : Ann := ⟨Tryd.f126.ntmps, 1, keccak_state_row.live, [], [], fun k => match k with
 | 5 => some (.mk' keccak_state_row.l5_0.pat (keccak_state_row.l5_0.m n n) keccak_state_row.l5_0.resK)
 | 1 => some (.mk' keccak_state_row.l1_0.pat (keccak_state_row.l1_0.m n n) keccak_state_row.l1_0.resK)
 | _ => none, keccak_state_row.jlive, lookJ []⟩
noncomputable def keccak_state_row.b0 : Code := (loopsIn (Tryd.f126.body.getD .skip)).getD 0 .skip
noncomputable def keccak_state_row.b1 : Code := (loopsIn (Tryd.f126.body.getD .skip)).getD 1 .skip
def keccak_state_row.g {α : Type} (mk0 : (List Int) → α) (n : Nat) (s : (List Int)) : Option α :=
 bindO (keccak_state_row.l1_0.m n n (0, s)) fun r2 =>
  some (mk0 r2)
def keccak_state_row.m (n : Nat) (t : (List Int)) : Option (List Int) := keccak_state_row.g (fun a0 => a0) n t
def keccak_state_row.pat : List AV → Blks → Option (List Int)
 | [(.ptr 0 [])], [(some (.var (.ints .u64 25 s)))] => some s
 | _, _ => none
def keccak_state_row.shape (t : (List Int)) : List AV × Blks := ([(.ptr 0 [])], [(some (.var (.ints .u64 25 t)))])
def keccak_state_row.res : (List Int) → AV × Blks
 | u => (Prod.mk (.tup []) [(some (.var (.ints .u64 25 u)))])
def keccak_state_row.resK {R : Type} (u : (List Int)) (K : AV → Blks → Option R) : Option R := (fun p : AV × Blks => K p.1 p.2) (Prod.mk (.tup []) [(some (.var (.ints .u64 25 u)))])
def keccak_state_row.c (n : Nat) : Abs.Callee := .mk' [true] [none] keccak_state_row.pat (keccak_state_row.m n) keccak_state_row.resK
end
end
section
noncomputable section
noncomputable def keccak_state_mix.C (n : Nat) : Ctx := ⟨Tryd.prog, abiG, fun f => match f with
 | 124 => some (keccak_state_spread.c n)
 | 125 => some (keccak_state_turn.c n)
 | 126 => some (keccak_state_row.c n)
 | _ => none, fun _ => false⟩
def keccak_state_mix.live : Nat → List Nat × List Nat := fun k => match k with
 | 1 => ([3, 0], [])
 | _ => ([], [])
def keccak_state_mix.jlive : Nat → List Nat × List Nat := fun k => match k with
 | _ => ([], [])
def keccak_state_mix.l1_0.r {α : Type} (mk0 : (List Int) → α) (n : Nat) (rc : Int → (List Int) → Option α)  (x0 : Int) (x1 : (List Int)) : Option α :=
  if (decide (x0 < 24)) = true then
   bindO (keccak_state_spread.m n x1) fun r6 =>
    bindO (keccak_state_turn.m n r6) fun r8 =>
     bindO (keccak_state_row.m n r8) fun r10 =>
      if 0 ≤ x0 then
       if x0 < 24 then
        rc (IntKind.wrap .i64 (x0 + 1)) (List.set r10 0 (ibits BinOp.xor .u64 (List.getD r10 0 0) (List.getD ([1, 32898, 9223372036854808714, 9223372039002292224, 32907, 2147483649, 9223372039002292353, 9223372036854808585, 138, 136, 2147516425, 2147483658, 2147516555, 9223372036854775947, 9223372036854808713, 9223372036854808579, 9223372036854808578, 9223372036854775936, 32778, 9223372039002259466, 9223372039002292353, 9223372036854808704, 2147483649, 9223372039002292232] : List Int) (Int.toNat x0) 0)))
       else
        none
      else
       none
  else
   some (mk0 x1)
def keccak_state_mix.l1_0.g {α : Type} (mk0 : (List Int) → α) (n : Nat) : Nat → Int → (List Int) → Option α
 | 0, _, _ => none
 | m + 1, x0, x1 => keccak_state_mix.l1_0.r mk0 n (fun y0 y1 => keccak_state_mix.l1_0.g mk0 n m y0 y1)  x0 x1
def keccak_state_mix.l1_0.m (n m : Nat) (t : (Int × (List Int))) : Option (List Int) := keccak_state_mix.l1_0.g (fun a0 => a0) n m t.1 t.2
def keccak_state_mix.l1_0.pat : St → Option (Int × (List Int))
 | (St.mk [(.int .i64 x0), (.ptr 0 [])] [(some (.var (.ints .u64 25 x1)))]) => some (x0, x1)
 | _ => none
def keccak_state_mix.l1_0.shape (t : (Int × (List Int))) : St := (St.mk [(.int .i64 t.1), (.ptr 0 [])] [(some (.var (.ints .u64 25 t.2)))])
def keccak_state_mix.l1_0.res : (List Int) → Ex × St
 | u => (Prod.mk (.exit 0) (St.mk [] [(some (.var (.ints .u64 25 u)))]))
def keccak_state_mix.l1_0.resK {R : Type} (u : (List Int)) (K : Ex → St → Option R) : Option R := (fun p : Ex × St => K p.1 p.2) (Prod.mk (.exit 0) (St.mk [] [(some (.var (.ints .u64 25 u)))]))
noncomputable def keccak_state_mix.A (n : Nat) : Ann := ⟨Tryd.f111.ntmps, 1, keccak_state_mix.live, [], [], fun k => match k with
 | 1 => some (.mk' keccak_state_mix.l1_0.pat (keccak_state_mix.l1_0.m n n) keccak_state_mix.l1_0.resK)
 | _ => none, keccak_state_mix.jlive, lookJ []⟩
noncomputable def keccak_state_mix.b0 : Code := (loopsIn (Tryd.f111.body.getD .skip)).getD 0 .skip
def keccak_state_mix.g {α : Type} (mk0 : (List Int) → α) (n : Nat) (s : (List Int)) : Option α :=
 bindO (keccak_state_mix.l1_0.m n n (0, s)) fun r2 =>
  some (mk0 r2)
def keccak_state_mix.m (n : Nat) (t : (List Int)) : Option (List Int) := keccak_state_mix.g (fun a0 => a0) n t
def keccak_state_mix.pat : List AV → Blks → Option (List Int)
 | [(.ptr 0 [])], [(some (.var (.ints .u64 25 s)))] => some s
 | _, _ => none
def keccak_state_mix.shape (t : (List Int)) : List AV × Blks := ([(.ptr 0 [])], [(some (.var (.ints .u64 25 t)))])
def keccak_state_mix.res : (List Int) → AV × Blks
 | u => (Prod.mk (.tup []) [(some (.var (.ints .u64 25 u)))])
def keccak_state_mix.resK {R : Type} (u : (List Int)) (K : AV → Blks → Option R) : Option R := (fun p : AV × Blks => K p.1 p.2) (Prod.mk (.tup []) [(some (.var (.ints .u64 25 u)))])
def keccak_state_mix.c (n : Nat) : Abs.Callee := .mk' [true] [none] keccak_state_mix.pat (keccak_state_mix.m n) keccak_state_mix.resK
end
end
section
noncomputable section
noncomputable def keccak_state_take.C (n : Nat) : Ctx := ⟨Tryd.prog, abiG, fun f => match f with
 | 111 => some (keccak_state_mix.c n)
 | _ => none, fun _ => false⟩
def keccak_state_take.live : Nat → List Nat × List Nat := fun k => match k with
 | 1 => ([8, 7, 6, 0], [0])
 | _ => ([], [])
def keccak_state_take.jlive : Nat → List Nat × List Nat := fun k => match k with
 | _ => ([], [])
def keccak_state_take.l1_0.r {α : Type} (mk0 : (List Int) → α) (n : Nat) (rc : Int → Int → (List Int) → (List Int) → Option α)  (x0 : Int) (x1 : Int) (x2 : (List Int)) (x3 : (List Int)) : Option α :=
  if (decide (x0 < x1)) = true then
   if 0 ≤ x0 then
    if x0 < (((List.length x2) : Nat) : Int) then
     if 0 ≤ (IntKind.wrap .i64 (Int.tdiv x0 8)) then
      if (IntKind.wrap .i64 (Int.tdiv x0 8)) < 25 then
       if 0 ≤ (IntKind.wrap .i64 ((Int.tmod x0 8) * 8)) then
        if 0 ≤ (IntKind.wrap .i64 (Int.tdiv x0 8)) then
         if (IntKind.wrap .i64 (Int.tdiv x0 8)) < 25 then
          rc (IntKind.wrap .i64 (x0 + 1)) x1 x2 (List.set x3 (Int.toNat (IntKind.wrap .i64 (Int.tdiv x0 8))) (ibits BinOp.xor .u64 (List.getD x3 (Int.toNat (IntKind.wrap .i64 (Int.tdiv x0 8))) 0) (ishl .u64 (IntKind.wrap .u64 (List.getD x2 (Int.toNat x0) 0)) (IntKind.wrap .i64 ((Int.tmod x0 8) * 8)))))
         else
          none
        else
         none
       else
        none
      else
       none
     else
      none
    else
     none
   else
    none
  else
   some (mk0 x3)
def keccak_state_take.l1_0.g {α : Type} (mk0 : (List Int) → α) (n : Nat) : Nat → Int → Int → (List Int) → (List Int) → Option α
 | 0, _, _, _, _ => none
 | m + 1, x0, x1, x2, x3 => keccak_state_take.l1_0.r mk0 n (fun y0 y1 y2 y3 => keccak_state_take.l1_0.g mk0 n m y0 y1 y2 y3)  x0 x1 x2 x3
def keccak_state_take.l1_0.m (n m : Nat) (t : (Int × (Int × ((List Int) × (List Int))))) : Option (List Int) := keccak_state_take.l1_0.g (fun a0 => a0) n m t.1 t.2.1 t.2.2.1 t.2.2.2
def keccak_state_take.l1_0.pat : St → Option (Int × (Int × ((List Int) × (List Int))))
 | (St.mk [(.int .i64 x0), (.int .i64 x1), (.rints .u8 x2), (.ptr 0 [])] [(some (.var (.ints .u64 25 x3)))]) => some (x0, x1, x2, x3)
 | _ => none
def keccak_state_take.l1_0.shape (t : (Int × (Int × ((List Int) × (List Int))))) : St := (St.mk [(.int .i64 t.1), (.int .i64 t.2.1), (.rints .u8 t.2.2.1), (.ptr 0 [])] [(some (.var (.ints .u64 25 t.2.2.2)))])
def keccak_state_take.l1_0.res : (List Int) → Ex × St
 | u => (Prod.mk (.exit 0) (St.mk [(.ptr 0 [])] [(some (.var (.ints .u64 25 u)))]))
def keccak_state_take.l1_0.resK {R : Type} (u : (List Int)) (K : Ex → St → Option R) : Option R := (fun p : Ex × St => K p.1 p.2) (Prod.mk (.exit 0) (St.mk [(.ptr 0 [])] [(some (.var (.ints .u64 25 u)))]))
noncomputable def keccak_state_take.A (n : Nat) : Ann := ⟨Tryd.f93.ntmps, 1, keccak_state_take.live, [(6, (.ints .u8))], [], fun k => match k with
 | 1 => some (.mk' keccak_state_take.l1_0.pat (keccak_state_take.l1_0.m n n) keccak_state_take.l1_0.resK)
 | _ => none, keccak_state_take.jlive, lookJ []⟩
noncomputable def keccak_state_take.b0 : Code := (loopsIn (Tryd.f93.body.getD .skip)).getD 0 .skip
def keccak_state_take.g {α : Type} (mk0 : (List Int) → α) (n : Nat) (b : (List Int)) (s : (List Int)) : Option α :=
 bindO (keccak_state_take.l1_0.m n n (0, (((List.length b) : Nat) : Int), b, s)) fun r2 =>
  bindO (keccak_state_mix.m n r2) fun r4 =>
   some (mk0 r4)
def keccak_state_take.m (n : Nat) (t : ((List Int) × (List Int))) : Option (List Int) := keccak_state_take.g (fun a0 => a0) n t.1 t.2
def keccak_state_take.pat : List AV → Blks → Option ((List Int) × (List Int))
 | [(.ptr 0 []), (.rints .u8 b)], [(some (.var (.ints .u64 25 s)))] => some (b, s)
 | _, _ => none
def keccak_state_take.shape (t : ((List Int) × (List Int))) : List AV × Blks := ([(.ptr 0 []), (.rints .u8 t.1)], [(some (.var (.ints .u64 25 t.2)))])
def keccak_state_take.res : (List Int) → AV × Blks
 | u => (Prod.mk (.tup []) [(some (.var (.ints .u64 25 u)))])
def keccak_state_take.resK {R : Type} (u : (List Int)) (K : AV → Blks → Option R) : Option R := (fun p : AV × Blks => K p.1 p.2) (Prod.mk (.tup []) [(some (.var (.ints .u64 25 u)))])
def keccak_state_take.c (n : Nat) : Abs.Callee := .mk' [true, false] [none, (some (.ints .u8))] keccak_state_take.pat (keccak_state_take.m n) keccak_state_take.resK
end
end
section
noncomputable section
noncomputable def keccak_Sum.C (n : Nat) : Ctx := ⟨Tryd.prog, abiG, fun f => match f with
 | 93 => some (keccak_state_take.c n)
 | 89 => some (word_Read.c n)
 | _ => none, fun _ => false⟩
def keccak_Sum.live : Nat → List Nat × List Nat := fun k => match k with
 | 2 => ([0, 3, 2], [0, 3, 2])
 | 12 => ([30, 3, 5, 2], [5, 2])
 | _ => ([], [])
def keccak_Sum.jlive : Nat → List Nat × List Nat := fun k => match k with
 | _ => ([], [])
def keccak_Sum.l2_0.r {α : Type} (mk0 : (List Int) → (List Int) → (List Int) → α) (n : Nat) (rc : (List Int) → (List Int) → (List Int) → Option α)  (x0 : (List Int)) (x1 : (List Int)) (x2 : (List Int)) : Option α :=
  if (decide ((((List.length x0) : Nat) : Int) ≥ 136)) = true then
   if 136 ≤ (((List.length x0) : Nat) : Int) then
    bindO (keccak_state_take.m n (Prod.mk (Go.Abs.cut x0 0 (Option.some 136)) x1)) fun r8 =>
     if 136 ≤ (((List.length x0) : Nat) : Int) then
      rc (Go.Abs.cut x0 136 (Option.none)) r8 x2
     else
      none
   else
    none
  else
   some (mk0 x0 x1 x2)
def keccak_Sum.l2_0.g {α : Type} (mk0 : (List Int) → (List Int) → (List Int) → α) (n : Nat) : Nat → (List Int) → (List Int) → (List Int) → Option α
 | 0, _, _, _ => none
 | m + 1, x0, x1, x2 => keccak_Sum.l2_0.r mk0 n (fun y0 y1 y2 => keccak_Sum.l2_0.g mk0 n m y0 y1 y2)  x0 x1 x2
def keccak_Sum.l2_0.m (n m : Nat) (t : ((List Int) × ((List Int) × (List Int)))) : Option ((List Int) × ((List Int) × (List Int))) := keccak_Sum.l2_0.g (fun a0 a1 a2 => (a0, a1, a2)) n m t.1 t.2.1 t.2.2
def keccak_Sum.l2_0.pat : St → Option ((List Int) × ((List Int) × (List Int)))
 | (St.mk [(.rints .u8 x0), (.ptr 0 []), (.ptr 1 [])] [(some (.var (.ints .u64 25 x1))), (some (.var (.ints .u64 4 x2)))]) => some (x0, x1, x2)
 | _ => none
def keccak_Sum.l2_0.shape (t : ((List Int) × ((List Int) × (List Int)))) : St := (St.mk [(.rints .u8 t.1), (.ptr 0 []), (.ptr 1 [])] [(some (.var (.ints .u64 25 t.2.1))), (some (.var (.ints .u64 4 t.2.2)))])
def keccak_Sum.l2_0.res : ((List Int) × ((List Int) × (List Int))) → Ex × St
 | u => (Prod.mk (.exit 0) (St.mk [(.rints .u8 u.1), (.ptr 0 []), (.ptr 1 [])] [(some (.var (.ints .u64 25 u.2.1))), (some (.var (.ints .u64 4 u.2.2)))]))
def keccak_Sum.l2_0.resK {R : Type} (u : ((List Int) × ((List Int) × (List Int)))) (K : Ex → St → Option R) : Option R := (fun p : Ex × St => K p.1 p.2) (Prod.mk (.exit 0) (St.mk [(.rints .u8 u.1), (.ptr 0 []), (.ptr 1 [])] [(some (.var (.ints .u64 25 u.2.1))), (some (.var (.ints .u64 4 u.2.2)))]))
def keccak_Sum.l12_0.r {α : Type} (mk0 : (List Int) → (List Int) → α) (n : Nat) (rc : Int → (List Int) → (List Int) → (List Int) → Option α)  (x0 : Int) (x1 : (List Int)) (x2 : (List Int)) (x3 : (List Int)) : Option α :=
  if (decide (x0 < 32)) = true then
   if 0 ≤ (IntKind.wrap .i64 (Int.tdiv x0 8)) then
    if (IntKind.wrap .i64 (Int.tdiv x0 8)) < 25 then
     if 0 ≤ (IntKind.wrap .i64 ((Int.tmod x0 8) * 8)) then
      if 0 ≤ x0 then
       if x0 < 32 then
        rc (IntKind.wrap .i64 (x0 + 1)) x1 (List.set x2 (Int.toNat x0) (IntKind.wrap .u8 (ishr .u64 (List.getD x1 (Int.toNat (IntKind.wrap .i64 (Int.tdiv x0 8))) 0) (IntKind.wrap .i64 ((Int.tmod x0 8) * 8))))) x3
       else
        none
      else
       none
     else
      none
    else
     none
   else
    none
  else
   some (mk0 x2 x3)
def keccak_Sum.l12_0.g {α : Type} (mk0 : (List Int) → (List Int) → α) (n : Nat) : Nat → Int → (List Int) → (List Int) → (List Int) → Option α
 | 0, _, _, _, _ => none
 | m + 1, x0, x1, x2, x3 => keccak_Sum.l12_0.r mk0 n (fun y0 y1 y2 y3 => keccak_Sum.l12_0.g mk0 n m y0 y1 y2 y3)  x0 x1 x2 x3
def keccak_Sum.l12_0.m (n m : Nat) (t : (Int × ((List Int) × ((List Int) × (List Int))))) : Option ((List Int) × (List Int)) := keccak_Sum.l12_0.g (fun a0 a1 => (a0, a1)) n m t.1 t.2.1 t.2.2.1 t.2.2.2
def keccak_Sum.l12_0.pat : St → Option (Int × ((List Int) × ((List Int) × (List Int))))
 | (St.mk [(.int .i64 x0), (.ptr 0 []), (.ptr 1 []), (.ptr 2 [])] [(some (.var (.ints .u64 25 x1))), (some (.var (.ints .u8 32 x2))), (some (.var (.ints .u64 4 x3)))]) => some (x0, x1, x2, x3)
 | _ => none
def keccak_Sum.l12_0.shape (t : (Int × ((List Int) × ((List Int) × (List Int))))) : St := (St.mk [(.int .i64 t.1), (.ptr 0 []), (.ptr 1 []), (.ptr 2 [])] [(some (.var (.ints .u64 25 t.2.1))), (some (.var (.ints .u8 32 t.2.2.1))), (some (.var (.ints .u64 4 t.2.2.2)))])
def keccak_Sum.l12_0.res : ((List Int) × (List Int)) → Ex × St
 | u => (Prod.mk (.exit 2) (St.mk [(.ptr 0 []), (.ptr 1 [])] [(some (.var (.ints .u8 32 u.1))), (some (.var (.ints .u64 4 u.2)))]))
def keccak_Sum.l12_0.resK {R : Type} (u : ((List Int) × (List Int))) (K : Ex → St → Option R) : Option R := (fun p : Ex × St => K p.1 p.2) (Prod.mk (.exit 2) (St.mk [(.ptr 0 []), (.ptr 1 [])] [(some (.var (.ints .u8 32 u.1))), (some (.var (.ints .u64 4 u.2)))]))
noncomputable def keccak_Sum.A (n : Nat) : Ann := ⟨Tryd.f57.ntmps, 0, keccak_Sum.live, [(0, (.ints .u8))], [none], fun k => match k with
 | 2 => some (.mk' keccak_Sum.l2_0.pat (keccak_Sum.l2_0.m n n) keccak_Sum.l2_0.resK)
 | 12 => some (.mk' keccak_Sum.l12_0.pat (keccak_Sum.l12_0.m n n) keccak_Sum.l12_0.resK)
 | _ => none, keccak_Sum.jlive, lookJ []⟩
noncomputable def keccak_Sum.b0 : Code := (loopsIn (Tryd.f57.body.getD .skip)).getD 0 .skip
noncomputable def keccak_Sum.b1 : Code := (loopsIn (Tryd.f57.body.getD .skip)).getD 1 .skip
def keccak_Sum.g {α : Type} (mk0 : (List Int) → α) (n : Nat) (a0 : (List Int)) : Option α :=
 bindO (keccak_Sum.l2_0.m n n (a0, ([0, 0, 0, 0, 0, 0, 0, 0, 0, 0, 0, 0, 0, 0, 0, 0, 0, 0, 0, 0, 0, 0, 0, 0, 0] : List Int), [0, 0, 0, 0])) fun r2 =>
  if (((List.length (Prod.fst r2)) : Nat) : Int) < 136 then
   if (((List.length (Prod.fst r2)) : Nat) : Int) < 136 then
    bindO (keccak_state_take.m n (Prod.mk (List.take 136 (List.drop 0 (List.set (List.set ([] ++ ((List.take 136 (Prod.fst r2)) ++ (List.drop (0 + (Min.min (List.length (Prod.fst r2)) 136)) ([0, 0, 0, 0, 0, 0, 0, 0, 0, 0, 0, 0, 0, 0, 0, 0, 0, 0, 0, 0, 0, 0, 0, 0, 0, 0, 0, 0, 0, 0, 0, 0, 0, 0, 0, 0, 0, 0, 0, 0, 0, 0, 0, 0, 0, 0, 0, 0, 0, 0, 0, 0, 0, 0, 0, 0, 0, 0, 0, 0, 0, 0, 0, 0, 0, 0, 0, 0, 0, 0, 0, 0, 0, 0, 0, 0, 0, 0, 0, 0, 0, 0, 0, 0, 0, 0, 0, 0, 0, 0, 0, 0, 0, 0, 0, 0, 0, 0, 0, 0, 0, 0, 0, 0, 0, 0, 0, 0, 0, 0, 0, 0, 0, 0, 0, 0, 0, 0, 0, 0, 0, 0, 0, 0, 0, 0, 0, 0, 0, 0, 0, 0, 0, 0, 0, 0] : List Int)))) (Int.toNat (((List.length (Prod.fst r2)) : Nat) : Int)) (ibits BinOp.xor .u8 (List.getD ([] ++ ((List.take 136 (Prod.fst r2)) ++ (List.drop (0 + (Min.min (List.length (Prod.fst r2)) 136)) ([0, 0, 0, 0, 0, 0, 0, 0, 0, 0, 0, 0, 0, 0, 0, 0, 0, 0, 0, 0, 0, 0, 0, 0, 0, 0, 0, 0, 0, 0, 0, 0, 0, 0, 0, 0, 0, 0, 0, 0, 0, 0, 0, 0, 0, 0, 0, 0, 0, 0, 0, 0, 0, 0, 0, 0, 0, 0, 0, 0, 0, 0, 0, 0, 0, 0, 0, 0, 0, 0, 0, 0, 0, 0, 0, 0, 0, 0, 0, 0, 0, 0, 0, 0, 0, 0, 0, 0, 0, 0, 0, 0, 0, 0, 0, 0, 0, 0, 0, 0, 0, 0, 0, 0, 0, 0, 0, 0, 0, 0, 0, 0, 0, 0, 0, 0, 0, 0, 0, 0, 0, 0, 0, 0, 0, 0, 0, 0, 0, 0, 0, 0, 0, 0, 0, 0] : List Int)))) (Int.toNat (((List.length (Prod.fst r2)) : Nat) : Int)) 0) 1)) 135 (ibits BinOp.xor .u8 (List.getD (List.set ([] ++ ((List.take 136 (Prod.fst r2)) ++ (List.drop (0 + (Min.min (List.length (Prod.fst r2)) 136)) ([0, 0, 0, 0, 0, 0, 0, 0, 0, 0, 0, 0, 0, 0, 0, 0, 0, 0, 0, 0, 0, 0, 0, 0, 0, 0, 0, 0, 0, 0, 0, 0, 0, 0, 0, 0, 0, 0, 0, 0, 0, 0, 0, 0, 0, 0, 0, 0, 0, 0, 0, 0, 0, 0, 0, 0, 0, 0, 0, 0, 0, 0, 0, 0, 0, 0, 0, 0, 0, 0, 0, 0, 0, 0, 0, 0, 0, 0, 0, 0, 0, 0, 0, 0, 0, 0, 0, 0, 0, 0, 0, 0, 0, 0, 0, 0, 0, 0, 0, 0, 0, 0, 0, 0, 0, 0, 0, 0, 0, 0, 0, 0, 0, 0, 0, 0, 0, 0, 0, 0, 0, 0, 0, 0, 0, 0, 0, 0, 0, 0, 0, 0, 0, 0, 0, 0] : List Int)))) (Int.toNat (((List.length (Prod.fst r2)) : Nat) : Int)) (ibits BinOp.xor .u8 (List.getD ([] ++ ((List.take 136 (Prod.fst r2)) ++ (List.drop (0 + (Min.min (List.length (Prod.fst r2)) 136)) ([0, 0, 0, 0, 0, 0, 0, 0, 0, 0, 0, 0, 0, 0, 0, 0, 0, 0, 0, 0, 0, 0, 0, 0, 0, 0, 0, 0, 0, 0, 0, 0, 0, 0, 0, 0, 0, 0, 0, 0, 0, 0, 0, 0, 0, 0, 0, 0, 0, 0, 0, 0, 0, 0, 0, 0, 0, 0, 0, 0, 0, 0, 0, 0, 0, 0, 0, 0, 0, 0, 0, 0, 0, 0, 0, 0, 0, 0, 0, 0, 0, 0, 0, 0, 0, 0, 0, 0, 0, 0, 0, 0, 0, 0, 0, 0, 0, 0, 0, 0, 0, 0, 0, 0, 0, 0, 0, 0, 0, 0, 0, 0, 0, 0, 0, 0, 0, 0, 0, 0, 0, 0, 0, 0, 0, 0, 0, 0, 0, 0, 0, 0, 0, 0, 0, 0] : List Int)))) (Int.toNat (((List.length (Prod.fst r2)) : Nat) : Int)) 0) 1)) 135 0) 128)))) (Prod.fst r2.2))) fun r8 =>
     bindO (keccak_Sum.l12_0.m n n (0, r8, ([0, 0, 0, 0, 0, 0, 0, 0, 0, 0, 0, 0, 0, 0, 0, 0, 0, 0, 0, 0, 0, 0, 0, 0, 0, 0, 0, 0, 0, 0, 0, 0] : List Int), (Prod.snd r2.2))) fun r10 =>
      bindO (word_Read.m n (List.take 32 (List.drop 0 (Prod.fst r10)))) fun r12 =>
       some (mk0 r12)
   else
    none
  else
   none
def keccak_Sum.m (n : Nat) (t : (List Int)) : Option (List Int) := keccak_Sum.g (fun a0 => a0) n t
def keccak_Sum.pat : List AV → Blks → Option (List Int)
 | [(.rints .u8 a0)], [] => some a0
 | _, _ => none
def keccak_Sum.shape (t : (List Int)) : List AV × Blks := ([(.rints .u8 t)], [])
def keccak_Sum.res : (List Int) → AV × Blks
 | u => (Prod.mk (.ints .u64 4 u) [])
def keccak_Sum.resK {R : Type} (u : (List Int)) (K : AV → Blks → Option R) : Option R := (fun p : AV × Blks => K p.1 p.2) (Prod.mk (.ints .u64 4 u) [])
def keccak_Sum.c (n : Nat) : Abs.Callee := .mk' [] [(some (.ints .u8))] keccak_Sum.pat (keccak_Sum.m n) keccak_Sum.resK
end
end
section
noncomputable section
noncomputable def abi_Selector.C (n : Nat) : Ctx := ⟨Tryd.prog, abiG, fun f => match f with
 | 57 => some (keccak_Sum.c n)
 | 56 => some (word_Bytes.c n)
 | _ => none, fun _ => false⟩
def abi_Selector.live : Nat → List Nat × List Nat := fun k => match k with
 | _ => ([], [])
def abi_Selector.jlive : Nat → List Nat × List Nat := fun k => match k with
 | _ => ([], [])
noncomputable def abi_Selector.A (n : Nat) : Ann := ⟨Tryd.f22.ntmps, 0, abi_Selector.live, [], [(some (.ints .u8))], fun k => match k with
 | _ => none, abi_Selector.jlive, lookJ []⟩
def abi_Selector.g {α : Type} (mk0 : (List Int) → α) (n : Nat) (a0 : ByteArray) : Option α :=
 bindO (keccak_Sum.m n (Go.Abs.bytesOf a0)) fun r2 =>
  bindO (word_Bytes.m n r2) fun r4 =>
   if 4 ≤ (((List.length r4) : Nat) : Int) then
    some (mk0 (List.take (Go.Abs.span (List.length r4) 0 (Option.some 4)) r4))
   else
    none
def abi_Selector.m (n : Nat) (t : ByteArray) : Option (List Int) := abi_Selector.g (fun a0 => a0) n t
def abi_Selector.pat : List AV → Blks → Option ByteArray
 | [(.str a0)], [] => some a0
 | _, _ => none
def abi_Selector.shape (t : ByteArray) : List AV × Blks := ([(.str t)], [])
def abi_Selector.res : (List Int) → AV × Blks
 | u => (Prod.mk (.own 0 1) [(some (.ints .u8 u))])
def abi_Selector.resK {R : Type} (u : (List Int)) (K : AV → Blks → Option R) : Option R := (fun p : AV × Blks => K p.1 p.2) (Prod.mk (.own 0 1) [(some (.ints .u8 u))])
def abi_Selector.c (n : Nat) : Abs.Callee := .mk' [] [none] abi_Selector.pat (abi_Selector.m n) abi_Selector.resK
end
end
section
noncomputable section
noncomputable def zslicesGrowbytebyte.C (n : Nat) : Ctx := ⟨Tryd.prog, abiG, fun f => match f with
 | _ => none, fun _ => false⟩
def zslicesGrowbytebyte.live : Nat → List Nat × List Nat := fun k => match k with
 | _ => ([], [])
def zslicesGrowbytebyte.jlive : Nat → List Nat × List Nat := fun k => match k with
 | _ => ([], [])
noncomputable def zslicesGrowbytebyte.A (n : Nat) : Ann := ⟨Tryd.f117.ntmps, 0, zslicesGrowbytebyte.live, [], [(some (.ints .u8))], fun k => match k with
 | _ => none, zslicesGrowbytebyte.jlive, lookJ []⟩
def zslicesGrowbytebyte.g {α : Type} (mk0 : (List Int) → α) (n : Nat) (sz : Int) : Option α :=
 if (decide (sz < 0)) = true then
  none
 else
  if (decide ((IntKind.wrap .i64 (sz - 0)) > 0)) = true then
   if 0 ≤ (IntKind.wrap .i64 (sz - 0)) then
    if (((List.length (List.replicate (Int.toNat (IntKind.wrap .i64 (sz - 0))) (0 : Int))) * 1) ≤ 70368744177664 ∧ (List.length (List.replicate (Int.toNat (IntKind.wrap .i64 (sz - 0))) (0 : Int))) ≤ 9223372036854775807) then
     some (mk0 [])
    else
     none
   else
    none
  else
   some (mk0 [])
def zslicesGrowbytebyte.m (n : Nat) (t : Int) : Option (List Int) := zslicesGrowbytebyte.g (fun a0 => a0) n t
def zslicesGrowbytebyte.pat : List AV → Blks → Option Int
 | [.snil, (.int .i64 sz)], [] => some sz
 | _, _ => none
def zslicesGrowbytebyte.shape (t : Int) : List AV × Blks := ([.snil, (.int .i64 t)], [])
def zslicesGrowbytebyte.res : (List Int) → AV × Blks
 | u => (Prod.mk (.own 0 1) [(some (.ints .u8 u))])
def zslicesGrowbytebyte.resK {R : Type} (u : (List Int)) (K : AV → Blks → Option R) : Option R := (fun p : AV × Blks => K p.1 p.2) (Prod.mk (.own 0 1) [(some (.ints .u8 u))])
def zslicesGrowbytebyte.c (n : Nat) : Abs.Callee := .mk' [] [none, none] zslicesGrowbytebyte.pat (zslicesGrowbytebyte.m n) zslicesGrowbytebyte.resK
end
end
section
noncomputable section
noncomputable def zslicesConcatbytebyte.C (n : Nat) : Ctx := ⟨Tryd.prog, abiG, fun f => match f with
 | 117 => some (zslicesGrowbytebyte.c n)
 | _ => none, fun _ => false⟩
def zslicesConcatbytebyte.live : Nat → List Nat × List Nat := fun k => match k with
 | 3 => ([11, 10, 9, 3, 0], [3, 0])
 | 11 => ([27, 26, 25, 6], [6])
 | _ => ([], [])
def zslicesConcatbytebyte.jlive : Nat → List Nat × List Nat := fun k => match k with
 | _ => ([], [])
def zslicesConcatbytebyte.l3_0.r {α : Type} (mk0 : Int → (List AV) → α) (n : Nat) (rc : Int → Int → (List AV) → Int → (List AV) → Option α)  (x0 : Int) (x1 : Int) (x2 : (List AV)) (x3 : Int) (x4 : (List AV)) : Option α :=
  if (decide (x0 < x1)) = true then
   if 0 ≤ x0 then
    if x0 < (((List.length x2) : Nat) : Int) then
     bindO (tkRints .u8 (List.getD x2 (Int.toNat x0) AV.any)) fun r10 =>
      if (decide ((IntKind.wrap .i64 (x3 + (((List.length r10) : Nat) : Int))) < 0)) = true then
       none
      else
       rc (IntKind.wrap .i64 (x0 + 1)) x1 x2 (IntKind.wrap .i64 (x3 + (((List.length r10) : Nat) : Int))) x4
    else
     none
   else
    none
  else
   some (mk0 x3 x4)
def zslicesConcatbytebyte.l3_0.g {α : Type} (mk0 : Int → (List AV) → α) (n : Nat) : Nat → Int → Int → (List AV) → Int → (List AV) → Option α
 | 0, _, _, _, _, _ => none
 | m + 1, x0, x1, x2, x3, x4 => zslicesConcatbytebyte.l3_0.r mk0 n (fun y0 y1 y2 y3 y4 => zslicesConcatbytebyte.l3_0.g mk0 n m y0 y1 y2 y3 y4)  x0 x1 x2 x3 x4
def zslicesConcatbytebyte.l3_0.m (n m : Nat) (t : (Int × (Int × ((List AV) × (Int × (List AV)))))) : Option (Int × (List AV)) := zslicesConcatbytebyte.l3_0.g (fun a0 a1 => (a0, a1)) n m t.1 t.2.1 t.2.2.1 t.2.2.2.1 t.2.2.2.2
def zslicesConcatbytebyte.l3_0.pat : St → Option (Int × (Int × ((List AV) × (Int × (List AV)))))
 | (St.mk [(.int .i64 x0), (.int .i64 x1), (.robjs 26 1 x2), (.int .i64 x3), (.robjs 26 1 x4)] []) => some (x0, x1, x2, x3, x4)
 | _ => none
def zslicesConcatbytebyte.l3_0.shape (t : (Int × (Int × ((List AV) × (Int × (List AV)))))) : St := (St.mk [(.int .i64 t.1), (.int .i64 t.2.1), (.robjs 26 1 t.2.2.1), (.int .i64 t.2.2.2.1), (.robjs 26 1 t.2.2.2.2)] [])
def zslicesConcatbytebyte.l3_0.res : (Int × (List AV)) → Ex × St
 | u => (Prod.mk (.exit 0) (St.mk [(.int .i64 u.1), (.robjs 26 1 u.2)] []))
def zslicesConcatbytebyte.l3_0.resK {R : Type} (u : (Int × (List AV))) (K : Ex → St → Option R) : Option R := (fun p : Ex × St => K p.1 p.2) (Prod.mk (.exit 0) (St.mk [(.int .i64 u.1), (.robjs 26 1 u.2)] []))
def zslicesConcatbytebyte.l11_0.r {α : Type} (mk0 : (List Int) → α) (n : Nat) (rc : Int → Int → (List AV) → (List Int) → Option α)  (x0 : Int) (x1 : Int) (x2 : (List AV)) (x3 : (List Int)) : Option α :=
  if (decide (x0 < x1)) = true then
   if 0 ≤ x0 then
    if x0 < (((List.length x2) : Nat) : Int) then
     bindO (tkRints .u8 (List.getD x2 (Int.toNat x0) AV.any)) fun r10 =>
      if ((((List.length x3) + (List.length r10)) * 1) ≤ 70368744177664 ∧ ((List.length x3) + (List.length r10)) ≤ 9223372036854775807) then
       rc (IntKind.wrap .i64 (x0 + 1)) x1 x2 (x3 ++ r10)
      else
       none
    else
     none
   else
    none
  else
   some (mk0 x3)
def zslicesConcatbytebyte.l11_0.g {α : Type} (mk0 : (List Int) → α) (n : Nat) : Nat → Int → Int → (List AV) → (List Int) → Option α
 | 0, _, _, _, _ => none
 | m + 1, x0, x1, x2, x3 => zslicesConcatbytebyte.l11_0.r mk0 n (fun y0 y1 y2 y3 => zslicesConcatbytebyte.l11_0.g mk0 n m y0 y1 y2 y3)  x0 x1 x2 x3
def zslicesConcatbytebyte.l11_0.m (n m : Nat) (t : (Int × (Int × ((List AV) × (List Int))))) : Option (List Int) := zslicesConcatbytebyte.l11_0.g (fun a0 => a0) n m t.1 t.2.1 t.2.2.1 t.2.2.2
def zslicesConcatbytebyte.l11_0.pat : St → Option (Int × (Int × ((List AV) × (List Int))))
 | (St.mk [(.int .i64 x0), (.int .i64 x1), (.robjs 26 1 x2), (.own 0 1)] [(some (.ints .u8 x3))]) => some (x0, x1, x2, x3)
 | _ => none
def zslicesConcatbytebyte.l11_0.shape (t : (Int × (Int × ((List AV) × (List Int))))) : St := (St.mk [(.int .i64 t.1), (.int .i64 t.2.1), (.robjs 26 1 t.2.2.1), (.own 0 1)] [(some (.ints .u8 t.2.2.2))])
def zslicesConcatbytebyte.l11_0.res : (List Int) → Ex × St
 | u => (Prod.mk (.exit 2) (St.mk [(.own 0 1)] [(some (.ints .u8 u))]))
def zslicesConcatbytebyte.l11_0.resK {R : Type} (u : (List Int)) (K : Ex → St → Option R) : Option R := (fun p : Ex × St => K p.1 p.2) (Prod.mk (.exit 2) (St.mk [(.own 0 1)] [(some (.ints .u8 u))]))
noncomputable def zslicesConcatbytebyte.A (n : Nat) : Ann := ⟨Tryd.f99.ntmps, 0, zslicesConcatbytebyte.live, [(0, (.objs 26 1)), (9, (.objs 26 1)), (25, (.objs 26 1)), (6, (.ints .u8))], [(some (.ints .u8))], fun k => match k with
 | 3 => some (.mk' zslicesConcatbytebyte.l3_0.pat (zslicesConcatbytebyte.l3_0.m n n) zslicesConcatbytebyte.l3_0.resK)
 | 11 => some (.mk' zslicesConcatbytebyte.l11_0.pat (zslicesConcatbytebyte.l11_0.m n n) zslicesConcatbytebyte.l11_0.resK)
 | _ => none, zslicesConcatbytebyte.jlive, lookJ []⟩
noncomputable def zslicesConcatbytebyte.b0 : Code := (loopsIn (Tryd.f99.body.getD .skip)).getD 0 .skip
noncomputable def zslicesConcatbytebyte.b1 : Code := (loopsIn (Tryd.f99.body.getD .skip)).getD 1 .skip
def zslicesConcatbytebyte.g {α : Type} (mk0 : (List Int) → α) (n : Nat) (a0 : (List AV)) : Option α :=
 bindO (zslicesConcatbytebyte.l3_0.m n n (0, (((List.length a0) : Nat) : Int), a0, 0, a0)) fun r2 =>
  bindO (zslicesGrowbytebyte.m n (Prod.fst r2)) fun r4 =>
   bindO (zslicesConcatbytebyte.l11_0.m n n (0, (((List.length (Prod.snd r2)) : Nat) : Int), (Prod.snd r2), r4)) fun r6 =>
    some (mk0 r6)
def zslicesConcatbytebyte.m (n : Nat) (t : (List AV)) : Option (List Int) := zslicesConcatbytebyte.g (fun a0 => a0) n t
def zslicesConcatbytebyte.pat : List AV → Blks → Option (List AV)
 | [(.robjs 26 1 a0)], [] => some a0
 | _, _ => none
def zslicesConcatbytebyte.shape (t : (List AV)) : List AV × Blks := ([(.robjs 26 1 t)], [])
def zslicesConcatbytebyte.res : (List Int) → AV × Blks
 | u => (Prod.mk (.own 0 1) [(some (.ints .u8 u))])
def zslicesConcatbytebyte.resK {R : Type} (u : (List Int)) (K : AV → Blks → Option R) : Option R := (fun p : AV × Blks => K p.1 p.2) (Prod.mk (.own 0 1) [(some (.ints .u8 u))])
def zslicesConcatbytebyte.c (n : Nat) : Abs.Callee := .mk' [] [(some (.objs 26 1))] zslicesConcatbytebyte.pat (zslicesConcatbytebyte.m n) zslicesConcatbytebyte.resK
end
end
section
noncomputable section
noncomputable def userop_piece.C (n : Nat) : Ctx := ⟨Tryd.prog, abiG, fun f => match f with
 | 99 => some (zslicesConcatbytebyte.c n)
 | _ => none, fun _ => false⟩
def userop_piece.live : Nat → List Nat × List Nat := fun k => match k with
 | _ => ([], [])
def userop_piece.jlive : Nat → List Nat × List Nat := fun k => match k with
 | _ => ([], [])
noncomputable def userop_piece.A (n : Nat) : Ann := ⟨Tryd.f70.ntmps, 0, userop_piece.live, [], [none], fun k => match k with
 | _ => none, userop_piece.jlive, lookJ []⟩
def userop_piece.g {α : Type} (mk0 : Bool → (List Int) → (List Int) → α) (n : Nat) (a0 : (List AV)) : Option α :=
 bindO (zslicesConcatbytebyte.m n a0) fun r2 =>
  some (mk0 true [0, 0, 0, 0] r2)
def userop_piece.m (n : Nat) (t : (List AV)) : Option (Bool × ((List Int) × (List Int))) := userop_piece.g (fun a0 a1 a2 => (a0, a1, a2)) n t
def userop_piece.pat : List AV → Blks → Option (List AV)
 | [(.robjs 26 1 a0)], [] => some a0
 | _, _ => none
def userop_piece.shape (t : (List AV)) : List AV × Blks := ([(.robjs 26 1 t)], [])
def userop_piece.res : (Bool × ((List Int) × (List Int))) → AV × Blks
 | u => (Prod.mk (.agg [(.bool u.1), (.ints .u64 4 u.2.1), (.own 0 1)]) [(some (.ints .u8 u.2.2))])
def userop_piece.resK {R : Type} (u : (Bool × ((List Int) × (List Int)))) (K : AV → Blks → Option R) : Option R := (fun p : AV × Blks => K p.1 p.2) (Prod.mk (.agg [(.bool u.1), (.ints .u64 4 u.2.1), (.own 0 1)]) [(some (.ints .u8 u.2.2))])
def userop_piece.c (n : Nat) : Abs.Callee := .mk' [] [(some (.objs 26 1))] userop_piece.pat (userop_piece.m n) userop_piece.resK
end
end
section
noncomputable section
noncomputable def userop_half.C (n : Nat) : Ctx := ⟨Tryd.prog, abiG, fun f => match f with
 | 69 => some (word_From.c n)
 | 56 => some (word_Bytes.c n)
 | _ => none, fun _ => false⟩
def userop_half.live : Nat → List Nat × List Nat := fun k => match k with
 | _ => ([], [])
def userop_half.jlive : Nat → List Nat × List Nat := fun k => match k with
 | _ => ([], [])
noncomputable def userop_half.A (n : Nat) : Ann := ⟨Tryd.f73.ntmps, 0, userop_half.live, [], [(some (.ints .u8))], fun k => match k with
 | _ => none, userop_half.jlive, lookJ []⟩
def userop_half.g {α : Type} (mk0 : Nat → Nat → (List Int) → α) (n : Nat) (a0 : Int) : Option α :=
 bindO (word_From.m n a0) fun r2 =>
  bindO (word_Bytes.m n r2) fun r4 =>
   if 16 ≤ (((List.length r4) : Nat) : Int) then
    some (mk0 16 (Go.Abs.span (List.length r4) 16 (Option.none)) r4)
   else
    none
def userop_half.m (n : Nat) (t : Int) : Option (Nat × (Nat × (List Int))) := userop_half.g (fun a0 a1 a2 => (a0, a1, a2)) n t
def userop_half.pat : List AV → Blks → Option Int
 | [(.int .u64 a0)], [] => some a0
 | _, _ => none
def userop_half.shape (t : Int) : List AV × Blks := ([(.int .u64 t)], [])
def userop_half.res : (Nat × (Nat × (List Int))) → AV × Blks
 | u => (Prod.mk (.slice 0 [] u.1 u.2.1 1) [(some (.ints .u8 u.2.2))])
def userop_half.resK {R : Type} (u : (Nat × (Nat × (List Int)))) (K : AV → Blks → Option R) : Option R := (fun p : AV × Blks => K p.1 p.2) (Prod.mk (.slice 0 [] u.1 u.2.1 1) [(some (.ints .u8 u.2.2))])
def userop_half.c (n : Nat) : Abs.Callee := .mk' [] [none] userop_half.pat (userop_half.m n) userop_half.resK
end
end
section
noncomputable section
noncomputable def userop_halves.C (n : Nat) : Ctx := ⟨Tryd.prog, abiG, fun f => match f with
 | 69 => some (word_From.c n)
 | 100 => some (word_Shl.c n)
 | 85 => some (word_Add.c n)
 | _ => none, fun _ => false⟩
def userop_halves.live : Nat → List Nat × List Nat := fun k => match k with
 | _ => ([], [])
def userop_halves.jlive : Nat → List Nat × List Nat := fun k => match k with
 | _ => ([], [])
noncomputable def userop_halves.A (n : Nat) : Ann := ⟨Tryd.f74.ntmps, 0, userop_halves.live, [], [none], fun k => match k with
 | _ => none, userop_halves.jlive, lookJ []⟩
def userop_halves.g {α : Type} (mk0 : (List Int) → α) (n : Nat) (a0 : (List Int)) (a1 : (List Int)) : Option α :=
 bindO (word_From.m n 128) fun r2 =>
  bindO (word_Shl.m n (Prod.mk r2 a0)) fun r4 =>
   bindO (word_Add.m n (Prod.mk r4 a1)) fun r6 =>
    some (mk0 (Prod.fst r6))
def userop_halves.m (n : Nat) (t : ((List Int) × (List Int))) : Option (List Int) := userop_halves.g (fun a0 => a0) n t.1 t.2
def userop_halves.pat : List AV → Blks → Option ((List Int) × (List Int))
 | [(.ints .u64 4 a0), (.ints .u64 4 a1)], [] => some (a0, a1)
 | _, _ => none
def userop_halves.shape (t : ((List Int) × (List Int))) : List AV × Blks := ([(.ints .u64 4 t.1), (.ints .u64 4 t.2)], [])
def userop_halves.res : (List Int) → AV × Blks
 | u => (Prod.mk (.ints .u64 4 u) [])
def userop_halves.resK {R : Type} (u : (List Int)) (K : AV → Blks → Option R) : Option R := (fun p : AV × Blks => K p.1 p.2) (Prod.mk (.ints .u64 4 u) [])
def userop_halves.c (n : Nat) : Abs.Callee := .mk' [] [none, none] userop_halves.pat (userop_halves.m n) userop_halves.resK
end
end
section
noncomputable section
noncomputable def userop_part.C (n : Nat) : Ctx := ⟨Tryd.prog, abiG, fun f => match f with
 | _ => none, fun _ => false⟩
def userop_part.live : Nat → List Nat × List Nat := fun k => match k with
 | _ => ([], [])
def userop_part.jlive : Nat → List Nat × List Nat := fun k => match k with
 | _ => ([], [])
noncomputable def userop_part.A (n : Nat) : Ann := ⟨Tryd.f68.ntmps, 0, userop_part.live, [], [none], fun k => match k with
 | _ => none, userop_part.jlive, lookJ []⟩
def userop_part.g {α : Type} (mk0 : Bool → (List Int) → α) (n : Nat) (a0 : (List Int)) : Option α :=
 some (mk0 false a0)
def userop_part.m (n : Nat) (t : (List Int)) : Option (Bool × (List Int)) := userop_part.g (fun a0 a1 => (a0, a1)) n t
def userop_part.pat : List AV → Blks → Option (List Int)
 | [(.ints .u64 4 a0)], [] => some a0
 | _, _ => none
def userop_part.shape (t : (List Int)) : List AV × Blks := ([(.ints .u64 4 t)], [])
def userop_part.res : (Bool × (List Int)) → AV × Blks
 | u => (Prod.mk (.agg [(.bool u.1), (.ints .u64 4 u.2), .snil]) [])
def userop_part.resK {R : Type} (u : (Bool × (List Int))) (K : AV → Blks → Option R) : Option R := (fun p : AV × Blks => K p.1 p.2) (Prod.mk (.agg [(.bool u.1), (.ints .u64 4 u.2), .snil]) [])
def userop_part.c (n : Nat) : Abs.Callee := .mk' [] [none] userop_part.pat (userop_part.m n) userop_part.resK
end
end
section
noncomputable section
noncomputable def userop_Pack.C (n : Nat) : Ctx := ⟨Tryd.prog, abiG, fun f => match f with
 | 70 => some (userop_piece.c n)
 | 73 => some (userop_half.c n)
 | 69 => some (word_From.c n)
 | 74 => some (userop_halves.c n)
 | 75 => some (word_Wide.c n)
 | 68 => some (userop_part.c n)
 | _ => none, fun t => t == 41⟩
def userop_Pack.live : Nat → List Nat × List Nat := fun k => match k with
 | _ => ([], [])
def userop_Pack.jlive : Nat → List Nat × List Nat := fun k => match k with
 | _ => ([], [])
noncomputable def userop_Pack.A (n : Nat) : Ann := ⟨Tryd.f38.ntmps, 0, userop_Pack.live, [], [(some (.objs 69 6))], fun k => match k with
 | _ => none, userop_Pack.jlive, lookJ []⟩
def userop_Pack.g {α : Type} (mk0 : (List AV) → α) (n : Nat) (a0_0 : (List Int)) (a0_1 : (List Int)) (a0_2 : Bool) (a0_3 : (List Int)) (a0_4 : (List Int)) (a0_5 : (List Int)) (a0_6 : Int) (a0_7 : Int) (a0_8 : Int) (a0_9 : (List Int)) (a0_10 : (List Int)) (a0_11 : Bool) (a0_12 : (List Int)) (a0_13 : Int) (a0_14 : Int) (a0_15 : (List Int)) (a0_16 : (List Int)) : Option α :=
 bindO (userop_piece.m n []) fun r2 =>
  bindO (userop_piece.m n []) fun r4 =>
   if a0_2 = true then
    bindO (userop_piece.m n [(AV.rints .u8 (Go.Abs.cut a0_3 0 (Option.none))), (AV.rints .u8 a0_4)]) fun r8 =>
     if a0_11 = true then
      bindO (userop_half.m n a0_13) fun r12 =>
       bindO (userop_half.m n a0_14) fun r14 =>
        bindO (userop_piece.m n [(AV.rints .u8 (Go.Abs.cut a0_12 0 (Option.none))), (AV.rints .u8 (List.take (Prod.fst r12.2) (List.drop (Prod.fst r12) (Prod.snd r12.2)))), (AV.rints .u8 (List.take (Prod.fst r14.2) (List.drop (Prod.fst r14) (Prod.snd r14.2)))), (AV.rints .u8 a0_15)]) fun r16 =>
         bindO (word_From.m n a0_7) fun r18 =>
          bindO (word_From.m n a0_6) fun r20 =>
           bindO (userop_halves.m n (Prod.mk r18 r20)) fun r22 =>
            bindO (word_Wide.m n a0_0) fun r24 =>
             bindO (userop_part.m n r24) fun r26 =>
              bindO (userop_part.m n a0_1) fun r28 =>
               bindO (userop_piece.m n [(AV.rints .u8 a0_5)]) fun r30 =>
                bindO (userop_part.m n r22) fun r32 =>
                 bindO (word_From.m n a0_8) fun r34 =>
                  bindO (userop_part.m n r34) fun r36 =>
                   bindO (userop_halves.m n (Prod.mk a0_10 a0_9)) fun r38 =>
                    bindO (userop_part.m n r38) fun r40 =>
                     bindO (userop_piece.m n [(AV.rints .u8 a0_16)]) fun r42 =>
                      some (mk0 [(AV.agg [(AV.bool (Prod.fst r26)), (AV.ints .u64 4 (Prod.snd r26)), AV.snil]), (AV.agg [(AV.bool (Prod.fst r28)), (AV.ints .u64 4 (Prod.snd r28)), AV.snil]), (AV.agg [(AV.bool (Prod.fst r8)), (AV.ints .u64 4 (Prod.fst r8.2)), (AV.rints .u8 (Prod.snd r8.2))]), (AV.agg [(AV.bool (Prod.fst r30)), (AV.ints .u64 4 (Prod.fst r30.2)), (AV.rints .u8 (Prod.snd r30.2))]), (AV.agg [(AV.bool (Prod.fst r32)), (AV.ints .u64 4 (Prod.snd r32)), AV.snil]), (AV.agg [(AV.bool (Prod.fst r36)), (AV.ints .u64 4 (Prod.snd r36)), AV.snil]), (AV.agg [(AV.bool (Prod.fst r40)), (AV.ints .u64 4 (Prod.snd r40)), AV.snil]), (AV.agg [(AV.bool (Prod.fst r16)), (AV.ints .u64 4 (Prod.fst r16.2)), (AV.rints .u8 (Prod.snd r16.2))]), (AV.agg [(AV.bool (Prod.fst r42)), (AV.ints .u64 4 (Prod.fst r42.2)), (AV.rints .u8 (Prod.snd r42.2))])])
     else
      bindO (word_From.m n a0_7) fun r12 =>
       bindO (word_From.m n a0_6) fun r14 =>
        bindO (userop_halves.m n (Prod.mk r12 r14)) fun r16 =>
         bindO (word_Wide.m n a0_0) fun r18 =>
          bindO (userop_part.m n r18) fun r20 =>
           bindO (userop_part.m n a0_1) fun r22 =>
            bindO (userop_piece.m n [(AV.rints .u8 a0_5)]) fun r24 =>
             bindO (userop_part.m n r16) fun r26 =>
              bindO (word_From.m n a0_8) fun r28 =>
               bindO (userop_part.m n r28) fun r30 =>
                bindO (userop_halves.m n (Prod.mk a0_10 a0_9)) fun r32 =>
                 bindO (userop_part.m n r32) fun r34 =>
                  bindO (userop_piece.m n [(AV.rints .u8 a0_16)]) fun r36 =>
                   some (mk0 [(AV.agg [(AV.bool (Prod.fst r20)), (AV.ints .u64 4 (Prod.snd r20)), AV.snil]), (AV.agg [(AV.bool (Prod.fst r22)), (AV.ints .u64 4 (Prod.snd r22)), AV.snil]), (AV.agg [(AV.bool (Prod.fst r8)), (AV.ints .u64 4 (Prod.fst r8.2)), (AV.rints .u8 (Prod.snd r8.2))]), (AV.agg [(AV.bool (Prod.fst r24)), (AV.ints .u64 4 (Prod.fst r24.2)), (AV.rints .u8 (Prod.snd r24.2))]), (AV.agg [(AV.bool (Prod.fst r26)), (AV.ints .u64 4 (Prod.snd r26)), AV.snil]), (AV.agg [(AV.bool (Prod.fst r30)), (AV.ints .u64 4 (Prod.snd r30)), AV.snil]), (AV.agg [(AV.bool (Prod.fst r34)), (AV.ints .u64 4 (Prod.snd r34)), AV.snil]), (AV.agg [(AV.bool (Prod.fst r4)), (AV.ints .u64 4 (Prod.fst r4.2)), (AV.rints .u8 (Prod.snd r4.2))]), (AV.agg [(AV.bool (Prod.fst r36)), (AV.ints .u64 4 (Prod.fst r36.2)), (AV.rints .u8 (Prod.snd r36.2))])])
   else
    if a0_11 = true then
     bindO (userop_half.m n a0_13) fun r10 =>
      bindO (userop_half.m n a0_14) fun r12 =>
       bindO (userop_piece.m n [(AV.rints .u8 (Go.Abs.cut a0_12 0 (Option.none))), (AV.rints .u8 (List.take (Prod.fst r10.2) (List.drop (Prod.fst r10) (Prod.snd r10.2)))), (AV.rints .u8 (List.take (Prod.fst r12.2) (List.drop (Prod.fst r12) (Prod.snd r12.2)))), (AV.rints .u8 a0_15)]) fun r14 =>
        bindO (word_From.m n a0_7) fun r16 =>
         bindO (word_From.m n a0_6) fun r18 =>
          bindO (userop_halves.m n (Prod.mk r16 r18)) fun r20 =>
           bindO (word_Wide.m n a0_0) fun r22 =>
            bindO (userop_part.m n r22) fun r24 =>
             bindO (userop_part.m n a0_1) fun r26 =>
              bindO (userop_piece.m n [(AV.rints .u8 a0_5)]) fun r28 =>
               bindO (userop_part.m n r20) fun r30 =>
                bindO (word_From.m n a0_8) fun r32 =>
                 bindO (userop_part.m n r32) fun r34 =>
                  bindO (userop_halves.m n (Prod.mk a0_10 a0_9)) fun r36 =>
                   bindO (userop_part.m n r36) fun r38 =>
                    bindO (userop_piece.m n [(AV.rints .u8 a0_16)]) fun r40 =>
                     some (mk0 [(AV.agg [(AV.bool (Prod.fst r24)), (AV.ints .u64 4 (Prod.snd r24)), AV.snil]), (AV.agg [(AV.bool (Prod.fst r26)), (AV.ints .u64 4 (Prod.snd r26)), AV.snil]), (AV.agg [(AV.bool (Prod.fst r2)), (AV.ints .u64 4 (Prod.fst r2.2)), (AV.rints .u8 (Prod.snd r2.2))]), (AV.agg [(AV.bool (Prod.fst r28)), (AV.ints .u64 4 (Prod.fst r28.2)), (AV.rints .u8 (Prod.snd r28.2))]), (AV.agg [(AV.bool (Prod.fst r30)), (AV.ints .u64 4 (Prod.snd r30)), AV.snil]), (AV.agg [(AV.bool (Prod.fst r34)), (AV.ints .u64 4 (Prod.snd r34)), AV.snil]), (AV.agg [(AV.bool (Prod.fst r38)), (AV.ints .u64 4 (Prod.snd r38)), AV.snil]), (AV.agg [(AV.bool (Prod.fst r14)), (AV.ints .u64 4 (Prod.fst r14.2)), (AV.rints .u8 (Prod.snd r14.2))]), (AV.agg [(AV.bool (Prod.fst r40)), (AV.ints .u64 4 (Prod.fst r40.2)), (AV.rints .u8 (Prod.snd r40.2))])])
    else
     bindO (word_From.m n a0_7) fun r10 =>
      bindO (word_From.m n a0_6) fun r12 =>
       bindO (userop_halves.m n (Prod.mk r10 r12)) fun r14 =>
        bindO (word_Wide.m n a0_0) fun r16 =>
         bindO (userop_part.m n r16) fun r18 =>
          bindO (userop_part.m n a0_1) fun r20 =>
           bindO (userop_piece.m n [(AV.rints .u8 a0_5)]) fun r22 =>
            bindO (userop_part.m n r14) fun r24 =>
             bindO (word_From.m n a0_8) fun r26 =>
              bindO (userop_part.m n r26) fun r28 =>
               bindO (userop_halves.m n (Prod.mk a0_10 a0_9)) fun r30 =>
                bindO (userop_part.m n r30) fun r32 =>
                 bindO (userop_piece.m n [(AV.rints .u8 a0_16)]) fun r34 =>
                  some (mk0 [(AV.agg [(AV.bool (Prod.fst r18)), (AV.ints .u64 4 (Prod.snd r18)), AV.snil]), (AV.agg [(AV.bool (Prod.fst r20)), (AV.ints .u64 4 (Prod.snd r20)), AV.snil]), (AV.agg [(AV.bool (Prod.fst r2)), (AV.ints .u64 4 (Prod.fst r2.2)), (AV.rints .u8 (Prod.snd r2.2))]), (AV.agg [(AV.bool (Prod.fst r22)), (AV.ints .u64 4 (Prod.fst r22.2)), (AV.rints .u8 (Prod.snd r22.2))]), (AV.agg [(AV.bool (Prod.fst r24)), (AV.ints .u64 4 (Prod.snd r24)), AV.snil]), (AV.agg [(AV.bool (Prod.fst r28)), (AV.ints .u64 4 (Prod.snd r28)), AV.snil]), (AV.agg [(AV.bool (Prod.fst r32)), (AV.ints .u64 4 (Prod.snd r32)), AV.snil]), (AV.agg [(AV.bool (Prod.fst r4)), (AV.ints .u64 4 (Prod.fst r4.2)), (AV.rints .u8 (Prod.snd r4.2))]), (AV.agg [(AV.bool (Prod.fst r34)), (AV.ints .u64 4 (Prod.fst r34.2)), (AV.rints .u8 (Prod.snd r34.2))])])
def userop_Pack.m (n : Nat) (t : ((List Int) × ((List Int) × (Bool × ((List Int) × ((List Int) × ((List Int) × (Int × (Int × (Int × ((List Int) × ((List Int) × (Bool × ((List Int) × (Int × (Int × ((List Int) × (List Int)))))))))))))))))) : Option (List AV) := userop_Pack.g (fun a0 => a0) n t.1 t.2.1 t.2.2.1 t.2.2.2.1 t.2.2.2.2.1 t.2.2.2.2.2.1 t.2.2.2.2.2.2.1 t.2.2.2.2.2.2.2.1 t.2.2.2.2.2.2.2.2.1 t.2.2.2.2.2.2.2.2.2.1 t.2.2.2.2.2.2.2.2.2.2.1 t.2.2.2.2.2.2.2.2.2.2.2.1 t.2.2.2.2.2.2.2.2.2.2.2.2.1 t.2.2.2.2.2.2.2.2.2.2.2.2.2.1 t.2.2.2.2.2.2.2.2.2.2.2.2.2.2.1 t.2.2.2.2.2.2.2.2.2.2.2.2.2.2.2.1 t.2.2.2.2.2.2.2.2.2.2.2.2.2.2.2.2
def userop_Pack.pat : List AV → Blks → Option ((List Int) × ((List Int) × (Bool × ((List Int) × ((List Int) × ((List Int) × (Int × (Int × (Int × ((List Int) × ((List Int) × (Bool × ((List Int) × (Int × (Int × ((List Int) × (List Int)))))))))))))))))
 | [(.agg [(.ints .u8 20 a0_0), (.ints .u64 4 a0_1), (.bool a0_2), (.ints .u8 20 a0_3), (.rints .u8 a0_4), (.rints .u8 a0_5), (.int .u64 a0_6), (.int .u64 a0_7), (.int .u64 a0_8), (.ints .u64 4 a0_9), (.ints .u64 4 a0_10), (.bool a0_11), (.ints .u8 20 a0_12), (.int .u64 a0_13), (.int .u64 a0_14), (.rints .u8 a0_15), (.rints .u8 a0_16)])], [] => some (a0_0, a0_1, a0_2, a0_3, a0_4, a0_5, a0_6, a0_7, a0_8, a0_9, a0_10, a0_11, a0_12, a0_13, a0_14, a0_15, a0_16)
 | _, _ => none
def userop_Pack.shape (t : ((List Int) × ((List Int) × (Bool × ((List Int) × ((List Int) × ((List Int) × (Int × (Int × (Int × ((List Int) × ((List Int) × (Bool × ((List Int) × (Int × (Int × ((List Int) × (List Int)))))))))))))))))) : List AV × Blks := ([(.agg [(.ints .u8 20 t.1), (.ints .u64 4 t.2.1), (.bool t.2.2.1), (.ints .u8 20 t.2.2.2.1), (.rints .u8 t.2.2.2.2.1), (.rints .u8 t.2.2.2.2.2.1), (.int .u64 t.2.2.2.2.2.2.1), (.int .u64 t.2.2.2.2.2.2.2.1), (.int .u64 t.2.2.2.2.2.2.2.2.1), (.ints .u64 4 t.2.2.2.2.2.2.2.2.2.1), (.ints .u64 4 t.2.2.2.2.2.2.2.2.2.2.1), (.bool t.2.2.2.2.2.2.2.2.2.2.2.1), (.ints .u8 20 t.2.2.2.2.2.2.2.2.2.2.2.2.1), (.int .u64 t.2.2.2.2.2.2.2.2.2.2.2.2.2.1), (.int .u64 t.2.2.2.2.2.2.2.2.2.2.2.2.2.2.1), (.rints .u8 t.2.2.2.2.2.2.2.2.2.2.2.2.2.2.2.1), (.rints .u8 t.2.2.2.2.2.2.2.2.2.2.2.2.2.2.2.2)])], [])
def userop_Pack.res : (List AV) → AV × Blks
 | u => (Prod.mk (.robjs 69 6 u) [])
def userop_Pack.resK {R : Type} (u : (List AV)) (K : AV → Blks → Option R) : Option R := (fun p : AV × Blks => K p.1 p.2) (Prod.mk (.robjs 69 6 u) [])
def userop_Pack.c (n : Nat) : Abs.Callee := .mk' [] [(some (.agg [none, none, none, none, (some (.ints .u8)), (some (.ints .u8)), none, none, none, none, none, none, none, none, none, (some (.ints .u8)), (some (.ints .u8))]))] userop_Pack.pat (userop_Pack.m n) userop_Pack.resK
end
end
section
noncomputable section
noncomputable def abi_number.C (n : Nat) : Ctx := ⟨Tryd.prog, abiG, fun f => match f with
 | 69 => some (word_From.c n)
 | 56 => some (word_Bytes.c n)
 | _ => none, fun _ => false⟩
def abi_number.live : Nat → List Nat × List Nat := fun k => match k with
 | _ => ([], [])
def abi_number.jlive : Nat → List Nat × List Nat := fun k => match k with
 | _ => ([], [])
noncomputable def abi_number.A (n : Nat) : Ann := ⟨Tryd.f61.ntmps, 0, abi_number.live, [], [(some (.ints .u8))], fun k => match k with
 | _ => none, abi_number.jlive, lookJ []⟩
def abi_number.g {α : Type} (mk0 : (List Int) → α) (n : Nat) (a0 : Int) : Option α :=
 bindO (word_From.m n (IntKind.wrap .u64 a0)) fun r2 =>
  bindO (word_Bytes.m n r2) fun r4 =>
   some (mk0 r4)
def abi_number.m (n : Nat) (t : Int) : Option (List Int) := abi_number.g (fun a0 => a0) n t
def abi_number.pat : List AV → Blks → Option Int
 | [(.int .i64 a0)], [] => some a0
 | _, _ => none
def abi_number.shape (t : Int) : List AV × Blks := ([(.int .i64 t)], [])
def abi_number.res : (List Int) → AV × Blks
 | u => (Prod.mk (.own 0 1) [(some (.ints .u8 u))])
def abi_number.resK {R : Type} (u : (List Int)) (K : AV → Blks → Option R) : Option R := (fun p : AV × Blks => K p.1 p.2) (Prod.mk (.own 0 1) [(some (.ints .u8 u))])
def abi_number.c (n : Nat) : Abs.Callee := .mk' [] [none] abi_number.pat (abi_number.m n) abi_number.resK
end
end
section
noncomputable section
noncomputable def abi_Encode.C (n : Nat) : Ctx := ⟨Tryd.prog, abiG, fun f => match f with
 | 56 => some (word_Bytes.c n)
 | 61 => some (abi_number.c n)
 | _ => none, fun _ => false⟩
def abi_Encode.live : Nat → List Nat × List Nat := fun k => match k with
 | 3 => ([9, 8, 7, 3, 0, 4], [3, 4])
 | _ => ([], [])
def abi_Encode.jlive : Nat → List Nat × List Nat := fun k => match k with
 | _ => ([], [])
def abi_Encode.l3_0.r {α : Type} (mk0 : (List Int) → (List Int) → α) (n : Nat) (rc : Int → Int → (List AV) → (List AV) → (List Int) → (List Int) → Option α)  (x0 : Int) (x1 : Int) (x2 : (List AV)) (x3 : (List AV)) (x4 : (List Int)) (x5 : (List Int)) : Option α :=
  if (decide (x0 < x1)) = true then
   if 0 ≤ x0 then
    if x0 < (((List.length x2) : Nat) : Int) then
     bindO (tkAgg 3 (List.getD x2 (Int.toNat x0) AV.any)) fun r10 =>
      bindO (tkBool (List.getD r10 0 AV.any)) fun r12 =>
       bindO (tkInts .u64 4 (List.getD r10 1 AV.any)) fun r14 =>
        bindO (tkRints .u8 (List.getD r10 2 AV.any)) fun r16 =>
         if (!r12) = true then
          bindO (word_Bytes.m n r14) fun r20 =>
           if ((((List.length x4) + (List.length r20)) * 1) ≤ 70368744177664 ∧ ((List.length x4) + (List.length r20)) ≤ 9223372036854775807) then
            rc (IntKind.wrap .i64 (x0 + 1)) x1 x2 x3 (x4 ++ r20) x5
           else
            none
         else
          bindO (abi_number.m n (IntKind.wrap .i64 ((IntKind.wrap .i64 (32 * (((List.length x3) : Nat) : Int))) + (((List.length x5) : Nat) : Int)))) fun r20 =>
           if ((((List.length x4) + (List.length r20)) * 1) ≤ 70368744177664 ∧ ((List.length x4) + (List.length r20)) ≤ 9223372036854775807) then
            bindO (abi_number.m n (((List.length r16) : Nat) : Int)) fun r24 =>
             if ((((List.length x5) + (List.length r24)) * 1) ≤ 70368744177664 ∧ ((List.length x5) + (List.length r24)) ≤ 9223372036854775807) then
              if ((((List.length (x5 ++ r24)) + (List.length r16)) * 1) ≤ 70368744177664 ∧ ((List.length (x5 ++ r24)) + (List.length r16)) ≤ 9223372036854775807) then
               if 0 ≤ (Int.tmod (IntKind.wrap .i64 (32 - (Int.tmod (((List.length r16) : Nat) : Int) 32))) 32) then
                if ((((List.length ((x5 ++ r24) ++ r16)) + (List.length (List.replicate (Int.toNat (Int.tmod (IntKind.wrap .i64 (32 - (Int.tmod (((List.length r16) : Nat) : Int) 32))) 32)) (0 : Int)))) * 1) ≤ 70368744177664 ∧ ((List.length ((x5 ++ r24) ++ r16)) + (List.length (List.replicate (Int.toNat (Int.tmod (IntKind.wrap .i64 (32 - (Int.tmod (((List.length r16) : Nat) : Int) 32))) 32)) (0 : Int)))) ≤ 9223372036854775807) then
                 rc (IntKind.wrap .i64 (x0 + 1)) x1 x2 x3 (x4 ++ r20) (((x5 ++ r24) ++ r16) ++ (List.replicate (Int.toNat (Int.tmod (IntKind.wrap .i64 (32 - (Int.tmod (((List.length r16) : Nat) : Int) 32))) 32)) (0 : Int)))
                else
                 none
               else
                none
              else
               none
             else
              none
           else
            none
    else
     none
   else
    none
  else
   some (mk0 x4 x5)
def abi_Encode.l3_0.g {α : Type} (mk0 : (List Int) → (List Int) → α) (n : Nat) : Nat → Int → Int → (List AV) → (List AV) → (List Int) → (List Int) → Option α
 | 0, _, _, _, _, _, _ => none
 | m + 1, x0, x1, x2, x3, x4, x5 => abi_Encode.l3_0.r mk0 n (fun y0 y1 y2 y3 y4 y5 => abi_Encode.l3_0.g mk0 n m y0 y1 y2 y3 y4 y5)  x0 x1 x2 x3 x4 x5
def abi_Encode.l3_0.m (n m : Nat) (t : (Int × (Int × ((List AV) × ((List AV) × ((List Int) × (List Int))))))) : Option ((List Int) × (List Int)) := abi_Encode.l3_0.g (fun a0 a1 => (a0, a1)) n m t.1 t.2.1 t.2.2.1 t.2.2.2.1 t.2.2.2.2.1 t.2.2.2.2.2
def abi_Encode.l3_0.pat : St → Option (Int × (Int × ((List AV) × ((List AV) × ((List Int) × (List Int))))))
 | (St.mk [(.int .i64 x0), (.int .i64 x1), (.robjs 69 6 x2), (.own 0 1), (.robjs 69 6 x3), (.own 1 1)] [(some (.ints .u8 x4)), (some (.ints .u8 x5))]) => some (x0, x1, x2, x3, x4, x5)
 | _ => none
def abi_Encode.l3_0.shape (t : (Int × (Int × ((List AV) × ((List AV) × ((List Int) × (List Int))))))) : St := (St.mk [(.int .i64 t.1), (.int .i64 t.2.1), (.robjs 69 6 t.2.2.1), (.own 0 1), (.robjs 69 6 t.2.2.2.1), (.own 1 1)] [(some (.ints .u8 t.2.2.2.2.1)), (some (.ints .u8 t.2.2.2.2.2))])
def abi_Encode.l3_0.res : ((List Int) × (List Int)) → Ex × St
 | u => (Prod.mk (.exit 0) (St.mk [(.own 0 1), (.own 1 1)] [(some (.ints .u8 u.1)), (some (.ints .u8 u.2))]))
def abi_Encode.l3_0.resK {R : Type} (u : ((List Int) × (List Int))) (K : Ex → St → Option R) : Option R := (fun p : Ex × St => K p.1 p.2) (Prod.mk (.exit 0) (St.mk [(.own 0 1), (.own 1 1)] [(some (.ints .u8 u.1)), (some (.ints .u8 u.2))]))
noncomputable def abi_Encode.A (n : Nat) : Ann := ⟨Tryd.f20.ntmps, 0, abi_Encode.live, [(0, (.objs 69 6)), (7, (.objs 69 6)), (3, (.ints .u8)), (4, (.ints .u8))], [(some (.ints .u8))], fun k => match k with
 | 3 => some (.mk' abi_Encode.l3_0.pat (abi_Encode.l3_0.m n n) abi_Encode.l3_0.resK)
 | _ => none, abi_Encode.jlive, lookJ []⟩
noncomputable def abi_Encode.b0 : Code := (loopsIn (Tryd.f20.body.getD .skip)).getD 0 .skip
def abi_Encode.g {α : Type} (mk0 : (List Int) → α) (n : Nat) (a0 : (List AV)) : Option α :=
 bindO (abi_Encode.l3_0.m n n (0, (((List.length a0) : Nat) : Int), a0, a0, [], [])) fun r2 =>
  if ((((List.length (Prod.fst r2)) + (List.length (Prod.snd r2))) * 1) ≤ 70368744177664 ∧ ((List.length (Prod.fst r2)) + (List.length (Prod.snd r2))) ≤ 9223372036854775807) then
   some (mk0 ((Prod.fst r2) ++ (Prod.snd r2)))
  else
   none
def abi_Encode.m (n : Nat) (t : (List AV)) : Option (List Int) := abi_Encode.g (fun a0 => a0) n t
def abi_Encode.pat : List AV → Blks → Option (List AV)
 | [(.robjs 69 6 a0)], [] => some a0
 | _, _ => none
def abi_Encode.shape (t : (List AV)) : List AV × Blks := ([(.robjs 69 6 t)], [])
def abi_Encode.res : (List Int) → AV × Blks
 | u => (Prod.mk (.own 0 1) [(some (.ints .u8 u))])
def abi_Encode.resK {R : Type} (u : (List Int)) (K : AV → Blks → Option R) : Option R := (fun p : AV × Blks => K p.1 p.2) (Prod.mk (.own 0 1) [(some (.ints .u8 u))])
def abi_Encode.c (n : Nat) : Abs.Callee := .mk' [] [(some (.objs 69 6))] abi_Encode.pat (abi_Encode.m n) abi_Encode.resK
end
end
section
noncomputable section
noncomputable def userop_asked.C (n : Nat) : Ctx := ⟨Tryd.prog, abiG, fun f => match f with
 | 22 => some (abi_Selector.c n)
 | 69 => some (word_From.c n)
 | 56 => some (word_Bytes.c n)
 | 38 => some (userop_Pack.c n)
 | 20 => some (abi_Encode.c n)
 | 99 => some (zslicesConcatbytebyte.c n)
 | _ => none, fun _ => false⟩
def userop_asked.live : Nat → List Nat × List Nat := fun k => match k with
 | _ => ([], [])
def userop_asked.jlive : Nat → List Nat × List Nat := fun k => match k with
 | _ => ([], [])
noncomputable def userop_asked.A (n : Nat) : Ann := ⟨Tryd.f66.ntmps, 0, userop_asked.live, [], [(some (.ints .u8))], fun k => match k with
 | _ => none, userop_asked.jlive, lookJ []⟩
def userop_asked.g {α : Type} (mk0 : (List Int) → α) (n : Nat) (a0 : ByteArray) (a1_0 : (List Int)) (a1_1 : (List Int)) (a1_2 : Bool) (a1_3 : (List Int)) (a1_4 : (List Int)) (a1_5 : (List Int)) (a1_6 : Int) (a1_7 : Int) (a1_8 : Int) (a1_9 : (List Int)) (a1_10 : (List Int)) (a1_11 : Bool) (a1_12 : (List Int)) (a1_13 : Int) (a1_14 : Int) (a1_15 : (List Int)) (a1_16 : (List Int)) (a2 : (List Int)) (a3 : (List Int)) : Option α :=
 if ((ByteArray.size a0) + 83) ≤ 1152921504606846976 then
  bindO (abi_Selector.m n (a0 ++ (ByteArray.mk (List.toArray [(UInt8.ofBitVec (BitVec.ofNat 8 40)), (UInt8.ofBitVec (BitVec.ofNat 8 40)), (UInt8.ofBitVec (BitVec.ofNat 8 97)), (UInt8.ofBitVec (BitVec.ofNat 8 100)), (UInt8.ofBitVec (BitVec.ofNat 8 100)), (UInt8.ofBitVec (BitVec.ofNat 8 114)), (UInt8.ofBitVec (BitVec.ofNat 8 101)), (UInt8.ofBitVec (BitVec.ofNat 8 115)), (UInt8.ofBitVec (BitVec.ofNat 8 115)), (UInt8.ofBitVec (BitVec.ofNat 8 44)), (UInt8.ofBitVec (BitVec.ofNat 8 117)), (UInt8.ofBitVec (BitVec.ofNat 8 105)), (UInt8.ofBitVec (BitVec.ofNat 8 110)), (UInt8.ofBitVec (BitVec.ofNat 8 116)), (UInt8.ofBitVec (BitVec.ofNat 8 50)), (UInt8.ofBitVec (BitVec.ofNat 8 53)), (UInt8.ofBitVec (BitVec.ofNat 8 54)), (UInt8.ofBitVec (BitVec.ofNat 8 44)), (UInt8.ofBitVec (BitVec.ofNat 8 98)), (UInt8.ofBitVec (BitVec.ofNat 8 121)), (UInt8.ofBitVec (BitVec.ofNat 8 116)), (UInt8.ofBitVec (BitVec.ofNat 8 101)), (UInt8.ofBitVec (BitVec.ofNat 8 115)), (UInt8.ofBitVec (BitVec.ofNat 8 44)), (UInt8.ofBitVec (BitVec.ofNat 8 98)), (UInt8.ofBitVec (BitVec.ofNat 8 121)), (UInt8.ofBitVec (BitVec.ofNat 8 116)), (UInt8.ofBitVec (BitVec.ofNat 8 101)), (UInt8.ofBitVec (BitVec.ofNat 8 115)), (UInt8.ofBitVec (BitVec.ofNat 8 44)), (UInt8.ofBitVec (BitVec.ofNat 8 98)), (UInt8.ofBitVec (BitVec.ofNat 8 121)), (UInt8.ofBitVec (BitVec.ofNat 8 116)), (UInt8.ofBitVec (BitVec.ofNat 8 101)), (UInt8.ofBitVec (BitVec.ofNat 8 115)), (UInt8.ofBitVec (BitVec.ofNat 8 51)), (UInt8.ofBitVec (BitVec.ofNat 8 50)), (UInt8.ofBitVec (BitVec.ofNat 8 44)), (UInt8.ofBitVec (BitVec.ofNat 8 117)), (UInt8.ofBitVec (BitVec.ofNat 8 105)), (UInt8.ofBitVec (BitVec.ofNat 8 110)), (UInt8.ofBitVec (BitVec.ofNat 8 116)), (UInt8.ofBitVec (BitVec.ofNat 8 50)), (UInt8.ofBitVec (BitVec.ofNat 8 53)), (UInt8.ofBitVec (BitVec.ofNat 8 54)), (UInt8.ofBitVec (BitVec.ofNat 8 44)), (UInt8.ofBitVec (BitVec.ofNat 8 98)), (UInt8.ofBitVec (BitVec.ofNat 8 121)), (UInt8.ofBitVec (BitVec.ofNat 8 116)), (UInt8.ofBitVec (BitVec.ofNat 8 101)), (UInt8.ofBitVec (BitVec.ofNat 8 115)), (UInt8.ofBitVec (BitVec.ofNat 8 51)), (UInt8.ofBitVec (BitVec.ofNat 8 50)), (UInt8.ofBitVec (BitVec.ofNat 8 44)), (UInt8.ofBitVec (BitVec.ofNat 8 98)), (UInt8.ofBitVec (BitVec.ofNat 8 121)), (UInt8.ofBitVec (BitVec.ofNat 8 116)), (UInt8.ofBitVec (BitVec.ofNat 8 101)), (UInt8.ofBitVec (BitVec.ofNat 8 115)), (UInt8.ofBitVec (BitVec.ofNat 8 44)), (UInt8.ofBitVec (BitVec.ofNat 8 98)), (UInt8.ofBitVec (BitVec.ofNat 8 121)), (UInt8.ofBitVec (BitVec.ofNat 8 116)), (UInt8.ofBitVec (BitVec.ofNat 8 101)), (UInt8.ofBitVec (BitVec.ofNat 8 115)), (UInt8.ofBitVec (BitVec.ofNat 8 41)), (UInt8.ofBitVec (BitVec.ofNat 8 44)), (UInt8.ofBitVec (BitVec.ofNat 8 98)), (UInt8.ofBitVec (BitVec.ofNat 8 121)), (UInt8.ofBitVec (BitVec.ofNat 8 116)), (UInt8.ofBitVec (BitVec.ofNat 8 101)), (UInt8.ofBitVec (BitVec.ofNat 8 115)), (UInt8.ofBitVec (BitVec.ofNat 8 51)), (UInt8.ofBitVec (BitVec.ofNat 8 50)), (UInt8.ofBitVec (BitVec.ofNat 8 44)), (UInt8.ofBitVec (BitVec.ofNat 8 117)), (UInt8.ofBitVec (BitVec.ofNat 8 105)), (UInt8.ofBitVec (BitVec.ofNat 8 110)), (UInt8.ofBitVec (BitVec.ofNat 8 116)), (UInt8.ofBitVec (BitVec.ofNat 8 50)), (UInt8.ofBitVec (BitVec.ofNat 8 53)), (UInt8.ofBitVec (BitVec.ofNat 8 54)), (UInt8.ofBitVec (BitVec.ofNat 8 41))])))) fun r4 =>
   bindO (word_From.m n 96) fun r6 =>
    bindO (word_Bytes.m n r6) fun r8 =>
     bindO (word_Bytes.m n a2) fun r10 =>
      bindO (word_Bytes.m n a3) fun r12 =>
       bindO (userop_Pack.m n (Prod.mk a1_0 (Prod.mk a1_1 (Prod.mk a1_2 (Prod.mk a1_3 (Prod.mk a1_4 (Prod.mk a1_5 (Prod.mk a1_6 (Prod.mk a1_7 (Prod.mk a1_8 (Prod.mk a1_9 (Prod.mk a1_10 (Prod.mk a1_11 (Prod.mk a1_12 (Prod.mk a1_13 (Prod.mk a1_14 (Prod.mk a1_15 a1_16))))))))))))))))) fun r14 =>
        bindO (abi_Encode.m n r14) fun r16 =>
         bindO (zslicesConcatbytebyte.m n [(AV.rints .u8 r4), (AV.rints .u8 r8), (AV.rints .u8 r10), (AV.rints .u8 r12), (AV.rints .u8 r16)]) fun r18 =>
          some (mk0 r18)
 else
  none
def userop_asked.m (n : Nat) (t : (ByteArray × ((List Int) × ((List Int) × (Bool × ((List Int) × ((List Int) × ((List Int) × (Int × (Int × (Int × ((List Int) × ((List Int) × (Bool × ((List Int) × (Int × (Int × ((List Int) × ((List Int) × ((List Int) × (List Int))))))))))))))))))))) : Option (List Int) := userop_asked.g (fun a0 => a0) n t.1 t.2.1 t.2.2.1 t.2.2.2.1 t.2.2.2.2.1 t.2.2.2.2.2.1 t.2.2.2.2.2.2.1 t.2.2.2.2.2.2.2.1 t.2.2.2.2.2.2.2.2.1 t.2.2.2.2.2.2.2.2.2.1 t.2.2.2.2.2.2.2.2.2.2.1 t.2.2.2.2.2.2.2.2.2.2.2.1 t.2.2.2.2.2.2.2.2.2.2.2.2.1 t.2.2.2.2.2.2.2.2.2.2.2.2.2.1 t.2.2.2.2.2.2.2.2.2.2.2.2.2.2.1 t.2.2.2.2.2.2.2.2.2.2.2.2.2.2.2.1 t.2.2.2.2.2.2.2.2.2.2.2.2.2.2.2.2.1 t.2.2.2.2.2.2.2.2.2.2.2.2.2.2.2.2.2.1 t.2.2.2.2.2.2.2.2.2.2.2.2.2.2.2.2.2.2.1 t.2.2.2.2.2.2.2.2.2.2.2.2.2.2.2.2.2.2.2
def userop_asked.pat : List AV → Blks → Option (ByteArray × ((List Int) × ((List Int) × (Bool × ((List Int) × ((List Int) × ((List Int) × (Int × (Int × (Int × ((List Int) × ((List Int) × (Bool × ((List Int) × (Int × (Int × ((List Int) × ((List Int) × ((List Int) × (List Int))))))))))))))))))))
 | [(.str a0), (.agg [(.ints .u8 20 a1_0), (.ints .u64 4 a1_1), (.bool a1_2), (.ints .u8 20 a1_3), (.rints .u8 a1_4), (.rints .u8 a1_5), (.int .u64 a1_6), (.int .u64 a1_7), (.int .u64 a1_8), (.ints .u64 4 a1_9), (.ints .u64 4 a1_10), (.bool a1_11), (.ints .u8 20 a1_12), (.int .u64 a1_13), (.int .u64 a1_14), (.rints .u8 a1_15), (.rints .u8 a1_16)]), (.ints .u64 4 a2), (.ints .u64 4 a3)], [] => some (a0, a1_0, a1_1, a1_2, a1_3, a1_4, a1_5, a1_6, a1_7, a1_8, a1_9, a1_10, a1_11, a1_12, a1_13, a1_14, a1_15, a1_16, a2, a3)
 | _, _ => none
def userop_asked.shape (t : (ByteArray × ((List Int) × ((List Int) × (Bool × ((List Int) × ((List Int) × ((List Int) × (Int × (Int × (Int × ((List Int) × ((List Int) × (Bool × ((List Int) × (Int × (Int × ((List Int) × ((List Int) × ((List Int) × (List Int))))))))))))))))))))) : List AV × Blks := ([(.str t.1), (.agg [(.ints .u8 20 t.2.1), (.ints .u64 4 t.2.2.1), (.bool t.2.2.2.1), (.ints .u8 20 t.2.2.2.2.1), (.rints .u8 t.2.2.2.2.2.1), (.rints .u8 t.2.2.2.2.2.2.1), (.int .u64 t.2.2.2.2.2.2.2.1), (.int .u64 t.2.2.2.2.2.2.2.2.1), (.int .u64 t.2.2.2.2.2.2.2.2.2.1), (.ints .u64 4 t.2.2.2.2.2.2.2.2.2.2.1), (.ints .u64 4 t.2.2.2.2.2.2.2.2.2.2.2.1), (.bool t.2.2.2.2.2.2.2.2.2.2.2.2.1), (.ints .u8 20 t.2.2.2.2.2.2.2.2.2.2.2.2.2.1), (.int .u64 t.2.2.2.2.2.2.2.2.2.2.2.2.2.2.1), (.int .u64 t.2.2.2.2.2.2.2.2.2.2.2.2.2.2.2.1), (.rints .u8 t.2.2.2.2.2.2.2.2.2.2.2.2.2.2.2.2.1), (.rints .u8 t.2.2.2.2.2.2.2.2.2.2.2.2.2.2.2.2.2.1)]), (.ints .u64 4 t.2.2.2.2.2.2.2.2.2.2.2.2.2.2.2.2.2.2.1), (.ints .u64 4 t.2.2.2.2.2.2.2.2.2.2.2.2.2.2.2.2.2.2.2)], [])
def userop_asked.res : (List Int) → AV × Blks
 | u => (Prod.mk (.own 0 1) [(some (.ints .u8 u))])
def userop_asked.resK {R : Type} (u : (List Int)) (K : AV → Blks → Option R) : Option R := (fun p : AV × Blks => K p.1 p.2) (Prod.mk (.own 0 1) [(some (.ints .u8 u))])
def userop_asked.c (n : Nat) : Abs.Callee := .mk' [] [none, (some (.agg [none, none, none, none, (some (.ints .u8)), (some (.ints .u8)), none, none, none, none, none, none, none, none, none, (some (.ints .u8)), (some (.ints .u8))])), none, none] userop_asked.pat (userop_asked.m n) userop_asked.resK
end
end
section
noncomputable section
noncomputable def userop_Validate.C (n : Nat) : Ctx := ⟨Tryd.prog, abiG, fun f => match f with
 | 66 => some (userop_asked.c n)
 | _ => none, fun _ => false⟩
def userop_Validate.live : Nat → List Nat × List Nat := fun k => match k with
 | _ => ([], [])
def userop_Validate.jlive : Nat → List Nat × List Nat := fun k => match k with
 | _ => ([], [])
noncomputable def userop_Validate.A (n : Nat) : Ann := ⟨Tryd.f30.ntmps, 0, userop_Validate.live, [], [(some (.ints .u8))], fun k => match k with
 | _ => none, userop_Validate.jlive, lookJ []⟩
def userop_Validate.g {α : Type} (mk0 : (List Int) → α) (n : Nat) (a0_0 : (List Int)) (a0_1 : (List Int)) (a0_2 : Bool) (a0_3 : (List Int)) (a0_4 : (List Int)) (a0_5 : (List Int)) (a0_6 : Int) (a0_7 : Int) (a0_8 : Int) (a0_9 : (List Int)) (a0_10 : (List Int)) (a0_11 : Bool) (a0_12 : (List Int)) (a0_13 : Int) (a0_14 : Int) (a0_15 : (List Int)) (a0_16 : (List Int)) (a1 : (List Int)) (a2 : (List Int)) : Option α :=
 bindO (userop_asked.m n (Prod.mk (ByteArray.mk (List.toArray [(UInt8.ofBitVec (BitVec.ofNat 8 118)), (UInt8.ofBitVec (BitVec.ofNat 8 97)), (UInt8.ofBitVec (BitVec.ofNat 8 108)), (UInt8.ofBitVec (BitVec.ofNat 8 105)), (UInt8.ofBitVec (BitVec.ofNat 8 100)), (UInt8.ofBitVec (BitVec.ofNat 8 97)), (UInt8.ofBitVec (BitVec.ofNat 8 116)), (UInt8.ofBitVec (BitVec.ofNat 8 101)), (UInt8.ofBitVec (BitVec.ofNat 8 85)), (UInt8.ofBitVec (BitVec.ofNat 8 115)), (UInt8.ofBitVec (BitVec.ofNat 8 101)), (UInt8.ofBitVec (BitVec.ofNat 8 114)), (UInt8.ofBitVec (BitVec.ofNat 8 79)), (UInt8.ofBitVec (BitVec.ofNat 8 112))])) (Prod.mk a0_0 (Prod.mk a0_1 (Prod.mk a0_2 (Prod.mk a0_3 (Prod.mk a0_4 (Prod.mk a0_5 (Prod.mk a0_6 (Prod.mk a0_7 (Prod.mk a0_8 (Prod.mk a0_9 (Prod.mk a0_10 (Prod.mk a0_11 (Prod.mk a0_12 (Prod.mk a0_13 (Prod.mk a0_14 (Prod.mk a0_15 (Prod.mk a0_16 (Prod.mk a1 a2)))))))))))))))))))) fun r2 =>
  some (mk0 r2)
def userop_Validate.m (n : Nat) (t : ((List Int) × ((List Int) × (Bool × ((List Int) × ((List Int) × ((List Int) × (Int × (Int × (Int × ((List Int) × ((List Int) × (Bool × ((List Int) × (Int × (Int × ((List Int) × ((List Int) × ((List Int) × (List Int)))))))))))))))))))) : Option (List Int) := userop_Validate.g (fun a0 => a0) n t.1 t.2.1 t.2.2.1 t.2.2.2.1 t.2.2.2.2.1 t.2.2.2.2.2.1 t.2.2.2.2.2.2.1 t.2.2.2.2.2.2.2.1 t.2.2.2.2.2.2.2.2.1 t.2.2.2.2.2.2.2.2.2.1 t.2.2.2.2.2.2.2.2.2.2.1 t.2.2.2.2.2.2.2.2.2.2.2.1 t.2.2.2.2.2.2.2.2.2.2.2.2.1 t.2.2.2.2.2.2.2.2.2.2.2.2.2.1 t.2.2.2.2.2.2.2.2.2.2.2.2.2.2.1 t.2.2.2.2.2.2.2.2.2.2.2.2.2.2.2.1 t.2.2.2.2.2.2.2.2.2.2.2.2.2.2.2.2.1 t.2.2.2.2.2.2.2.2.2.2.2.2.2.2.2.2.2.1 t.2.2.2.2.2.2.2.2.2.2.2.2.2.2.2.2.2.2
def userop_Validate.pat : List AV → Blks → Option ((List Int) × ((List Int) × (Bool × ((List Int) × ((List Int) × ((List Int) × (Int × (Int × (Int × ((List Int) × ((List Int) × (Bool × ((List Int) × (Int × (Int × ((List Int) × ((List Int) × ((List Int) × (List Int)))))))))))))))))))
 | [(.agg [(.ints .u8 20 a0_0), (.ints .u64 4 a0_1), (.bool a0_2), (.ints .u8 20 a0_3), (.rints .u8 a0_4), (.rints .u8 a0_5), (.int .u64 a0_6), (.int .u64 a0_7), (.int .u64 a0_8), (.ints .u64 4 a0_9), (.ints .u64 4 a0_10), (.bool a0_11), (.ints .u8 20 a0_12), (.int .u64 a0_13), (.int .u64 a0_14), (.rints .u8 a0_15), (.rints .u8 a0_16)]), (.ints .u64 4 a1), (.ints .u64 4 a2)], [] => some (a0_0, a0_1, a0_2, a0_3, a0_4, a0_5, a0_6, a0_7, a0_8, a0_9, a0_10, a0_11, a0_12, a0_13, a0_14, a0_15, a0_16, a1, a2)
 | _, _ => none
def userop_Validate.shape (t : ((List Int) × ((List Int) × (Bool × ((List Int) × ((List Int) × ((List Int) × (Int × (Int × (Int × ((List Int) × ((List Int) × (Bool × ((List Int) × (Int × (Int × ((List Int) × ((List Int) × ((List Int) × (List Int)))))))))))))))))))) : List AV × Blks := ([(.agg [(.ints .u8 20 t.1), (.ints .u64 4 t.2.1), (.bool t.2.2.1), (.ints .u8 20 t.2.2.2.1), (.rints .u8 t.2.2.2.2.1), (.rints .u8 t.2.2.2.2.2.1), (.int .u64 t.2.2.2.2.2.2.1), (.int .u64 t.2.2.2.2.2.2.2.1), (.int .u64 t.2.2.2.2.2.2.2.2.1), (.ints .u64 4 t.2.2.2.2.2.2.2.2.2.1), (.ints .u64 4 t.2.2.2.2.2.2.2.2.2.2.1), (.bool t.2.2.2.2.2.2.2.2.2.2.2.1), (.ints .u8 20 t.2.2.2.2.2.2.2.2.2.2.2.2.1), (.int .u64 t.2.2.2.2.2.2.2.2.2.2.2.2.2.1), (.int .u64 t.2.2.2.2.2.2.2.2.2.2.2.2.2.2.1), (.rints .u8 t.2.2.2.2.2.2.2.2.2.2.2.2.2.2.2.1), (.rints .u8 t.2.2.2.2.2.2.2.2.2.2.2.2.2.2.2.2.1)]), (.ints .u64 4 t.2.2.2.2.2.2.2.2.2.2.2.2.2.2.2.2.2.1), (.ints .u64 4 t.2.2.2.2.2.2.2.2.2.2.2.2.2.2.2.2.2.2)], [])
def userop_Validate.res : (List Int) → AV × Blks
 | u => (Prod.mk (.own 0 1) [(some (.ints .u8 u))])
def userop_Validate.resK {R : Type} (u : (List Int)) (K : AV → Blks → Option R) : Option R := (fun p : AV × Blks => K p.1 p.2) (Prod.mk (.own 0 1) [(some (.ints .u8 u))])
def userop_Validate.c (n : Nat) : Abs.Callee := .mk' [] [(some (.agg [none, none, none, none, (some (.ints .u8)), (some (.ints .u8)), none, none, none, none, none, none, none, none, none, (some (.ints .u8)), (some (.ints .u8))])), none, none] userop_Validate.pat (userop_Validate.m n) userop_Validate.resK
end
end
section
noncomputable section
noncomputable def userop_Now.C (n : Nat) : Ctx := ⟨Tryd.prog, abiG, fun f => match f with
 | _ => none, fun _ => false⟩
def userop_Now.live : Nat → List Nat × List Nat := fun k => match k with
 | _ => ([], [])
def userop_Now.jlive : Nat → List Nat × List Nat := fun k => match k with
 | _ => ([], [])
noncomputable def userop_Now.A (n : Nat) : Ann := ⟨Tryd.f27.ntmps, 0, userop_Now.live, [], [none], fun k => match k with
 | _ => none, userop_Now.jlive, lookJ []⟩
def userop_Now.g {α : Type} (mk0 : Bool → α) (n : Nat) (a0_0 : Bool) (a0_1 : Int) (a0_2 : Int) (a1 : Int) : Option α :=
 if (!a0_0) = true then
  if (decide (a1 ≥ a0_1)) = true then
   if (a0_2 == 0) = true then
    some (mk0 true)
   else
    some (mk0 (decide (a1 ≤ a0_2)))
  else
   some (mk0 false)
 else
  some (mk0 false)
def userop_Now.m (n : Nat) (t : (Bool × (Int × (Int × Int)))) : Option Bool := userop_Now.g (fun a0 => a0) n t.1 t.2.1 t.2.2.1 t.2.2.2
def userop_Now.pat : List AV → Blks → Option (Bool × (Int × (Int × Int)))
 | [(.agg [(.bool a0_0), (.int .u64 a0_1), (.int .u64 a0_2)]), (.int .u64 a1)], [] => some (a0_0, a0_1, a0_2, a1)
 | _, _ => none
def userop_Now.shape (t : (Bool × (Int × (Int × Int)))) : List AV × Blks := ([(.agg [(.bool t.1), (.int .u64 t.2.1), (.int .u64 t.2.2.1)]), (.int .u64 t.2.2.2)], [])
def userop_Now.res : Bool → AV × Blks
 | u => (Prod.mk (.bool u) [])
def userop_Now.resK {R : Type} (u : Bool) (K : AV → Blks → Option R) : Option R := (fun p : AV × Blks => K p.1 p.2) (Prod.mk (.bool u) [])
def userop_Now.c (n : Nat) : Abs.Callee := .mk' [] [none, none] userop_Now.pat (userop_Now.m n) userop_Now.resK
end
end
section
noncomputable section
noncomputable def userop_Gas.C (n : Nat) : Ctx := ⟨Tryd.prog, abiG, fun f => match f with
 | _ => none, fun _ => false⟩
def userop_Gas.live : Nat → List Nat × List Nat := fun k => match k with
 | _ => ([], [])
def userop_Gas.jlive : Nat → List Nat × List Nat := fun k => match k with
 | _ => ([], [])
noncomputable def userop_Gas.A (n : Nat) : Ann := ⟨Tryd.f43.ntmps, 0, userop_Gas.live, [], [none], fun k => match k with
 | _ => none, userop_Gas.jlive, lookJ []⟩
def userop_Gas.g {α : Type} (mk0 : Int → α) (n : Nat) (a0_0 : (List Int)) (a0_1 : (List Int)) (a0_2 : Bool) (a0_3 : (List Int)) (a0_4 : (List Int)) (a0_5 : (List Int)) (a0_6 : Int) (a0_7 : Int) (a0_8 : Int) (a0_9 : (List Int)) (a0_10 : (List Int)) (a0_11 : Bool) (a0_12 : (List Int)) (a0_13 : Int) (a0_14 : Int) (a0_15 : (List Int)) (a0_16 : (List Int)) : Option α :=
 some (mk0 (IntKind.wrap .u64 ((IntKind.wrap .u64 ((IntKind.wrap .u64 ((IntKind.wrap .u64 (a0_6 + a0_7)) + a0_8)) + a0_13)) + a0_14)))
def userop_Gas.m (n : Nat) (t : ((List Int) × ((List Int) × (Bool × ((List Int) × ((List Int) × ((List Int) × (Int × (Int × (Int × ((List Int) × ((List Int) × (Bool × ((List Int) × (Int × (Int × ((List Int) × (List Int)))))))))))))))))) : Option Int := userop_Gas.g (fun a0 => a0) n t.1 t.2.1 t.2.2.1 t.2.2.2.1 t.2.2.2.2.1 t.2.2.2.2.2.1 t.2.2.2.2.2.2.1 t.2.2.2.2.2.2.2.1 t.2.2.2.2.2.2.2.2.1 t.2.2.2.2.2.2.2.2.2.1 t.2.2.2.2.2.2.2.2.2.2.1 t.2.2.2.2.2.2.2.2.2.2.2.1 t.2.2.2.2.2.2.2.2.2.2.2.2.1 t.2.2.2.2.2.2.2.2.2.2.2.2.2.1 t.2.2.2.2.2.2.2.2.2.2.2.2.2.2.1 t.2.2.2.2.2.2.2.2.2.2.2.2.2.2.2.1 t.2.2.2.2.2.2.2.2.2.2.2.2.2.2.2.2
def userop_Gas.pat : List AV → Blks → Option ((List Int) × ((List Int) × (Bool × ((List Int) × ((List Int) × ((List Int) × (Int × (Int × (Int × ((List Int) × ((List Int) × (Bool × ((List Int) × (Int × (Int × ((List Int) × (List Int)))))))))))))))))
 | [(.agg [(.ints .u8 20 a0_0), (.ints .u64 4 a0_1), (.bool a0_2), (.ints .u8 20 a0_3), (.rints .u8 a0_4), (.rints .u8 a0_5), (.int .u64 a0_6), (.int .u64 a0_7), (.int .u64 a0_8), (.ints .u64 4 a0_9), (.ints .u64 4 a0_10), (.bool a0_11), (.ints .u8 20 a0_12), (.int .u64 a0_13), (.int .u64 a0_14), (.rints .u8 a0_15), (.rints .u8 a0_16)])], [] => some (a0_0, a0_1, a0_2, a0_3, a0_4, a0_5, a0_6, a0_7, a0_8, a0_9, a0_10, a0_11, a0_12, a0_13, a0_14, a0_15, a0_16)
 | _, _ => none
def userop_Gas.shape (t : ((List Int) × ((List Int) × (Bool × ((List Int) × ((List Int) × ((List Int) × (Int × (Int × (Int × ((List Int) × ((List Int) × (Bool × ((List Int) × (Int × (Int × ((List Int) × (List Int)))))))))))))))))) : List AV × Blks := ([(.agg [(.ints .u8 20 t.1), (.ints .u64 4 t.2.1), (.bool t.2.2.1), (.ints .u8 20 t.2.2.2.1), (.rints .u8 t.2.2.2.2.1), (.rints .u8 t.2.2.2.2.2.1), (.int .u64 t.2.2.2.2.2.2.1), (.int .u64 t.2.2.2.2.2.2.2.1), (.int .u64 t.2.2.2.2.2.2.2.2.1), (.ints .u64 4 t.2.2.2.2.2.2.2.2.2.1), (.ints .u64 4 t.2.2.2.2.2.2.2.2.2.2.1), (.bool t.2.2.2.2.2.2.2.2.2.2.2.1), (.ints .u8 20 t.2.2.2.2.2.2.2.2.2.2.2.2.1), (.int .u64 t.2.2.2.2.2.2.2.2.2.2.2.2.2.1), (.int .u64 t.2.2.2.2.2.2.2.2.2.2.2.2.2.2.1), (.rints .u8 t.2.2.2.2.2.2.2.2.2.2.2.2.2.2.2.1), (.rints .u8 t.2.2.2.2.2.2.2.2.2.2.2.2.2.2.2.2)])], [])
def userop_Gas.res : Int → AV × Blks
 | u => (Prod.mk (.int .u64 u) [])
def userop_Gas.resK {R : Type} (u : Int) (K : AV → Blks → Option R) : Option R := (fun p : AV × Blks => K p.1 p.2) (Prod.mk (.int .u64 u) [])
def userop_Gas.c (n : Nat) : Abs.Callee := .mk' [] [(some (.agg [none, none, none, none, (some (.ints .u8)), (some (.ints .u8)), none, none, none, none, none, none, none, none, none, (some (.ints .u8)), (some (.ints .u8))]))] userop_Gas.pat (userop_Gas.m n) userop_Gas.resK
end
end
section
noncomputable section
noncomputable def userop_Prefund.C (n : Nat) : Ctx := ⟨Tryd.prog, abiG, fun f => match f with
 | 43 => some (userop_Gas.c n)
 | 69 => some (word_From.c n)
 | 84 => some (word_Mul.c n)
 | _ => none, fun _ => false⟩
def userop_Prefund.live : Nat → List Nat × List Nat := fun k => match k with
 | _ => ([], [])
def userop_Prefund.jlive : Nat → List Nat × List Nat := fun k => match k with
 | _ => ([], [])
noncomputable def userop_Prefund.A (n : Nat) : Ann := ⟨Tryd.f45.ntmps, 0, userop_Prefund.live, [], [none], fun k => match k with
 | _ => none, userop_Prefund.jlive, lookJ []⟩
def userop_Prefund.g {α : Type} (mk0 : (List Int) → α) (n : Nat) (a0_0 : (List Int)) (a0_1 : (List Int)) (a0_2 : Bool) (a0_3 : (List Int)) (a0_4 : (List Int)) (a0_5 : (List Int)) (a0_6 : Int) (a0_7 : Int) (a0_8 : Int) (a0_9 : (List Int)) (a0_10 : (List Int)) (a0_11 : Bool) (a0_12 : (List Int)) (a0_13 : Int) (a0_14 : Int) (a0_15 : (List Int)) (a0_16 : (List Int)) : Option α :=
 bindO (userop_Gas.m n (Prod.mk a0_0 (Prod.mk a0_1 (Prod.mk a0_2 (Prod.mk a0_3 (Prod.mk a0_4 (Prod.mk a0_5 (Prod.mk a0_6 (Prod.mk a0_7 (Prod.mk a0_8 (Prod.mk a0_9 (Prod.mk a0_10 (Prod.mk a0_11 (Prod.mk a0_12 (Prod.mk a0_13 (Prod.mk a0_14 (Prod.mk a0_15 a0_16))))))))))))))))) fun r2 =>
  bindO (word_From.m n r2) fun r4 =>
   bindO (word_Mul.m n (Prod.mk r4 a0_9)) fun r6 =>
    some (mk0 (Prod.fst r6))
def userop_Prefund.m (n : Nat) (t : ((List Int) × ((List Int) × (Bool × ((List Int) × ((List Int) × ((List Int) × (Int × (Int × (Int × ((List Int) × ((List Int) × (Bool × ((List Int) × (Int × (Int × ((List Int) × (List Int)))))))))))))))))) : Option (List Int) := userop_Prefund.g (fun a0 => a0) n t.1 t.2.1 t.2.2.1 t.2.2.2.1 t.2.2.2.2.1 t.2.2.2.2.2.1 t.2.2.2.2.2.2.1 t.2.2.2.2.2.2.2.1 t.2.2.2.2.2.2.2.2.1 t.2.2.2.2.2.2.2.2.2.1 t.2.2.2.2.2.2.2.2.2.2.1 t.2.2.2.2.2.2.2.2.2.2.2.1 t.2.2.2.2.2.2.2.2.2.2.2.2.1 t.2.2.2.2.2.2.2.2.2.2.2.2.2.1 t.2.2.2.2.2.2.2.2.2.2.2.2.2.2.1 t.2.2.2.2.2.2.2.2.2.2.2.2.2.2.2.1 t.2.2.2.2.2.2.2.2.2.2.2.2.2.2.2.2
def userop_Prefund.pat : List AV → Blks → Option ((List Int) × ((List Int) × (Bool × ((List Int) × ((List Int) × ((List Int) × (Int × (Int × (Int × ((List Int) × ((List Int) × (Bool × ((List Int) × (Int × (Int × ((List Int) × (List Int)))))))))))))))))
 | [(.agg [(.ints .u8 20 a0_0), (.ints .u64 4 a0_1), (.bool a0_2), (.ints .u8 20 a0_3), (.rints .u8 a0_4), (.rints .u8 a0_5), (.int .u64 a0_6), (.int .u64 a0_7), (.int .u64 a0_8), (.ints .u64 4 a0_9), (.ints .u64 4 a0_10), (.bool a0_11), (.ints .u8 20 a0_12), (.int .u64 a0_13), (.int .u64 a0_14), (.rints .u8 a0_15), (.rints .u8 a0_16)])], [] => some (a0_0, a0_1, a0_2, a0_3, a0_4, a0_5, a0_6, a0_7, a0_8, a0_9, a0_10, a0_11, a0_12, a0_13, a0_14, a0_15, a0_16)
 | _, _ => none
def userop_Prefund.shape (t : ((List Int) × ((List Int) × (Bool × ((List Int) × ((List Int) × ((List Int) × (Int × (Int × (Int × ((List Int) × ((List Int) × (Bool × ((List Int) × (Int × (Int × ((List Int) × (List Int)))))))))))))))))) : List AV × Blks := ([(.agg [(.ints .u8 20 t.1), (.ints .u64 4 t.2.1), (.bool t.2.2.1), (.ints .u8 20 t.2.2.2.1), (.rints .u8 t.2.2.2.2.1), (.rints .u8 t.2.2.2.2.2.1), (.int .u64 t.2.2.2.2.2.2.1), (.int .u64 t.2.2.2.2.2.2.2.1), (.int .u64 t.2.2.2.2.2.2.2.2.1), (.ints .u64 4 t.2.2.2.2.2.2.2.2.2.1), (.ints .u64 4 t.2.2.2.2.2.2.2.2.2.2.1), (.bool t.2.2.2.2.2.2.2.2.2.2.2.1), (.ints .u8 20 t.2.2.2.2.2.2.2.2.2.2.2.2.1), (.int .u64 t.2.2.2.2.2.2.2.2.2.2.2.2.2.1), (.int .u64 t.2.2.2.2.2.2.2.2.2.2.2.2.2.2.1), (.rints .u8 t.2.2.2.2.2.2.2.2.2.2.2.2.2.2.2.1), (.rints .u8 t.2.2.2.2.2.2.2.2.2.2.2.2.2.2.2.2)])], [])
def userop_Prefund.res : (List Int) → AV × Blks
 | u => (Prod.mk (.ints .u64 4 u) [])
def userop_Prefund.resK {R : Type} (u : (List Int)) (K : AV → Blks → Option R) : Option R := (fun p : AV × Blks => K p.1 p.2) (Prod.mk (.ints .u64 4 u) [])
def userop_Prefund.c (n : Nat) : Abs.Callee := .mk' [] [(some (.agg [none, none, none, none, (some (.ints .u8)), (some (.ints .u8)), none, none, none, none, none, none, none, none, none, (some (.ints .u8)), (some (.ints .u8))]))] userop_Prefund.pat (userop_Prefund.m n) userop_Prefund.resK
end
end
section
noncomputable section
noncomputable def l15_known.C (n : Nat) : Ctx := ⟨Tryd.prog, abiG, fun f => match f with
 | 24 => some (userop_Spans.c n)
 | 30 => some (userop_Validate.c n)
 | 27 => some (userop_Now.c n)
 | 45 => some (userop_Prefund.c n)
 | _ => none, fun _ => false⟩
def l15_known.live : Nat → List Nat × List Nat := fun k => match k with
 | _ => ([], [])
def l15_known.jlive : Nat → List Nat × List Nat := fun k => match k with
 | _ => ([], [])
noncomputable def l15_known.A (n : Nat) : Ann := ⟨Tryd.f25.ntmps, 0, l15_known.live, [], [none], fun k => match k with
 | _ => none, l15_known.jlive, lookJ []⟩
def l15_known.g {α : Type} (mk0 : Bool → α) (n : Nat)  : Option α :=
 bindO (userop_Spans.m n [0, 0, 429496729600, 0]) fun r2 =>
  bindO (userop_Validate.m n (Prod.mk ([0, 0, 0, 0, 0, 0, 0, 0, 0, 0, 0, 0, 0, 0, 0, 0, 0, 0, 0, 0] : List Int) (Prod.mk [0, 0, 0, 0] (Prod.mk false (Prod.mk ([0, 0, 0, 0, 0, 0, 0, 0, 0, 0, 0, 0, 0, 0, 0, 0, 0, 0, 0, 0] : List Int) (Prod.mk [] (Prod.mk [] (Prod.mk 1 (Prod.mk 2 (Prod.mk 3 (Prod.mk [10, 0, 0, 0] (Prod.mk [0, 0, 0, 0] (Prod.mk false (Prod.mk ([0, 0, 0, 0, 0, 0, 0, 0, 0, 0, 0, 0, 0, 0, 0, 0, 0, 0, 0, 0] : List Int) (Prod.mk 0 (Prod.mk 0 (Prod.mk [] (Prod.mk [] (Prod.mk [0, 0, 0, 0] [0, 0, 0, 0]))))))))))))))))))) fun r4 =>
   bindO (userop_Spans.m n [1, 0, 0, 0]) fun r6 =>
    if (Prod.fst r6) = true then
     if ((Prod.snd r2.2) == 100) = true then
      bindO (userop_Now.m n (Prod.mk (Prod.fst r2) (Prod.mk (Prod.fst r2.2) (Prod.mk (Prod.snd r2.2) 100)))) fun r12 =>
       if r12 = true then
        bindO (userop_Now.m n (Prod.mk (Prod.fst r2) (Prod.mk (Prod.fst r2.2) (Prod.mk (Prod.snd r2.2) 101)))) fun r16 =>
         if (!r16) = true then
          bindO (userop_Prefund.m n (Prod.mk ([0, 0, 0, 0, 0, 0, 0, 0, 0, 0, 0, 0, 0, 0, 0, 0, 0, 0, 0, 0] : List Int) (Prod.mk [0, 0, 0, 0] (Prod.mk false (Prod.mk ([0, 0, 0, 0, 0, 0, 0, 0, 0, 0, 0, 0, 0, 0, 0, 0, 0, 0, 0, 0] : List Int) (Prod.mk [] (Prod.mk [] (Prod.mk 1 (Prod.mk 2 (Prod.mk 3 (Prod.mk [10, 0, 0, 0] (Prod.mk [0, 0, 0, 0] (Prod.mk false (Prod.mk ([0, 0, 0, 0, 0, 0, 0, 0, 0, 0, 0, 0, 0, 0, 0, 0, 0, 0, 0, 0] : List Int) (Prod.mk 0 (Prod.mk 0 (Prod.mk [] []))))))))))))))))) fun r20 =>
           if (r20 == [60, 0, 0, 0]) = true then
            if (decide ((((List.length r4) : Nat) : Int) > 4)) = true then
             if 4 ≤ (((List.length r4) : Nat) : Int) then
              some (mk0 ((ByteArray.toList (Go.Abs.strOf (List.take (Go.Abs.span (List.length r4) 0 (Option.some 4)) (List.drop 0 r4)))) == [(Subtype.val (Subtype.mk (ByteArray.get! (ByteArray.mk (List.toArray [(UInt8.ofBitVec (BitVec.ofNat 8 25)), (UInt8.ofBitVec (BitVec.ofNat 8 130)), (UInt8.ofBitVec (BitVec.ofNat 8 47)), (UInt8.ofBitVec (BitVec.ofNat 8 124))])) 0) (And.left (Iff.mp (List.forall_mem_cons) (And.right (Iff.mp (List.forall_mem_cons) (And.right (Iff.mp (List.forall_mem_cons) (And.right (Iff.mp (List.forall_mem_cons) (List.attach._proof_1 [(ByteArray.get! (ByteArray.mk (List.toArray [(UInt8.ofBitVec (BitVec.ofNat 8 25)), (UInt8.ofBitVec (BitVec.ofNat 8 130)), (UInt8.ofBitVec (BitVec.ofNat 8 47)), (UInt8.ofBitVec (BitVec.ofNat 8 124))])) 3), (ByteArray.get! (ByteArray.mk (List.toArray [(UInt8.ofBitVec (BitVec.ofNat 8 25)), (UInt8.ofBitVec (BitVec.ofNat 8 130)), (UInt8.ofBitVec (BitVec.ofNat 8 47)), (UInt8.ofBitVec (BitVec.ofNat 8 124))])) 2), (ByteArray.get! (ByteArray.mk (List.toArray [(UInt8.ofBitVec (BitVec.ofNat 8 25)), (UInt8.ofBitVec (BitVec.ofNat 8 130)), (UInt8.ofBitVec (BitVec.ofNat 8 47)), (UInt8.ofBitVec (BitVec.ofNat 8 124))])) 1), (ByteArray.get! (ByteArray.mk (List.toArray [(UInt8.ofBitVec (BitVec.ofNat 8 25)), (UInt8.ofBitVec (BitVec.ofNat 8 130)), (UInt8.ofBitVec (BitVec.ofNat 8 47)), (UInt8.ofBitVec (BitVec.ofNat 8 124))])) 0)]))))))))))), (Subtype.val (Subtype.mk (ByteArray.get! (ByteArray.mk (List.toArray [(UInt8.ofBitVec (BitVec.ofNat 8 25)), (UInt8.ofBitVec (BitVec.ofNat 8 130)), (UInt8.ofBitVec (BitVec.ofNat 8 47)), (UInt8.ofBitVec (BitVec.ofNat 8 124))])) 1) (And.left (Iff.mp (List.forall_mem_cons) (And.right (Iff.mp (List.forall_mem_cons) (And.right (Iff.mp (List.forall_mem_cons) (List.attach._proof_1 [(ByteArray.get! (ByteArray.mk (List.toArray [(UInt8.ofBitVec (BitVec.ofNat 8 25)), (UInt8.ofBitVec (BitVec.ofNat 8 130)), (UInt8.ofBitVec (BitVec.ofNat 8 47)), (UInt8.ofBitVec (BitVec.ofNat 8 124))])) 3), (ByteArray.get! (ByteArray.mk (List.toArray [(UInt8.ofBitVec (BitVec.ofNat 8 25)), (UInt8.ofBitVec (BitVec.ofNat 8 130)), (UInt8.ofBitVec (BitVec.ofNat 8 47)), (UInt8.ofBitVec (BitVec.ofNat 8 124))])) 2), (ByteArray.get! (ByteArray.mk (List.toArray [(UInt8.ofBitVec (BitVec.ofNat 8 25)), (UInt8.ofBitVec (BitVec.ofNat 8 130)), (UInt8.ofBitVec (BitVec.ofNat 8 47)), (UInt8.ofBitVec (BitVec.ofNat 8 124))])) 1), (ByteArray.get! (ByteArray.mk (List.toArray [(UInt8.ofBitVec (BitVec.ofNat 8 25)), (UInt8.ofBitVec (BitVec.ofNat 8 130)), (UInt8.ofBitVec (BitVec.ofNat 8 47)), (UInt8.ofBitVec (BitVec.ofNat 8 124))])) 0)]))))))))), (Subtype.val (Subtype.mk (ByteArray.get! (ByteArray.mk (List.toArray [(UInt8.ofBitVec (BitVec.ofNat 8 25)), (UInt8.ofBitVec (BitVec.ofNat 8 130)), (UInt8.ofBitVec (BitVec.ofNat 8 47)), (UInt8.ofBitVec (BitVec.ofNat 8 124))])) 2) (And.left (Iff.mp (List.forall_mem_cons) (And.right (Iff.mp (List.forall_mem_cons) (List.attach._proof_1 [(ByteArray.get! (ByteArray.mk (List.toArray [(UInt8.ofBitVec (BitVec.ofNat 8 25)), (UInt8.ofBitVec (BitVec.ofNat 8 130)), (UInt8.ofBitVec (BitVec.ofNat 8 47)), (UInt8.ofBitVec (BitVec.ofNat 8 124))])) 3), (ByteArray.get! (ByteArray.mk (List.toArray [(UInt8.ofBitVec (BitVec.ofNat 8 25)), (UInt8.ofBitVec (BitVec.ofNat 8 130)), (UInt8.ofBitVec (BitVec.ofNat 8 47)), (UInt8.ofBitVec (BitVec.ofNat 8 124))])) 2), (ByteArray.get! (ByteArray.mk (List.toArray [(UInt8.ofBitVec (BitVec.ofNat 8 25)), (UInt8.ofBitVec (BitVec.ofNat 8 130)), (UInt8.ofBitVec (BitVec.ofNat 8 47)), (UInt8.ofBitVec (BitVec.ofNat 8 124))])) 1), (ByteArray.get! (ByteArray.mk (List.toArray [(UInt8.ofBitVec (BitVec.ofNat 8 25)), (UInt8.ofBitVec (BitVec.ofNat 8 130)), (UInt8.ofBitVec (BitVec.ofNat 8 47)), (UInt8.ofBitVec (BitVec.ofNat 8 124))])) 0)]))))))), (Subtype.val (Subtype.mk (ByteArray.get! (ByteArray.mk (List.toArray [(UInt8.ofBitVec (BitVec.ofNat 8 25)), (UInt8.ofBitVec (BitVec.ofNat 8 130)), (UInt8.ofBitVec (BitVec.ofNat 8 47)), (UInt8.ofBitVec (BitVec.ofNat 8 124))])) 3) (And.left (Iff.mp (List.forall_mem_cons) (List.attach._proof_1 [(ByteArray.get! (ByteArray.mk (List.toArray [(UInt8.ofBitVec (BitVec.ofNat 8 25)), (UInt8.ofBitVec (BitVec.ofNat 8 130)), (UInt8.ofBitVec (BitVec.ofNat 8 47)), (UInt8.ofBitVec (BitVec.ofNat 8 124))])) 3), (ByteArray.get! (ByteArray.mk (List.toArray [(UInt8.ofBitVec (BitVec.ofNat 8 25)), (UInt8.ofBitVec (BitVec.ofNat 8 130)), (UInt8.ofBitVec (BitVec.ofNat 8 47)), (UInt8.ofBitVec (BitVec.ofNat 8 124))])) 2), (ByteArray.get! (ByteArray.mk (List.toArray [(UInt8.ofBitVec (BitVec.ofNat 8 25)), (UInt8.ofBitVec (BitVec.ofNat 8 130)), (UInt8.ofBitVec (BitVec.ofNat 8 47)), (UInt8.ofBitVec (BitVec.ofNat 8 124))])) 1), (ByteArray.get! (ByteArray.mk (List.toArray [(UInt8.ofBitVec (BitVec.ofNat 8 25)), (UInt8.ofBitVec (BitVec.ofNat 8 130)), (UInt8.ofBitVec (BitVec.ofNat 8 47)), (UInt8.ofBitVec (BitVec.ofNat 8 124))])) 0)])))))]))
             else
              none
            else
             some (mk0 false)
           else
            some (mk0 false)
         else
          some (mk0 false)
       else
        some (mk0 false)
     else
      some (mk0 false)
    else
     some (mk0 false)
def l15_known.m (n : Nat) (t : Unit) : Option Bool := l15_known.g (fun a0 => a0) n 
def l15_known.pat : List AV → Blks → Option Unit
 | [], [] => some ()
 | _, _ => none
def l15_known.shape (t : Unit) : List AV × Blks := ([], [])
def l15_known.res : Bool → AV × Blks
 | u => (Prod.mk (.bool u) [])
def l15_known.resK {R : Type} (u : Bool) (K : AV → Blks → Option R) : Option R := (fun p : AV × Blks => K p.1 p.2) (Prod.mk (.bool u) [])
def l15_known.c (n : Nat) : Abs.Callee := .mk' [] [] l15_known.pat (l15_known.m n) l15_known.resK
end
end
section
theorem userop_Spans.gmap {α β : Type} (h : β → α) (mk0 : Bool → Int → Int → β) (n : Nat) (a0 : (List Int)) : userop_Spans.g (fun a0 a1 a2 => (h (mk0 a0 a1 a2))) n a0 = (userop_Spans.g mk0 n a0).map h := by
  unfold userop_Spans.g
  exact (bindO_map fun r2 => rfl)
theorem userop_Spans.run (n : Nat) (a0 : (List Int)) : runF (userop_Spans.C n) (userop_Spans.A n) n Tryd.f24 [(.ints .u64 4 a0)] [] (fun v o => some (v, o)) = userop_Spans.g (fun a0 a1 a2 => ((Prod.mk (.agg [(.bool a0), (.int .u64 a1), (.int .u64 a2)]) []) : AV × Blks)) n a0 := by kernel_rfl
theorem userop_Spans.call (hmix : Tryd.prog.follows .mixedOrders = true) (n : Nat) (t : (List Int)) (u) (h : userop_Spans.m n t = some u) : FnC Tryd.prog abiG 24 (userop_Spans.shape t).1 (userop_Spans.shape t).2 (userop_Spans.res u).1 (userop_Spans.res u).2 := by
  have hg : ∀ f m, (userop_Spans.C n).Γ f = some m → CalleeS Tryd.prog abiG f m := by
    intro f m hm
    unfold userop_Spans.C at hm
    simp only at hm
    first
    | (cases hm; done)
    | (split at hm <;> first
    | (cases hm; exact word_Addr.s hmix n)
    | (cases hm; done))
  have hb : Tryd.f24.body = some (Tryd.f24.body.getD .skip) := by kernel_rfl
  refine runF_calls (C := userop_Spans.C n) (A := userop_Spans.A n) (n := n) (fn := Tryd.f24) hg hmix Tryd.func24 hb ?_ ?_ (by decide) rfl rfl (by show 1 ≤ Tryd.f24.ntmps; decide) ?_
  · rw [show loopsIn (Tryd.f24.body.getD .skip) = [] by kernel_rfl]
    intro b hb
    cases hb
  · intro a ha m hm
    cases (show none = some m from hm)
  · rw [show runF (userop_Spans.C n) (userop_Spans.A n) n Tryd.f24 (userop_Spans.shape t).1 (userop_Spans.shape t).2 (fun v o => some (v, o)) = _ from userop_Spans.run n t]
    have e := userop_Spans.gmap userop_Spans.res (fun a0 a1 a2 => (a0, a1, a2)) n t
    unfold userop_Spans.m at h
    rw [h] at e
    exact e
theorem userop_Spans.s (hmix : Tryd.prog.follows .mixedOrders = true) (n : Nat) : CalleeS Tryd.prog abiG 24 (userop_Spans.c n) :=
  CalleeS.of (res := userop_Spans.res) (shape := userop_Spans.shape) (fun R u K => rfl) (fun args lent t h => by
    unfold userop_Spans.pat at h
    split at h
    · cases h; rfl
    · cases h) fun t u h => (userop_Spans.call hmix n t u h).ok Tryd.func24 (by decide) (by kernel_rfl)
end
section
theorem bits_RotateLeft64.gmap {α β : Type} (h : β → α) (mk0 : Int → β) (n : Nat) (a0 : Int) (a1 : Int) : bits_RotateLeft64.g (fun a0 => (h (mk0 a0))) n a0 a1 = (bits_RotateLeft64.g mk0 n a0 a1).map h := by
  unfold bits_RotateLeft64.g
  exact (ite_map rfl rfl)
theorem bits_RotateLeft64.run (n : Nat) (a0 : Int) (a1 : Int) : runF (bits_RotateLeft64.C n) (bits_RotateLeft64.A n) n Tryd.f130 [(.int .u64 a0), (.int .i64 a1)] [] (fun v o => some (v, o)) = bits_RotateLeft64.g (fun a0 => ((Prod.mk (.int .u64 a0) []) : AV × Blks)) n a0 a1 := by kernel_rfl
theorem bits_RotateLeft64.call (hmix : Tryd.prog.follows .mixedOrders = true) (n : Nat) (t : (Int × Int)) (u) (h : bits_RotateLeft64.m n t = some u) : FnC Tryd.prog abiG 130 (bits_RotateLeft64.shape t).1 (bits_RotateLeft64.shape t).2 (bits_RotateLeft64.res u).1 (bits_RotateLeft64.res u).2 := by
  have hg : ∀ f m, (bits_RotateLeft64.C n).Γ f = some m → CalleeS Tryd.prog abiG f m := by
    intro f m hm
    unfold bits_RotateLeft64.C at hm
    simp only at hm
    first
    | (cases hm; done)
    | (split at hm <;> first
    | (cases hm; done))
  have hb : Tryd.f130.body = some (Tryd.f130.body.getD .skip) := by kernel_rfl
  refine runF_calls (C := bits_RotateLeft64.C n) (A := bits_RotateLeft64.A n) (n := n) (fn := Tryd.f130) hg hmix Tryd.func130 hb ?_ ?_ (by decide) rfl rfl (by show 2 ≤ Tryd.f130.ntmps; decide) ?_
  · rw [show loopsIn (Tryd.f130.body.getD .skip) = [] by kernel_rfl]
    intro b hb
    cases hb
  · intro a ha m hm
    cases (show none = some m from hm)
  · rw [show runF (bits_RotateLeft64.C n) (bits_RotateLeft64.A n) n Tryd.f130 (bits_RotateLeft64.shape t).1 (bits_RotateLeft64.shape t).2 (fun v o => some (v, o)) = _ from bits_RotateLeft64.run n t.1 t.2]
    have e := bits_RotateLeft64.gmap bits_RotateLeft64.res (fun a0 => a0) n t.1 t.2
    unfold bits_RotateLeft64.m at h
    rw [h] at e
    exact e
theorem bits_RotateLeft64.s (hmix : Tryd.prog.follows .mixedOrders = true) (n : Nat) : CalleeS Tryd.prog abiG 130 (bits_RotateLeft64.c n) :=
  CalleeS.of (res := bits_RotateLeft64.res) (shape := bits_RotateLeft64.shape) (fun R u K => rfl) (fun args lent t h => by
    unfold bits_RotateLeft64.pat at h
    split at h
    · cases h; rfl
    · cases h) fun t u h => (bits_RotateLeft64.call hmix n t u h).ok Tryd.func130 (by decide) (by kernel_rfl)
end
section
theorem keccak_state_spread.l2_0.rmap {α β : Type} (h : β → α) (mk0 : (List Int) → (List Int) → β) (n : Nat) (f : Int → (List Int) → (List Int) → Option β)  (x0 : Int) (x1 : (List Int)) (x2 : (List Int)) : keccak_state_spread.l2_0.r (fun a0 a1 => (h (mk0 a0 a1))) n (fun y0 y1 y2 => (f y0 y1 y2).map h) x0 x1 x2 = (keccak_state_spread.l2_0.r mk0 n f x0 x1 x2).map h := by
  unfold keccak_state_spread.l2_0.r
  exact (ite_map (ite_map (ite_map (ite_map (ite_map (ite_map (ite_map rfl rfl) rfl) rfl) rfl) rfl) rfl) rfl)
theorem keccak_state_spread.l2_0.gmap {α β : Type} (h : β → α) (mk0 : (List Int) → (List Int) → β) (n : Nat) : ∀ (m : Nat) (x0 : Int) (x1 : (List Int)) (x2 : (List Int)), keccak_state_spread.l2_0.g (fun a0 a1 => (h (mk0 a0 a1))) n m x0 x1 x2 = (keccak_state_spread.l2_0.g mk0 n m x0 x1 x2).map h
  | 0, _, _, _ => rfl
  | m + 1, x0, x1, x2 => by
    unfold keccak_state_spread.l2_0.g
    rw [← keccak_state_spread.l2_0.rmap]
    congr
    · funext y0 y1 y2; exact keccak_state_spread.l2_0.gmap h mk0 n m y0 y1 y2
theorem keccak_state_spread.l2_0.pat_shape : ∀ st t, keccak_state_spread.l2_0.pat st = some t → st = keccak_state_spread.l2_0.shape t := by
  intro st t h
  unfold keccak_state_spread.l2_0.pat at h
  split at h
  · cases h; rfl
  · cases h
theorem keccak_state_spread.l2_0.round (n : Nat) (rc : St → Option (Ex × St)) (x0 : Int) (x1 : (List Int)) (x2 : (List Int)) : roundOf (keccak_state_spread.C n) (keccak_state_spread.A n) n keccak_state_spread.b0 rc ((St.mk [(.int .i64 x0), (.ptr 0 []), (.ptr 1 []), (.ptr 0 [])] [(some (.var (.ints .u64 25 x1))), (some (.var (.ints .u64 5 x2)))])) = keccak_state_spread.l2_0.r (fun a0 a1 => ((Prod.mk (.exit 0) (St.mk [(.ptr 0 []), (.ptr 1 [])] [(some (.var (.ints .u64 25 a0))), (some (.var (.ints .u64 5 a1)))])) : Ex × St)) n (fun y0 y1 y2 => rc ((St.mk [(.int .i64 y0), (.ptr 0 []), (.ptr 1 []), (.ptr 0 [])] [(some (.var (.ints .u64 25 y1))), (some (.var (.ints .u64 5 y2)))]))) x0 x1 x2 := by kernel_rfl
theorem keccak_state_spread.l2_0.loop' (n : Nat) : ∀ (m : Nat) (t : (Int × ((List Int) × (List Int)))), loopOf (roundOf (keccak_state_spread.C n) (keccak_state_spread.A n) n keccak_state_spread.b0) m (keccak_state_spread.l2_0.shape t) = keccak_state_spread.l2_0.g (fun a0 a1 => ((Prod.mk (.exit 0) (St.mk [(.ptr 0 []), (.ptr 1 [])] [(some (.var (.ints .u64 25 a0))), (some (.var (.ints .u64 5 a1)))])) : Ex × St)) n m t.1 t.2.1 t.2.2 :=
  loop_of_round (shape := keccak_state_spread.l2_0.shape) (body := roundOf (keccak_state_spread.C n) (keccak_state_spread.A n) n keccak_state_spread.b0) (g := fun m t => keccak_state_spread.l2_0.g (fun a0 a1 => ((Prod.mk (.exit 0) (St.mk [(.ptr 0 []), (.ptr 1 [])] [(some (.var (.ints .u64 25 a0))), (some (.var (.ints .u64 5 a1)))])) : Ex × St)) n m t.1 t.2.1 t.2.2) (fun t => rfl)
    fun m t ih => (keccak_state_spread.l2_0.round n (loopOf (roundOf (keccak_state_spread.C n) (keccak_state_spread.A n) n keccak_state_spread.b0) m) t.1 t.2.1 t.2.2).trans (congrFun (congrFun (congrFun (congrArg (keccak_state_spread.l2_0.r (fun a0 a1 => ((Prod.mk (.exit 0) (St.mk [(.ptr 0 []), (.ptr 1 [])] [(some (.var (.ints .u64 25 a0))), (some (.var (.ints .u64 5 a1)))])) : Ex × St)) n) (funext fun y0 => funext fun y1 => funext fun y2 => ih (y0, y1, y2))) t.1) t.2.1) t.2.2)
theorem keccak_state_spread.l2_0.loop (n m : Nat) (t : (Int × ((List Int) × (List Int)))) : loopOf (roundOf (keccak_state_spread.C n) (keccak_state_spread.A n) n keccak_state_spread.b0) m (keccak_state_spread.l2_0.shape t) = (keccak_state_spread.l2_0.m n m t).map keccak_state_spread.l2_0.res :=
  (keccak_state_spread.l2_0.loop' n m t).trans (keccak_state_spread.l2_0.gmap keccak_state_spread.l2_0.res (fun a0 a1 => (a0, a1)) n m t.1 t.2.1 t.2.2)
theorem keccak_state_spread.l7_0.rmap {α β : Type} (h : β → α) (mk0 : (List Int) → β) (n : Nat) (f : Int → (List Int) → (List Int) → Option β)  (x0 : Int) (x1 : (List Int)) (x2 : (List Int)) : keccak_state_spread.l7_0.r (fun a0 => (h (mk0 a0))) n (fun y0 y1 y2 => (f y0 y1 y2).map h) x0 x1 x2 = (keccak_state_spread.l7_0.r mk0 n f x0 x1 x2).map h := by
  unfold keccak_state_spread.l7_0.r
  exact (ite_map (ite_map (ite_map (ite_map (ite_map (ite_map (ite_map (bindO_map fun r18 => (ite_map (ite_map rfl rfl) rfl)) rfl) rfl) rfl) rfl) rfl) rfl) rfl)
theorem keccak_state_spread.l7_0.gmap {α β : Type} (h : β → α) (mk0 : (List Int) → β) (n : Nat) : ∀ (m : Nat) (x0 : Int) (x1 : (List Int)) (x2 : (List Int)), keccak_state_spread.l7_0.g (fun a0 => (h (mk0 a0))) n m x0 x1 x2 = (keccak_state_spread.l7_0.g mk0 n m x0 x1 x2).map h
  | 0, _, _, _ => rfl
  | m + 1, x0, x1, x2 => by
    unfold keccak_state_spread.l7_0.g
    rw [← keccak_state_spread.l7_0.rmap]
    congr
    · funext y0 y1 y2; exact keccak_state_spread.l7_0.gmap h mk0 n m y0 y1 y2
theorem keccak_state_spread.l7_0.pat_shape : ∀ st t, keccak_state_spread.l7_0.pat st = some t → st = keccak_state_spread.l7_0.shape t := by
  intro st t h
  unfold keccak_state_spread.l7_0.pat at h
  split at h
  · cases h; rfl
  · cases h
theorem keccak_state_spread.l7_0.round (n : Nat) (rc : St → Option (Ex × St)) (x0 : Int) (x1 : (List Int)) (x2 : (List Int)) : roundOf (keccak_state_spread.C n) (keccak_state_spread.A n) n keccak_state_spread.b1 rc ((St.mk [(.int .i64 x0), (.ptr 0 []), (.ptr 1 [])] [(some (.var (.ints .u64 25 x1))), (some (.var (.ints .u64 5 x2)))])) = keccak_state_spread.l7_0.r (fun a0 => ((Prod.mk (.exit 2) (St.mk [] [(some (.var (.ints .u64 25 a0)))])) : Ex × St)) n (fun y0 y1 y2 => rc ((St.mk [(.int .i64 y0), (.ptr 0 []), (.ptr 1 [])] [(some (.var (.ints .u64 25 y1))), (some (.var (.ints .u64 5 y2)))]))) x0 x1 x2 := by kernel_rfl
theorem keccak_state_spread.l7_0.loop' (n : Nat) : ∀ (m : Nat) (t : (Int × ((List Int) × (List Int)))), loopOf (roundOf (keccak_state_spread.C n) (keccak_state_spread.A n) n keccak_state_spread.b1) m (keccak_state_spread.l7_0.shape t) = keccak_state_spread.l7_0.g (fun a0 => ((Prod.mk (.exit 2) (St.mk [] [(some (.var (.ints .u64 25 a0)))])) : Ex × St)) n m t.1 t.2.1 t.2.2 :=
  loop_of_round (shape := keccak_state_spread.l7_0.shape) (body := roundOf (keccak_state_spread.C n) (keccak_state_spread.A n) n keccak_state_spread.b1) (g := fun m t => keccak_state_spread.l7_0.g (fun a0 => ((Prod.mk (.exit 2) (St.mk [] [(some (.var (.ints .u64 25 a0)))])) : Ex × St)) n m t.1 t.2.1 t.2.2) (fun t => rfl)
    fun m t ih => (keccak_state_spread.l7_0.round n (loopOf (roundOf (keccak_state_spread.C n) (keccak_state_spread.A n) n keccak_state_spread.b1) m) t.1 t.2.1 t.2.2).trans (congrFun (congrFun (congrFun (congrArg (keccak_state_spread.l7_0.r (fun a0 => ((Prod.mk (.exit 2) (St.mk [] [(some (.var (.ints .u64 25 a0)))])) : Ex × St)) n) (funext fun y0 => funext fun y1 => funext fun y2 => ih (y0, y1, y2))) t.1) t.2.1) t.2.2)
theorem keccak_state_spread.l7_0.loop (n m : Nat) (t : (Int × ((List Int) × (List Int)))) : loopOf (roundOf (keccak_state_spread.C n) (keccak_state_spread.A n) n keccak_state_spread.b1) m (keccak_state_spread.l7_0.shape t) = (keccak_state_spread.l7_0.m n m t).map keccak_state_spread.l7_0.res :=
  (keccak_state_spread.l7_0.loop' n m t).trans (keccak_state_spread.l7_0.gmap keccak_state_spread.l7_0.res (fun a0 => a0) n m t.1 t.2.1 t.2.2)
theorem keccak_state_spread.gmap {α β : Type} (h : β → α) (mk0 : (List Int) → β) (n : Nat) (s : (List Int)) : keccak_state_spread.g (fun a0 => (h (mk0 a0))) n s = (keccak_state_spread.g mk0 n s).map h := by
  unfold keccak_state_spread.g
  exact (bindO_map fun r2 => (bindO_map fun r4 => rfl))
theorem keccak_state_spread.run (n : Nat) (s : (List Int)) : runF (keccak_state_spread.C n) (keccak_state_spread.A n) n Tryd.f124 [(.ptr 0 [])] [(some (.var (.ints .u64 25 s)))] (fun v o => some (v, o)) = keccak_state_spread.g (fun a0 => ((Prod.mk (.tup []) [(some (.var (.ints .u64 25 a0)))]) : AV × Blks)) n s := by kernel_rfl
theorem keccak_state_spread.call (hmix : Tryd.prog.follows .mixedOrders = true) (n : Nat) (t : (List Int)) (u) (h : keccak_state_spread.m n t = some u) : FnC Tryd.prog abiG 124 (keccak_state_spread.shape t).1 (keccak_state_spread.shape t).2 (keccak_state_spread.res u).1 (keccak_state_spread.res u).2 := by
  have hg : ∀ f m, (keccak_state_spread.C n).Γ f = some m → CalleeS Tryd.prog abiG f m := by
    intro f m hm
    unfold keccak_state_spread.C at hm
    simp only at hm
    first
    | (cases hm; done)
    | (split at hm <;> first
    | (cases hm; exact bits_RotateLeft64.s hmix n)
    | (cases hm; done))
  have hb : Tryd.f124.body = some (Tryd.f124.body.getD .skip) := by kernel_rfl
  refine runF_calls (C := keccak_state_spread.C n) (A := keccak_state_spread.A n) (n := n) (fn := Tryd.f124) hg hmix Tryd.func124 hb ?_ ?_ (by decide) rfl rfl (by show 1 ≤ Tryd.f124.ntmps; decide) ?_
  · rw [show loopsIn (Tryd.f124.body.getD .skip) = [keccak_state_spread.b0, keccak_state_spread.b1] by kernel_rfl]
    intro b hb m hm
    simp only [List.mem_cons, List.not_mem_nil, or_false] at hb
    rcases hb with rfl | rfl
    · have e : (keccak_state_spread.A n).loop (key keccak_state_spread.b0) = some (.mk' keccak_state_spread.l2_0.pat (keccak_state_spread.l2_0.m n n) keccak_state_spread.l2_0.resK) := by rw [show key keccak_state_spread.b0 = 2 by kernel_rfl]; rfl
      rw [e] at hm
      cases hm
      exact (LoopS.of (res := keccak_state_spread.l2_0.res) (fun R u K => rfl) keccak_state_spread.l2_0.pat_shape fun t => keccak_state_spread.l2_0.loop n n t)
    · have e : (keccak_state_spread.A n).loop (key keccak_state_spread.b1) = some (.mk' keccak_state_spread.l7_0.pat (keccak_state_spread.l7_0.m n n) keccak_state_spread.l7_0.resK) := by rw [show key keccak_state_spread.b1 = 7 by kernel_rfl]; rfl
      rw [e] at hm
      cases hm
      exact (LoopS.of (res := keccak_state_spread.l7_0.res) (fun R u K => rfl) keccak_state_spread.l7_0.pat_shape fun t => keccak_state_spread.l7_0.loop n n t)
  · intro a ha m hm
    cases (show none = some m from hm)
  · rw [show runF (keccak_state_spread.C n) (keccak_state_spread.A n) n Tryd.f124 (keccak_state_spread.shape t).1 (keccak_state_spread.shape t).2 (fun v o => some (v, o)) = _ from keccak_state_spread.run n t]
    have e := keccak_state_spread.gmap keccak_state_spread.res (fun a0 => a0) n t
    unfold keccak_state_spread.m at h
    rw [h] at e
    exact e
theorem keccak_state_spread.s (hmix : Tryd.prog.follows .mixedOrders = true) (n : Nat) : CalleeS Tryd.prog abiG 124 (keccak_state_spread.c n) :=
  CalleeS.of (res := keccak_state_spread.res) (shape := keccak_state_spread.shape) (fun R u K => rfl) (fun args lent t h => by
    unfold keccak_state_spread.pat at h
    split at h
    · cases h; rfl
    · cases h) fun t u h => (keccak_state_spread.call hmix n t u h).ok Tryd.func124 (by decide) (by kernel_rfl)
end
section
theorem keccak_state_turn.l2_0.rmap {α β : Type} (h : β → α) (mk0 : (List Int) → β) (n : Nat) (f : Int → Int → (List Int) → Option β)  (x0 : Int) (x1 : Int) (x2 : (List Int)) : keccak_state_turn.l2_0.r (fun a0 => (h (mk0 a0))) n (fun y0 y1 y2 => (f y0 y1 y2).map h) x0 x1 x2 = (keccak_state_turn.l2_0.r mk0 n f x0 x1 x2).map h := by
  unfold keccak_state_turn.l2_0.r
  exact (ite_map (ite_map (ite_map (ite_map (ite_map (ite_map (ite_map (ite_map (ite_map (bindO_map fun r22 => (ite_map (ite_map rfl rfl) rfl)) rfl) rfl) rfl) rfl) rfl) rfl) rfl) rfl) rfl)
theorem keccak_state_turn.l2_0.gmap {α β : Type} (h : β → α) (mk0 : (List Int) → β) (n : Nat) : ∀ (m : Nat) (x0 : Int) (x1 : Int) (x2 : (List Int)), keccak_state_turn.l2_0.g (fun a0 => (h (mk0 a0))) n m x0 x1 x2 = (keccak_state_turn.l2_0.g mk0 n m x0 x1 x2).map h
  | 0, _, _, _ => rfl
  | m + 1, x0, x1, x2 => by
    unfold keccak_state_turn.l2_0.g
    rw [← keccak_state_turn.l2_0.rmap]
    congr
    · funext y0 y1 y2; exact keccak_state_turn.l2_0.gmap h mk0 n m y0 y1 y2
theorem keccak_state_turn.l2_0.pat_shape : ∀ st t, keccak_state_turn.l2_0.pat st = some t → st = keccak_state_turn.l2_0.shape t := by
  intro st t h
  unfold keccak_state_turn.l2_0.pat at h
  split at h
  · cases h; rfl
  · cases h
theorem keccak_state_turn.l2_0.round (n : Nat) (rc : St → Option (Ex × St)) (x0 : Int) (x1 : Int) (x2 : (List Int)) : roundOf (keccak_state_turn.C n) (keccak_state_turn.A n) n keccak_state_turn.b0 rc ((St.mk [(.int .i64 x0), (.ptr 0 []), (.int .u64 x1)] [(some (.var (.ints .u64 25 x2)))])) = keccak_state_turn.l2_0.r (fun a0 => ((Prod.mk (.exit 0) (St.mk [] [(some (.var (.ints .u64 25 a0)))])) : Ex × St)) n (fun y0 y1 y2 => rc ((St.mk [(.int .i64 y0), (.ptr 0 []), (.int .u64 y1)] [(some (.var (.ints .u64 25 y2)))]))) x0 x1 x2 := by kernel_rfl
theorem keccak_state_turn.l2_0.loop' (n : Nat) : ∀ (m : Nat) (t : (Int × (Int × (List Int)))), loopOf (roundOf (keccak_state_turn.C n) (keccak_state_turn.A n) n keccak_state_turn.b0) m (keccak_state_turn.l2_0.shape t) = keccak_state_turn.l2_0.g (fun a0 => ((Prod.mk (.exit 0) (St.mk [] [(some (.var (.ints .u64 25 a0)))])) : Ex × St)) n m t.1 t.2.1 t.2.2 :=
  loop_of_round (shape := keccak_state_turn.l2_0.shape) (body := roundOf (keccak_state_turn.C n) (keccak_state_turn.A n) n keccak_state_turn.b0) (g := fun m t => keccak_state_turn.l2_0.g (fun a0 => ((Prod.mk (.exit 0) (St.mk [] [(some (.var (.ints .u64 25 a0)))])) : Ex × St)) n m t.1 t.2.1 t.2.2) (fun t => rfl)
    fun m t ih => (keccak_state_turn.l2_0.round n (loopOf (roundOf (keccak_state_turn.C n) (keccak_state_turn.A n) n keccak_state_turn.b0) m) t.1 t.2.1 t.2.2).trans (congrFun (congrFun (congrFun (congrArg (keccak_state_turn.l2_0.r (fun a0 => ((Prod.mk (.exit 0) (St.mk [] [(some (.var (.ints .u64 25 a0)))])) : Ex × St)) n) (funext fun y0 => funext fun y1 => funext fun y2 => ih (y0, y1, y2))) t.1) t.2.1) t.2.2)
theorem keccak_state_turn.l2_0.loop (n m : Nat) (t : (Int × (Int × (List Int)))) : loopOf (roundOf (keccak_state_turn.C n) (keccak_state_turn.A n) n keccak_state_turn.b0) m (keccak_state_turn.l2_0.shape t) = (keccak_state_turn.l2_0.m n m t).map keccak_state_turn.l2_0.res :=
  (keccak_state_turn.l2_0.loop' n m t).trans (keccak_state_turn.l2_0.gmap keccak_state_turn.l2_0.res (fun a0 => a0) n m t.1 t.2.1 t.2.2)
theorem keccak_state_turn.gmap {α β : Type} (h : β → α) (mk0 : (List Int) → β) (n : Nat) (s : (List Int)) : keccak_state_turn.g (fun a0 => (h (mk0 a0))) n s = (keccak_state_turn.g mk0 n s).map h := by
  unfold keccak_state_turn.g
  exact (bindO_map fun r2 => rfl)
theorem keccak_state_turn.run (n : Nat) (s : (List Int)) : runF (keccak_state_turn.C n) (keccak_state_turn.A n) n Tryd.f125 [(.ptr 0 [])] [(some (.var (.ints .u64 25 s)))] (fun v o => some (v, o)) = keccak_state_turn.g (fun a0 => ((Prod.mk (.tup []) [(some (.var (.ints .u64 25 a0)))]) : AV × Blks)) n s := by kernel_rfl
theorem keccak_state_turn.call (hmix : Tryd.prog.follows .mixedOrders = true) (n : Nat) (t : (List Int)) (u) (h : keccak_state_turn.m n t = some u) : FnC Tryd.prog abiG 125 (keccak_state_turn.shape t).1 (keccak_state_turn.shape t).2 (keccak_state_turn.res u).1 (keccak_state_turn.res u).2 := by
  have hg : ∀ f m, (keccak_state_turn.C n).Γ f = some m → CalleeS Tryd.prog abiG f m := by
    intro f m hm
    unfold keccak_state_turn.C at hm
    simp only at hm
    first
    | (cases hm; done)
    | (split at hm <;> first
    | (cases hm; exact bits_RotateLeft64.s hmix n)
    | (cases hm; done))
  have hb : Tryd.f125.body = some (Tryd.f125.body.getD .skip) := by kernel_rfl
  refine runF_calls (C := keccak_state_turn.C n) (A := keccak_state_turn.A n) (n := n) (fn := Tryd.f125) hg hmix Tryd.func125 hb ?_ ?_ (by decide) rfl rfl (by show 1 ≤ Tryd.f125.ntmps; decide) ?_
  · rw [show loopsIn (Tryd.f125.body.getD .skip) = [keccak_state_turn.b0] by kernel_rfl]
    intro b hb m hm
    simp only [List.mem_cons, List.not_mem_nil, or_false] at hb
    rcases hb with rfl
    · have e : (keccak_state_turn.A n).loop (key keccak_state_turn.b0) = some (.mk' keccak_state_turn.l2_0.pat (keccak_state_turn.l2_0.m n n) keccak_state_turn.l2_0.resK) := by rw [show key keccak_state_turn.b0 = 2 by kernel_rfl]; rfl
      rw [e] at hm
      cases hm
      exact (LoopS.of (res := keccak_state_turn.l2_0.res) (fun R u K => rfl) keccak_state_turn.l2_0.pat_shape fun t => keccak_state_turn.l2_0.loop n n t)
  · intro a ha m hm
    cases (show none = some m from hm)
  · rw [show runF (keccak_state_turn.C n) (keccak_state_turn.A n) n Tryd.f125 (keccak_state_turn.shape t).1 (keccak_state_turn.shape t).2 (fun v o => some (v, o)) = _ from keccak_state_turn.run n t]
    have e := keccak_state_turn.gmap keccak_state_turn.res (fun a0 => a0) n t
    unfold keccak_state_turn.m at h
    rw [h] at e
    exact e
theorem keccak_state_turn.s (hmix : Tryd.prog.follows .mixedOrders = true) (n : Nat) : CalleeS Tryd.prog abiG 125 (keccak_state_turn.c n) :=
  CalleeS.of (res := keccak_state_turn.res) (shape := keccak_state_turn.shape) (fun R u K => rfl) (fun args lent t h => by
    unfold keccak_state_turn.pat at h
    split at h
    · cases h; rfl
    · cases h) fun t u h => (keccak_state_turn.call hmix n t u h).ok Tryd.func125 (by decide) (by kernel_rfl)
end
section
theorem keccak_state_row.l5_0.rmap {α β : Type} (h : β → α) (mk0 : Int → (List Int) → β) (n : Nat) (f : Int → Int → (List Int) → (List Int) → Option β)  (x0 : Int) (x1 : Int) (x2 : (List Int)) (x3 : (List Int)) : keccak_state_row.l5_0.r (fun a0 a1 => (h (mk0 a0 a1))) n (fun y0 y1 y2 y3 => (f y0 y1 y2 y3).map h) x0 x1 x2 x3 = (keccak_state_row.l5_0.r mk0 n f x0 x1 x2 x3).map h := by
  unfold keccak_state_row.l5_0.r
  exact (ite_map (ite_map (ite_map (ite_map (ite_map (ite_map (ite_map (ite_map (ite_map rfl rfl) rfl) rfl) rfl) rfl) rfl) rfl) rfl) rfl)
theorem keccak_state_row.l5_0.gmap {α β : Type} (h : β → α) (mk0 : Int → (List Int) → β) (n : Nat) : ∀ (m : Nat) (x0 : Int) (x1 : Int) (x2 : (List Int)) (x3 : (List Int)), keccak_state_row.l5_0.g (fun a0 a1 => (h (mk0 a0 a1))) n m x0 x1 x2 x3 = (keccak_state_row.l5_0.g mk0 n m x0 x1 x2 x3).map h
  | 0, _, _, _, _ => rfl
  | m + 1, x0, x1, x2, x3 => by
    unfold keccak_state_row.l5_0.g
    rw [← keccak_state_row.l5_0.rmap]
    congr
    · funext y0 y1 y2 y3; exact keccak_state_row.l5_0.gmap h mk0 n m y0 y1 y2 y3
theorem keccak_state_row.l5_0.pat_shape : ∀ st t, keccak_state_row.l5_0.pat st = some t → st = keccak_state_row.l5_0.shape t := by
  intro st t h
  unfold keccak_state_row.l5_0.pat at h
  split at h
  · cases h; rfl
  · cases h
theorem keccak_state_row.l5_0.round (n : Nat) (rc : St → Option (Ex × St)) (x0 : Int) (x1 : Int) (x2 : (List Int)) (x3 : (List Int)) : roundOf (keccak_state_row.C n) (keccak_state_row.A n) n keccak_state_row.b1 rc ((St.mk [(.int .i64 x0), (.ptr 0 []), (.int .i64 x1), (.ptr 1 [])] [(some (.var (.ints .u64 25 x2))), (some (.var (.ints .u64 5 x3)))])) = keccak_state_row.l5_0.r (fun a0 a1 => ((Prod.mk (.exit 2) (St.mk [(.int .i64 a0), (.ptr 0 [])] [(some (.var (.ints .u64 25 a1)))])) : Ex × St)) n (fun y0 y1 y2 y3 => rc ((St.mk [(.int .i64 y0), (.ptr 0 []), (.int .i64 y1), (.ptr 1 [])] [(some (.var (.ints .u64 25 y2))), (some (.var (.ints .u64 5 y3)))]))) x0 x1 x2 x3 := by kernel_rfl
theorem keccak_state_row.l5_0.loop' (n : Nat) : ∀ (m : Nat) (t : (Int × (Int × ((List Int) × (List Int))))), loopOf (roundOf (keccak_state_row.C n) (keccak_state_row.A n) n keccak_state_row.b1) m (keccak_state_row.l5_0.shape t) = keccak_state_row.l5_0.g (fun a0 a1 => ((Prod.mk (.exit 2) (St.mk [(.int .i64 a0), (.ptr 0 [])] [(some (.var (.ints .u64 25 a1)))])) : Ex × St)) n m t.1 t.2.1 t.2.2.1 t.2.2.2 :=
  loop_of_round (shape := keccak_state_row.l5_0.shape) (body := roundOf (keccak_state_row.C n) (keccak_state_row.A n) n keccak_state_row.b1) (g := fun m t => keccak_state_row.l5_0.g (fun a0 a1 => ((Prod.mk (.exit 2) (St.mk [(.int .i64 a0), (.ptr 0 [])] [(some (.var (.ints .u64 25 a1)))])) : Ex × St)) n m t.1 t.2.1 t.2.2.1 t.2.2.2) (fun t => rfl)
    fun m t ih => (keccak_state_row.l5_0.round n (loopOf (roundOf (keccak_state_row.C n) (keccak_state_row.A n) n keccak_state_row.b1) m) t.1 t.2.1 t.2.2.1 t.2.2.2).trans (congrFun (congrFun (congrFun (congrFun (congrArg (keccak_state_row.l5_0.r (fun a0 a1 => ((Prod.mk (.exit 2) (St.mk [(.int .i64 a0), (.ptr 0 [])] [(some (.var (.ints .u64 25 a1)))])) : Ex × St)) n) (funext fun y0 => funext fun y1 => funext fun y2 => funext fun y3 => ih (y0, y1, y2, y3))) t.1) t.2.1) t.2.2.1) t.2.2.2)
theorem keccak_state_row.l5_0.loop (n m : Nat) (t : (Int × (Int × ((List Int) × (List Int))))) : loopOf (roundOf (keccak_state_row.C n) (keccak_state_row.A n) n keccak_state_row.b1) m (keccak_state_row.l5_0.shape t) = (keccak_state_row.l5_0.m n m t).map keccak_state_row.l5_0.res :=
  (keccak_state_row.l5_0.loop' n m t).trans (keccak_state_row.l5_0.gmap keccak_state_row.l5_0.res (fun a0 a1 => (a0, a1)) n m t.1 t.2.1 t.2.2.1 t.2.2.2)
theorem keccak_state_row.l1_0.rmap {α β : Type} (h : β → α) (mk0 : (List Int) → β) (n : Nat) (f : Int → (List Int) → Option β)  (x0 : Int) (x1 : (List Int)) : keccak_state_row.l1_0.r (fun a0 => (h (mk0 a0))) n (fun y0 y1 => (f y0 y1).map h) x0 x1 = (keccak_state_row.l1_0.r mk0 n f x0 x1).map h := by
  unfold keccak_state_row.l1_0.r
  exact (ite_map (ite_map (ite_map (ite_map (ite_map (ite_map (bindO_map fun r16 => rfl) rfl) rfl) rfl) rfl) rfl) rfl)
theorem keccak_state_row.l1_0.gmap {α β : Type} (h : β → α) (mk0 : (List Int) → β) (n : Nat) : ∀ (m : Nat) (x0 : Int) (x1 : (List Int)), keccak_state_row.l1_0.g (fun a0 => (h (mk0 a0))) n m x0 x1 = (keccak_state_row.l1_0.g mk0 n m x0 x1).map h
  | 0, _, _ => rfl
  | m + 1, x0, x1 => by
    unfold keccak_state_row.l1_0.g
    rw [← keccak_state_row.l1_0.rmap]
    congr
    · funext y0 y1; exact keccak_state_row.l1_0.gmap h mk0 n m y0 y1
theorem keccak_state_row.l1_0.pat_shape : ∀ st t, keccak_state_row.l1_0.pat st = some t → st = keccak_state_row.l1_0.shape t := by
  intro st t h
  unfold keccak_state_row.l1_0.pat at h
  split at h
  · cases h; rfl
  · cases h
theorem keccak_state_row.l1_0.round (n : Nat) (rc : St → Option (Ex × St)) (x0 : Int) (x1 : (List Int)) : roundOf (keccak_state_row.C n) (keccak_state_row.A n) n keccak_state_row.b0 rc ((St.mk [(.int .i64 x0), (.ptr 0 [])] [(some (.var (.ints .u64 25 x1)))])) = keccak_state_row.l1_0.r (fun a0 => ((Prod.mk (.exit 0) (St.mk [] [(some (.var (.ints .u64 25 a0)))])) : Ex × St)) n (fun y0 y1 => rc ((St.mk [(.int .i64 y0), (.ptr 0 [])] [(some (.var (.ints .u64 25 y1)))]))) x0 x1 := by kernel_rfl
theorem keccak_state_row.l1_0.loop' (n : Nat) : ∀ (m : Nat) (t : (Int × (List Int))), loopOf (roundOf (keccak_state_row.C n) (keccak_state_row.A n) n keccak_state_row.b0) m (keccak_state_row.l1_0.shape t) = keccak_state_row.l1_0.g (fun a0 => ((Prod.mk (.exit 0) (St.mk [] [(some (.var (.ints .u64 25 a0)))])) : Ex × St)) n m t.1 t.2 :=
  loop_of_round (shape := keccak_state_row.l1_0.shape) (body := roundOf (keccak_state_row.C n) (keccak_state_row.A n) n keccak_state_row.b0) (g := fun m t => keccak_state_row.l1_0.g (fun a0 => ((Prod.mk (.exit 0) (St.mk [] [(some (.var (.ints .u64 25 a0)))])) : Ex × St)) n m t.1 t.2) (fun t => rfl)
    fun m t ih => (keccak_state_row.l1_0.round n (loopOf (roundOf (keccak_state_row.C n) (keccak_state_row.A n) n keccak_state_row.b0) m) t.1 t.2).trans (congrFun (congrFun (congrArg (keccak_state_row.l1_0.r (fun a0 => ((Prod.mk (.exit 0) (St.mk [] [(some (.var (.ints .u64 25 a0)))])) : Ex × St)) n) (funext fun y0 => funext fun y1 => ih (y0, y1))) t.1) t.2)
theorem keccak_state_row.l1_0.loop (n m : Nat) (t : (Int × (List Int))) : loopOf (roundOf (keccak_state_row.C n) (keccak_state_row.A n) n keccak_state_row.b0) m (keccak_state_row.l1_0.shape t) = (keccak_state_row.l1_0.m n m t).map keccak_state_row.l1_0.res :=
  (keccak_state_row.l1_0.loop' n m t).trans (keccak_state_row.l1_0.gmap keccak_state_row.l1_0.res (fun a0 => a0) n m t.1 t.2)
theorem keccak_state_row.gmap {α β : Type} (h : β → α) (mk0 : (List Int) → β) (n : Nat) (s : (List Int)) : keccak_state_row.g (fun a0 => (h (mk0 a0))) n s = (keccak_state_row.g mk0 n s).map h := by
  unfold keccak_state_row.g
  exact (bindO_map fun r2 => rfl)
theorem keccak_state_row.run (n : Nat) (s : (List Int)) : runF (keccak_state_row.C n) (keccak_state_row.A n) n Tryd.f126 [(.ptr 0 [])] [(some (.var (.ints .u64 25 s)))] (fun v o => some (v, o)) = keccak_state_row.g (fun a0 => ((Prod.mk (.tup []) [(some (.var (.ints .u64 25 a0)))]) : AV × Blks)) n s := by kernel_rfl
theorem keccak_state_row.call (hmix : Tryd.prog.follows .mixedOrders = true) (n : Nat) (t : (List Int)) (u) (h : keccak_state_row.m n t = some u) : FnC Tryd.prog abiG 126 (keccak_state_row.shape t).1 (keccak_state_row.shape t).2 (keccak_state_row.res u).1 (keccak_state_row.res u).2 := by
  have hg : ∀ f m, (keccak_state_row.C n).Γ f = some m → CalleeS Tryd.prog abiG f m := by
    intro f m hm
    unfold keccak_state_row.C at hm
    simp only at hm
    first
    | (cases hm; done)
    | (split at hm <;> first
    | (cases hm; done))
  have hb : Tryd.f126.body = some (Tryd.f126.body.getD .skip) := by kernel_rfl
  refine runF_calls (C := keccak_state_row.C n) (A := keccak_state_row.A n) (n := n) (fn := Tryd.f126) hg hmix Tryd.func126 hb ?_ ?_ (by decide) rfl rfl (by show 1 ≤ Tryd.f126.ntmps; decide) ?_
  · rw [show loopsIn (Tryd.f126.body.getD .skip) = [keccak_state_row.b0, keccak_state_row.b1] by kernel_rfl]
    intro b hb m hm
    simp only [List.mem_cons, List.not_mem_nil, or_false] at hb
    rcases hb with rfl | rfl
    · have e : (keccak_state_row.A n).loop (key keccak_state_row.b0) = some (.mk' keccak_state_row.l1_0.pat (keccak_state_row.l1_0.m n n) keccak_state_row.l1_0.resK) := by rw [show key keccak_state_row.b0 = 1 by kernel_rfl]; rfl
      rw [e] at hm
      cases hm
      exact (LoopS.of (res := keccak_state_row.l1_0.res) (fun R u K => rfl) keccak_state_row.l1_0.pat_shape fun t => keccak_state_row.l1_0.loop n n t)
    · have e : (keccak_state_row.A n).loop (key keccak_state_row.b1) = some (.mk' keccak_state_row.l5_0.pat (keccak_state_row.l5_0.m n n) keccak_state_row.l5_0.resK) := by rw [show key keccak_state_row.b1 = 5 by kernel_rfl]; rfl
      rw [e] at hm
      cases hm
      exact (LoopS.of (res := keccak_state_row.l5_0.res) (fun R u K => rfl) keccak_state_row.l5_0.pat_shape fun t => keccak_state_row.l5_0.loop n n t)
  · intro a ha m hm
    cases (show none = some m from hm)
  · rw [show runF (keccak_state_row.C n) (keccak_state_row.A n) n Tryd.f126 (keccak_state_row.shape t).1 (keccak_state_row.shape t).2 (fun v o => some (v, o)) = _ from keccak_state_row.run n t]
    have e := keccak_state_row.gmap keccak_state_row.res (fun a0 => a0) n t
    unfold keccak_state_row.m at h
    rw [h] at e
    exact e
theorem keccak_state_row.s (hmix : Tryd.prog.follows .mixedOrders = true) (n : Nat) : CalleeS Tryd.prog abiG 126 (keccak_state_row.c n) :=
  CalleeS.of (res := keccak_state_row.res) (shape := keccak_state_row.shape) (fun R u K => rfl) (fun args lent t h => by
    unfold keccak_state_row.pat at h
    split at h
    · cases h; rfl
    · cases h) fun t u h => (keccak_state_row.call hmix n t u h).ok Tryd.func126 (by decide) (by kernel_rfl)
end
section
theorem keccak_state_mix.l1_0.rmap {α β : Type} (h : β → α) (mk0 : (List Int) → β) (n : Nat) (f : Int → (List Int) → Option β)  (x0 : Int) (x1 : (List Int)) : keccak_state_mix.l1_0.r (fun a0 => (h (mk0 a0))) n (fun y0 y1 => (f y0 y1).map h) x0 x1 = (keccak_state_mix.l1_0.r mk0 n f x0 x1).map h := by
  unfold keccak_state_mix.l1_0.r
  exact (ite_map (bindO_map fun r6 => (bindO_map fun r8 => (bindO_map fun r10 => (ite_map (ite_map rfl rfl) rfl)))) rfl)
theorem keccak_state_mix.l1_0.gmap {α β : Type} (h : β → α) (mk0 : (List Int) → β) (n : Nat) : ∀ (m : Nat) (x0 : Int) (x1 : (List Int)), keccak_state_mix.l1_0.g (fun a0 => (h (mk0 a0))) n m x0 x1 = (keccak_state_mix.l1_0.g mk0 n m x0 x1).map h
  | 0, _, _ => rfl
  | m + 1, x0, x1 => by
    unfold keccak_state_mix.l1_0.g
    rw [← keccak_state_mix.l1_0.rmap]
    congr
    · funext y0 y1; exact keccak_state_mix.l1_0.gmap h mk0 n m y0 y1
theorem keccak_state_mix.l1_0.pat_shape : ∀ st t, keccak_state_mix.l1_0.pat st = some t → st = keccak_state_mix.l1_0.shape t := by
  intro st t h
  unfold keccak_state_mix.l1_0.pat at h
  split at h
  · cases h; rfl
  · cases h
theorem keccak_state_mix.l1_0.round (n : Nat) (rc : St → Option (Ex × St)) (x0 : Int) (x1 : (List Int)) : roundOf (keccak_state_mix.C n) (keccak_state_mix.A n) n keccak_state_mix.b0 rc ((St.mk [(.int .i64 x0), (.ptr 0 [])] [(some (.var (.ints .u64 25 x1)))])) = keccak_state_mix.l1_0.r (fun a0 => ((Prod.mk (.exit 0) (St.mk [] [(some (.var (.ints .u64 25 a0)))])) : Ex × St)) n (fun y0 y1 => rc ((St.mk [(.int .i64 y0), (.ptr 0 [])] [(some (.var (.ints .u64 25 y1)))]))) x0 x1 := by kernel_rfl
theorem keccak_state_mix.l1_0.loop' (n : Nat) : ∀ (m : Nat) (t : (Int × (List Int))), loopOf (roundOf (keccak_state_mix.C n) (keccak_state_mix.A n) n keccak_state_mix.b0) m (keccak_state_mix.l1_0.shape t) = keccak_state_mix.l1_0.g (fun a0 => ((Prod.mk (.exit 0) (St.mk [] [(some (.var (.ints .u64 25 a0)))])) : Ex × St)) n m t.1 t.2 :=
  loop_of_round (shape := keccak_state_mix.l1_0.shape) (body := roundOf (keccak_state_mix.C n) (keccak_state_mix.A n) n keccak_state_mix.b0) (g := fun m t => keccak_state_mix.l1_0.g (fun a0 => ((Prod.mk (.exit 0) (St.mk [] [(some (.var (.ints .u64 25 a0)))])) : Ex × St)) n m t.1 t.2) (fun t => rfl)
    fun m t ih => (keccak_state_mix.l1_0.round n (loopOf (roundOf (keccak_state_mix.C n) (keccak_state_mix.A n) n keccak_state_mix.b0) m) t.1 t.2).trans (congrFun (congrFun (congrArg (keccak_state_mix.l1_0.r (fun a0 => ((Prod.mk (.exit 0) (St.mk [] [(some (.var (.ints .u64 25 a0)))])) : Ex × St)) n) (funext fun y0 => funext fun y1 => ih (y0, y1))) t.1) t.2)
theorem keccak_state_mix.l1_0.loop (n m : Nat) (t : (Int × (List Int))) : loopOf (roundOf (keccak_state_mix.C n) (keccak_state_mix.A n) n keccak_state_mix.b0) m (keccak_state_mix.l1_0.shape t) = (keccak_state_mix.l1_0.m n m t).map keccak_state_mix.l1_0.res :=
  (keccak_state_mix.l1_0.loop' n m t).trans (keccak_state_mix.l1_0.gmap keccak_state_mix.l1_0.res (fun a0 => a0) n m t.1 t.2)
theorem keccak_state_mix.gmap {α β : Type} (h : β → α) (mk0 : (List Int) → β) (n : Nat) (s : (List Int)) : keccak_state_mix.g (fun a0 => (h (mk0 a0))) n s = (keccak_state_mix.g mk0 n s).map h := by
  unfold keccak_state_mix.g
  exact (bindO_map fun r2 => rfl)
theorem keccak_state_mix.run (n : Nat) (s : (List Int)) : runF (keccak_state_mix.C n) (keccak_state_mix.A n) n Tryd.f111 [(.ptr 0 [])] [(some (.var (.ints .u64 25 s)))] (fun v o => some (v, o)) = keccak_state_mix.g (fun a0 => ((Prod.mk (.tup []) [(some (.var (.ints .u64 25 a0)))]) : AV × Blks)) n s := by kernel_rfl
theorem keccak_state_mix.call (hmix : Tryd.prog.follows .mixedOrders = true) (n : Nat) (t : (List Int)) (u) (h : keccak_state_mix.m n t = some u) : FnC Tryd.prog abiG 111 (keccak_state_mix.shape t).1 (keccak_state_mix.shape t).2 (keccak_state_mix.res u).1 (keccak_state_mix.res u).2 := by
  have hg : ∀ f m, (keccak_state_mix.C n).Γ f = some m → CalleeS Tryd.prog abiG f m := by
    intro f m hm
    unfold keccak_state_mix.C at hm
    simp only at hm
    first
    | (cases hm; done)
    | (split at hm <;> first
    | (cases hm; exact keccak_state_spread.s hmix n)
    | (cases hm; exact keccak_state_turn.s hmix n)
    | (cases hm; exact keccak_state_row.s hmix n)
    | (cases hm; done))
  have hb : Tryd.f111.body = some (Tryd.f111.body.getD .skip) := by kernel_rfl
  refine runF_calls (C := keccak_state_mix.C n) (A := keccak_state_mix.A n) (n := n) (fn := Tryd.f111) hg hmix Tryd.func111 hb ?_ ?_ (by decide) rfl rfl (by show 1 ≤ Tryd.f111.ntmps; decide) ?_
  · rw [show loopsIn (Tryd.f111.body.getD .skip) = [keccak_state_mix.b0] by kernel_rfl]
    intro b hb m hm
    simp only [List.mem_cons, List.not_mem_nil, or_false] at hb
    rcases hb with rfl
    · have e : (keccak_state_mix.A n).loop (key keccak_state_mix.b0) = some (.mk' keccak_state_mix.l1_0.pat (keccak_state_mix.l1_0.m n n) keccak_state_mix.l1_0.resK) := by rw [show key keccak_state_mix.b0 = 1 by kernel_rfl]; rfl
      rw [e] at hm
      cases hm
      exact (LoopS.of (res := keccak_state_mix.l1_0.res) (fun R u K => rfl) keccak_state_mix.l1_0.pat_shape fun t => keccak_state_mix.l1_0.loop n n t)
  · intro a ha m hm
    cases (show none = some m from hm)
  · rw [show runF (keccak_state_mix.C n) (keccak_state_mix.A n) n Tryd.f111 (keccak_state_mix.shape t).1 (keccak_state_mix.shape t).2 (fun v o => some (v, o)) = _ from keccak_state_mix.run n t]
    have e := keccak_state_mix.gmap keccak_state_mix.res (fun a0 => a0) n t
    unfold keccak_state_mix.m at h
    rw [h] at e
    exact e
theorem keccak_state_mix.s (hmix : Tryd.prog.follows .mixedOrders = true) (n : Nat) : CalleeS Tryd.prog abiG 111 (keccak_state_mix.c n) :=
  CalleeS.of (res := keccak_state_mix.res) (shape := keccak_state_mix.shape) (fun R u K => rfl) (fun args lent t h => by
    unfold keccak_state_mix.pat at h
    split at h
    · cases h; rfl
    · cases h) fun t u h => (keccak_state_mix.call hmix n t u h).ok Tryd.func111 (by decide) (by kernel_rfl)
end
section
theorem keccak_state_take.l1_0.rmap {α β : Type} (h : β → α) (mk0 : (List Int) → β) (n : Nat) (f : Int → Int → (List Int) → (List Int) → Option β)  (x0 : Int) (x1 : Int) (x2 : (List Int)) (x3 : (List Int)) : keccak_state_take.l1_0.r (fun a0 => (h (mk0 a0))) n (fun y0 y1 y2 y3 => (f y0 y1 y2 y3).map h) x0 x1 x2 x3 = (keccak_state_take.l1_0.r mk0 n f x0 x1 x2 x3).map h := by
  unfold keccak_state_take.l1_0.r
  exact (ite_map (ite_map (ite_map (ite_map (ite_map (ite_map (ite_map (ite_map rfl rfl) rfl) rfl) rfl) rfl) rfl) rfl) rfl)
theorem keccak_state_take.l1_0.gmap {α β : Type} (h : β → α) (mk0 : (List Int) → β) (n : Nat) : ∀ (m : Nat) (x0 : Int) (x1 : Int) (x2 : (List Int)) (x3 : (List Int)), keccak_state_take.l1_0.g (fun a0 => (h (mk0 a0))) n m x0 x1 x2 x3 = (keccak_state_take.l1_0.g mk0 n m x0 x1 x2 x3).map h
  | 0, _, _, _, _ => rfl
  | m + 1, x0, x1, x2, x3 => by
    unfold keccak_state_take.l1_0.g
    rw [← keccak_state_take.l1_0.rmap]
    congr
    · funext y0 y1 y2 y3; exact keccak_state_take.l1_0.gmap h mk0 n m y0 y1 y2 y3
theorem keccak_state_take.l1_0.pat_shape : ∀ st t, keccak_state_take.l1_0.pat st = some t → st = keccak_state_take.l1_0.shape t := by
  intro st t h
  unfold keccak_state_take.l1_0.pat at h
  split at h
  · cases h; rfl
  · cases h
theorem keccak_state_take.l1_0.round (n : Nat) (rc : St → Option (Ex × St)) (x0 : Int) (x1 : Int) (x2 : (List Int)) (x3 : (List Int)) : roundOf (keccak_state_take.C n) (keccak_state_take.A n) n keccak_state_take.b0 rc ((St.mk [(.int .i64 x0), (.int .i64 x1), (.rints .u8 x2), (.ptr 0 [])] [(some (.var (.ints .u64 25 x3)))])) = keccak_state_take.l1_0.r (fun a0 => ((Prod.mk (.exit 0) (St.mk [(.ptr 0 [])] [(some (.var (.ints .u64 25 a0)))])) : Ex × St)) n (fun y0 y1 y2 y3 => rc ((St.mk [(.int .i64 y0), (.int .i64 y1), (.rints .u8 y2), (.ptr 0 [])] [(some (.var (.ints .u64 25 y3)))]))) x0 x1 x2 x3 := by kernel_rfl
theorem keccak_state_take.l1_0.loop' (n : Nat) : ∀ (m : Nat) (t : (Int × (Int × ((List Int) × (List Int))))), loopOf (roundOf (keccak_state_take.C n) (keccak_state_take.A n) n keccak_state_take.b0) m (keccak_state_take.l1_0.shape t) = keccak_state_take.l1_0.g (fun a0 => ((Prod.mk (.exit 0) (St.mk [(.ptr 0 [])] [(some (.var (.ints .u64 25 a0)))])) : Ex × St)) n m t.1 t.2.1 t.2.2.1 t.2.2.2 :=
  loop_of_round (shape := keccak_state_take.l1_0.shape) (body := roundOf (keccak_state_take.C n) (keccak_state_take.A n) n keccak_state_take.b0) (g := fun m t => keccak_state_take.l1_0.g (fun a0 => ((Prod.mk (.exit 0) (St.mk [(.ptr 0 [])] [(some (.var (.ints .u64 25 a0)))])) : Ex × St)) n m t.1 t.2.1 t.2.2.1 t.2.2.2) (fun t => rfl)
    fun m t ih => (keccak_state_take.l1_0.round n (loopOf (roundOf (keccak_state_take.C n) (keccak_state_take.A n) n keccak_state_take.b0) m) t.1 t.2.1 t.2.2.1 t.2.2.2).trans (congrFun (congrFun (congrFun (congrFun (congrArg (keccak_state_take.l1_0.r (fun a0 => ((Prod.mk (.exit 0) (St.mk [(.ptr 0 [])] [(some (.var (.ints .u64 25 a0)))])) : Ex × St)) n) (funext fun y0 => funext fun y1 => funext fun y2 => funext fun y3 => ih (y0, y1, y2, y3))) t.1) t.2.1) t.2.2.1) t.2.2.2)
theorem keccak_state_take.l1_0.loop (n m : Nat) (t : (Int × (Int × ((List Int) × (List Int))))) : loopOf (roundOf (keccak_state_take.C n) (keccak_state_take.A n) n keccak_state_take.b0) m (keccak_state_take.l1_0.shape t) = (keccak_state_take.l1_0.m n m t).map keccak_state_take.l1_0.res :=
  (keccak_state_take.l1_0.loop' n m t).trans (keccak_state_take.l1_0.gmap keccak_state_take.l1_0.res (fun a0 => a0) n m t.1 t.2.1 t.2.2.1 t.2.2.2)
theorem keccak_state_take.gmap {α β : Type} (h : β → α) (mk0 : (List Int) → β) (n : Nat) (b : (List Int)) (s : (List Int)) : keccak_state_take.g (fun a0 => (h (mk0 a0))) n b s = (keccak_state_take.g mk0 n b s).map h := by
  unfold keccak_state_take.g
  exact (bindO_map fun r2 => (bindO_map fun r4 => rfl))
theorem keccak_state_take.run (n : Nat) (b : (List Int)) (s : (List Int)) : runF (keccak_state_take.C n) (keccak_state_take.A n) n Tryd.f93 [(.ptr 0 []), (.rints .u8 b)] [(some (.var (.ints .u64 25 s)))] (fun v o => some (v, o)) = keccak_state_take.g (fun a0 => ((Prod.mk (.tup []) [(some (.var (.ints .u64 25 a0)))]) : AV × Blks)) n b s := by kernel_rfl
theorem keccak_state_take.call (hmix : Tryd.prog.follows .mixedOrders = true) (n : Nat) (t : ((List Int) × (List Int))) (u) (h : keccak_state_take.m n t = some u) : FnC Tryd.prog abiG 93 (keccak_state_take.shape t).1 (keccak_state_take.shape t).2 (keccak_state_take.res u).1 (keccak_state_take.res u).2 := by
  have hg : ∀ f m, (keccak_state_take.C n).Γ f = some m → CalleeS Tryd.prog abiG f m := by
    intro f m hm
    unfold keccak_state_take.C at hm
    simp only at hm
    first
    | (cases hm; done)
    | (split at hm <;> first
    | (cases hm; exact keccak_state_mix.s hmix n)
    | (cases hm; done))
  have hb : Tryd.f93.body = some (Tryd.f93.body.getD .skip) := by kernel_rfl
  refine runF_calls (C := keccak_state_take.C n) (A := keccak_state_take.A n) (n := n) (fn := Tryd.f93) hg hmix Tryd.func93 hb ?_ ?_ (by decide) rfl rfl (by show 2 ≤ Tryd.f93.ntmps; decide) ?_
  · rw [show loopsIn (Tryd.f93.body.getD .skip) = [keccak_state_take.b0] by kernel_rfl]
    intro b hb m hm
    simp only [List.mem_cons, List.not_mem_nil, or_false] at hb
    rcases hb with rfl
    · have e : (keccak_state_take.A n).loop (key keccak_state_take.b0) = some (.mk' keccak_state_take.l1_0.pat (keccak_state_take.l1_0.m n n) keccak_state_take.l1_0.resK) := by rw [show key keccak_state_take.b0 = 1 by kernel_rfl]; rfl
      rw [e] at hm
      cases hm
      exact (LoopS.of (res := keccak_state_take.l1_0.res) (fun R u K => rfl) keccak_state_take.l1_0.pat_shape fun t => keccak_state_take.l1_0.loop n n t)
  · intro a ha m hm
    cases (show none = some m from hm)
  · rw [show runF (keccak_state_take.C n) (keccak_state_take.A n) n Tryd.f93 (keccak_state_take.shape t).1 (keccak_state_take.shape t).2 (fun v o => some (v, o)) = _ from keccak_state_take.run n t.1 t.2]
    have e := keccak_state_take.gmap keccak_state_take.res (fun a0 => a0) n t.1 t.2
    unfold keccak_state_take.m at h
    rw [h] at e
    exact e
theorem keccak_state_take.s (hmix : Tryd.prog.follows .mixedOrders = true) (n : Nat) : CalleeS Tryd.prog abiG 93 (keccak_state_take.c n) :=
  CalleeS.of (res := keccak_state_take.res) (shape := keccak_state_take.shape) (fun R u K => rfl) (fun args lent t h => by
    unfold keccak_state_take.pat at h
    split at h
    · cases h; rfl
    · cases h) fun t u h => (keccak_state_take.call hmix n t u h).ok Tryd.func93 (by decide) (by kernel_rfl)
end
section
theorem keccak_Sum.l2_0.rmap {α β : Type} (h : β → α) (mk0 : (List Int) → (List Int) → (List Int) → β) (n : Nat) (f : (List Int) → (List Int) → (List Int) → Option β)  (x0 : (List Int)) (x1 : (List Int)) (x2 : (List Int)) : keccak_Sum.l2_0.r (fun a0 a1 a2 => (h (mk0 a0 a1 a2))) n (fun y0 y1 y2 => (f y0 y1 y2).map h) x0 x1 x2 = (keccak_Sum.l2_0.r mk0 n f x0 x1 x2).map h := by
  unfold keccak_Sum.l2_0.r
  exact (ite_map (ite_map (bindO_map fun r8 => (ite_map rfl rfl)) rfl) rfl)
theorem keccak_Sum.l2_0.gmap {α β : Type} (h : β → α) (mk0 : (List Int) → (List Int) → (List Int) → β) (n : Nat) : ∀ (m : Nat) (x0 : (List Int)) (x1 : (List Int)) (x2 : (List Int)), keccak_Sum.l2_0.g (fun a0 a1 a2 => (h (mk0 a0 a1 a2))) n m x0 x1 x2 = (keccak_Sum.l2_0.g mk0 n m x0 x1 x2).map h
  | 0, _, _, _ => rfl
  | m + 1, x0, x1, x2 => by
    unfold keccak_Sum.l2_0.g
    rw [← keccak_Sum.l2_0.rmap]
    congr
    · funext y0 y1 y2; exact keccak_Sum.l2_0.gmap h mk0 n m y0 y1 y2
theorem keccak_Sum.l2_0.pat_shape : ∀ st t, keccak_Sum.l2_0.pat st = some t → st = keccak_Sum.l2_0.shape t := by
  intro st t h
  unfold keccak_Sum.l2_0.pat at h
  split at h
  · cases h; rfl
  · cases h
theorem keccak_Sum.l2_0.round (n : Nat) (rc : St → Option (Ex × St)) (x0 : (List Int)) (x1 : (List Int)) (x2 : (List Int)) : roundOf (keccak_Sum.C n) (keccak_Sum.A n) n keccak_Sum.b0 rc ((St.mk [(.rints .u8 x0), (.ptr 0 []), (.ptr 1 [])] [(some (.var (.ints .u64 25 x1))), (some (.var (.ints .u64 4 x2)))])) = keccak_Sum.l2_0.r (fun a0 a1 a2 => ((Prod.mk (.exit 0) (St.mk [(.rints .u8 a0), (.ptr 0 []), (.ptr 1 [])] [(some (.var (.ints .u64 25 a1))), (some (.var (.ints .u64 4 a2)))])) : Ex × St)) n (fun y0 y1 y2 => rc ((St.mk [(.rints .u8 y0), (.ptr 0 []), (.ptr 1 [])] [(some (.var (.ints .u64 25 y1))), (some (.var (.ints .u64 4 y2)))]))) x0 x1 x2 := by kernel_rfl
theorem keccak_Sum.l2_0.loop' (n : Nat) : ∀ (m : Nat) (t : ((List Int) × ((List Int) × (List Int)))), loopOf (roundOf (keccak_Sum.C n) (keccak_Sum.A n) n keccak_Sum.b0) m (keccak_Sum.l2_0.shape t) = keccak_Sum.l2_0.g (fun a0 a1 a2 => ((Prod.mk (.exit 0) (St.mk [(.rints .u8 a0), (.ptr 0 []), (.ptr 1 [])] [(some (.var (.ints .u64 25 a1))), (some (.var (.ints .u64 4 a2)))])) : Ex × St)) n m t.1 t.2.1 t.2.2 :=
  loop_of_round (shape := keccak_Sum.l2_0.shape) (body := roundOf (keccak_Sum.C n) (keccak_Sum.A n) n keccak_Sum.b0) (g := fun m t => keccak_Sum.l2_0.g (fun a0 a1 a2 => ((Prod.mk (.exit 0) (St.mk [(.rints .u8 a0), (.ptr 0 []), (.ptr 1 [])] [(some (.var (.ints .u64 25 a1))), (some (.var (.ints .u64 4 a2)))])) : Ex × St)) n m t.1 t.2.1 t.2.2) (fun t => rfl)
    fun m t ih => (keccak_Sum.l2_0.round n (loopOf (roundOf (keccak_Sum.C n) (keccak_Sum.A n) n keccak_Sum.b0) m) t.1 t.2.1 t.2.2).trans (congrFun (congrFun (congrFun (congrArg (keccak_Sum.l2_0.r (fun a0 a1 a2 => ((Prod.mk (.exit 0) (St.mk [(.rints .u8 a0), (.ptr 0 []), (.ptr 1 [])] [(some (.var (.ints .u64 25 a1))), (some (.var (.ints .u64 4 a2)))])) : Ex × St)) n) (funext fun y0 => funext fun y1 => funext fun y2 => ih (y0, y1, y2))) t.1) t.2.1) t.2.2)
theorem keccak_Sum.l2_0.loop (n m : Nat) (t : ((List Int) × ((List Int) × (List Int)))) : loopOf (roundOf (keccak_Sum.C n) (keccak_Sum.A n) n keccak_Sum.b0) m (keccak_Sum.l2_0.shape t) = (keccak_Sum.l2_0.m n m t).map keccak_Sum.l2_0.res :=
  (keccak_Sum.l2_0.loop' n m t).trans (keccak_Sum.l2_0.gmap keccak_Sum.l2_0.res (fun a0 a1 a2 => (a0, a1, a2)) n m t.1 t.2.1 t.2.2)
theorem keccak_Sum.l12_0.rmap {α β : Type} (h : β → α) (mk0 : (List Int) → (List Int) → β) (n : Nat) (f : Int → (List Int) → (List Int) → (List Int) → Option β)  (x0 : Int) (x1 : (List Int)) (x2 : (List Int)) (x3 : (List Int)) : keccak_Sum.l12_0.r (fun a0 a1 => (h (mk0 a0 a1))) n (fun y0 y1 y2 y3 => (f y0 y1 y2 y3).map h) x0 x1 x2 x3 = (keccak_Sum.l12_0.r mk0 n f x0 x1 x2 x3).map h := by
  unfold keccak_Sum.l12_0.r
  exact (ite_map (ite_map (ite_map (ite_map (ite_map (ite_map rfl rfl) rfl) rfl) rfl) rfl) rfl)
theorem keccak_Sum.l12_0.gmap {α β : Type} (h : β → α) (mk0 : (List Int) → (List Int) → β) (n : Nat) : ∀ (m : Nat) (x0 : Int) (x1 : (List Int)) (x2 : (List Int)) (x3 : (List Int)), keccak_Sum.l12_0.g (fun a0 a1 => (h (mk0 a0 a1))) n m x0 x1 x2 x3 = (keccak_Sum.l12_0.g mk0 n m x0 x1 x2 x3).map h
  | 0, _, _, _, _ => rfl
  | m + 1, x0, x1, x2, x3 => by
    unfold keccak_Sum.l12_0.g
    rw [← keccak_Sum.l12_0.rmap]
    congr
    · funext y0 y1 y2 y3; exact keccak_Sum.l12_0.gmap h mk0 n m y0 y1 y2 y3
theorem keccak_Sum.l12_0.pat_shape : ∀ st t, keccak_Sum.l12_0.pat st = some t → st = keccak_Sum.l12_0.shape t := by
  intro st t h
  unfold keccak_Sum.l12_0.pat at h
  split at h
  · cases h; rfl
  · cases h
theorem keccak_Sum.l12_0.round (n : Nat) (rc : St → Option (Ex × St)) (x0 : Int) (x1 : (List Int)) (x2 : (List Int)) (x3 : (List Int)) : roundOf (keccak_Sum.C n) (keccak_Sum.A n) n keccak_Sum.b1 rc ((St.mk [(.int .i64 x0), (.ptr 0 []), (.ptr 1 []), (.ptr 2 [])] [(some (.var (.ints .u64 25 x1))), (some (.var (.ints .u8 32 x2))), (some (.var (.ints .u64 4 x3)))])) = keccak_Sum.l12_0.r (fun a0 a1 => ((Prod.mk (.exit 2) (St.mk [(.ptr 0 []), (.ptr 1 [])] [(some (.var (.ints .u8 32 a0))), (some (.var (.ints .u64 4 a1)))])) : Ex × St)) n (fun y0 y1 y2 y3 => rc ((St.mk [(.int .i64 y0), (.ptr 0 []), (.ptr 1 []), (.ptr 2 [])] [(some (.var (.ints .u64 25 y1))), (some (.var (.ints .u8 32 y2))), (some (.var (.ints .u64 4 y3)))]))) x0 x1 x2 x3 := by kernel_rfl
theorem keccak_Sum.l12_0.loop' (n : Nat) : ∀ (m : Nat) (t : (Int × ((List Int) × ((List Int) × (List Int))))), loopOf (roundOf (keccak_Sum.C n) (keccak_Sum.A n) n keccak_Sum.b1) m (keccak_Sum.l12_0.shape t) = keccak_Sum.l12_0.g (fun a0 a1 => ((Prod.mk (.exit 2) (St.mk [(.ptr 0 []), (.ptr 1 [])] [(some (.var (.ints .u8 32 a0))), (some (.var (.ints .u64 4 a1)))])) : Ex × St)) n m t.1 t.2.1 t.2.2.1 t.2.2.2 :=
  loop_of_round (shape := keccak_Sum.l12_0.shape) (body := roundOf (keccak_Sum.C n) (keccak_Sum.A n) n keccak_Sum.b1) (g := fun m t => keccak_Sum.l12_0.g (fun a0 a1 => ((Prod.mk (.exit 2) (St.mk [(.ptr 0 []), (.ptr 1 [])] [(some (.var (.ints .u8 32 a0))), (some (.var (.ints .u64 4 a1)))])) : Ex × St)) n m t.1 t.2.1 t.2.2.1 t.2.2.2) (fun t => rfl)
    fun m t ih => (keccak_Sum.l12_0.round n (loopOf (roundOf (keccak_Sum.C n) (keccak_Sum.A n) n keccak_Sum.b1) m) t.1 t.2.1 t.2.2.1 t.2.2.2).trans (congrFun (congrFun (congrFun (congrFun (congrArg (keccak_Sum.l12_0.r (fun a0 a1 => ((Prod.mk (.exit 2) (St.mk [(.ptr 0 []), (.ptr 1 [])] [(some (.var (.ints .u8 32 a0))), (some (.var (.ints .u64 4 a1)))])) : Ex × St)) n) (funext fun y0 => funext fun y1 => funext fun y2 => funext fun y3 => ih (y0, y1, y2, y3))) t.1) t.2.1) t.2.2.1) t.2.2.2)
theorem keccak_Sum.l12_0.loop (n m : Nat) (t : (Int × ((List Int) × ((List Int) × (List Int))))) : loopOf (roundOf (keccak_Sum.C n) (keccak_Sum.A n) n keccak_Sum.b1) m (keccak_Sum.l12_0.shape t) = (keccak_Sum.l12_0.m n m t).map keccak_Sum.l12_0.res :=
  (keccak_Sum.l12_0.loop' n m t).trans (keccak_Sum.l12_0.gmap keccak_Sum.l12_0.res (fun a0 a1 => (a0, a1)) n m t.1 t.2.1 t.2.2.1 t.2.2.2)
theorem keccak_Sum.gmap {α β : Type} (h : β → α) (mk0 : (List Int) → β) (n : Nat) (a0 : (List Int)) : keccak_Sum.g (fun a0 => (h (mk0 a0))) n a0 = (keccak_Sum.g mk0 n a0).map h := by
  unfold keccak_Sum.g
  exact (bindO_map fun r2 => (ite_map (ite_map (bindO_map fun r8 => (bindO_map fun r10 => (bindO_map fun r12 => rfl))) rfl) rfl))
theorem keccak_Sum.run (n : Nat) (a0 : (List Int)) : runF (keccak_Sum.C n) (keccak_Sum.A n) n Tryd.f57 [(.rints .u8 a0)] [] (fun v o => some (v, o)) = keccak_Sum.g (fun a0 => ((Prod.mk (.ints .u64 4 a0) []) : AV × Blks)) n a0 := by kernel_rfl
theorem keccak_Sum.call (hmix : Tryd.prog.follows .mixedOrders = true) (n : Nat) (t : (List Int)) (u) (h : keccak_Sum.m n t = some u) : FnC Tryd.prog abiG 57 (keccak_Sum.shape t).1 (keccak_Sum.shape t).2 (keccak_Sum.res u).1 (keccak_Sum.res u).2 := by
  have hg : ∀ f m, (keccak_Sum.C n).Γ f = some m → CalleeS Tryd.prog abiG f m := by
    intro f m hm
    unfold keccak_Sum.C at hm
    simp only at hm
    first
    | (cases hm; done)
    | (split at hm <;> first
    | (cases hm; exact keccak_state_take.s hmix n)
    | (cases hm; exact word_Read.s hmix n)
    | (cases hm; done))
  have hb : Tryd.f57.body = some (Tryd.f57.body.getD .skip) := by kernel_rfl
  refine runF_calls (C := keccak_Sum.C n) (A := keccak_Sum.A n) (n := n) (fn := Tryd.f57) hg hmix Tryd.func57 hb ?_ ?_ (by decide) rfl rfl (by show 1 ≤ Tryd.f57.ntmps; decide) ?_
  · rw [show loopsIn (Tryd.f57.body.getD .skip) = [keccak_Sum.b0, keccak_Sum.b1] by kernel_rfl]
    intro b hb m hm
    simp only [List.mem_cons, List.not_mem_nil, or_false] at hb
    rcases hb with rfl | rfl
    · have e : (keccak_Sum.A n).loop (key keccak_Sum.b0) = some (.mk' keccak_Sum.l2_0.pat (keccak_Sum.l2_0.m n n) keccak_Sum.l2_0.resK) := by rw [show key keccak_Sum.b0 = 2 by kernel_rfl]; rfl
      rw [e] at hm
      cases hm
      exact (LoopS.of (res := keccak_Sum.l2_0.res) (fun R u K => rfl) keccak_Sum.l2_0.pat_shape fun t => keccak_Sum.l2_0.loop n n t)
    · have e : (keccak_Sum.A n).loop (key keccak_Sum.b1) = some (.mk' keccak_Sum.l12_0.pat (keccak_Sum.l12_0.m n n) keccak_Sum.l12_0.resK) := by rw [show key keccak_Sum.b1 = 12 by kernel_rfl]; rfl
      rw [e] at hm
      cases hm
      exact (LoopS.of (res := keccak_Sum.l12_0.res) (fun R u K => rfl) keccak_Sum.l12_0.pat_shape fun t => keccak_Sum.l12_0.loop n n t)
  · intro a ha m hm
    cases (show none = some m from hm)
  · rw [show runF (keccak_Sum.C n) (keccak_Sum.A n) n Tryd.f57 (keccak_Sum.shape t).1 (keccak_Sum.shape t).2 (fun v o => some (v, o)) = _ from keccak_Sum.run n t]
    have e := keccak_Sum.gmap keccak_Sum.res (fun a0 => a0) n t
    unfold keccak_Sum.m at h
    rw [h] at e
    exact e
theorem keccak_Sum.s (hmix : Tryd.prog.follows .mixedOrders = true) (n : Nat) : CalleeS Tryd.prog abiG 57 (keccak_Sum.c n) :=
  CalleeS.of (res := keccak_Sum.res) (shape := keccak_Sum.shape) (fun R u K => rfl) (fun args lent t h => by
    unfold keccak_Sum.pat at h
    split at h
    · cases h; rfl
    · cases h) fun t u h => (keccak_Sum.call hmix n t u h).ok Tryd.func57 (by decide) (by kernel_rfl)
end
section
theorem abi_Selector.gmap {α β : Type} (h : β → α) (mk0 : (List Int) → β) (n : Nat) (a0 : ByteArray) : abi_Selector.g (fun a0 => (h (mk0 a0))) n a0 = (abi_Selector.g mk0 n a0).map h := by
  unfold abi_Selector.g
  exact (bindO_map fun r2 => (bindO_map fun r4 => (ite_map rfl rfl)))
theorem abi_Selector.run (n : Nat) (a0 : ByteArray) : runF (abi_Selector.C n) (abi_Selector.A n) n Tryd.f22 [(.str a0)] [] (fun v o => some (v, o)) = abi_Selector.g (fun a0 => ((Prod.mk (.own 0 1) [(some (.ints .u8 a0))]) : AV × Blks)) n a0 := by kernel_rfl
theorem abi_Selector.call (hmix : Tryd.prog.follows .mixedOrders = true) (n : Nat) (t : ByteArray) (u) (h : abi_Selector.m n t = some u) : FnC Tryd.prog abiG 22 (abi_Selector.shape t).1 (abi_Selector.shape t).2 (abi_Selector.res u).1 (abi_Selector.res u).2 := by
  have hg : ∀ f m, (abi_Selector.C n).Γ f = some m → CalleeS Tryd.prog abiG f m := by
    intro f m hm
    unfold abi_Selector.C at hm
    simp only at hm
    first
    | (cases hm; done)
    | (split at hm <;> first
    | (cases hm; exact keccak_Sum.s hmix n)
    | (cases hm; exact word_Bytes.s hmix n)
    | (cases hm; done))
  have hb : Tryd.f22.body = some (Tryd.f22.body.getD .skip) := by kernel_rfl
  refine runF_calls (C := abi_Selector.C n) (A := abi_Selector.A n) (n := n) (fn := Tryd.f22) hg hmix Tryd.func22 hb ?_ ?_ (by decide) rfl rfl (by show 1 ≤ Tryd.f22.ntmps; decide) ?_
  · rw [show loopsIn (Tryd.f22.body.getD .skip) = [] by kernel_rfl]
    intro b hb
    cases hb
  · intro a ha m hm
    cases (show none = some m from hm)
  · rw [show runF (abi_Selector.C n) (abi_Selector.A n) n Tryd.f22 (abi_Selector.shape t).1 (abi_Selector.shape t).2 (fun v o => some (v, o)) = _ from abi_Selector.run n t]
    have e := abi_Selector.gmap abi_Selector.res (fun a0 => a0) n t
    unfold abi_Selector.m at h
    rw [h] at e
    exact e
theorem abi_Selector.s (hmix : Tryd.prog.follows .mixedOrders = true) (n : Nat) : CalleeS Tryd.prog abiG 22 (abi_Selector.c n) :=
  CalleeS.of (res := abi_Selector.res) (shape := abi_Selector.shape) (fun R u K => rfl) (fun args lent t h => by
    unfold abi_Selector.pat at h
    split at h
    · cases h; rfl
    · cases h) fun t u h => (abi_Selector.call hmix n t u h).ok Tryd.func22 (by decide) (by kernel_rfl)
end
section
theorem zslicesGrowbytebyte.gmap {α β : Type} (h : β → α) (mk0 : (List Int) → β) (n : Nat) (sz : Int) : zslicesGrowbytebyte.g (fun a0 => (h (mk0 a0))) n sz = (zslicesGrowbytebyte.g mk0 n sz).map h := by
  unfold zslicesGrowbytebyte.g
  exact (ite_map rfl (ite_map (ite_map (ite_map rfl rfl) rfl) rfl))
theorem zslicesGrowbytebyte.run (n : Nat) (sz : Int) : runF (zslicesGrowbytebyte.C n) (zslicesGrowbytebyte.A n) n Tryd.f117 [.snil, (.int .i64 sz)] [] (fun v o => some (v, o)) = zslicesGrowbytebyte.g (fun a0 => ((Prod.mk (.own 0 1) [(some (.ints .u8 a0))]) : AV × Blks)) n sz := by kernel_rfl
theorem zslicesGrowbytebyte.call (hmix : Tryd.prog.follows .mixedOrders = true) (n : Nat) (t : Int) (u) (h : zslicesGrowbytebyte.m n t = some u) : FnC Tryd.prog abiG 117 (zslicesGrowbytebyte.shape t).1 (zslicesGrowbytebyte.shape t).2 (zslicesGrowbytebyte.res u).1 (zslicesGrowbytebyte.res u).2 := by
  have hg : ∀ f m, (zslicesGrowbytebyte.C n).Γ f = some m → CalleeS Tryd.prog abiG f m := by
    intro f m hm
    unfold zslicesGrowbytebyte.C at hm
    simp only at hm
    first
    | (cases hm; done)
    | (split at hm <;> first
    | (cases hm; done))
  have hb : Tryd.f117.body = some (Tryd.f117.body.getD .skip) := by kernel_rfl
  refine runF_calls (C := zslicesGrowbytebyte.C n) (A := zslicesGrowbytebyte.A n) (n := n) (fn := Tryd.f117) hg hmix Tryd.func117 hb ?_ ?_ (by decide) rfl rfl (by show 2 ≤ Tryd.f117.ntmps; decide) ?_
  · rw [show loopsIn (Tryd.f117.body.getD .skip) = [] by kernel_rfl]
    intro b hb
    cases hb
  · intro a ha m hm
    cases (show none = some m from hm)
  · rw [show runF (zslicesGrowbytebyte.C n) (zslicesGrowbytebyte.A n) n Tryd.f117 (zslicesGrowbytebyte.shape t).1 (zslicesGrowbytebyte.shape t).2 (fun v o => some (v, o)) = _ from zslicesGrowbytebyte.run n t]
    have e := zslicesGrowbytebyte.gmap zslicesGrowbytebyte.res (fun a0 => a0) n t
    unfold zslicesGrowbytebyte.m at h
    rw [h] at e
    exact e
theorem zslicesGrowbytebyte.s (hmix : Tryd.prog.follows .mixedOrders = true) (n : Nat) : CalleeS Tryd.prog abiG 117 (zslicesGrowbytebyte.c n) :=
  CalleeS.of (res := zslicesGrowbytebyte.res) (shape := zslicesGrowbytebyte.shape) (fun R u K => rfl) (fun args lent t h => by
    unfold zslicesGrowbytebyte.pat at h
    split at h
    · cases h; rfl
    · cases h) fun t u h => (zslicesGrowbytebyte.call hmix n t u h).ok Tryd.func117 (by decide) (by kernel_rfl)
end
section
theorem zslicesConcatbytebyte.l3_0.rmap {α β : Type} (h : β → α) (mk0 : Int → (List AV) → β) (n : Nat) (f : Int → Int → (List AV) → Int → (List AV) → Option β)  (x0 : Int) (x1 : Int) (x2 : (List AV)) (x3 : Int) (x4 : (List AV)) : zslicesConcatbytebyte.l3_0.r (fun a0 a1 => (h (mk0 a0 a1))) n (fun y0 y1 y2 y3 y4 => (f y0 y1 y2 y3 y4).map h) x0 x1 x2 x3 x4 = (zslicesConcatbytebyte.l3_0.r mk0 n f x0 x1 x2 x3 x4).map h := by
  unfold zslicesConcatbytebyte.l3_0.r
  exact (ite_map (ite_map (ite_map (bindO_map fun r10 => (ite_map rfl rfl)) rfl) rfl) rfl)
theorem zslicesConcatbytebyte.l3_0.gmap {α β : Type} (h : β → α) (mk0 : Int → (List AV) → β) (n : Nat) : ∀ (m : Nat) (x0 : Int) (x1 : Int) (x2 : (List AV)) (x3 : Int) (x4 : (List AV)), zslicesConcatbytebyte.l3_0.g (fun a0 a1 => (h (mk0 a0 a1))) n m x0 x1 x2 x3 x4 = (zslicesConcatbytebyte.l3_0.g mk0 n m x0 x1 x2 x3 x4).map h
  | 0, _, _, _, _, _ => rfl
  | m + 1, x0, x1, x2, x3, x4 => by
    unfold zslicesConcatbytebyte.l3_0.g
    rw [← zslicesConcatbytebyte.l3_0.rmap]
    congr
    · funext y0 y1 y2 y3 y4; exact zslicesConcatbytebyte.l3_0.gmap h mk0 n m y0 y1 y2 y3 y4
theorem zslicesConcatbytebyte.l3_0.pat_shape : ∀ st t, zslicesConcatbytebyte.l3_0.pat st = some t → st = zslicesConcatbytebyte.l3_0.shape t := by
  intro st t h
  unfold zslicesConcatbytebyte.l3_0.pat at h
  split at h
  · cases h; rfl
  · cases h
theorem zslicesConcatbytebyte.l3_0.round (n : Nat) (rc : St → Option (Ex × St)) (x0 : Int) (x1 : Int) (x2 : (List AV)) (x3 : Int) (x4 : (List AV)) : roundOf (zslicesConcatbytebyte.C n) (zslicesConcatbytebyte.A n) n zslicesConcatbytebyte.b0 rc ((St.mk [(.int .i64 x0), (.int .i64 x1), (.robjs 26 1 x2), (.int .i64 x3), (.robjs 26 1 x4)] [])) = zslicesConcatbytebyte.l3_0.r (fun a0 a1 => ((Prod.mk (.exit 0) (St.mk [(.int .i64 a0), (.robjs 26 1 a1)] [])) : Ex × St)) n (fun y0 y1 y2 y3 y4 => rc ((St.mk [(.int .i64 y0), (.int .i64 y1), (.robjs 26 1 y2), (.int .i64 y3), (.robjs 26 1 y4)] []))) x0 x1 x2 x3 x4 := by kernel_rfl
theorem zslicesConcatbytebyte.l3_0.loop' (n : Nat) : ∀ (m : Nat) (t : (Int × (Int × ((List AV) × (Int × (List AV)))))), loopOf (roundOf (zslicesConcatbytebyte.C n) (zslicesConcatbytebyte.A n) n zslicesConcatbytebyte.b0) m (zslicesConcatbytebyte.l3_0.shape t) = zslicesConcatbytebyte.l3_0.g (fun a0 a1 => ((Prod.mk (.exit 0) (St.mk [(.int .i64 a0), (.robjs 26 1 a1)] [])) : Ex × St)) n m t.1 t.2.1 t.2.2.1 t.2.2.2.1 t.2.2.2.2 :=
  loop_of_round (shape := zslicesConcatbytebyte.l3_0.shape) (body := roundOf (zslicesConcatbytebyte.C n) (zslicesConcatbytebyte.A n) n zslicesConcatbytebyte.b0) (g := fun m t => zslicesConcatbytebyte.l3_0.g (fun a0 a1 => ((Prod.mk (.exit 0) (St.mk [(.int .i64 a0), (.robjs 26 1 a1)] [])) : Ex × St)) n m t.1 t.2.1 t.2.2.1 t.2.2.2.1 t.2.2.2.2) (fun t => rfl)
    fun m t ih => (zslicesConcatbytebyte.l3_0.round n (loopOf (roundOf (zslicesConcatbytebyte.C n) (zslicesConcatbytebyte.A n) n zslicesConcatbytebyte.b0) m) t.1 t.2.1 t.2.2.1 t.2.2.2.1 t.2.2.2.2).trans (congrFun (congrFun (congrFun (congrFun (congrFun (congrArg (zslicesConcatbytebyte.l3_0.r (fun a0 a1 => ((Prod.mk (.exit 0) (St.mk [(.int .i64 a0), (.robjs 26 1 a1)] [])) : Ex × St)) n) (funext fun y0 => funext fun y1 => funext fun y2 => funext fun y3 => funext fun y4 => ih (y0, y1, y2, y3, y4))) t.1) t.2.1) t.2.2.1) t.2.2.2.1) t.2.2.2.2)
theorem zslicesConcatbytebyte.l3_0.loop (n m : Nat) (t : (Int × (Int × ((List AV) × (Int × (List AV)))))) : loopOf (roundOf (zslicesConcatbytebyte.C n) (zslicesConcatbytebyte.A n) n zslicesConcatbytebyte.b0) m (zslicesConcatbytebyte.l3_0.shape t) = (zslicesConcatbytebyte.l3_0.m n m t).map zslicesConcatbytebyte.l3_0.res :=
  (zslicesConcatbytebyte.l3_0.loop' n m t).trans (zslicesConcatbytebyte.l3_0.gmap zslicesConcatbytebyte.l3_0.res (fun a0 a1 => (a0, a1)) n m t.1 t.2.1 t.2.2.1 t.2.2.2.1 t.2.2.2.2)
theorem zslicesConcatbytebyte.l11_0.rmap {α β : Type} (h : β → α) (mk0 : (List Int) → β) (n : Nat) (f : Int → Int → (List AV) → (List Int) → Option β)  (x0 : Int) (x1 : Int) (x2 : (List AV)) (x3 : (List Int)) : zslicesConcatbytebyte.l11_0.r (fun a0 => (h (mk0 a0))) n (fun y0 y1 y2 y3 => (f y0 y1 y2 y3).map h) x0 x1 x2 x3 = (zslicesConcatbytebyte.l11_0.r mk0 n f x0 x1 x2 x3).map h := by
  unfold zslicesConcatbytebyte.l11_0.r
  exact (ite_map (ite_map (ite_map (bindO_map fun r10 => (ite_map rfl rfl)) rfl) rfl) rfl)
theorem zslicesConcatbytebyte.l11_0.gmap {α β : Type} (h : β → α) (mk0 : (List Int) → β) (n : Nat) : ∀ (m : Nat) (x0 : Int) (x1 : Int) (x2 : (List AV)) (x3 : (List Int)), zslicesConcatbytebyte.l11_0.g (fun a0 => (h (mk0 a0))) n m x0 x1 x2 x3 = (zslicesConcatbytebyte.l11_0.g mk0 n m x0 x1 x2 x3).map h
  | 0, _, _, _, _ => rfl
  | m + 1, x0, x1, x2, x3 => by
    unfold zslicesConcatbytebyte.l11_0.g
    rw [← zslicesConcatbytebyte.l11_0.rmap]
    congr
    · funext y0 y1 y2 y3; exact zslicesConcatbytebyte.l11_0.gmap h mk0 n m y0 y1 y2 y3
theorem zslicesConcatbytebyte.l11_0.pat_shape : ∀ st t, zslicesConcatbytebyte.l11_0.pat st = some t → st = zslicesConcatbytebyte.l11_0.shape t := by
  intro st t h
  unfold zslicesConcatbytebyte.l11_0.pat at h
  split at h
  · cases h; rfl
  · cases h
theorem zslicesConcatbytebyte.l11_0.round (n : Nat) (rc : St → Option (Ex × St)) (x0 : Int) (x1 : Int) (x2 : (List AV)) (x3 : (List Int)) : roundOf (zslicesConcatbytebyte.C n) (zslicesConcatbytebyte.A n) n zslicesConcatbytebyte.b1 rc ((St.mk [(.int .i64 x0), (.int .i64 x1), (.robjs 26 1 x2), (.own 0 1)] [(some (.ints .u8 x3))])) = zslicesConcatbytebyte.l11_0.r (fun a0 => ((Prod.mk (.exit 2) (St.mk [(.own 0 1)] [(some (.ints .u8 a0))])) : Ex × St)) n (fun y0 y1 y2 y3 => rc ((St.mk [(.int .i64 y0), (.int .i64 y1), (.robjs 26 1 y2), (.own 0 1)] [(some (.ints .u8 y3))]))) x0 x1 x2 x3 := by kernel_rfl
theorem zslicesConcatbytebyte.l11_0.loop' (n : Nat) : ∀ (m : Nat) (t : (Int × (Int × ((List AV) × (List Int))))), loopOf (roundOf (zslicesConcatbytebyte.C n) (zslicesConcatbytebyte.A n) n zslicesConcatbytebyte.b1) m (zslicesConcatbytebyte.l11_0.shape t) = zslicesConcatbytebyte.l11_0.g (fun a0 => ((Prod.mk (.exit 2) (St.mk [(.own 0 1)] [(some (.ints .u8 a0))])) : Ex × St)) n m t.1 t.2.1 t.2.2.1 t.2.2.2 :=
  loop_of_round (shape := zslicesConcatbytebyte.l11_0.shape) (body := roundOf (zslicesConcatbytebyte.C n) (zslicesConcatbytebyte.A n) n zslicesConcatbytebyte.b1) (g := fun m t => zslicesConcatbytebyte.l11_0.g (fun a0 => ((Prod.mk (.exit 2) (St.mk [(.own 0 1)] [(some (.ints .u8 a0))])) : Ex × St)) n m t.1 t.2.1 t.2.2.1 t.2.2.2) (fun t => rfl)
    fun m t ih => (zslicesConcatbytebyte.l11_0.round n (loopOf (roundOf (zslicesConcatbytebyte.C n) (zslicesConcatbytebyte.A n) n zslicesConcatbytebyte.b1) m) t.1 t.2.1 t.2.2.1 t.2.2.2).trans (congrFun (congrFun (congrFun (congrFun (congrArg (zslicesConcatbytebyte.l11_0.r (fun a0 => ((Prod.mk (.exit 2) (St.mk [(.own 0 1)] [(some (.ints .u8 a0))])) : Ex × St)) n) (funext fun y0 => funext fun y1 => funext fun y2 => funext fun y3 => ih (y0, y1, y2, y3))) t.1) t.2.1) t.2.2.1) t.2.2.2)
theorem zslicesConcatbytebyte.l11_0.loop (n m : Nat) (t : (Int × (Int × ((List AV) × (List Int))))) : loopOf (roundOf (zslicesConcatbytebyte.C n) (zslicesConcatbytebyte.A n) n zslicesConcatbytebyte.b1) m (zslicesConcatbytebyte.l11_0.shape t) = (zslicesConcatbytebyte.l11_0.m n m t).map zslicesConcatbytebyte.l11_0.res :=
  (zslicesConcatbytebyte.l11_0.loop' n m t).trans (zslicesConcatbytebyte.l11_0.gmap zslicesConcatbytebyte.l11_0.res (fun a0 => a0) n m t.1 t.2.1 t.2.2.1 t.2.2.2)
theorem zslicesConcatbytebyte.gmap {α β : Type} (h : β → α) (mk0 : (List Int) → β) (n : Nat) (a0 : (List AV)) : zslicesConcatbytebyte.g (fun a0 => (h (mk0 a0))) n a0 = (zslicesConcatbytebyte.g mk0 n a0).map h := by
  unfold zslicesConcatbytebyte.g
  exact (bindO_map fun r2 => (bindO_map fun r4 => (bindO_map fun r6 => rfl)))
theorem zslicesConcatbytebyte.run (n : Nat) (a0 : (List AV)) : runF (zslicesConcatbytebyte.C n) (zslicesConcatbytebyte.A n) n Tryd.f99 [(.robjs 26 1 a0)] [] (fun v o => some (v, o)) = zslicesConcatbytebyte.g (fun a0 => ((Prod.mk (.own 0 1) [(some (.ints .u8 a0))]) : AV × Blks)) n a0 := by kernel_rfl
theorem zslicesConcatbytebyte.call (hmix : Tryd.prog.follows .mixedOrders = true) (n : Nat) (t : (List AV)) (u) (h : zslicesConcatbytebyte.m n t = some u) : FnC Tryd.prog abiG 99 (zslicesConcatbytebyte.shape t).1 (zslicesConcatbytebyte.shape t).2 (zslicesConcatbytebyte.res u).1 (zslicesConcatbytebyte.res u).2 := by
  have hg : ∀ f m, (zslicesConcatbytebyte.C n).Γ f = some m → CalleeS Tryd.prog abiG f m := by
    intro f m hm
    unfold zslicesConcatbytebyte.C at hm
    simp only at hm
    first
    | (cases hm; done)
    | (split at hm <;> first
    | (cases hm; exact zslicesGrowbytebyte.s hmix n)
    | (cases hm; done))
  have hb : Tryd.f99.body = some (Tryd.f99.body.getD .skip) := by kernel_rfl
  refine runF_calls (C := zslicesConcatbytebyte.C n) (A := zslicesConcatbytebyte.A n) (n := n) (fn := Tryd.f99) hg hmix Tryd.func99 hb ?_ ?_ (by decide) rfl rfl (by show 1 ≤ Tryd.f99.ntmps; decide) ?_
  · rw [show loopsIn (Tryd.f99.body.getD .skip) = [zslicesConcatbytebyte.b0, zslicesConcatbytebyte.b1] by kernel_rfl]
    intro b hb m hm
    simp only [List.mem_cons, List.not_mem_nil, or_false] at hb
    rcases hb with rfl | rfl
    · have e : (zslicesConcatbytebyte.A n).loop (key zslicesConcatbytebyte.b0) = some (.mk' zslicesConcatbytebyte.l3_0.pat (zslicesConcatbytebyte.l3_0.m n n) zslicesConcatbytebyte.l3_0.resK) := by rw [show key zslicesConcatbytebyte.b0 = 3 by kernel_rfl]; rfl
      rw [e] at hm
      cases hm
      exact (LoopS.of (res := zslicesConcatbytebyte.l3_0.res) (fun R u K => rfl) zslicesConcatbytebyte.l3_0.pat_shape fun t => zslicesConcatbytebyte.l3_0.loop n n t)
    · have e : (zslicesConcatbytebyte.A n).loop (key zslicesConcatbytebyte.b1) = some (.mk' zslicesConcatbytebyte.l11_0.pat (zslicesConcatbytebyte.l11_0.m n n) zslicesConcatbytebyte.l11_0.resK) := by rw [show key zslicesConcatbytebyte.b1 = 11 by kernel_rfl]; rfl
      rw [e] at hm
      cases hm
      exact (LoopS.of (res := zslicesConcatbytebyte.l11_0.res) (fun R u K => rfl) zslicesConcatbytebyte.l11_0.pat_shape fun t => zslicesConcatbytebyte.l11_0.loop n n t)
  · intro a ha m hm
    cases (show none = some m from hm)
  · rw [show runF (zslicesConcatbytebyte.C n) (zslicesConcatbytebyte.A n) n Tryd.f99 (zslicesConcatbytebyte.shape t).1 (zslicesConcatbytebyte.shape t).2 (fun v o => some (v, o)) = _ from zslicesConcatbytebyte.run n t]
    have e := zslicesConcatbytebyte.gmap zslicesConcatbytebyte.res (fun a0 => a0) n t
    unfold zslicesConcatbytebyte.m at h
    rw [h] at e
    exact e
theorem zslicesConcatbytebyte.s (hmix : Tryd.prog.follows .mixedOrders = true) (n : Nat) : CalleeS Tryd.prog abiG 99 (zslicesConcatbytebyte.c n) :=
  CalleeS.of (res := zslicesConcatbytebyte.res) (shape := zslicesConcatbytebyte.shape) (fun R u K => rfl) (fun args lent t h => by
    unfold zslicesConcatbytebyte.pat at h
    split at h
    · cases h; rfl
    · cases h) fun t u h => (zslicesConcatbytebyte.call hmix n t u h).ok Tryd.func99 (by decide) (by kernel_rfl)
end
section
theorem userop_piece.gmap {α β : Type} (h : β → α) (mk0 : Bool → (List Int) → (List Int) → β) (n : Nat) (a0 : (List AV)) : userop_piece.g (fun a0 a1 a2 => (h (mk0 a0 a1 a2))) n a0 = (userop_piece.g mk0 n a0).map h := by
  unfold userop_piece.g
  exact (bindO_map fun r2 => rfl)
theorem userop_piece.run (n : Nat) (a0 : (List AV)) : runF (userop_piece.C n) (userop_piece.A n) n Tryd.f70 [(.robjs 26 1 a0)] [] (fun v o => some (v, o)) = userop_piece.g (fun a0 a1 a2 => ((Prod.mk (.agg [(.bool a0), (.ints .u64 4 a1), (.own 0 1)]) [(some (.ints .u8 a2))]) : AV × Blks)) n a0 := by kernel_rfl
theorem userop_piece.call (hmix : Tryd.prog.follows .mixedOrders = true) (n : Nat) (t : (List AV)) (u) (h : userop_piece.m n t = some u) : FnC Tryd.prog abiG 70 (userop_piece.shape t).1 (userop_piece.shape t).2 (userop_piece.res u).1 (userop_piece.res u).2 := by
  have hg : ∀ f m, (userop_piece.C n).Γ f = some m → CalleeS Tryd.prog abiG f m := by
    intro f m hm
    unfold userop_piece.C at hm
    simp only at hm
    first
    | (cases hm; done)
    | (split at hm <;> first
    | (cases hm; exact zslicesConcatbytebyte.s hmix n)
    | (cases hm; done))
  have hb : Tryd.f70.body = some (Tryd.f70.body.getD .skip) := by kernel_rfl
  refine runF_calls (C := userop_piece.C n) (A := userop_piece.A n) (n := n) (fn := Tryd.f70) hg hmix Tryd.func70 hb ?_ ?_ (by decide) rfl rfl (by show 1 ≤ Tryd.f70.ntmps; decide) ?_
  · rw [show loopsIn (Tryd.f70.body.getD .skip) = [] by kernel_rfl]
    intro b hb
    cases hb
  · intro a ha m hm
    cases (show none = some m from hm)
  · rw [show runF (userop_piece.C n) (userop_piece.A n) n Tryd.f70 (userop_piece.shape t).1 (userop_piece.shape t).2 (fun v o => some (v, o)) = _ from userop_piece.run n t]
    have e := userop_piece.gmap userop_piece.res (fun a0 a1 a2 => (a0, a1, a2)) n t
    unfold userop_piece.m at h
    rw [h] at e
    exact e
theorem userop_piece.s (hmix : Tryd.prog.follows .mixedOrders = true) (n : Nat) : CalleeS Tryd.prog abiG 70 (userop_piece.c n) :=
  CalleeS.of (res := userop_piece.res) (shape := userop_piece.shape) (fun R u K => rfl) (fun args lent t h => by
    unfold userop_piece.pat at h
    split at h
    · cases h; rfl
    · cases h) fun t u h => (userop_piece.call hmix n t u h).ok Tryd.func70 (by decide) (by kernel_rfl)
end
section
theorem userop_half.gmap {α β : Type} (h : β → α) (mk0 : Nat → Nat → (List Int) → β) (n : Nat) (a0 : Int) : userop_half.g (fun a0 a1 a2 => (h (mk0 a0 a1 a2))) n a0 = (userop_half.g mk0 n a0).map h := by
  unfold userop_half.g
  exact (bindO_map fun r2 => (bindO_map fun r4 => (ite_map rfl rfl)))
theorem userop_half.run (n : Nat) (a0 : Int) : runF (userop_half.C n) (userop_half.A n) n Tryd.f73 [(.int .u64 a0)] [] (fun v o => some (v, o)) = userop_half.g (fun a0 a1 a2 => ((Prod.mk (.slice 0 [] a0 a1 1) [(some (.ints .u8 a2))]) : AV × Blks)) n a0 := by kernel_rfl
theorem userop_half.call (hmix : Tryd.prog.follows .mixedOrders = true) (n : Nat) (t : Int) (u) (h : userop_half.m n t = some u) : FnC Tryd.prog abiG 73 (userop_half.shape t).1 (userop_half.shape t).2 (userop_half.res u).1 (userop_half.res u).2 := by
  have hg : ∀ f m, (userop_half.C n).Γ f = some m → CalleeS Tryd.prog abiG f m := by
    intro f m hm
    unfold userop_half.C at hm
    simp only at hm
    first
    | (cases hm; done)
    | (split at hm <;> first
    | (cases hm; exact word_From.s hmix n)
    | (cases hm; exact word_Bytes.s hmix n)
    | (cases hm; done))
  have hb : Tryd.f73.body = some (Tryd.f73.body.getD .skip) := by kernel_rfl
  refine runF_calls (C := userop_half.C n) (A := userop_half.A n) (n := n) (fn := Tryd.f73) hg hmix Tryd.func73 hb ?_ ?_ (by decide) rfl rfl (by show 1 ≤ Tryd.f73.ntmps; decide) ?_
  · rw [show loopsIn (Tryd.f73.body.getD .skip) = [] by kernel_rfl]
    intro b hb
    cases hb
  · intro a ha m hm
    cases (show none = some m from hm)
  · rw [show runF (userop_half.C n) (userop_half.A n) n Tryd.f73 (userop_half.shape t).1 (userop_half.shape t).2 (fun v o => some (v, o)) = _ from userop_half.run n t]
    have e := userop_half.gmap userop_half.res (fun a0 a1 a2 => (a0, a1, a2)) n t
    unfold userop_half.m at h
    rw [h] at e
    exact e
theorem userop_half.s (hmix : Tryd.prog.follows .mixedOrders = true) (n : Nat) : CalleeS Tryd.prog abiG 73 (userop_half.c n) :=
  CalleeS.of (res := userop_half.res) (shape := userop_half.shape) (fun R u K => rfl) (fun args lent t h => by
    unfold userop_half.pat at h
    split at h
    · cases h; rfl
    · cases h) fun t u h => (userop_half.call hmix n t u h).ok Tryd.func73 (by decide) (by kernel_rfl)
end
section
theorem userop_halves.gmap {α β : Type} (h : β → α) (mk0 : (List Int) → β) (n : Nat) (a0 : (List Int)) (a1 : (List Int)) : userop_halves.g (fun a0 => (h (mk0 a0))) n a0 a1 = (userop_halves.g mk0 n a0 a1).map h := by
  unfold userop_halves.g
  exact (bindO_map fun r2 => (bindO_map fun r4 => (bindO_map fun r6 => rfl)))
theorem userop_halves.run (n : Nat) (a0 : (List Int)) (a1 : (List Int)) : runF (userop_halves.C n) (userop_halves.A n) n Tryd.f74 [(.ints .u64 4 a0), (.ints .u64 4 a1)] [] (fun v o => some (v, o)) = userop_halves.g (fun a0 => ((Prod.mk (.ints .u64 4 a0) []) : AV × Blks)) n a0 a1 := by kernel_rfl
theorem userop_halves.call (hmix : Tryd.prog.follows .mixedOrders = true) (n : Nat) (t : ((List Int) × (List Int))) (u) (h : userop_halves.m n t = some u) : FnC Tryd.prog abiG 74 (userop_halves.shape t).1 (userop_halves.shape t).2 (userop_halves.res u).1 (userop_halves.res u).2 := by
  have hg : ∀ f m, (userop_halves.C n).Γ f = some m → CalleeS Tryd.prog abiG f m := by
    intro f m hm
    unfold userop_halves.C at hm
    simp only at hm
    first
    | (cases hm; done)
    | (split at hm <;> first
    | (cases hm; exact word_From.s hmix n)
    | (cases hm; exact word_Shl.s hmix n)
    | (cases hm; exact word_Add.s hmix n)
    | (cases hm; done))
  have hb : Tryd.f74.body = some (Tryd.f74.body.getD .skip) := by kernel_rfl
  refine runF_calls (C := userop_halves.C n) (A := userop_halves.A n) (n := n) (fn := Tryd.f74) hg hmix Tryd.func74 hb ?_ ?_ (by decide) rfl rfl (by show 2 ≤ Tryd.f74.ntmps; decide) ?_
  · rw [show loopsIn (Tryd.f74.body.getD .skip) = [] by kernel_rfl]
    intro b hb
    cases hb
  · intro a ha m hm
    cases (show none = some m from hm)
  · rw [show runF (userop_halves.C n) (userop_halves.A n) n Tryd.f74 (userop_halves.shape t).1 (userop_halves.shape t).2 (fun v o => some (v, o)) = _ from userop_halves.run n t.1 t.2]
    have e := userop_halves.gmap userop_halves.res (fun a0 => a0) n t.1 t.2
    unfold userop_halves.m at h
    rw [h] at e
    exact e
theorem userop_halves.s (hmix : Tryd.prog.follows .mixedOrders = true) (n : Nat) : CalleeS Tryd.prog abiG 74 (userop_halves.c n) :=
  CalleeS.of (res := userop_halves.res) (shape := userop_halves.shape) (fun R u K => rfl) (fun args lent t h => by
    unfold userop_halves.pat at h
    split at h
    · cases h; rfl
    · cases h) fun t u h => (userop_halves.call hmix n t u h).ok Tryd.func74 (by decide) (by kernel_rfl)
end
section
theorem userop_part.gmap {α β : Type} (h : β → α) (mk0 : Bool → (List Int) → β) (n : Nat) (a0 : (List Int)) : userop_part.g (fun a0 a1 => (h (mk0 a0 a1))) n a0 = (userop_part.g mk0 n a0).map h := by
  unfold userop_part.g
  exact rfl
theorem userop_part.run (n : Nat) (a0 : (List Int)) : runF (userop_part.C n) (userop_part.A n) n Tryd.f68 [(.ints .u64 4 a0)] [] (fun v o => some (v, o)) = userop_part.g (fun a0 a1 => ((Prod.mk (.agg [(.bool a0), (.ints .u64 4 a1), .snil]) []) : AV × Blks)) n a0 := by kernel_rfl
theorem userop_part.call (hmix : Tryd.prog.follows .mixedOrders = true) (n : Nat) (t : (List Int)) (u) (h : userop_part.m n t = some u) : FnC Tryd.prog abiG 68 (userop_part.shape t).1 (userop_part.shape t).2 (userop_part.res u).1 (userop_part.res u).2 := by
  have hg : ∀ f m, (userop_part.C n).Γ f = some m → CalleeS Tryd.prog abiG f m := by
    intro f m hm
    unfold userop_part.C at hm
    simp only at hm
    first
    | (cases hm; done)
    | (split at hm <;> first
    | (cases hm; done))
  have hb : Tryd.f68.body = some (Tryd.f68.body.getD .skip) := by kernel_rfl
  refine runF_calls (C := userop_part.C n) (A := userop_part.A n) (n := n) (fn := Tryd.f68) hg hmix Tryd.func68 hb ?_ ?_ (by decide) rfl rfl (by show 1 ≤ Tryd.f68.ntmps; decide) ?_
  · rw [show loopsIn (Tryd.f68.body.getD .skip) = [] by kernel_rfl]
    intro b hb
    cases hb
  · intro a ha m hm
    cases (show none = some m from hm)
  · rw [show runF (userop_part.C n) (userop_part.A n) n Tryd.f68 (userop_part.shape t).1 (userop_part.shape t).2 (fun v o => some (v, o)) = _ from userop_part.run n t]
    have e := userop_part.gmap userop_part.res (fun a0 a1 => (a0, a1)) n t
    unfold userop_part.m at h
    rw [h] at e
    exact e
theorem userop_part.s (hmix : Tryd.prog.follows .mixedOrders = true) (n : Nat) : CalleeS Tryd.prog abiG 68 (userop_part.c n) :=
  CalleeS.of (res := userop_part.res) (shape := userop_part.shape) (fun R u K => rfl) (fun args lent t h => by
    unfold userop_part.pat at h
    split at h
    · cases h; rfl
    · cases h) fun t u h => (userop_part.call hmix n t u h).ok Tryd.func68 (by decide) (by kernel_rfl)
end
