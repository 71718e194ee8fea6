/- What the program's functions compute, as plain functions, each with its proof: the function does just that. Condition: the plain function has an answer. -/
import Derived.Test.YtmpflhdnlkjajaaAbsB5
import Derived.Test.YtmpflhdnlkjajaaProg
import Derived.Test.YtmpflhdnlkjajaaFnWordOrder1
section
set_option linter.unusedVariables false
set_option linter.unusedSimpArgs false
set_option maxRecDepth 100000
open Go Go.Abs Go.Proofs
noncomputable section
/-! word_divide -/
noncomputable def word_divide.C (n : Nat) : Ctx := ⟨Try.prog, (fun _ => .any), fun f => match f with
  | 82 => some (word_wide_size.c n)
  | 34 => some (word_Add.c n)
  | 33 => some (word_Cmp.c n)
  | 32 => some (word_Sub.c n)
  | _ => none⟩
def word_divide.live : Nat → List Nat × List Nat := fun k => match k with
  | 2 => ([6, 5, 2, 3, 4], [4, 5])
  | _ => ([], [])
def word_divide.jlive : Nat → List Nat × List Nat := fun k => match k with
  | _ => ([], [])
def word_divide.l2_0.r {α : Type} (mk0 : (List Int) → (List Int) → α) (n : Nat) (rc : Int → (List Int) → (List Int) → (List Int) → (List Int) → Option α)  (x0 : Int) (x1 : (List Int)) (x2 : (List Int)) (x3 : (List Int)) (x4 : (List Int)) : Option α :=
    if (decide (x0 ≥ 0)) = true then
      bindO (word_Add.m n (Prod.mk x1 x1)) fun r6 =>
        if 0 ≤ (Go.IntKind.wrap .i64 (Int.tdiv x0 64)) then
          if (Go.IntKind.wrap .i64 (Int.tdiv x0 64)) < 8 then
            if 0 ≤ (Int.tmod x0 64) then
              if ((Go.Abs.ishr .u64 (List.getD x1 3 0) 63) != 0) = true then
                bindO (word_Sub.m n (Prod.mk (List.set (Prod.fst r6) 0 (Go.Abs.ibits Go.BinOp.or .u64 (List.getD (Prod.fst r6) 0 0) (Go.Abs.ibits Go.BinOp.and .u64 (Go.Abs.ishr .u64 (List.getD x2 (Int.toNat (Go.IntKind.wrap .i64 (Int.tdiv x0 64))) 0) (Int.tmod x0 64)) 1))) x3)) fun r16 =>
                  if (decide (x0 < 256)) = true then
                    if 0 ≤ (Go.IntKind.wrap .i64 (Int.tdiv x0 64)) then
                      if (Go.IntKind.wrap .i64 (Int.tdiv x0 64)) < 4 then
                        if 0 ≤ (Int.tmod x0 64) then
                          if 0 ≤ (Go.IntKind.wrap .i64 (Int.tdiv x0 64)) then
                            if (Go.IntKind.wrap .i64 (Int.tdiv x0 64)) < 4 then
                              rc (Go.IntKind.wrap .i64 (x0 - 1)) (Prod.fst r16) x2 x3 (List.set x4 (Int.toNat (Go.IntKind.wrap .i64 (Int.tdiv x0 64))) (Go.Abs.ibits Go.BinOp.or .u64 (List.getD x4 (Int.toNat (Go.IntKind.wrap .i64 (Int.tdiv x0 64))) 0) (Go.Abs.ishl .u64 1 (Int.tmod x0 64))))
                            else
                              none
                          else
                            none
                        else
                          none
                      else
                        none
                    else
                      none
                  else
                    rc (Go.IntKind.wrap .i64 (x0 - 1)) (Prod.fst r16) x2 x3 x4
              else
                bindO (word_Cmp.m n (Prod.mk (List.set (Prod.fst r6) 0 (Go.Abs.ibits Go.BinOp.or .u64 (List.getD (Prod.fst r6) 0 0) (Go.Abs.ibits Go.BinOp.and .u64 (Go.Abs.ishr .u64 (List.getD x2 (Int.toNat (Go.IntKind.wrap .i64 (Int.tdiv x0 64))) 0) (Int.tmod x0 64)) 1))) x3)) fun r16 =>
                  if (decide (r16 ≥ 0)) = true then
                    bindO (word_Sub.m n (Prod.mk (List.set (Prod.fst r6) 0 (Go.Abs.ibits Go.BinOp.or .u64 (List.getD (Prod.fst r6) 0 0) (Go.Abs.ibits Go.BinOp.and .u64 (Go.Abs.ishr .u64 (List.getD x2 (Int.toNat (Go.IntKind.wrap .i64 (Int.tdiv x0 64))) 0) (Int.tmod x0 64)) 1))) x3)) fun r20 =>
                      if (decide (x0 < 256)) = true then
                        if 0 ≤ (Go.IntKind.wrap .i64 (Int.tdiv x0 64)) then
                          if (Go.IntKind.wrap .i64 (Int.tdiv x0 64)) < 4 then
                            if 0 ≤ (Int.tmod x0 64) then
                              if 0 ≤ (Go.IntKind.wrap .i64 (Int.tdiv x0 64)) then
                                if (Go.IntKind.wrap .i64 (Int.tdiv x0 64)) < 4 then
                                  rc (Go.IntKind.wrap .i64 (x0 - 1)) (Prod.fst r20) x2 x3 (List.set x4 (Int.toNat (Go.IntKind.wrap .i64 (Int.tdiv x0 64))) (Go.Abs.ibits Go.BinOp.or .u64 (List.getD x4 (Int.toNat (Go.IntKind.wrap .i64 (Int.tdiv x0 64))) 0) (Go.Abs.ishl .u64 1 (Int.tmod x0 64))))
                                else
                                  none
                              else
                                none
                            else
                              none
                          else
                            none
                        else
                          none
                      else
                        rc (Go.IntKind.wrap .i64 (x0 - 1)) (Prod.fst r20) x2 x3 x4
                  else
                    rc (Go.IntKind.wrap .i64 (x0 - 1)) (List.set (Prod.fst r6) 0 (Go.Abs.ibits Go.BinOp.or .u64 (List.getD (Prod.fst r6) 0 0) (Go.Abs.ibits Go.BinOp.and .u64 (Go.Abs.ishr .u64 (List.getD x2 (Int.toNat (Go.IntKind.wrap .i64 (Int.tdiv x0 64))) 0) (Int.tmod x0 64)) 1))) x2 x3 x4
            else
              none
          else
            none
        else
          none
    else
      some (mk0 x4 x1)
def word_divide.l2_0.g {α : Type} (mk0 : (List Int) → (List Int) → α) (n : Nat) : Nat → Int → (List Int) → (List Int) → (List Int) → (List Int) → Option α
  | 0, _, _, _, _, _ => none
  | m + 1, x0, x1, x2, x3, x4 => word_divide.l2_0.r mk0 n (fun y0 y1 y2 y3 y4 => word_divide.l2_0.g mk0 n m y0 y1 y2 y3 y4)  x0 x1 x2 x3 x4
def word_divide.l2_0.m (n m : Nat) (t : (Int × ((List Int) × ((List Int) × ((List Int) × (List Int)))))) : Option ((List Int) × (List Int)) := word_divide.l2_0.g (fun a0 a1 => (a0, a1)) n m t.1 t.2.1 t.2.2.1 t.2.2.2.1 t.2.2.2.2
def word_divide.l2_0.pat : St → Option (Int × ((List Int) × ((List Int) × ((List Int) × (List Int)))))
  | (St.mk [(.int .i64 x0), (.ptr 0 []), (.ptr 1 []), (.ptr 2 []), (.ptr 3 [])] [(some (.var (.ints .u64 4 x1))), (some (.var (.ints .u64 8 x2))), (some (.var (.ints .u64 4 x3))), (some (.var (.ints .u64 4 x4)))]) => some (x0, x1, x2, x3, x4)
  | _ => none
def word_divide.l2_0.shape (t : (Int × ((List Int) × ((List Int) × ((List Int) × (List Int)))))) : St := (St.mk [(.int .i64 t.1), (.ptr 0 []), (.ptr 1 []), (.ptr 2 []), (.ptr 3 [])] [(some (.var (.ints .u64 4 t.2.1))), (some (.var (.ints .u64 8 t.2.2.1))), (some (.var (.ints .u64 4 t.2.2.2.1))), (some (.var (.ints .u64 4 t.2.2.2.2)))])
def word_divide.l2_0.res : ((List Int) × (List Int)) → Ex × St
  | u => (Prod.mk (.exit 0) (St.mk [(.ptr 0 []), (.ptr 1 [])] [(some (.var (.ints .u64 4 u.1))), (some (.var (.ints .u64 4 u.2)))]))
def word_divide.l2_0.resK {R : Type} (u : ((List Int) × (List Int))) (K : Ex → St → Option R) : Option R := (fun p : Ex × St => K p.1 p.2) (Prod.mk (.exit 0) (St.mk [(.ptr 0 []), (.ptr 1 [])] [(some (.var (.ints .u64 4 u.1))), (some (.var (.ints .u64 4 u.2)))]))
noncomputable def word_divide.A (n : Nat) : Ann := ⟨Try.f60.ntmps, 0, word_divide.live, [], [none, none], fun k => match k with
  | 2 => some (.mk' word_divide.l2_0.pat (word_divide.l2_0.m n n) word_divide.l2_0.resK)
  | _ => none, word_divide.jlive, lookJ []⟩
noncomputable def word_divide.b0 : Code := (loopsIn (Try.f60.body.getD .skip)).getD 0 .skip
def word_divide.g {α : Type} (mk0 : (List Int) → (List Int) → α) (n : Nat) (a0 : (List Int)) (a1 : (List Int)) : Option α :=
  bindO (word_wide_size.m n a0) fun r2 =>
    bindO (word_divide.l2_0.m n n ((Go.IntKind.wrap .i64 (r2 - 1)), [0, 0, 0, 0], a0, a1, [0, 0, 0, 0])) fun r4 =>
      some (mk0 (Prod.fst r4) (Prod.snd r4))
def word_divide.m (n : Nat) (t : ((List Int) × (List Int))) : Option ((List Int) × (List Int)) := word_divide.g (fun a0 a1 => (a0, a1)) n t.1 t.2
def word_divide.pat : List AV → Blks → Option ((List Int) × (List Int))
  | [(.ints .u64 8 a0), (.ints .u64 4 a1)], [] => some (a0, a1)
  | _, _ => none
def word_divide.shape (t : ((List Int) × (List Int))) : List AV × Blks := ([(.ints .u64 8 t.1), (.ints .u64 4 t.2)], [])
def word_divide.res : ((List Int) × (List Int)) → AV × Blks
  | u => (Prod.mk (.tup [(.ints .u64 4 u.1), (.ints .u64 4 u.2)]) [])
def word_divide.resK {R : Type} (u : ((List Int) × (List Int))) (K : AV → Blks → Option R) : Option R := (fun p : AV × Blks => K p.1 p.2) (Prod.mk (.tup [(.ints .u64 4 u.1), (.ints .u64 4 u.2)]) [])
def word_divide.c (n : Nat) : Abs.Callee := .mk' [] [none, none] word_divide.pat (word_divide.m n) word_divide.resK
end
end

section
set_option linter.unusedVariables false
set_option linter.unusedSimpArgs false
set_option maxRecDepth 100000
open Go Go.Abs Go.Proofs
noncomputable section
/-! word_Div -/
noncomputable def word_Div.C (n : Nat) : Ctx := ⟨Try.prog, (fun _ => .any), fun f => match f with
  | 61 => some (word_widened.c n)
  | 60 => some (word_divide.c n)
  | _ => none⟩
def word_Div.live : Nat → List Nat × List Nat := fun k => match k with
  | _ => ([], [])
def word_Div.jlive : Nat → List Nat × List Nat := fun k => match k with
  | _ => ([], [])
noncomputable def word_Div.A (n : Nat) : Ann := ⟨Try.f16.ntmps, 0, word_Div.live, [], [none, none], fun k => match k with
  | _ => none, word_Div.jlive, lookJ []⟩
def word_Div.g {α : Type} (mk0 : (List Int) → (List Int) → α) (n : Nat) (a0 : (List Int)) (a1 : (List Int)) : Option α :=
  if (a1 == [0, 0, 0, 0]) = true then
    some (mk0 a1 a1)
  else
    bindO (word_widened.m n a0) fun r4 =>
      bindO (word_divide.m n (Prod.mk r4 a1)) fun r6 =>
        some (mk0 (Prod.fst r6) (Prod.snd r6))
def word_Div.m (n : Nat) (t : ((List Int) × (List Int))) : Option ((List Int) × (List Int)) := word_Div.g (fun a0 a1 => (a0, a1)) n t.1 t.2
def word_Div.pat : List AV → Blks → Option ((List Int) × (List Int))
  | [(.ints .u64 4 a0), (.ints .u64 4 a1)], [] => some (a0, a1)
  | _, _ => none
def word_Div.shape (t : ((List Int) × (List Int))) : List AV × Blks := ([(.ints .u64 4 t.1), (.ints .u64 4 t.2)], [])
def word_Div.res : ((List Int) × (List Int)) → AV × Blks
  | u => (Prod.mk (.tup [(.ints .u64 4 u.1), (.ints .u64 4 u.2)]) [])
def word_Div.resK {R : Type} (u : ((List Int) × (List Int))) (K : AV → Blks → Option R) : Option R := (fun p : AV × Blks => K p.1 p.2) (Prod.mk (.tup [(.ints .u64 4 u.1), (.ints .u64 4 u.2)]) [])
def word_Div.c (n : Nat) : Abs.Callee := .mk' [] [none, none] word_Div.pat (word_Div.m n) word_Div.resK
end
end

section
set_option linter.unusedVariables false
set_option linter.unusedSimpArgs false
set_option maxRecDepth 100000
open Go Go.Abs Go.Proofs
noncomputable section
/-! word_Sdiv -/
noncomputable def word_Sdiv.C (n : Nat) : Ctx := ⟨Try.prog, (fun _ => .any), fun f => match f with
  | 64 => some (word_abs.c n)
  | 16 => some (word_Div.c n)
  | 65 => some (word_negative.c n)
  | 66 => some (word_minus.c n)
  | _ => none⟩
def word_Sdiv.live : Nat → List Nat × List Nat := fun k => match k with
  | _ => ([], [])
def word_Sdiv.jlive : Nat → List Nat × List Nat := fun k => match k with
  | _ => ([], [])
noncomputable def word_Sdiv.A (n : Nat) : Ann := ⟨Try.f18.ntmps, 0, word_Sdiv.live, [], [none, none], fun k => match k with
  | _ => none, word_Sdiv.jlive, lookJ []⟩
def word_Sdiv.g {α : Type} (mk0 : (List Int) → (List Int) → α) (n : Nat) (a0 : (List Int)) (a1 : (List Int)) : Option α :=
  bindO (word_abs.m n a0) fun r2 =>
    bindO (word_abs.m n a1) fun r4 =>
      bindO (word_Div.m n (Prod.mk r2 r4)) fun r6 =>
        bindO (word_negative.m n a0) fun r8 =>
          bindO (word_negative.m n a1) fun r10 =>
            if (!(r8 == r10)) = true then
              bindO (word_minus.m n (Prod.fst r6)) fun r14 =>
                bindO (word_negative.m n a0) fun r16 =>
                  if r16 = true then
                    bindO (word_minus.m n (Prod.snd r6)) fun r20 =>
                      some (mk0 r14 r20)
                  else
                    some (mk0 r14 (Prod.snd r6))
            else
              bindO (word_negative.m n a0) fun r14 =>
                if r14 = true then
                  bindO (word_minus.m n (Prod.snd r6)) fun r18 =>
                    some (mk0 (Prod.fst r6) r18)
                else
                  some (mk0 (Prod.fst r6) (Prod.snd r6))
def word_Sdiv.m (n : Nat) (t : ((List Int) × (List Int))) : Option ((List Int) × (List Int)) := word_Sdiv.g (fun a0 a1 => (a0, a1)) n t.1 t.2
def word_Sdiv.pat : List AV → Blks → Option ((List Int) × (List Int))
  | [(.ints .u64 4 a0), (.ints .u64 4 a1)], [] => some (a0, a1)
  | _, _ => none
def word_Sdiv.shape (t : ((List Int) × (List Int))) : List AV × Blks := ([(.ints .u64 4 t.1), (.ints .u64 4 t.2)], [])
def word_Sdiv.res : ((List Int) × (List Int)) → AV × Blks
  | u => (Prod.mk (.tup [(.ints .u64 4 u.1), (.ints .u64 4 u.2)]) [])
def word_Sdiv.resK {R : Type} (u : ((List Int) × (List Int))) (K : AV → Blks → Option R) : Option R := (fun p : AV × Blks => K p.1 p.2) (Prod.mk (.tup [(.ints .u64 4 u.1), (.ints .u64 4 u.2)]) [])
def word_Sdiv.c (n : Nat) : Abs.Callee := .mk' [] [none, none] word_Sdiv.pat (word_Sdiv.m n) word_Sdiv.resK
end
end

section
set_option linter.unusedVariables false
set_option linter.unusedSimpArgs false
set_option maxRecDepth 100000
open Go Go.Abs Go.Proofs
noncomputable section
/-! word_MulMod -/
noncomputable def word_MulMod.C (n : Nat) : Ctx := ⟨Try.prog, (fun _ => .any), fun f => match f with
  | 79 => some (word_product.c n)
  | 60 => some (word_divide.c n)
  | _ => none⟩
def word_MulMod.live : Nat → List Nat × List Nat := fun k => match k with
  | _ => ([], [])
def word_MulMod.jlive : Nat → List Nat × List Nat := fun k => match k with
  | _ => ([], [])
noncomputable def word_MulMod.A (n : Nat) : Ann := ⟨Try.f44.ntmps, 0, word_MulMod.live, [], [none], fun k => match k with
  | _ => none, word_MulMod.jlive, lookJ []⟩
def word_MulMod.g {α : Type} (mk0 : (List Int) → α) (n : Nat) (a0 : (List Int)) (a1 : (List Int)) (a2 : (List Int)) : Option α :=
  if (a2 == [0, 0, 0, 0]) = true then
    some (mk0 a2)
  else
    bindO (word_product.m n (Prod.mk a0 a1)) fun r4 =>
      bindO (word_divide.m n (Prod.mk r4 a2)) fun r6 =>
        some (mk0 (Prod.snd r6))
def word_MulMod.m (n : Nat) (t : ((List Int) × ((List Int) × (List Int)))) : Option (List Int) := word_MulMod.g (fun a0 => a0) n t.1 t.2.1 t.2.2
def word_MulMod.pat : List AV → Blks → Option ((List Int) × ((List Int) × (List Int)))
  | [(.ints .u64 4 a0), (.ints .u64 4 a1), (.ints .u64 4 a2)], [] => some (a0, a1, a2)
  | _, _ => none
def word_MulMod.shape (t : ((List Int) × ((List Int) × (List Int)))) : List AV × Blks := ([(.ints .u64 4 t.1), (.ints .u64 4 t.2.1), (.ints .u64 4 t.2.2)], [])
def word_MulMod.res : (List Int) → AV × Blks
  | u => (Prod.mk (.ints .u64 4 u) [])
def word_MulMod.resK {R : Type} (u : (List Int)) (K : AV → Blks → Option R) : Option R := (fun p : AV × Blks => K p.1 p.2) (Prod.mk (.ints .u64 4 u) [])
def word_MulMod.c (n : Nat) : Abs.Callee := .mk' [] [none, none, none] word_MulMod.pat (word_MulMod.m n) word_MulMod.resK
end
end

section
set_option linter.unusedVariables false
set_option linter.unusedSimpArgs false
set_option maxRecDepth 100000
open Go Go.Abs Go.Proofs
noncomputable section
/-! word_Small -/
noncomputable def word_Small.C (n : Nat) : Ctx := ⟨Try.prog, (fun _ => .any), fun f => match f with
  | _ => none⟩
def word_Small.live : Nat → List Nat × List Nat := fun k => match k with
  | _ => ([], [])
def word_Small.jlive : Nat → List Nat × List Nat := fun k => match k with
  | _ => ([], [])
noncomputable def word_Small.A (n : Nat) : Ann := ⟨Try.f48.ntmps, 0, word_Small.live, [], [none, none], fun k => match k with
  | _ => none, word_Small.jlive, lookJ []⟩
def word_Small.g {α : Type} (mk0 : Int → Bool → α) (n : Nat) (a0 : (List Int)) : Option α :=
  if ((Go.Abs.ibits Go.BinOp.or .u64 (Go.Abs.ibits Go.BinOp.or .u64 (List.getD a0 1 0) (List.getD a0 2 0)) (List.getD a0 3 0)) != 0) = true then
    some (mk0 0 false)
  else
    some (mk0 (List.getD a0 0 0) true)
def word_Small.m (n : Nat) (t : (List Int)) : Option (Int × Bool) := word_Small.g (fun a0 a1 => (a0, a1)) n t
def word_Small.pat : List AV → Blks → Option (List Int)
  | [(.ints .u64 4 a0)], [] => some a0
  | _, _ => none
def word_Small.shape (t : (List Int)) : List AV × Blks := ([(.ints .u64 4 t)], [])
def word_Small.res : (Int × Bool) → AV × Blks
  | u => (Prod.mk (.tup [(.int .u64 u.1), (.bool u.2)]) [])
def word_Small.resK {R : Type} (u : (Int × Bool)) (K : AV → Blks → Option R) : Option R := (fun p : AV × Blks => K p.1 p.2) (Prod.mk (.tup [(.int .u64 u.1), (.bool u.2)]) [])
def word_Small.c (n : Nat) : Abs.Callee := .mk' [] [none] word_Small.pat (word_Small.m n) word_Small.resK
end
end

section
set_option linter.unusedVariables false
set_option linter.unusedSimpArgs false
set_option maxRecDepth 100000
open Go Go.Abs Go.Proofs
noncomputable section
/-! word_From -/
noncomputable def word_From.C (n : Nat) : Ctx := ⟨Try.prog, (fun _ => .any), fun f => match f with
  | _ => none⟩
def word_From.live : Nat → List Nat × List Nat := fun k => match k with
  | _ => ([], [])
def word_From.jlive : Nat → List Nat × List Nat := fun k => match k with
  | _ => ([], [])
noncomputable def word_From.A (n : Nat) : Ann := ⟨Try.f55.ntmps, 0, word_From.live, [], [none], fun k => match k with
  | _ => none, word_From.jlive, lookJ []⟩
def word_From.g {α : Type} (mk0 : (List Int) → α) (n : Nat) (a0 : Int) : Option α :=
  some (mk0 [a0, 0, 0, 0])
def word_From.m (n : Nat) (t : Int) : Option (List Int) := word_From.g (fun a0 => a0) n t
def word_From.pat : List AV → Blks → Option Int
  | [(.int .u64 a0)], [] => some a0
  | _, _ => none
def word_From.shape (t : Int) : List AV × Blks := ([(.int .u64 t)], [])
def word_From.res : (List Int) → AV × Blks
  | u => (Prod.mk (.ints .u64 4 u) [])
def word_From.resK {R : Type} (u : (List Int)) (K : AV → Blks → Option R) : Option R := (fun p : AV × Blks => K p.1 p.2) (Prod.mk (.ints .u64 4 u) [])
def word_From.c (n : Nat) : Abs.Callee := .mk' [] [none] word_From.pat (word_From.m n) word_From.resK
end
end

section
set_option linter.unusedVariables false
set_option linter.unusedSimpArgs false
set_option maxRecDepth 100000
open Go Go.Abs Go.Proofs
noncomputable section
/-! word_far -/
noncomputable def word_far.C (n : Nat) : Ctx := ⟨Try.prog, (fun _ => .any), fun f => match f with
  | 48 => some (word_Small.c n)
  | _ => none⟩
def word_far.live : Nat → List Nat × List Nat := fun k => match k with
  | _ => ([], [])
def word_far.jlive : Nat → List Nat × List Nat := fun k => match k with
  | _ => ([], [])
noncomputable def word_far.A (n : Nat) : Ann := ⟨Try.f72.ntmps, 0, word_far.live, [], [none], fun k => match k with
  | _ => none, word_far.jlive, lookJ []⟩
def word_far.g {α : Type} (mk0 : Int → α) (n : Nat) (a0 : (List Int)) : Option α :=
  bindO (word_Small.m n a0) fun r2 =>
    if (!(Prod.snd r2)) = true then
      some (mk0 256)
    else
      some (mk0 (if 256 < (Prod.fst r2) then 256 else (Prod.fst r2)))
def word_far.m (n : Nat) (t : (List Int)) : Option Int := word_far.g (fun a0 => a0) n t
def word_far.pat : List AV → Blks → Option (List Int)
  | [(.ints .u64 4 a0)], [] => some a0
  | _, _ => none
def word_far.shape (t : (List Int)) : List AV × Blks := ([(.ints .u64 4 t)], [])
def word_far.res : Int → AV × Blks
  | u => (Prod.mk (.int .u64 u) [])
def word_far.resK {R : Type} (u : Int) (K : AV → Blks → Option R) : Option R := (fun p : AV × Blks => K p.1 p.2) (Prod.mk (.int .u64 u) [])
def word_far.c (n : Nat) : Abs.Callee := .mk' [] [none] word_far.pat (word_far.m n) word_far.resK
end
end

section
set_option linter.unusedVariables false
set_option linter.unusedSimpArgs false
set_option maxRecDepth 100000
open Go Go.Abs Go.Proofs
noncomputable section
/-! word_Shl -/
noncomputable def word_Shl.C (n : Nat) : Ctx := ⟨Try.prog, (fun _ => .any), fun f => match f with
  | 72 => some (word_far.c n)
  | _ => none⟩
def word_Shl.live : Nat → List Nat × List Nat := fun k => match k with
  | 4 => ([11, 5, 3, 6, 4], [6, 4])
  | _ => ([], [])
def word_Shl.jlive : Nat → List Nat × List Nat := fun k => match k with
  | _ => ([], [])
def word_Shl.l4_0.r {α : Type} (mk0 : (List Int) → (List Int) → α) (n : Nat) (rc : Int → Int → (List Int) → (List Int) → (List Int) → Option α)  (x0 : Int) (x1 : Int) (x2 : (List Int)) (x3 : (List Int)) (x4 : (List Int)) : Option α :=
    if (decide (x0 < 4)) = true then
      if (decide ((Go.IntKind.wrap .i64 (x0 - (Go.IntKind.wrap .i64 (Go.IntKind.wrap .u64 (Int.tdiv x1 64))))) ≥ 0)) = true then
        if 0 ≤ (Go.IntKind.wrap .i64 (x0 - (Go.IntKind.wrap .i64 (Go.IntKind.wrap .u64 (Int.tdiv x1 64))))) then
          if (Go.IntKind.wrap .i64 (x0 - (Go.IntKind.wrap .i64 (Go.IntKind.wrap .u64 (Int.tdiv x1 64))))) < 4 then
            if 0 ≤ (Int.tmod x1 64) then
              if 0 ≤ x0 then
                if x0 < 4 then
                  if (decide ((Go.IntKind.wrap .i64 (x0 - (Go.IntKind.wrap .i64 (Go.IntKind.wrap .u64 (Int.tdiv x1 64))))) > 0)) = true then
                    if ((Int.tmod x1 64) != 0) = true then
                      if 0 ≤ x0 then
                        if x0 < 4 then
                          if 0 ≤ (Go.IntKind.wrap .i64 ((Go.IntKind.wrap .i64 (x0 - (Go.IntKind.wrap .i64 (Go.IntKind.wrap .u64 (Int.tdiv x1 64))))) - 1)) then
                            if (Go.IntKind.wrap .i64 ((Go.IntKind.wrap .i64 (x0 - (Go.IntKind.wrap .i64 (Go.IntKind.wrap .u64 (Int.tdiv x1 64))))) - 1)) < 4 then
                              if 0 ≤ (Go.IntKind.wrap .u64 (64 - (Int.tmod x1 64))) then
                                if 0 ≤ x0 then
                                  if x0 < 4 then
                                    rc (Go.IntKind.wrap .i64 (x0 + 1)) x1 x2 (List.set (List.set x3 (Int.toNat x0) (Go.Abs.ishl .u64 (List.getD x2 (Int.toNat (Go.IntKind.wrap .i64 (x0 - (Go.IntKind.wrap .i64 (Go.IntKind.wrap .u64 (Int.tdiv x1 64)))))) 0) (Int.tmod x1 64))) (Int.toNat x0) (Go.Abs.ibits Go.BinOp.or .u64 (List.getD (List.set x3 (Int.toNat x0) (Go.Abs.ishl .u64 (List.getD x2 (Int.toNat (Go.IntKind.wrap .i64 (x0 - (Go.IntKind.wrap .i64 (Go.IntKind.wrap .u64 (Int.tdiv x1 64)))))) 0) (Int.tmod x1 64))) (Int.toNat x0) 0) (Go.Abs.ishr .u64 (List.getD x2 (Int.toNat (Go.IntKind.wrap .i64 ((Go.IntKind.wrap .i64 (x0 - (Go.IntKind.wrap .i64 (Go.IntKind.wrap .u64 (Int.tdiv x1 64))))) - 1))) 0) (Go.IntKind.wrap .u64 (64 - (Int.tmod x1 64)))))) x4
                                  else
                                    none
                                else
                                  none
                              else
                                none
                            else
                              none
                          else
                            none
                        else
                          none
                      else
                        none
                    else
                      rc (Go.IntKind.wrap .i64 (x0 + 1)) x1 x2 (List.set x3 (Int.toNat x0) (Go.Abs.ishl .u64 (List.getD x2 (Int.toNat (Go.IntKind.wrap .i64 (x0 - (Go.IntKind.wrap .i64 (Go.IntKind.wrap .u64 (Int.tdiv x1 64)))))) 0) (Int.tmod x1 64))) x4
                  else
                    rc (Go.IntKind.wrap .i64 (x0 + 1)) x1 x2 (List.set x3 (Int.toNat x0) (Go.Abs.ishl .u64 (List.getD x2 (Int.toNat (Go.IntKind.wrap .i64 (x0 - (Go.IntKind.wrap .i64 (Go.IntKind.wrap .u64 (Int.tdiv x1 64)))))) 0) (Int.tmod x1 64))) x4
                else
                  none
              else
                none
            else
              none
          else
            none
        else
          none
      else
        if (decide ((Go.IntKind.wrap .i64 (x0 - (Go.IntKind.wrap .i64 (Go.IntKind.wrap .u64 (Int.tdiv x1 64))))) > 0)) = true then
          if ((Int.tmod x1 64) != 0) = true then
            if 0 ≤ x0 then
              if x0 < 4 then
                if 0 ≤ (Go.IntKind.wrap .i64 ((Go.IntKind.wrap .i64 (x0 - (Go.IntKind.wrap .i64 (Go.IntKind.wrap .u64 (Int.tdiv x1 64))))) - 1)) then
                  if (Go.IntKind.wrap .i64 ((Go.IntKind.wrap .i64 (x0 - (Go.IntKind.wrap .i64 (Go.IntKind.wrap .u64 (Int.tdiv x1 64))))) - 1)) < 4 then
                    if 0 ≤ (Go.IntKind.wrap .u64 (64 - (Int.tmod x1 64))) then
                      if 0 ≤ x0 then
                        if x0 < 4 then
                          rc (Go.IntKind.wrap .i64 (x0 + 1)) x1 x2 (List.set x3 (Int.toNat x0) (Go.Abs.ibits Go.BinOp.or .u64 (List.getD x3 (Int.toNat x0) 0) (Go.Abs.ishr .u64 (List.getD x2 (Int.toNat (Go.IntKind.wrap .i64 ((Go.IntKind.wrap .i64 (x0 - (Go.IntKind.wrap .i64 (Go.IntKind.wrap .u64 (Int.tdiv x1 64))))) - 1))) 0) (Go.IntKind.wrap .u64 (64 - (Int.tmod x1 64)))))) x4
                        else
                          none
                      else
                        none
                    else
                      none
                  else
                    none
                else
                  none
              else
                none
            else
              none
          else
            rc (Go.IntKind.wrap .i64 (x0 + 1)) x1 x2 x3 x4
        else
          rc (Go.IntKind.wrap .i64 (x0 + 1)) x1 x2 x3 x4
    else
      some (mk0 x3 x4)
def word_Shl.l4_0.g {α : Type} (mk0 : (List Int) → (List Int) → α) (n : Nat) : Nat → Int → Int → (List Int) → (List Int) → (List Int) → Option α
  | 0, _, _, _, _, _ => none
  | m + 1, x0, x1, x2, x3, x4 => word_Shl.l4_0.r mk0 n (fun y0 y1 y2 y3 y4 => word_Shl.l4_0.g mk0 n m y0 y1 y2 y3 y4)  x0 x1 x2 x3 x4
def word_Shl.l4_0.m (n m : Nat) (t : (Int × (Int × ((List Int) × ((List Int) × (List Int)))))) : Option ((List Int) × (List Int)) := word_Shl.l4_0.g (fun a0 a1 => (a0, a1)) n m t.1 t.2.1 t.2.2.1 t.2.2.2.1 t.2.2.2.2
def word_Shl.l4_0.pat : St → Option (Int × (Int × ((List Int) × ((List Int) × (List Int)))))
  | (St.mk [(.int .i64 x0), (.int .u64 x1), (.ptr 0 []), (.ptr 1 []), (.ptr 2 [])] [(some (.var (.ints .u64 4 x2))), (some (.var (.ints .u64 4 x3))), (some (.var (.ints .u64 4 x4)))]) => some (x0, x1, x2, x3, x4)
  | _ => none
def word_Shl.l4_0.shape (t : (Int × (Int × ((List Int) × ((List Int) × (List Int)))))) : St := (St.mk [(.int .i64 t.1), (.int .u64 t.2.1), (.ptr 0 []), (.ptr 1 []), (.ptr 2 [])] [(some (.var (.ints .u64 4 t.2.2.1))), (some (.var (.ints .u64 4 t.2.2.2.1))), (some (.var (.ints .u64 4 t.2.2.2.2)))])
def word_Shl.l4_0.res : ((List Int) × (List Int)) → Ex × St
  | u => (Prod.mk (.exit 0) (St.mk [(.ptr 0 []), (.ptr 1 [])] [(some (.var (.ints .u64 4 u.1))), (some (.var (.ints .u64 4 u.2)))]))
def word_Shl.l4_0.resK {R : Type} (u : ((List Int) × (List Int))) (K : Ex → St → Option R) : Option R := (fun p : Ex × St => K p.1 p.2) (Prod.mk (.exit 0) (St.mk [(.ptr 0 []), (.ptr 1 [])] [(some (.var (.ints .u64 4 u.1))), (some (.var (.ints .u64 4 u.2)))]))
noncomputable def word_Shl.A (n : Nat) : Ann := ⟨Try.f23.ntmps, 0, word_Shl.live, [], [none], fun k => match k with
  | 4 => some (.mk' word_Shl.l4_0.pat (word_Shl.l4_0.m n n) word_Shl.l4_0.resK)
  | _ => none, word_Shl.jlive, lookJ []⟩
noncomputable def word_Shl.b0 : Code := (loopsIn (Try.f23.body.getD .skip)).getD 0 .skip
def word_Shl.g {α : Type} (mk0 : (List Int) → α) (n : Nat) (a0 : (List Int)) (a1 : (List Int)) : Option α :=
  bindO (word_far.m n a0) fun r2 =>
    bindO (word_Shl.l4_0.m n n (0, r2, a1, [0, 0, 0, 0], [0, 0, 0, 0])) fun r4 =>
      some (mk0 (Prod.fst r4))
def word_Shl.m (n : Nat) (t : ((List Int) × (List Int))) : Option (List Int) := word_Shl.g (fun a0 => a0) n t.1 t.2
def word_Shl.pat : List AV → Blks → Option ((List Int) × (List Int))
  | [(.ints .u64 4 a0), (.ints .u64 4 a1)], [] => some (a0, a1)
  | _, _ => none
def word_Shl.shape (t : ((List Int) × (List Int))) : List AV × Blks := ([(.ints .u64 4 t.1), (.ints .u64 4 t.2)], [])
def word_Shl.res : (List Int) → AV × Blks
  | u => (Prod.mk (.ints .u64 4 u) [])
def word_Shl.resK {R : Type} (u : (List Int)) (K : AV → Blks → Option R) : Option R := (fun p : AV × Blks => K p.1 p.2) (Prod.mk (.ints .u64 4 u) [])
def word_Shl.c (n : Nat) : Abs.Callee := .mk' [] [none, none] word_Shl.pat (word_Shl.m n) word_Shl.resK
end
end

section
set_option linter.unusedVariables false
set_option linter.unusedSimpArgs false
set_option maxRecDepth 100000
open Go Go.Abs Go.Proofs
noncomputable section
/-! word_rightS1 -/
noncomputable def word_rightS1.C (n : Nat) : Ctx := ⟨Try.prog, (fun _ => .any), fun f => match f with
  | _ => none⟩
def word_rightS1.live : Nat → List Nat × List Nat := fun k => match k with
  | _ => ([], [])
def word_rightS1.jlive : Nat → List Nat × List Nat := fun k => match k with
  | _ => ([], [])
noncomputable def word_rightS1.A (n : Nat) : Ann := ⟨Try.f85.ntmps, 0, word_rightS1.live, [], [none], fun k => match k with
  | _ => none, word_rightS1.jlive, lookJ []⟩
def word_rightS1.g {α : Type} (mk0 : Int → α) (n : Nat) (i : Int) (f : Int) (a : (List Int)) : Option α :=
  if (decide (i > 3)) = true then
    some (mk0 f)
  else
    if 0 ≤ i then
      if i < 4 then
        some (mk0 (List.getD a (Int.toNat i) 0))
      else
        none
    else
      none
def word_rightS1.m (n : Nat) (t : (Int × (Int × (List Int)))) : Option Int := word_rightS1.g (fun a0 => a0) n t.1 t.2.1 t.2.2
def word_rightS1.pat : List AV → Blks → Option (Int × (Int × (List Int)))
  | [(.int .i64 i), (.rptr (.int .u64 f)), (.rptr (.ints .u64 4 a))], [] => some (i, f, a)
  | _, _ => none
def word_rightS1.shape (t : (Int × (Int × (List Int)))) : List AV × Blks := ([(.int .i64 t.1), (.rptr (.int .u64 t.2.1)), (.rptr (.ints .u64 4 t.2.2))], [])
def word_rightS1.res : Int → AV × Blks
  | u => (Prod.mk (.int .u64 u) [])
def word_rightS1.resK {R : Type} (u : Int) (K : AV → Blks → Option R) : Option R := (fun p : AV × Blks => K p.1 p.2) (Prod.mk (.int .u64 u) [])
def word_rightS1.c (n : Nat) : Abs.Callee := .mk' [] [none] word_rightS1.pat (word_rightS1.m n) word_rightS1.resK
end
end

section
set_option linter.unusedVariables false
set_option linter.unusedSimpArgs false
set_option maxRecDepth 100000
open Go Go.Abs Go.Proofs
noncomputable section
/-! word_right -/
noncomputable def word_right.C (n : Nat) : Ctx := ⟨Try.prog, (fun _ => .any), fun f => match f with
  | 85 => some (word_rightS1.c n)
  | _ => none⟩
def word_right.live : Nat → List Nat × List Nat := fun k => match k with
  | 4 => ([12, 0, 7, 8, 6], [8, 6])
  | _ => ([], [])
def word_right.jlive : Nat → List Nat × List Nat := fun k => match k with
  | _ => ([], [])
def word_right.l4_0.r {α : Type} (mk0 : (List Int) → (List Int) → α) (n : Nat) (rc : Int → Int → Int → (List Int) → (List Int) → (List Int) → Option α)  (x0 : Int) (x1 : Int) (x2 : Int) (x3 : (List Int)) (x4 : (List Int)) (x5 : (List Int)) : Option α :=
    if (decide (x0 < 4)) = true then
      bindO (word_rightS1.m n (Prod.mk (Go.IntKind.wrap .i64 (x0 + (Go.IntKind.wrap .i64 (Go.IntKind.wrap .u64 (Int.tdiv x1 64))))) (Prod.mk x2 x3))) fun r6 =>
        if 0 ≤ (Int.tmod x1 64) then
          if 0 ≤ x0 then
            if x0 < 4 then
              if ((Int.tmod x1 64) != 0) = true then
                if 0 ≤ x0 then
                  if x0 < 4 then
                    bindO (word_rightS1.m n (Prod.mk (Go.IntKind.wrap .i64 ((Go.IntKind.wrap .i64 (x0 + (Go.IntKind.wrap .i64 (Go.IntKind.wrap .u64 (Int.tdiv x1 64))))) + 1)) (Prod.mk x2 x3))) fun r20 =>
                      if 0 ≤ (Go.IntKind.wrap .u64 (64 - (Int.tmod x1 64))) then
                        if 0 ≤ x0 then
                          if x0 < 4 then
                            rc (Go.IntKind.wrap .i64 (x0 + 1)) x1 x2 x3 (List.set (List.set x4 (Int.toNat x0) (Go.Abs.ishr .u64 r6 (Int.tmod x1 64))) (Int.toNat x0) (Go.Abs.ibits Go.BinOp.or .u64 (List.getD (List.set x4 (Int.toNat x0) (Go.Abs.ishr .u64 r6 (Int.tmod x1 64))) (Int.toNat x0) 0) (Go.Abs.ishl .u64 r20 (Go.IntKind.wrap .u64 (64 - (Int.tmod x1 64)))))) x5
                          else
                            none
                        else
                          none
                      else
                        none
                  else
                    none
                else
                  none
              else
                rc (Go.IntKind.wrap .i64 (x0 + 1)) x1 x2 x3 (List.set x4 (Int.toNat x0) (Go.Abs.ishr .u64 r6 (Int.tmod x1 64))) x5
            else
              none
          else
            none
        else
          none
    else
      some (mk0 x4 x5)
def word_right.l4_0.g {α : Type} (mk0 : (List Int) → (List Int) → α) (n : Nat) : Nat → Int → Int → Int → (List Int) → (List Int) → (List Int) → Option α
  | 0, _, _, _, _, _, _ => none
  | m + 1, x0, x1, x2, x3, x4, x5 => word_right.l4_0.r mk0 n (fun y0 y1 y2 y3 y4 y5 => word_right.l4_0.g mk0 n m y0 y1 y2 y3 y4 y5)  x0 x1 x2 x3 x4 x5
def word_right.l4_0.m (n m : Nat) (t : (Int × (Int × (Int × ((List Int) × ((List Int) × (List Int))))))) : Option ((List Int) × (List Int)) := word_right.l4_0.g (fun a0 a1 => (a0, a1)) n m t.1 t.2.1 t.2.2.1 t.2.2.2.1 t.2.2.2.2.1 t.2.2.2.2.2
def word_right.l4_0.pat : St → Option (Int × (Int × (Int × ((List Int) × ((List Int) × (List Int))))))
  | (St.mk [(.int .i64 x0), (.int .u64 x1), (.fn (.func 85) [] [(.ptr 0 []), (.ptr 1 [])]), (.ptr 2 []), (.ptr 3 [])] [(some (.var (.int .u64 x2))), (some (.var (.ints .u64 4 x3))), (some (.var (.ints .u64 4 x4))), (some (.var (.ints .u64 4 x5)))]) => some (x0, x1, x2, x3, x4, x5)
  | _ => none
def word_right.l4_0.shape (t : (Int × (Int × (Int × ((List Int) × ((List Int) × (List Int))))))) : St := (St.mk [(.int .i64 t.1), (.int .u64 t.2.1), (.fn (.func 85) [] [(.ptr 0 []), (.ptr 1 [])]), (.ptr 2 []), (.ptr 3 [])] [(some (.var (.int .u64 t.2.2.1))), (some (.var (.ints .u64 4 t.2.2.2.1))), (some (.var (.ints .u64 4 t.2.2.2.2.1))), (some (.var (.ints .u64 4 t.2.2.2.2.2)))])
def word_right.l4_0.res : ((List Int) × (List Int)) → Ex × St
  | u => (Prod.mk (.exit 0) (St.mk [(.ptr 0 []), (.ptr 1 [])] [(some (.var (.ints .u64 4 u.1))), (some (.var (.ints .u64 4 u.2)))]))
def word_right.l4_0.resK {R : Type} (u : ((List Int) × (List Int))) (K : Ex → St → Option R) : Option R := (fun p : Ex × St => K p.1 p.2) (Prod.mk (.exit 0) (St.mk [(.ptr 0 []), (.ptr 1 [])] [(some (.var (.ints .u64 4 u.1))), (some (.var (.ints .u64 4 u.2)))]))
noncomputable def word_right.A (n : Nat) : Ann := ⟨Try.f75.ntmps, 0, word_right.live, [], [none], fun k => match k with
  | 4 => some (.mk' word_right.l4_0.pat (word_right.l4_0.m n n) word_right.l4_0.resK)
  | _ => none, word_right.jlive, lookJ []⟩
noncomputable def word_right.b0 : Code := (loopsIn (Try.f75.body.getD .skip)).getD 0 .skip
def word_right.g {α : Type} (mk0 : (List Int) → α) (n : Nat) (a0 : Int) (a1 : (List Int)) (a2 : Int) : Option α :=
  bindO (word_right.l4_0.m n n (0, a0, a2, a1, [0, 0, 0, 0], [0, 0, 0, 0])) fun r2 =>
    some (mk0 (Prod.fst r2))
def word_right.m (n : Nat) (t : (Int × ((List Int) × Int))) : Option (List Int) := word_right.g (fun a0 => a0) n t.1 t.2.1 t.2.2
def word_right.pat : List AV → Blks → Option (Int × ((List Int) × Int))
  | [(.int .u64 a0), (.ints .u64 4 a1), (.int .u64 a2)], [] => some (a0, a1, a2)
  | _, _ => none
def word_right.shape (t : (Int × ((List Int) × Int))) : List AV × Blks := ([(.int .u64 t.1), (.ints .u64 4 t.2.1), (.int .u64 t.2.2)], [])
def word_right.res : (List Int) → AV × Blks
  | u => (Prod.mk (.ints .u64 4 u) [])
def word_right.resK {R : Type} (u : (List Int)) (K : AV → Blks → Option R) : Option R := (fun p : AV × Blks => K p.1 p.2) (Prod.mk (.ints .u64 4 u) [])
def word_right.c (n : Nat) : Abs.Callee := .mk' [] [none, none, none] word_right.pat (word_right.m n) word_right.resK
end
end

section
set_option linter.unusedVariables false
set_option linter.unusedSimpArgs false
set_option maxRecDepth 100000
open Go Go.Abs Go.Proofs
noncomputable section
/-! word_Sar -/
noncomputable def word_Sar.C (n : Nat) : Ctx := ⟨Try.prog, (fun _ => .any), fun f => match f with
  | 65 => some (word_negative.c n)
  | 72 => some (word_far.c n)
  | 75 => some (word_right.c n)
  | _ => none⟩
def word_Sar.live : Nat → List Nat × List Nat := fun k => match k with
  | _ => ([], [])
def word_Sar.jlive : Nat → List Nat × List Nat := fun k => match k with
  | _ => ([], [])
noncomputable def word_Sar.A (n : Nat) : Ann := ⟨Try.f27.ntmps, 0, word_Sar.live, [], [none], fun k => match k with
  | _ => none, word_Sar.jlive, lookJ []⟩
def word_Sar.g {α : Type} (mk0 : (List Int) → α) (n : Nat) (a0 : (List Int)) (a1 : (List Int)) : Option α :=
  bindO (word_negative.m n a1) fun r2 =>
    if r2 = true then
      bindO (word_far.m n a0) fun r6 =>
        bindO (word_right.m n (Prod.mk r6 (Prod.mk a1 18446744073709551615))) fun r8 =>
          some (mk0 r8)
    else
      bindO (word_far.m n a0) fun r6 =>
        bindO (word_right.m n (Prod.mk r6 (Prod.mk a1 0))) fun r8 =>
          some (mk0 r8)
def word_Sar.m (n : Nat) (t : ((List Int) × (List Int))) : Option (List Int) := word_Sar.g (fun a0 => a0) n t.1 t.2
def word_Sar.pat : List AV → Blks → Option ((List Int) × (List Int))
  | [(.ints .u64 4 a0), (.ints .u64 4 a1)], [] => some (a0, a1)
  | _, _ => none
def word_Sar.shape (t : ((List Int) × (List Int))) : List AV × Blks := ([(.ints .u64 4 t.1), (.ints .u64 4 t.2)], [])
def word_Sar.res : (List Int) → AV × Blks
  | u => (Prod.mk (.ints .u64 4 u) [])
def word_Sar.resK {R : Type} (u : (List Int)) (K : AV → Blks → Option R) : Option R := (fun p : AV × Blks => K p.1 p.2) (Prod.mk (.ints .u64 4 u) [])
def word_Sar.c (n : Nat) : Abs.Callee := .mk' [] [none, none] word_Sar.pat (word_Sar.m n) word_Sar.resK
end
end

section
set_option linter.unusedVariables false
set_option linter.unusedSimpArgs false
set_option maxRecDepth 100000
open Go Go.Abs Go.Proofs
noncomputable section
/-! word_Extend -/
noncomputable def word_Extend.C (n : Nat) : Ctx := ⟨Try.prog, (fun _ => .any), fun f => match f with
  | 48 => some (word_Small.c n)
  | 55 => some (word_From.c n)
  | 23 => some (word_Shl.c n)
  | 27 => some (word_Sar.c n)
  | _ => none⟩
def word_Extend.live : Nat → List Nat × List Nat := fun k => match k with
  | _ => ([], [])
def word_Extend.jlive : Nat → List Nat × List Nat := fun k => match k with
  | _ => ([], [])
noncomputable def word_Extend.A (n : Nat) : Ann := ⟨Try.f21.ntmps, 0, word_Extend.live, [], [none], fun k => match k with
  | _ => none, word_Extend.jlive, lookJ []⟩
def word_Extend.g {α : Type} (mk0 : (List Int) → α) (n : Nat) (a0 : (List Int)) (a1 : (List Int)) : Option α :=
  bindO (word_Small.m n a0) fun r2 =>
    if (!(Prod.snd r2)) = true then
      some (mk0 a1)
    else
      if (decide ((Prod.fst r2) ≥ 31)) = true then
        some (mk0 a1)
      else
        bindO (word_From.m n (Go.IntKind.wrap .u64 (248 - (Go.IntKind.wrap .u64 (8 * (Prod.fst r2)))))) fun r8 =>
          bindO (word_Shl.m n (Prod.mk r8 a1)) fun r10 =>
            bindO (word_Sar.m n (Prod.mk r8 r10)) fun r12 =>
              some (mk0 r12)
def word_Extend.m (n : Nat) (t : ((List Int) × (List Int))) : Option (List Int) := word_Extend.g (fun a0 => a0) n t.1 t.2
def word_Extend.pat : List AV → Blks → Option ((List Int) × (List Int))
  | [(.ints .u64 4 a0), (.ints .u64 4 a1)], [] => some (a0, a1)
  | _, _ => none
def word_Extend.shape (t : ((List Int) × (List Int))) : List AV × Blks := ([(.ints .u64 4 t.1), (.ints .u64 4 t.2)], [])
def word_Extend.res : (List Int) → AV × Blks
  | u => (Prod.mk (.ints .u64 4 u) [])
def word_Extend.resK {R : Type} (u : (List Int)) (K : AV → Blks → Option R) : Option R := (fun p : AV × Blks => K p.1 p.2) (Prod.mk (.ints .u64 4 u) [])
def word_Extend.c (n : Nat) : Abs.Callee := .mk' [] [none, none] word_Extend.pat (word_Extend.m n) word_Extend.resK
end
end

section
set_option linter.unusedVariables false
set_option linter.unusedSimpArgs false
set_option maxRecDepth 100000
open Go Go.Abs Go.Proofs
noncomputable section
/-! word_Byte -/
noncomputable def word_Byte.C (n : Nat) : Ctx := ⟨Try.prog, (fun _ => .any), fun f => match f with
  | 48 => some (word_Small.c n)
  | 55 => some (word_From.c n)
  | _ => none⟩
def word_Byte.live : Nat → List Nat × List Nat := fun k => match k with
  | _ => ([], [])
def word_Byte.jlive : Nat → List Nat × List Nat := fun k => match k with
  | _ => ([], [])
noncomputable def word_Byte.A (n : Nat) : Ann := ⟨Try.f29.ntmps, 0, word_Byte.live, [], [none], fun k => match k with
  | _ => none, word_Byte.jlive, lookJ []⟩
def word_Byte.g {α : Type} (mk0 : (List Int) → α) (n : Nat) (a0 : (List Int)) (a1 : (List Int)) : Option α :=
  bindO (word_Small.m n a0) fun r2 =>
    if (!(Prod.snd r2)) = true then
      some (mk0 [0, 0, 0, 0])
    else
      if (decide ((Prod.fst r2) > 31)) = true then
        some (mk0 [0, 0, 0, 0])
      else
        if 0 ≤ (Go.IntKind.wrap .u64 (Int.tdiv (Go.IntKind.wrap .u64 (31 - (Prod.fst r2))) 8)) then
          if (Go.IntKind.wrap .u64 (Int.tdiv (Go.IntKind.wrap .u64 (31 - (Prod.fst r2))) 8)) < 4 then
            if 0 ≤ (Go.IntKind.wrap .u64 ((Int.tmod (Go.IntKind.wrap .u64 (31 - (Prod.fst r2))) 8) * 8)) then
              bindO (word_From.m n (Go.Abs.ibits Go.BinOp.and .u64 (Go.Abs.ishr .u64 (List.getD a1 (Int.toNat (Go.IntKind.wrap .u64 (Int.tdiv (Go.IntKind.wrap .u64 (31 - (Prod.fst r2))) 8))) 0) (Go.IntKind.wrap .u64 ((Int.tmod (Go.IntKind.wrap .u64 (31 - (Prod.fst r2))) 8) * 8))) 255)) fun r14 =>
                some (mk0 r14)
            else
              none
          else
            none
        else
          none
def word_Byte.m (n : Nat) (t : ((List Int) × (List Int))) : Option (List Int) := word_Byte.g (fun a0 => a0) n t.1 t.2
def word_Byte.pat : List AV → Blks → Option ((List Int) × (List Int))
  | [(.ints .u64 4 a0), (.ints .u64 4 a1)], [] => some (a0, a1)
  | _, _ => none
def word_Byte.shape (t : ((List Int) × (List Int))) : List AV × Blks := ([(.ints .u64 4 t.1), (.ints .u64 4 t.2)], [])
def word_Byte.res : (List Int) → AV × Blks
  | u => (Prod.mk (.ints .u64 4 u) [])
def word_Byte.resK {R : Type} (u : (List Int)) (K : AV → Blks → Option R) : Option R := (fun p : AV × Blks => K p.1 p.2) (Prod.mk (.ints .u64 4 u) [])
def word_Byte.c (n : Nat) : Abs.Callee := .mk' [] [none, none] word_Byte.pat (word_Byte.m n) word_Byte.resK
end
end

section
set_option linter.unusedVariables false
set_option linter.unusedSimpArgs false
set_option maxRecDepth 100000
open Go Go.Abs Go.Proofs
noncomputable section
/-! l01_known -/
noncomputable def l01_known.C (n : Nat) : Ctx := ⟨Try.prog, (fun _ => .any), fun f => match f with
  | 31 => some (l01_w.c n)
  | 32 => some (word_Sub.c n)
  | 70 => some (l01_minus.c n)
  | 18 => some (word_Sdiv.c n)
  | 44 => some (word_MulMod.c n)
  | 21 => some (word_Extend.c n)
  | 27 => some (word_Sar.c n)
  | 29 => some (word_Byte.c n)
  | _ => none⟩
def l01_known.live : Nat → List Nat × List Nat := fun k => match k with
  | _ => ([], [])
def l01_known.jlive : Nat → List Nat × List Nat := fun k => match k with
  | _ => ([], [])
noncomputable def l01_known.A (n : Nat) : Ann := ⟨Try.f20.ntmps, 0, l01_known.live, [], [none], fun k => match k with
  | _ => none, l01_known.jlive, lookJ []⟩
def l01_known.g {α : Type} (mk0 : Bool → α) (n : Nat)  : Option α :=
  bindO (l01_w.m n 0) fun r2 =>
    bindO (l01_w.m n 1) fun r4 =>
      bindO (word_Sub.m n (Prod.mk r2 r4)) fun r6 =>
        bindO (l01_minus.m n 7) fun r8 =>
          bindO (l01_w.m n 2) fun r10 =>
            bindO (word_Sdiv.m n (Prod.mk r8 r10)) fun r12 =>
              bindO (l01_minus.m n 1) fun r14 =>
                if ((Prod.fst r6) == r14) = true then
                  if (Prod.snd r6) = true then
                    bindO (l01_minus.m n 3) fun r20 =>
                      if ((Prod.fst r12) == r20) = true then
                        bindO (l01_minus.m n 1) fun r24 =>
                          if ((Prod.snd r12) == r24) = true then
                            bindO (l01_w.m n 2) fun r28 =>
                              bindO (l01_w.m n 3) fun r30 =>
                                bindO (word_MulMod.m n (Prod.mk [0, 0, 0, 9223372036854775808] (Prod.mk r28 r30))) fun r32 =>
                                  bindO (l01_w.m n 1) fun r34 =>
                                    if (r32 == r34) = true then
                                      bindO (l01_w.m n 0) fun r38 =>
                                        bindO (l01_w.m n 255) fun r40 =>
                                          bindO (word_Extend.m n (Prod.mk r38 r40)) fun r42 =>
                                            bindO (l01_minus.m n 1) fun r44 =>
                                              if (r42 == r44) = true then
                                                bindO (l01_w.m n 1) fun r48 =>
                                                  bindO (l01_minus.m n 3) fun r50 =>
                                                    bindO (word_Sar.m n (Prod.mk r48 r50)) fun r52 =>
                                                      bindO (l01_minus.m n 2) fun r54 =>
                                                        if (r52 == r54) = true then
                                                          bindO (l01_w.m n 31) fun r58 =>
                                                            bindO (l01_w.m n 43981) fun r60 =>
                                                              bindO (word_Byte.m n (Prod.mk r58 r60)) fun r62 =>
                                                                bindO (l01_w.m n 205) fun r64 =>
                                                                  some (mk0 (r62 == r64))
                                                        else
                                                          some (mk0 false)
                                              else
                                                some (mk0 false)
                                    else
                                      some (mk0 false)
                          else
                            some (mk0 false)
                      else
                        some (mk0 false)
                  else
                    some (mk0 false)
                else
                  some (mk0 false)
def l01_known.m (n : Nat) (t : Unit) : Option Bool := l01_known.g (fun a0 => a0) n 
def l01_known.pat : List AV → Blks → Option Unit
  | [], [] => some ()
  | _, _ => none
def l01_known.shape (t : Unit) : List AV × Blks := ([], [])
def l01_known.res : Bool → AV × Blks
  | u => (Prod.mk (.bool u) [])
def l01_known.resK {R : Type} (u : Bool) (K : AV → Blks → Option R) : Option R := (fun p : AV × Blks => K p.1 p.2) (Prod.mk (.bool u) [])
def l01_known.c (n : Nat) : Abs.Callee := .mk' [] [] l01_known.pat (l01_known.m n) l01_known.resK
end
end

section
set_option linter.unusedVariables false
set_option linter.unusedSimpArgs false
set_option maxRecDepth 100000
open Go Go.Abs Go.Proofs
/-! l01_w -/
theorem l01_w.gmap {α β : Type} (h : β → α) (mk0 : (List Int) → β) (n : Nat) (a0 : Int) : l01_w.g (fun a0 => (h (mk0 a0))) n a0 = (l01_w.g mk0 n a0).map h := by
  unfold l01_w.g
  exact rfl
theorem l01_w.run (n : Nat) (a0 : Int) : runF (l01_w.C n) (l01_w.A n) n Try.f31 [(.int .u64 a0)] [] (fun v o => some (v, o)) = l01_w.g (fun a0 => ((Prod.mk (.ints .u64 4 a0) []) : AV × Blks)) n a0 := by kernel_rfl
theorem l01_w.call (hmix : Try.prog.follows .mixedOrders = true) (n : Nat) (t : Int) (u) (h : l01_w.m n t = some u) : FnC Try.prog (fun _ => .any) 31 (l01_w.shape t).1 (l01_w.shape t).2 (l01_w.res u).1 (l01_w.res u).2 := by
  have hg : ∀ f m, (l01_w.C n).Γ f = some m → CalleeS Try.prog (fun _ => .any) f m := by
    intro f m hm
    unfold l01_w.C at hm
    simp only at hm
    first
    | (cases hm; done)
    | (split at hm <;> first
    | (cases hm; done))
  have hb : Try.f31.body = some (Try.f31.body.getD .skip) := by kernel_rfl
  refine runF_calls (C := l01_w.C n) (A := l01_w.A n) (n := n) (fn := Try.f31) hg hmix Try.func31 hb ?_ ?_ (by decide) rfl rfl (by show 1 ≤ Try.f31.ntmps; decide) ?_
  · rw [show loopsIn (Try.f31.body.getD .skip) = [] by kernel_rfl]
    intro b hb m hm
    simp only [List.mem_cons, List.not_mem_nil, or_false] at hb

  · intro a ha m hm
    have hm' := lookJ_mem (show lookJ [] (jkey a) = some m from hm)
    simp only [List.mem_cons, List.not_mem_nil, or_false, Prod.mk.injEq] at hm'

  · rw [show runF (l01_w.C n) (l01_w.A n) n Try.f31 (l01_w.shape t).1 (l01_w.shape t).2 (fun v o => some (v, o)) = _ from l01_w.run n t]
    have e := l01_w.gmap l01_w.res (fun a0 => a0) n t
    unfold l01_w.m at h
    rw [h] at e
    exact e
theorem l01_w.ok (hmix : Try.prog.follows .mixedOrders = true) (n : Nat) (t : Int) (u) (h : l01_w.m n t = some u) : FnOK Try.prog (fun _ => .any) 31 (l01_w.shape t).1 (l01_w.shape t).2 (l01_w.res u).1 (l01_w.res u).2 :=
  (l01_w.call hmix n t u h).ok Try.func31 (by decide) (by kernel_rfl)
theorem l01_w.s (hmix : Try.prog.follows .mixedOrders = true) (n : Nat) : CalleeS Try.prog (fun _ => .any) 31 (l01_w.c n) :=
  CalleeS.of (res := l01_w.res) (shape := l01_w.shape) (fun R u K => rfl) (fun args lent t h => by
    unfold l01_w.pat at h
    split at h
    · cases h; rfl
    · cases h) fun t u h => l01_w.ok hmix n t u h
end

section
set_option linter.unusedVariables false
set_option linter.unusedSimpArgs false
set_option maxRecDepth 100000
open Go Go.Abs Go.Proofs
/-! l01_minus -/
theorem l01_minus.gmap {α β : Type} (h : β → α) (mk0 : (List Int) → β) (n : Nat) (a0 : Int) : l01_minus.g (fun a0 => (h (mk0 a0))) n a0 = (l01_minus.g mk0 n a0).map h := by
  unfold l01_minus.g
  exact rfl
theorem l01_minus.run (n : Nat) (a0 : Int) : runF (l01_minus.C n) (l01_minus.A n) n Try.f70 [(.int .u64 a0)] [] (fun v o => some (v, o)) = l01_minus.g (fun a0 => ((Prod.mk (.ints .u64 4 a0) []) : AV × Blks)) n a0 := by kernel_rfl
theorem l01_minus.call (hmix : Try.prog.follows .mixedOrders = true) (n : Nat) (t : Int) (u) (h : l01_minus.m n t = some u) : FnC Try.prog (fun _ => .any) 70 (l01_minus.shape t).1 (l01_minus.shape t).2 (l01_minus.res u).1 (l01_minus.res u).2 := by
  have hg : ∀ f m, (l01_minus.C n).Γ f = some m → CalleeS Try.prog (fun _ => .any) f m := by
    intro f m hm
    unfold l01_minus.C at hm
    simp only at hm
    first
    | (cases hm; done)
    | (split at hm <;> first
    | (cases hm; done))
  have hb : Try.f70.body = some (Try.f70.body.getD .skip) := by kernel_rfl
  refine runF_calls (C := l01_minus.C n) (A := l01_minus.A n) (n := n) (fn := Try.f70) hg hmix Try.func70 hb ?_ ?_ (by decide) rfl rfl (by show 1 ≤ Try.f70.ntmps; decide) ?_
  · rw [show loopsIn (Try.f70.body.getD .skip) = [] by kernel_rfl]
    intro b hb m hm
    simp only [List.mem_cons, List.not_mem_nil, or_false] at hb

  · intro a ha m hm
    have hm' := lookJ_mem (show lookJ [] (jkey a) = some m from hm)
    simp only [List.mem_cons, List.not_mem_nil, or_false, Prod.mk.injEq] at hm'

  · rw [show runF (l01_minus.C n) (l01_minus.A n) n Try.f70 (l01_minus.shape t).1 (l01_minus.shape t).2 (fun v o => some (v, o)) = _ from l01_minus.run n t]
    have e := l01_minus.gmap l01_minus.res (fun a0 => a0) n t
    unfold l01_minus.m at h
    rw [h] at e
    exact e
theorem l01_minus.ok (hmix : Try.prog.follows .mixedOrders = true) (n : Nat) (t : Int) (u) (h : l01_minus.m n t = some u) : FnOK Try.prog (fun _ => .any) 70 (l01_minus.shape t).1 (l01_minus.shape t).2 (l01_minus.res u).1 (l01_minus.res u).2 :=
  (l01_minus.call hmix n t u h).ok Try.func70 (by decide) (by kernel_rfl)
theorem l01_minus.s (hmix : Try.prog.follows .mixedOrders = true) (n : Nat) : CalleeS Try.prog (fun _ => .any) 70 (l01_minus.c n) :=
  CalleeS.of (res := l01_minus.res) (shape := l01_minus.shape) (fun R u K => rfl) (fun args lent t h => by
    unfold l01_minus.pat at h
    split at h
    · cases h; rfl
    · cases h) fun t u h => l01_minus.ok hmix n t u h
end

section
set_option linter.unusedVariables false
set_option linter.unusedSimpArgs false
set_option maxRecDepth 100000
open Go Go.Abs Go.Proofs
/-! word_widened -/
theorem word_widened.gmap {α β : Type} (h : β → α) (mk0 : (List Int) → β) (n : Nat) (a0 : (List Int)) : word_widened.g (fun a0 => (h (mk0 a0))) n a0 = (word_widened.g mk0 n a0).map h := by
  unfold word_widened.g
  exact rfl
theorem word_widened.run (n : Nat) (a0 : (List Int)) : runF (word_widened.C n) (word_widened.A n) n Try.f61 [(.ints .u64 4 a0)] [] (fun v o => some (v, o)) = word_widened.g (fun a0 => ((Prod.mk (.ints .u64 8 a0) []) : AV × Blks)) n a0 := by kernel_rfl
theorem word_widened.call (hmix : Try.prog.follows .mixedOrders = true) (n : Nat) (t : (List Int)) (u) (h : word_widened.m n t = some u) : FnC Try.prog (fun _ => .any) 61 (word_widened.shape t).1 (word_widened.shape t).2 (word_widened.res u).1 (word_widened.res u).2 := by
  have hg : ∀ f m, (word_widened.C n).Γ f = some m → CalleeS Try.prog (fun _ => .any) f m := by
    intro f m hm
    unfold word_widened.C at hm
    simp only at hm
    first
    | (cases hm; done)
    | (split at hm <;> first
    | (cases hm; done))
  have hb : Try.f61.body = some (Try.f61.body.getD .skip) := by kernel_rfl
  refine runF_calls (C := word_widened.C n) (A := word_widened.A n) (n := n) (fn := Try.f61) hg hmix Try.func61 hb ?_ ?_ (by decide) rfl rfl (by show 1 ≤ Try.f61.ntmps; decide) ?_
  · rw [show loopsIn (Try.f61.body.getD .skip) = [] by kernel_rfl]
    intro b hb m hm
    simp only [List.mem_cons, List.not_mem_nil, or_false] at hb

  · intro a ha m hm
    have hm' := lookJ_mem (show lookJ [] (jkey a) = some m from hm)
    simp only [List.mem_cons, List.not_mem_nil, or_false, Prod.mk.injEq] at hm'

  · rw [show runF (word_widened.C n) (word_widened.A n) n Try.f61 (word_widened.shape t).1 (word_widened.shape t).2 (fun v o => some (v, o)) = _ from word_widened.run n t]
    have e := word_widened.gmap word_widened.res (fun a0 => a0) n t
    unfold word_widened.m at h
    rw [h] at e
    exact e
theorem word_widened.ok (hmix : Try.prog.follows .mixedOrders = true) (n : Nat) (t : (List Int)) (u) (h : word_widened.m n t = some u) : FnOK Try.prog (fun _ => .any) 61 (word_widened.shape t).1 (word_widened.shape t).2 (word_widened.res u).1 (word_widened.res u).2 :=
  (word_widened.call hmix n t u h).ok Try.func61 (by decide) (by kernel_rfl)
theorem word_widened.s (hmix : Try.prog.follows .mixedOrders = true) (n : Nat) : CalleeS Try.prog (fun _ => .any) 61 (word_widened.c n) :=
  CalleeS.of (res := word_widened.res) (shape := word_widened.shape) (fun R u K => rfl) (fun args lent t h => by
    unfold word_widened.pat at h
    split at h
    · cases h; rfl
    · cases h) fun t u h => word_widened.ok hmix n t u h
end

section
set_option linter.unusedVariables false
set_option linter.unusedSimpArgs false
set_option maxRecDepth 100000
open Go Go.Abs Go.Proofs
/-! bits_Len64 -/
theorem bits_Len64.j1.gmap {α β : Type} (h : β → α) (mk0 : Int → Int → β) (n : Nat) (x0 : Int) (x1 : Int) : bits_Len64.j1.g (fun a0 a1 => (h (mk0 a0 a1))) n x0 x1 = (bits_Len64.j1.g mk0 n x0 x1).map h := by
  unfold bits_Len64.j1.g
  exact (ite_map rfl rfl)
theorem bits_Len64.j1.pat_shape : ∀ st t, bits_Len64.j1.pat st = some t → st = bits_Len64.j1.shape t := by
  intro st t h
  unfold bits_Len64.j1.pat at h
  split at h
  · cases h; rfl
  · cases h
theorem bits_Len64.j1.run (n : Nat) (x0 : Int) (x1 : Int) : joinOf (bits_Len64.C n) (bits_Len64.A n) n bits_Len64.jc0 ((St.mk [(.int .u64 x0), (.int .i64 x1)] [])) = bits_Len64.j1.g (fun a0 a1 => ((Prod.mk .normal (St.mk [(.int .u64 a0), (.int .i64 a1)] [])) : Ex × St)) n x0 x1 := by kernel_rfl
theorem bits_Len64.j1.join (n : Nat) (t : (Int × Int)) : joinOf (bits_Len64.C n) (bits_Len64.A n) n bits_Len64.jc0 (bits_Len64.j1.shape t) = (bits_Len64.j1.m n t).map bits_Len64.j1.res :=
  (bits_Len64.j1.run n t.1 t.2).trans (bits_Len64.j1.gmap bits_Len64.j1.res (fun a0 a1 => (a0, a1)) n t.1 t.2)
theorem bits_Len64.j4.gmap {α β : Type} (h : β → α) (mk0 : Int → Int → β) (n : Nat) (x0 : Int) (x1 : Int) : bits_Len64.j4.g (fun a0 a1 => (h (mk0 a0 a1))) n x0 x1 = (bits_Len64.j4.g mk0 n x0 x1).map h := by
  unfold bits_Len64.j4.g
  exact (ite_map rfl rfl)
theorem bits_Len64.j4.pat_shape : ∀ st t, bits_Len64.j4.pat st = some t → st = bits_Len64.j4.shape t := by
  intro st t h
  unfold bits_Len64.j4.pat at h
  split at h
  · cases h; rfl
  · cases h
theorem bits_Len64.j4.run (n : Nat) (x0 : Int) (x1 : Int) : joinOf (bits_Len64.C n) (bits_Len64.A n) n bits_Len64.jc1 ((St.mk [(.int .u64 x0), (.int .i64 x1)] [])) = bits_Len64.j4.g (fun a0 a1 => ((Prod.mk .normal (St.mk [(.int .u64 a0), (.int .i64 a1)] [])) : Ex × St)) n x0 x1 := by kernel_rfl
theorem bits_Len64.j4.join (n : Nat) (t : (Int × Int)) : joinOf (bits_Len64.C n) (bits_Len64.A n) n bits_Len64.jc1 (bits_Len64.j4.shape t) = (bits_Len64.j4.m n t).map bits_Len64.j4.res :=
  (bits_Len64.j4.run n t.1 t.2).trans (bits_Len64.j4.gmap bits_Len64.j4.res (fun a0 a1 => (a0, a1)) n t.1 t.2)
theorem bits_Len64.j7.gmap {α β : Type} (h : β → α) (mk0 : Int → Int → β) (n : Nat) (x0 : Int) (x1 : Int) : bits_Len64.j7.g (fun a0 a1 => (h (mk0 a0 a1))) n x0 x1 = (bits_Len64.j7.g mk0 n x0 x1).map h := by
  unfold bits_Len64.j7.g
  exact (ite_map rfl rfl)
theorem bits_Len64.j7.pat_shape : ∀ st t, bits_Len64.j7.pat st = some t → st = bits_Len64.j7.shape t := by
  intro st t h
  unfold bits_Len64.j7.pat at h
  split at h
  · cases h; rfl
  · cases h
theorem bits_Len64.j7.run (n : Nat) (x0 : Int) (x1 : Int) : joinOf (bits_Len64.C n) (bits_Len64.A n) n bits_Len64.jc2 ((St.mk [(.int .u64 x0), (.int .i64 x1)] [])) = bits_Len64.j7.g (fun a0 a1 => ((Prod.mk .normal (St.mk [(.int .i64 a0), (.int .u64 a1)] [])) : Ex × St)) n x0 x1 := by kernel_rfl
theorem bits_Len64.j7.join (n : Nat) (t : (Int × Int)) : joinOf (bits_Len64.C n) (bits_Len64.A n) n bits_Len64.jc2 (bits_Len64.j7.shape t) = (bits_Len64.j7.m n t).map bits_Len64.j7.res :=
  (bits_Len64.j7.run n t.1 t.2).trans (bits_Len64.j7.gmap bits_Len64.j7.res (fun a0 a1 => (a0, a1)) n t.1 t.2)
theorem bits_Len64.gmap {α β : Type} (h : β → α) (mk0 : Int → β) (n : Nat) (a0 : Int) : bits_Len64.g (fun a0 => (h (mk0 a0))) n a0 = (bits_Len64.g mk0 n a0).map h := by
  unfold bits_Len64.g
  exact (bindO_map fun r2 => (bindO_map fun r4 => (bindO_map fun r6 => (ite_map (ite_map rfl rfl) rfl))))
theorem bits_Len64.run (n : Nat) (a0 : Int) : runF (bits_Len64.C n) (bits_Len64.A n) n Try.f87 [(.int .u64 a0)] [] (fun v o => some (v, o)) = bits_Len64.g (fun a0 => ((Prod.mk (.int .i64 a0) []) : AV × Blks)) n a0 := by kernel_rfl
theorem bits_Len64.call (hmix : Try.prog.follows .mixedOrders = true) (n : Nat) (t : Int) (u) (h : bits_Len64.m n t = some u) : FnC Try.prog (fun _ => .any) 87 (bits_Len64.shape t).1 (bits_Len64.shape t).2 (bits_Len64.res u).1 (bits_Len64.res u).2 := by
  have hg : ∀ f m, (bits_Len64.C n).Γ f = some m → CalleeS Try.prog (fun _ => .any) f m := by
    intro f m hm
    unfold bits_Len64.C at hm
    simp only at hm
    first
    | (cases hm; done)
    | (split at hm <;> first
    | (cases hm; done))
  have hb : Try.f87.body = some (Try.f87.body.getD .skip) := by kernel_rfl
  refine runF_calls (C := bits_Len64.C n) (A := bits_Len64.A n) (n := n) (fn := Try.f87) hg hmix Try.func87 hb ?_ ?_ (by decide) rfl rfl (by show 1 ≤ Try.f87.ntmps; decide) ?_
  · rw [show loopsIn (Try.f87.body.getD .skip) = [] by kernel_rfl]
    intro b hb m hm
    simp only [List.mem_cons, List.not_mem_nil, or_false] at hb

  · intro a ha m hm
    have hm' := lookJ_mem (show lookJ [(1, .mk' bits_Len64.j1.pat (bits_Len64.j1.m n) bits_Len64.j1.resK), (4, .mk' bits_Len64.j4.pat (bits_Len64.j4.m n) bits_Len64.j4.resK), (7, .mk' bits_Len64.j7.pat (bits_Len64.j7.m n) bits_Len64.j7.resK)] (jkey a) = some m from hm)
    simp only [List.mem_cons, List.not_mem_nil, or_false, Prod.mk.injEq] at hm'
    rcases hm' with ⟨hk, rfl⟩ | ⟨hk, rfl⟩ | ⟨hk, rfl⟩
    · obtain rfl := only ha hk (c := bits_Len64.jc0) (by kernel_rfl)
      exact JoinS.of (res := bits_Len64.j1.res) (fun R u K => rfl) bits_Len64.j1.pat_shape fun t => bits_Len64.j1.join n t
    · obtain rfl := only ha hk (c := bits_Len64.jc1) (by kernel_rfl)
      exact JoinS.of (res := bits_Len64.j4.res) (fun R u K => rfl) bits_Len64.j4.pat_shape fun t => bits_Len64.j4.join n t
    · obtain rfl := only ha hk (c := bits_Len64.jc2) (by kernel_rfl)
      exact JoinS.of (res := bits_Len64.j7.res) (fun R u K => rfl) bits_Len64.j7.pat_shape fun t => bits_Len64.j7.join n t
  · rw [show runF (bits_Len64.C n) (bits_Len64.A n) n Try.f87 (bits_Len64.shape t).1 (bits_Len64.shape t).2 (fun v o => some (v, o)) = _ from bits_Len64.run n t]
    have e := bits_Len64.gmap bits_Len64.res (fun a0 => a0) n t
    unfold bits_Len64.m at h
    rw [h] at e
    exact e
theorem bits_Len64.ok (hmix : Try.prog.follows .mixedOrders = true) (n : Nat) (t : Int) (u) (h : bits_Len64.m n t = some u) : FnOK Try.prog (fun _ => .any) 87 (bits_Len64.shape t).1 (bits_Len64.shape t).2 (bits_Len64.res u).1 (bits_Len64.res u).2 :=
  (bits_Len64.call hmix n t u h).ok Try.func87 (by decide) (by kernel_rfl)
theorem bits_Len64.s (hmix : Try.prog.follows .mixedOrders = true) (n : Nat) : CalleeS Try.prog (fun _ => .any) 87 (bits_Len64.c n) :=
  CalleeS.of (res := bits_Len64.res) (shape := bits_Len64.shape) (fun R u K => rfl) (fun args lent t h => by
    unfold bits_Len64.pat at h
    split at h
    · cases h; rfl
    · cases h) fun t u h => bits_Len64.ok hmix n t u h
end

section
set_option linter.unusedVariables false
set_option linter.unusedSimpArgs false
set_option maxRecDepth 100000
open Go Go.Abs Go.Proofs
/-! word_wide_size -/
theorem word_wide_size.l2_0.rmap {α β : Type} (h : β → α) (mk0 : Int → β) (mk1 : β) (n : Nat) (f : Int → (List Int) → Option β)  (x0 : Int) (x1 : (List Int)) : word_wide_size.l2_0.r (fun a0 => (h (mk0 a0))) (h mk1) n (fun y0 y1 => (f y0 y1).map h) x0 x1 = (word_wide_size.l2_0.r mk0 mk1 n f x0 x1).map h := by
  unfold word_wide_size.l2_0.r
  exact (ite_map (ite_map (ite_map (ite_map (ite_map (ite_map (bindO_map fun r16 => rfl) rfl) rfl) rfl) rfl) rfl) rfl)
theorem word_wide_size.l2_0.gmap {α β : Type} (h : β → α) (mk0 : Int → β) (mk1 : β) (n : Nat) : ∀ (m : Nat) (x0 : Int) (x1 : (List Int)), word_wide_size.l2_0.g (fun a0 => (h (mk0 a0))) (h mk1) n m x0 x1 = (word_wide_size.l2_0.g mk0 mk1 n m x0 x1).map h
  | 0, _, _ => rfl
  | m + 1, x0, x1 => by
    unfold word_wide_size.l2_0.g
    rw [← word_wide_size.l2_0.rmap]
    congr
    · funext y0 y1; exact word_wide_size.l2_0.gmap h mk0 mk1 n m y0 y1
theorem word_wide_size.l2_0.pat_shape : ∀ st t, word_wide_size.l2_0.pat st = some t → st = word_wide_size.l2_0.shape t := by
  intro st t h
  unfold word_wide_size.l2_0.pat at h
  split at h
  · cases h; rfl
  · cases h
theorem word_wide_size.l2_0.round (n : Nat) (rc : St → Option (Ex × St)) (x0 : Int) (x1 : (List Int)) : roundOf (word_wide_size.C n) (word_wide_size.A n) n word_wide_size.b0 rc ((St.mk [(.int .i64 x0), (.ptr 0 [])] [(some (.var (.ints .u64 8 x1)))])) = word_wide_size.l2_0.r (fun a0 => ((Prod.mk .ret (St.mk [(.int .i64 a0)] [])) : Ex × St)) ((Prod.mk (.exit 0) (St.mk [.any] [])) : Ex × St) n (fun y0 y1 => rc ((St.mk [(.int .i64 y0), (.ptr 0 [])] [(some (.var (.ints .u64 8 y1)))]))) x0 x1 := by kernel_rfl
theorem word_wide_size.l2_0.loop' (n : Nat) : ∀ (m : Nat) (t : (Int × (List Int))), loopOf (roundOf (word_wide_size.C n) (word_wide_size.A n) n word_wide_size.b0) m (word_wide_size.l2_0.shape t) = word_wide_size.l2_0.g (fun a0 => ((Prod.mk .ret (St.mk [(.int .i64 a0)] [])) : Ex × St)) ((Prod.mk (.exit 0) (St.mk [.any] [])) : Ex × St) n m t.1 t.2 :=
  loop_of_round (shape := word_wide_size.l2_0.shape) (body := roundOf (word_wide_size.C n) (word_wide_size.A n) n word_wide_size.b0) (g := fun m t => word_wide_size.l2_0.g (fun a0 => ((Prod.mk .ret (St.mk [(.int .i64 a0)] [])) : Ex × St)) ((Prod.mk (.exit 0) (St.mk [.any] [])) : Ex × St) n m t.1 t.2) (fun t => rfl)
    fun m t ih => (word_wide_size.l2_0.round n (loopOf (roundOf (word_wide_size.C n) (word_wide_size.A n) n word_wide_size.b0) m) t.1 t.2).trans (congrFun (congrFun (congrArg (word_wide_size.l2_0.r (fun a0 => ((Prod.mk .ret (St.mk [(.int .i64 a0)] [])) : Ex × St)) ((Prod.mk (.exit 0) (St.mk [.any] [])) : Ex × St) n) (funext fun y0 => funext fun y1 => ih (y0, y1))) t.1) t.2)
theorem word_wide_size.l2_0.loop (n m : Nat) (t : (Int × (List Int))) : loopOf (roundOf (word_wide_size.C n) (word_wide_size.A n) n word_wide_size.b0) m (word_wide_size.l2_0.shape t) = (word_wide_size.l2_0.m n m t).map word_wide_size.l2_0.res :=
  (word_wide_size.l2_0.loop' n m t).trans (word_wide_size.l2_0.gmap word_wide_size.l2_0.res (fun a0 => (.inl a0)) (.inr ()) n m t.1 t.2)
theorem word_wide_size.gmap {α β : Type} (h : β → α) (mk0 : Int → β) (n : Nat) (a0 : (List Int)) : word_wide_size.g (fun a0 => (h (mk0 a0))) n a0 = (word_wide_size.g mk0 n a0).map h := by
  unfold word_wide_size.g
  exact (bindO_map fun r2 => match r2 with | (.inl r2) => rfl | (.inr r2) => rfl)
theorem word_wide_size.run (n : Nat) (a0 : (List Int)) : runF (word_wide_size.C n) (word_wide_size.A n) n Try.f82 [(.ints .u64 8 a0)] [] (fun v o => some (v, o)) = word_wide_size.g (fun a0 => ((Prod.mk (.int .i64 a0) []) : AV × Blks)) n a0 := by kernel_rfl
theorem word_wide_size.call (hmix : Try.prog.follows .mixedOrders = true) (n : Nat) (t : (List Int)) (u) (h : word_wide_size.m n t = some u) : FnC Try.prog (fun _ => .any) 82 (word_wide_size.shape t).1 (word_wide_size.shape t).2 (word_wide_size.res u).1 (word_wide_size.res u).2 := by
  have hg : ∀ f m, (word_wide_size.C n).Γ f = some m → CalleeS Try.prog (fun _ => .any) f m := by
    intro f m hm
    unfold word_wide_size.C at hm
    simp only at hm
    first
    | (cases hm; done)
    | (split at hm <;> first
    | (cases hm; exact bits_Len64.s hmix n)
    | (cases hm; done))
  have hb : Try.f82.body = some (Try.f82.body.getD .skip) := by kernel_rfl
  refine runF_calls (C := word_wide_size.C n) (A := word_wide_size.A n) (n := n) (fn := Try.f82) hg hmix Try.func82 hb ?_ ?_ (by decide) rfl rfl (by show 1 ≤ Try.f82.ntmps; decide) ?_
  · rw [show loopsIn (Try.f82.body.getD .skip) = [word_wide_size.b0] by kernel_rfl]
    intro b hb m hm
    simp only [List.mem_cons, List.not_mem_nil, or_false] at hb
    rcases hb with rfl
    · have e : (word_wide_size.A n).loop (key word_wide_size.b0) = some (.mk' word_wide_size.l2_0.pat (word_wide_size.l2_0.m n n) word_wide_size.l2_0.resK) := by rw [show key word_wide_size.b0 = 2 by kernel_rfl]; rfl
      rw [e] at hm
      cases hm
      exact LoopS.of (res := word_wide_size.l2_0.res) (fun R u K => by rcases u with u | u <;> rfl) word_wide_size.l2_0.pat_shape fun t => word_wide_size.l2_0.loop n n t
  · intro a ha m hm
    have hm' := lookJ_mem (show lookJ [] (jkey a) = some m from hm)
    simp only [List.mem_cons, List.not_mem_nil, or_false, Prod.mk.injEq] at hm'

  · rw [show runF (word_wide_size.C n) (word_wide_size.A n) n Try.f82 (word_wide_size.shape t).1 (word_wide_size.shape t).2 (fun v o => some (v, o)) = _ from word_wide_size.run n t]
    have e := word_wide_size.gmap word_wide_size.res (fun a0 => a0) n t
    unfold word_wide_size.m at h
    rw [h] at e
    exact e
theorem word_wide_size.ok (hmix : Try.prog.follows .mixedOrders = true) (n : Nat) (t : (List Int)) (u) (h : word_wide_size.m n t = some u) : FnOK Try.prog (fun _ => .any) 82 (word_wide_size.shape t).1 (word_wide_size.shape t).2 (word_wide_size.res u).1 (word_wide_size.res u).2 :=
  (word_wide_size.call hmix n t u h).ok Try.func82 (by decide) (by kernel_rfl)
theorem word_wide_size.s (hmix : Try.prog.follows .mixedOrders = true) (n : Nat) : CalleeS Try.prog (fun _ => .any) 82 (word_wide_size.c n) :=
  CalleeS.of (res := word_wide_size.res) (shape := word_wide_size.shape) (fun R u K => rfl) (fun args lent t h => by
    unfold word_wide_size.pat at h
    split at h
    · cases h; rfl
    · cases h) fun t u h => word_wide_size.ok hmix n t u h
end

section
set_option linter.unusedVariables false
set_option linter.unusedSimpArgs false
set_option maxRecDepth 100000
open Go Go.Abs Go.Proofs
/-! word_divide -/
theorem word_divide.l2_0.rmap {α β : Type} (h : β → α) (mk0 : (List Int) → (List Int) → β) (n : Nat) (f : Int → (List Int) → (List Int) → (List Int) → (List Int) → Option β)  (x0 : Int) (x1 : (List Int)) (x2 : (List Int)) (x3 : (List Int)) (x4 : (List Int)) : word_divide.l2_0.r (fun a0 a1 => (h (mk0 a0 a1))) n (fun y0 y1 y2 y3 y4 => (f y0 y1 y2 y3 y4).map h) x0 x1 x2 x3 x4 = (word_divide.l2_0.r mk0 n f x0 x1 x2 x3 x4).map h := by
  unfold word_divide.l2_0.r
  exact (ite_map (bindO_map fun r6 => (ite_map (ite_map (ite_map (ite_map (bindO_map fun r16 => (ite_map (ite_map (ite_map (ite_map (ite_map (ite_map rfl rfl) rfl) rfl) rfl) rfl) rfl)) (bindO_map fun r16 => (ite_map (bindO_map fun r20 => (ite_map (ite_map (ite_map (ite_map (ite_map (ite_map rfl rfl) rfl) rfl) rfl) rfl) rfl)) rfl))) rfl) rfl) rfl)) rfl)
theorem word_divide.l2_0.gmap {α β : Type} (h : β → α) (mk0 : (List Int) → (List Int) → β) (n : Nat) : ∀ (m : Nat) (x0 : Int) (x1 : (List Int)) (x2 : (List Int)) (x3 : (List Int)) (x4 : (List Int)), word_divide.l2_0.g (fun a0 a1 => (h (mk0 a0 a1))) n m x0 x1 x2 x3 x4 = (word_divide.l2_0.g mk0 n m x0 x1 x2 x3 x4).map h
  | 0, _, _, _, _, _ => rfl
  | m + 1, x0, x1, x2, x3, x4 => by
    unfold word_divide.l2_0.g
    rw [← word_divide.l2_0.rmap]
    congr
    · funext y0 y1 y2 y3 y4; exact word_divide.l2_0.gmap h mk0 n m y0 y1 y2 y3 y4
theorem word_divide.l2_0.pat_shape : ∀ st t, word_divide.l2_0.pat st = some t → st = word_divide.l2_0.shape t := by
  intro st t h
  unfold word_divide.l2_0.pat at h
  split at h
  · cases h; rfl
  · cases h
theorem word_divide.l2_0.round (n : Nat) (rc : St → Option (Ex × St)) (x0 : Int) (x1 : (List Int)) (x2 : (List Int)) (x3 : (List Int)) (x4 : (List Int)) : roundOf (word_divide.C n) (word_divide.A n) n word_divide.b0 rc ((St.mk [(.int .i64 x0), (.ptr 0 []), (.ptr 1 []), (.ptr 2 []), (.ptr 3 [])] [(some (.var (.ints .u64 4 x1))), (some (.var (.ints .u64 8 x2))), (some (.var (.ints .u64 4 x3))), (some (.var (.ints .u64 4 x4)))])) = word_divide.l2_0.r (fun a0 a1 => ((Prod.mk (.exit 0) (St.mk [(.ptr 0 []), (.ptr 1 [])] [(some (.var (.ints .u64 4 a0))), (some (.var (.ints .u64 4 a1)))])) : Ex × St)) n (fun y0 y1 y2 y3 y4 => rc ((St.mk [(.int .i64 y0), (.ptr 0 []), (.ptr 1 []), (.ptr 2 []), (.ptr 3 [])] [(some (.var (.ints .u64 4 y1))), (some (.var (.ints .u64 8 y2))), (some (.var (.ints .u64 4 y3))), (some (.var (.ints .u64 4 y4)))]))) x0 x1 x2 x3 x4 := by kernel_rfl
theorem word_divide.l2_0.loop' (n : Nat) : ∀ (m : Nat) (t : (Int × ((List Int) × ((List Int) × ((List Int) × (List Int)))))), loopOf (roundOf (word_divide.C n) (word_divide.A n) n word_divide.b0) m (word_divide.l2_0.shape t) = word_divide.l2_0.g (fun a0 a1 => ((Prod.mk (.exit 0) (St.mk [(.ptr 0 []), (.ptr 1 [])] [(some (.var (.ints .u64 4 a0))), (some (.var (.ints .u64 4 a1)))])) : Ex × St)) n m t.1 t.2.1 t.2.2.1 t.2.2.2.1 t.2.2.2.2 :=
  loop_of_round (shape := word_divide.l2_0.shape) (body := roundOf (word_divide.C n) (word_divide.A n) n word_divide.b0) (g := fun m t => word_divide.l2_0.g (fun a0 a1 => ((Prod.mk (.exit 0) (St.mk [(.ptr 0 []), (.ptr 1 [])] [(some (.var (.ints .u64 4 a0))), (some (.var (.ints .u64 4 a1)))])) : Ex × St)) n m t.1 t.2.1 t.2.2.1 t.2.2.2.1 t.2.2.2.2) (fun t => rfl)
    fun m t ih => (word_divide.l2_0.round n (loopOf (roundOf (word_divide.C n) (word_divide.A n) n word_divide.b0) m) t.1 t.2.1 t.2.2.1 t.2.2.2.1 t.2.2.2.2).trans (congrFun (congrFun (congrFun (congrFun (congrFun (congrArg (word_divide.l2_0.r (fun a0 a1 => ((Prod.mk (.exit 0) (St.mk [(.ptr 0 []), (.ptr 1 [])] [(some (.var (.ints .u64 4 a0))), (some (.var (.ints .u64 4 a1)))])) : Ex × St)) n) (funext fun y0 => funext fun y1 => funext fun y2 => funext fun y3 => funext fun y4 => ih (y0, y1, y2, y3, y4))) t.1) t.2.1) t.2.2.1) t.2.2.2.1) t.2.2.2.2)
theorem word_divide.l2_0.loop (n m : Nat) (t : (Int × ((List Int) × ((List Int) × ((List Int) × (List Int)))))) : loopOf (roundOf (word_divide.C n) (word_divide.A n) n word_divide.b0) m (word_divide.l2_0.shape t) = (word_divide.l2_0.m n m t).map word_divide.l2_0.res :=
  (word_divide.l2_0.loop' n m t).trans (word_divide.l2_0.gmap word_divide.l2_0.res (fun a0 a1 => (a0, a1)) n m t.1 t.2.1 t.2.2.1 t.2.2.2.1 t.2.2.2.2)
theorem word_divide.gmap {α β : Type} (h : β → α) (mk0 : (List Int) → (List Int) → β) (n : Nat) (a0 : (List Int)) (a1 : (List Int)) : word_divide.g (fun a0 a1 => (h (mk0 a0 a1))) n a0 a1 = (word_divide.g mk0 n a0 a1).map h := by
  unfold word_divide.g
  exact (bindO_map fun r2 => (bindO_map fun r4 => rfl))
theorem word_divide.run (n : Nat) (a0 : (List Int)) (a1 : (List Int)) : runF (word_divide.C n) (word_divide.A n) n Try.f60 [(.ints .u64 8 a0), (.ints .u64 4 a1)] [] (fun v o => some (v, o)) = word_divide.g (fun a0 a1 => ((Prod.mk (.tup [(.ints .u64 4 a0), (.ints .u64 4 a1)]) []) : AV × Blks)) n a0 a1 := by kernel_rfl
theorem word_divide.call (hmix : Try.prog.follows .mixedOrders = true) (n : Nat) (t : ((List Int) × (List Int))) (u) (h : word_divide.m n t = some u) : FnC Try.prog (fun _ => .any) 60 (word_divide.shape t).1 (word_divide.shape t).2 (word_divide.res u).1 (word_divide.res u).2 := by
  have hg : ∀ f m, (word_divide.C n).Γ f = some m → CalleeS Try.prog (fun _ => .any) f m := by
    intro f m hm
    unfold word_divide.C at hm
    simp only at hm
    first
    | (cases hm; done)
    | (split at hm <;> first
    | (cases hm; exact word_wide_size.s hmix n)
    | (cases hm; exact word_Add.s hmix n)
    | (cases hm; exact word_Cmp.s hmix n)
    | (cases hm; exact word_Sub.s hmix n)
    | (cases hm; done))
  have hb : Try.f60.body = some (Try.f60.body.getD .skip) := by kernel_rfl
  refine runF_calls (C := word_divide.C n) (A := word_divide.A n) (n := n) (fn := Try.f60) hg hmix Try.func60 hb ?_ ?_ (by decide) rfl rfl (by show 2 ≤ Try.f60.ntmps; decide) ?_
  · rw [show loopsIn (Try.f60.body.getD .skip) = [word_divide.b0] by kernel_rfl]
    intro b hb m hm
    simp only [List.mem_cons, List.not_mem_nil, or_false] at hb
    rcases hb with rfl
    · have e : (word_divide.A n).loop (key word_divide.b0) = some (.mk' word_divide.l2_0.pat (word_divide.l2_0.m n n) word_divide.l2_0.resK) := by rw [show key word_divide.b0 = 2 by kernel_rfl]; rfl
      rw [e] at hm
      cases hm
      exact LoopS.of (res := word_divide.l2_0.res) (fun R u K => rfl) word_divide.l2_0.pat_shape fun t => word_divide.l2_0.loop n n t
  · intro a ha m hm
    have hm' := lookJ_mem (show lookJ [] (jkey a) = some m from hm)
    simp only [List.mem_cons, List.not_mem_nil, or_false, Prod.mk.injEq] at hm'

  · rw [show runF (word_divide.C n) (word_divide.A n) n Try.f60 (word_divide.shape t).1 (word_divide.shape t).2 (fun v o => some (v, o)) = _ from word_divide.run n t.1 t.2]
    have e := word_divide.gmap word_divide.res (fun a0 a1 => (a0, a1)) n t.1 t.2
    unfold word_divide.m at h
    rw [h] at e
    exact e
theorem word_divide.ok (hmix : Try.prog.follows .mixedOrders = true) (n : Nat) (t : ((List Int) × (List Int))) (u) (h : word_divide.m n t = some u) : FnOK Try.prog (fun _ => .any) 60 (word_divide.shape t).1 (word_divide.shape t).2 (word_divide.res u).1 (word_divide.res u).2 :=
  (word_divide.call hmix n t u h).ok Try.func60 (by decide) (by kernel_rfl)
theorem word_divide.s (hmix : Try.prog.follows .mixedOrders = true) (n : Nat) : CalleeS Try.prog (fun _ => .any) 60 (word_divide.c n) :=
  CalleeS.of (res := word_divide.res) (shape := word_divide.shape) (fun R u K => rfl) (fun args lent t h => by
    unfold word_divide.pat at h
    split at h
    · cases h; rfl
    · cases h) fun t u h => word_divide.ok hmix n t u h
end

section
set_option linter.unusedVariables false
set_option linter.unusedSimpArgs false
set_option maxRecDepth 100000
open Go Go.Abs Go.Proofs
/-! word_Div -/
theorem word_Div.gmap {α β : Type} (h : β → α) (mk0 : (List Int) → (List Int) → β) (n : Nat) (a0 : (List Int)) (a1 : (List Int)) : word_Div.g (fun a0 a1 => (h (mk0 a0 a1))) n a0 a1 = (word_Div.g mk0 n a0 a1).map h := by
  unfold word_Div.g
  exact (ite_map rfl (bindO_map fun r4 => (bindO_map fun r6 => rfl)))
theorem word_Div.run (n : Nat) (a0 : (List Int)) (a1 : (List Int)) : runF (word_Div.C n) (word_Div.A n) n Try.f16 [(.ints .u64 4 a0), (.ints .u64 4 a1)] [] (fun v o => some (v, o)) = word_Div.g (fun a0 a1 => ((Prod.mk (.tup [(.ints .u64 4 a0), (.ints .u64 4 a1)]) []) : AV × Blks)) n a0 a1 := by kernel_rfl
theorem word_Div.call (hmix : Try.prog.follows .mixedOrders = true) (n : Nat) (t : ((List Int) × (List Int))) (u) (h : word_Div.m n t = some u) : FnC Try.prog (fun _ => .any) 16 (word_Div.shape t).1 (word_Div.shape t).2 (word_Div.res u).1 (word_Div.res u).2 := by
  have hg : ∀ f m, (word_Div.C n).Γ f = some m → CalleeS Try.prog (fun _ => .any) f m := by
    intro f m hm
    unfold word_Div.C at hm
    simp only at hm
    first
    | (cases hm; done)
    | (split at hm <;> first
    | (cases hm; exact word_widened.s hmix n)
    | (cases hm; exact word_divide.s hmix n)
    | (cases hm; done))
  have hb : Try.f16.body = some (Try.f16.body.getD .skip) := by kernel_rfl
  refine runF_calls (C := word_Div.C n) (A := word_Div.A n) (n := n) (fn := Try.f16) hg hmix Try.func16 hb ?_ ?_ (by decide) rfl rfl (by show 2 ≤ Try.f16.ntmps; decide) ?_
  · rw [show loopsIn (Try.f16.body.getD .skip) = [] by kernel_rfl]
    intro b hb m hm
    simp only [List.mem_cons, List.not_mem_nil, or_false] at hb

  · intro a ha m hm
    have hm' := lookJ_mem (show lookJ [] (jkey a) = some m from hm)
    simp only [List.mem_cons, List.not_mem_nil, or_false, Prod.mk.injEq] at hm'

  · rw [show runF (word_Div.C n) (word_Div.A n) n Try.f16 (word_Div.shape t).1 (word_Div.shape t).2 (fun v o => some (v, o)) = _ from word_Div.run n t.1 t.2]
    have e := word_Div.gmap word_Div.res (fun a0 a1 => (a0, a1)) n t.1 t.2
    unfold word_Div.m at h
    rw [h] at e
    exact e
theorem word_Div.ok (hmix : Try.prog.follows .mixedOrders = true) (n : Nat) (t : ((List Int) × (List Int))) (u) (h : word_Div.m n t = some u) : FnOK Try.prog (fun _ => .any) 16 (word_Div.shape t).1 (word_Div.shape t).2 (word_Div.res u).1 (word_Div.res u).2 :=
  (word_Div.call hmix n t u h).ok Try.func16 (by decide) (by kernel_rfl)
theorem word_Div.s (hmix : Try.prog.follows .mixedOrders = true) (n : Nat) : CalleeS Try.prog (fun _ => .any) 16 (word_Div.c n) :=
  CalleeS.of (res := word_Div.res) (shape := word_Div.shape) (fun R u K => rfl) (fun args lent t h => by
    unfold word_Div.pat at h
    split at h
    · cases h; rfl
    · cases h) fun t u h => word_Div.ok hmix n t u h
end

section
set_option linter.unusedVariables false
set_option linter.unusedSimpArgs false
set_option maxRecDepth 100000
open Go Go.Abs Go.Proofs
/-! word_Sdiv -/
theorem word_Sdiv.gmap {α β : Type} (h : β → α) (mk0 : (List Int) → (List Int) → β) (n : Nat) (a0 : (List Int)) (a1 : (List Int)) : word_Sdiv.g (fun a0 a1 => (h (mk0 a0 a1))) n a0 a1 = (word_Sdiv.g mk0 n a0 a1).map h := by
  unfold word_Sdiv.g
  exact (bindO_map fun r2 => (bindO_map fun r4 => (bindO_map fun r6 => (bindO_map fun r8 => (bindO_map fun r10 => (ite_map (bindO_map fun r14 => (bindO_map fun r16 => (ite_map (bindO_map fun r20 => rfl) rfl))) (bindO_map fun r14 => (ite_map (bindO_map fun r18 => rfl) rfl))))))))
theorem word_Sdiv.run (n : Nat) (a0 : (List Int)) (a1 : (List Int)) : runF (word_Sdiv.C n) (word_Sdiv.A n) n Try.f18 [(.ints .u64 4 a0), (.ints .u64 4 a1)] [] (fun v o => some (v, o)) = word_Sdiv.g (fun a0 a1 => ((Prod.mk (.tup [(.ints .u64 4 a0), (.ints .u64 4 a1)]) []) : AV × Blks)) n a0 a1 := by kernel_rfl
theorem word_Sdiv.call (hmix : Try.prog.follows .mixedOrders = true) (n : Nat) (t : ((List Int) × (List Int))) (u) (h : word_Sdiv.m n t = some u) : FnC Try.prog (fun _ => .any) 18 (word_Sdiv.shape t).1 (word_Sdiv.shape t).2 (word_Sdiv.res u).1 (word_Sdiv.res u).2 := by
  have hg : ∀ f m, (word_Sdiv.C n).Γ f = some m → CalleeS Try.prog (fun _ => .any) f m := by
    intro f m hm
    unfold word_Sdiv.C at hm
    simp only at hm
    first
    | (cases hm; done)
    | (split at hm <;> first
    | (cases hm; exact word_abs.s hmix n)
    | (cases hm; exact word_Div.s hmix n)
    | (cases hm; exact word_negative.s hmix n)
    | (cases hm; exact word_minus.s hmix n)
    | (cases hm; done))
  have hb : Try.f18.body = some (Try.f18.body.getD .skip) := by kernel_rfl
  refine runF_calls (C := word_Sdiv.C n) (A := word_Sdiv.A n) (n := n) (fn := Try.f18) hg hmix Try.func18 hb ?_ ?_ (by decide) rfl rfl (by show 2 ≤ Try.f18.ntmps; decide) ?_
  · rw [show loopsIn (Try.f18.body.getD .skip) = [] by kernel_rfl]
    intro b hb m hm
    simp only [List.mem_cons, List.not_mem_nil, or_false] at hb

  · intro a ha m hm
    have hm' := lookJ_mem (show lookJ [] (jkey a) = some m from hm)
    simp only [List.mem_cons, List.not_mem_nil, or_false, Prod.mk.injEq] at hm'

  · rw [show runF (word_Sdiv.C n) (word_Sdiv.A n) n Try.f18 (word_Sdiv.shape t).1 (word_Sdiv.shape t).2 (fun v o => some (v, o)) = _ from word_Sdiv.run n t.1 t.2]
    have e := word_Sdiv.gmap word_Sdiv.res (fun a0 a1 => (a0, a1)) n t.1 t.2
    unfold word_Sdiv.m at h
    rw [h] at e
    exact e
theorem word_Sdiv.ok (hmix : Try.prog.follows .mixedOrders = true) (n : Nat) (t : ((List Int) × (List Int))) (u) (h : word_Sdiv.m n t = some u) : FnOK Try.prog (fun _ => .any) 18 (word_Sdiv.shape t).1 (word_Sdiv.shape t).2 (word_Sdiv.res u).1 (word_Sdiv.res u).2 :=
  (word_Sdiv.call hmix n t u h).ok Try.func18 (by decide) (by kernel_rfl)
theorem word_Sdiv.s (hmix : Try.prog.follows .mixedOrders = true) (n : Nat) : CalleeS Try.prog (fun _ => .any) 18 (word_Sdiv.c n) :=
  CalleeS.of (res := word_Sdiv.res) (shape := word_Sdiv.shape) (fun R u K => rfl) (fun args lent t h => by
    unfold word_Sdiv.pat at h
    split at h
    · cases h; rfl
    · cases h) fun t u h => word_Sdiv.ok hmix n t u h
end

section
set_option linter.unusedVariables false
set_option linter.unusedSimpArgs false
set_option maxRecDepth 100000
open Go Go.Abs Go.Proofs
/-! word_MulMod -/
theorem word_MulMod.gmap {α β : Type} (h : β → α) (mk0 : (List Int) → β) (n : Nat) (a0 : (List Int)) (a1 : (List Int)) (a2 : (List Int)) : word_MulMod.g (fun a0 => (h (mk0 a0))) n a0 a1 a2 = (word_MulMod.g mk0 n a0 a1 a2).map h := by
  unfold word_MulMod.g
  exact (ite_map rfl (bindO_map fun r4 => (bindO_map fun r6 => rfl)))
theorem word_MulMod.run (n : Nat) (a0 : (List Int)) (a1 : (List Int)) (a2 : (List Int)) : runF (word_MulMod.C n) (word_MulMod.A n) n Try.f44 [(.ints .u64 4 a0), (.ints .u64 4 a1), (.ints .u64 4 a2)] [] (fun v o => some (v, o)) = word_MulMod.g (fun a0 => ((Prod.mk (.ints .u64 4 a0) []) : AV × Blks)) n a0 a1 a2 := by kernel_rfl
theorem word_MulMod.call (hmix : Try.prog.follows .mixedOrders = true) (n : Nat) (t : ((List Int) × ((List Int) × (List Int)))) (u) (h : word_MulMod.m n t = some u) : FnC Try.prog (fun _ => .any) 44 (word_MulMod.shape t).1 (word_MulMod.shape t).2 (word_MulMod.res u).1 (word_MulMod.res u).2 := by
  have hg : ∀ f m, (word_MulMod.C n).Γ f = some m → CalleeS Try.prog (fun _ => .any) f m := by
    intro f m hm
    unfold word_MulMod.C at hm
    simp only at hm
    first
    | (cases hm; done)
    | (split at hm <;> first
    | (cases hm; exact word_product.s hmix n)
    | (cases hm; exact word_divide.s hmix n)
    | (cases hm; done))
  have hb : Try.f44.body = some (Try.f44.body.getD .skip) := by kernel_rfl
  refine runF_calls (C := word_MulMod.C n) (A := word_MulMod.A n) (n := n) (fn := Try.f44) hg hmix Try.func44 hb ?_ ?_ (by decide) rfl rfl (by show 3 ≤ Try.f44.ntmps; decide) ?_
  · rw [show loopsIn (Try.f44.body.getD .skip) = [] by kernel_rfl]
    intro b hb m hm
    simp only [List.mem_cons, List.not_mem_nil, or_false] at hb

  · intro a ha m hm
    have hm' := lookJ_mem (show lookJ [] (jkey a) = some m from hm)
    simp only [List.mem_cons, List.not_mem_nil, or_false, Prod.mk.injEq] at hm'

  · rw [show runF (word_MulMod.C n) (word_MulMod.A n) n Try.f44 (word_MulMod.shape t).1 (word_MulMod.shape t).2 (fun v o => some (v, o)) = _ from word_MulMod.run n t.1 t.2.1 t.2.2]
    have e := word_MulMod.gmap word_MulMod.res (fun a0 => a0) n t.1 t.2.1 t.2.2
    unfold word_MulMod.m at h
    rw [h] at e
    exact e
theorem word_MulMod.ok (hmix : Try.prog.follows .mixedOrders = true) (n : Nat) (t : ((List Int) × ((List Int) × (List Int)))) (u) (h : word_MulMod.m n t = some u) : FnOK Try.prog (fun _ => .any) 44 (word_MulMod.shape t).1 (word_MulMod.shape t).2 (word_MulMod.res u).1 (word_MulMod.res u).2 :=
  (word_MulMod.call hmix n t u h).ok Try.func44 (by decide) (by kernel_rfl)
theorem word_MulMod.s (hmix : Try.prog.follows .mixedOrders = true) (n : Nat) : CalleeS Try.prog (fun _ => .any) 44 (word_MulMod.c n) :=
  CalleeS.of (res := word_MulMod.res) (shape := word_MulMod.shape) (fun R u K => rfl) (fun args lent t h => by
    unfold word_MulMod.pat at h
    split at h
    · cases h; rfl
    · cases h) fun t u h => word_MulMod.ok hmix n t u h
end

section
set_option linter.unusedVariables false
set_option linter.unusedSimpArgs false
set_option maxRecDepth 100000
open Go Go.Abs Go.Proofs
/-! word_Small -/
theorem word_Small.gmap {α β : Type} (h : β → α) (mk0 : Int → Bool → β) (n : Nat) (a0 : (List Int)) : word_Small.g (fun a0 a1 => (h (mk0 a0 a1))) n a0 = (word_Small.g mk0 n a0).map h := by
  unfold word_Small.g
  exact (ite_map rfl rfl)
theorem word_Small.run (n : Nat) (a0 : (List Int)) : runF (word_Small.C n) (word_Small.A n) n Try.f48 [(.ints .u64 4 a0)] [] (fun v o => some (v, o)) = word_Small.g (fun a0 a1 => ((Prod.mk (.tup [(.int .u64 a0), (.bool a1)]) []) : AV × Blks)) n a0 := by kernel_rfl
theorem word_Small.call (hmix : Try.prog.follows .mixedOrders = true) (n : Nat) (t : (List Int)) (u) (h : word_Small.m n t = some u) : FnC Try.prog (fun _ => .any) 48 (word_Small.shape t).1 (word_Small.shape t).2 (word_Small.res u).1 (word_Small.res u).2 := by
  have hg : ∀ f m, (word_Small.C n).Γ f = some m → CalleeS Try.prog (fun _ => .any) f m := by
    intro f m hm
    unfold word_Small.C at hm
    simp only at hm
    first
    | (cases hm; done)
    | (split at hm <;> first
    | (cases hm; done))
  have hb : Try.f48.body = some (Try.f48.body.getD .skip) := by kernel_rfl
  refine runF_calls (C := word_Small.C n) (A := word_Small.A n) (n := n) (fn := Try.f48) hg hmix Try.func48 hb ?_ ?_ (by decide) rfl rfl (by show 1 ≤ Try.f48.ntmps; decide) ?_
  · rw [show loopsIn (Try.f48.body.getD .skip) = [] by kernel_rfl]
    intro b hb m hm
    simp only [List.mem_cons, List.not_mem_nil, or_false] at hb

  · intro a ha m hm
    have hm' := lookJ_mem (show lookJ [] (jkey a) = some m from hm)
    simp only [List.mem_cons, List.not_mem_nil, or_false, Prod.mk.injEq] at hm'

  · rw [show runF (word_Small.C n) (word_Small.A n) n Try.f48 (word_Small.shape t).1 (word_Small.shape t).2 (fun v o => some (v, o)) = _ from word_Small.run n t]
    have e := word_Small.gmap word_Small.res (fun a0 a1 => (a0, a1)) n t
    unfold word_Small.m at h
    rw [h] at e
    exact e
theorem word_Small.ok (hmix : Try.prog.follows .mixedOrders = true) (n : Nat) (t : (List Int)) (u) (h : word_Small.m n t = some u) : FnOK Try.prog (fun _ => .any) 48 (word_Small.shape t).1 (word_Small.shape t).2 (word_Small.res u).1 (word_Small.res u).2 :=
  (word_Small.call hmix n t u h).ok Try.func48 (by decide) (by kernel_rfl)
theorem word_Small.s (hmix : Try.prog.follows .mixedOrders = true) (n : Nat) : CalleeS Try.prog (fun _ => .any) 48 (word_Small.c n) :=
  CalleeS.of (res := word_Small.res) (shape := word_Small.shape) (fun R u K => rfl) (fun args lent t h => by
    unfold word_Small.pat at h
    split at h
    · cases h; rfl
    · cases h) fun t u h => word_Small.ok hmix n t u h
end

section
set_option linter.unusedVariables false
set_option linter.unusedSimpArgs false
set_option maxRecDepth 100000
open Go Go.Abs Go.Proofs
/-! word_From -/
theorem word_From.gmap {α β : Type} (h : β → α) (mk0 : (List Int) → β) (n : Nat) (a0 : Int) : word_From.g (fun a0 => (h (mk0 a0))) n a0 = (word_From.g mk0 n a0).map h := by
  unfold word_From.g
  exact rfl
theorem word_From.run (n : Nat) (a0 : Int) : runF (word_From.C n) (word_From.A n) n Try.f55 [(.int .u64 a0)] [] (fun v o => some (v, o)) = word_From.g (fun a0 => ((Prod.mk (.ints .u64 4 a0) []) : AV × Blks)) n a0 := by kernel_rfl
theorem word_From.call (hmix : Try.prog.follows .mixedOrders = true) (n : Nat) (t : Int) (u) (h : word_From.m n t = some u) : FnC Try.prog (fun _ => .any) 55 (word_From.shape t).1 (word_From.shape t).2 (word_From.res u).1 (word_From.res u).2 := by
  have hg : ∀ f m, (word_From.C n).Γ f = some m → CalleeS Try.prog (fun _ => .any) f m := by
    intro f m hm
    unfold word_From.C at hm
    simp only at hm
    first
    | (cases hm; done)
    | (split at hm <;> first
    | (cases hm; done))
  have hb : Try.f55.body = some (Try.f55.body.getD .skip) := by kernel_rfl
  refine runF_calls (C := word_From.C n) (A := word_From.A n) (n := n) (fn := Try.f55) hg hmix Try.func55 hb ?_ ?_ (by decide) rfl rfl (by show 1 ≤ Try.f55.ntmps; decide) ?_
  · rw [show loopsIn (Try.f55.body.getD .skip) = [] by kernel_rfl]
    intro b hb m hm
    simp only [List.mem_cons, List.not_mem_nil, or_false] at hb

  · intro a ha m hm
    have hm' := lookJ_mem (show lookJ [] (jkey a) = some m from hm)
    simp only [List.mem_cons, List.not_mem_nil, or_false, Prod.mk.injEq] at hm'

  · rw [show runF (word_From.C n) (word_From.A n) n Try.f55 (word_From.shape t).1 (word_From.shape t).2 (fun v o => some (v, o)) = _ from word_From.run n t]
    have e := word_From.gmap word_From.res (fun a0 => a0) n t
    unfold word_From.m at h
    rw [h] at e
    exact e
theorem word_From.ok (hmix : Try.prog.follows .mixedOrders = true) (n : Nat) (t : Int) (u) (h : word_From.m n t = some u) : FnOK Try.prog (fun _ => .any) 55 (word_From.shape t).1 (word_From.shape t).2 (word_From.res u).1 (word_From.res u).2 :=
  (word_From.call hmix n t u h).ok Try.func55 (by decide) (by kernel_rfl)
theorem word_From.s (hmix : Try.prog.follows .mixedOrders = true) (n : Nat) : CalleeS Try.prog (fun _ => .any) 55 (word_From.c n) :=
  CalleeS.of (res := word_From.res) (shape := word_From.shape) (fun R u K => rfl) (fun args lent t h => by
    unfold word_From.pat at h
    split at h
    · cases h; rfl
    · cases h) fun t u h => word_From.ok hmix n t u h
end

section
set_option linter.unusedVariables false
set_option linter.unusedSimpArgs false
set_option maxRecDepth 100000
open Go Go.Abs Go.Proofs
/-! word_far -/
theorem word_far.gmap {α β : Type} (h : β → α) (mk0 : Int → β) (n : Nat) (a0 : (List Int)) : word_far.g (fun a0 => (h (mk0 a0))) n a0 = (word_far.g mk0 n a0).map h := by
  unfold word_far.g
  exact (bindO_map fun r2 => (ite_map rfl rfl))
theorem word_far.run (n : Nat) (a0 : (List Int)) : runF (word_far.C n) (word_far.A n) n Try.f72 [(.ints .u64 4 a0)] [] (fun v o => some (v, o)) = word_far.g (fun a0 => ((Prod.mk (.int .u64 a0) []) : AV × Blks)) n a0 := by kernel_rfl
theorem word_far.call (hmix : Try.prog.follows .mixedOrders = true) (n : Nat) (t : (List Int)) (u) (h : word_far.m n t = some u) : FnC Try.prog (fun _ => .any) 72 (word_far.shape t).1 (word_far.shape t).2 (word_far.res u).1 (word_far.res u).2 := by
  have hg : ∀ f m, (word_far.C n).Γ f = some m → CalleeS Try.prog (fun _ => .any) f m := by
    intro f m hm
    unfold word_far.C at hm
    simp only at hm
    first
    | (cases hm; done)
    | (split at hm <;> first
    | (cases hm; exact word_Small.s hmix n)
    | (cases hm; done))
  have hb : Try.f72.body = some (Try.f72.body.getD .skip) := by kernel_rfl
  refine runF_calls (C := word_far.C n) (A := word_far.A n) (n := n) (fn := Try.f72) hg hmix Try.func72 hb ?_ ?_ (by decide) rfl rfl (by show 1 ≤ Try.f72.ntmps; decide) ?_
  · rw [show loopsIn (Try.f72.body.getD .skip) = [] by kernel_rfl]
    intro b hb m hm
    simp only [List.mem_cons, List.not_mem_nil, or_false] at hb

  · intro a ha m hm
    have hm' := lookJ_mem (show lookJ [] (jkey a) = some m from hm)
    simp only [List.mem_cons, List.not_mem_nil, or_false, Prod.mk.injEq] at hm'

  · rw [show runF (word_far.C n) (word_far.A n) n Try.f72 (word_far.shape t).1 (word_far.shape t).2 (fun v o => some (v, o)) = _ from word_far.run n t]
    have e := word_far.gmap word_far.res (fun a0 => a0) n t
    unfold word_far.m at h
    rw [h] at e
    exact e
theorem word_far.ok (hmix : Try.prog.follows .mixedOrders = true) (n : Nat) (t : (List Int)) (u) (h : word_far.m n t = some u) : FnOK Try.prog (fun _ => .any) 72 (word_far.shape t).1 (word_far.shape t).2 (word_far.res u).1 (word_far.res u).2 :=
  (word_far.call hmix n t u h).ok Try.func72 (by decide) (by kernel_rfl)
theorem word_far.s (hmix : Try.prog.follows .mixedOrders = true) (n : Nat) : CalleeS Try.prog (fun _ => .any) 72 (word_far.c n) :=
  CalleeS.of (res := word_far.res) (shape := word_far.shape) (fun R u K => rfl) (fun args lent t h => by
    unfold word_far.pat at h
    split at h
    · cases h; rfl
    · cases h) fun t u h => word_far.ok hmix n t u h
end

section
set_option linter.unusedVariables false
set_option linter.unusedSimpArgs false
set_option maxRecDepth 100000
open Go Go.Abs Go.Proofs
/-! word_Shl -/
theorem word_Shl.l4_0.rmap {α β : Type} (h : β → α) (mk0 : (List Int) → (List Int) → β) (n : Nat) (f : Int → Int → (List Int) → (List Int) → (List Int) → Option β)  (x0 : Int) (x1 : Int) (x2 : (List Int)) (x3 : (List Int)) (x4 : (List Int)) : word_Shl.l4_0.r (fun a0 a1 => (h (mk0 a0 a1))) n (fun y0 y1 y2 y3 y4 => (f y0 y1 y2 y3 y4).map h) x0 x1 x2 x3 x4 = (word_Shl.l4_0.r mk0 n f x0 x1 x2 x3 x4).map h := by
  unfold word_Shl.l4_0.r
  exact (ite_map (ite_map (ite_map (ite_map (ite_map (ite_map (ite_map (ite_map (ite_map (ite_map (ite_map (ite_map (ite_map (ite_map (ite_map (ite_map rfl rfl) rfl) rfl) rfl) rfl) rfl) rfl) rfl) rfl) rfl) rfl) rfl) rfl) rfl) (ite_map (ite_map (ite_map (ite_map (ite_map (ite_map (ite_map (ite_map (ite_map rfl rfl) rfl) rfl) rfl) rfl) rfl) rfl) rfl) rfl)) rfl)
theorem word_Shl.l4_0.gmap {α β : Type} (h : β → α) (mk0 : (List Int) → (List Int) → β) (n : Nat) : ∀ (m : Nat) (x0 : Int) (x1 : Int) (x2 : (List Int)) (x3 : (List Int)) (x4 : (List Int)), word_Shl.l4_0.g (fun a0 a1 => (h (mk0 a0 a1))) n m x0 x1 x2 x3 x4 = (word_Shl.l4_0.g mk0 n m x0 x1 x2 x3 x4).map h
  | 0, _, _, _, _, _ => rfl
  | m + 1, x0, x1, x2, x3, x4 => by
    unfold word_Shl.l4_0.g
    rw [← word_Shl.l4_0.rmap]
    congr
    · funext y0 y1 y2 y3 y4; exact word_Shl.l4_0.gmap h mk0 n m y0 y1 y2 y3 y4
theorem word_Shl.l4_0.pat_shape : ∀ st t, word_Shl.l4_0.pat st = some t → st = word_Shl.l4_0.shape t := by
  intro st t h
  unfold word_Shl.l4_0.pat at h
  split at h
  · cases h; rfl
  · cases h
theorem word_Shl.l4_0.round (n : Nat) (rc : St → Option (Ex × St)) (x0 : Int) (x1 : Int) (x2 : (List Int)) (x3 : (List Int)) (x4 : (List Int)) : roundOf (word_Shl.C n) (word_Shl.A n) n word_Shl.b0 rc ((St.mk [(.int .i64 x0), (.int .u64 x1), (.ptr 0 []), (.ptr 1 []), (.ptr 2 [])] [(some (.var (.ints .u64 4 x2))), (some (.var (.ints .u64 4 x3))), (some (.var (.ints .u64 4 x4)))])) = word_Shl.l4_0.r (fun a0 a1 => ((Prod.mk (.exit 0) (St.mk [(.ptr 0 []), (.ptr 1 [])] [(some (.var (.ints .u64 4 a0))), (some (.var (.ints .u64 4 a1)))])) : Ex × St)) n (fun y0 y1 y2 y3 y4 => rc ((St.mk [(.int .i64 y0), (.int .u64 y1), (.ptr 0 []), (.ptr 1 []), (.ptr 2 [])] [(some (.var (.ints .u64 4 y2))), (some (.var (.ints .u64 4 y3))), (some (.var (.ints .u64 4 y4)))]))) x0 x1 x2 x3 x4 := by kernel_rfl
theorem word_Shl.l4_0.loop' (n : Nat) : ∀ (m : Nat) (t : (Int × (Int × ((List Int) × ((List Int) × (List Int)))))), loopOf (roundOf (word_Shl.C n) (word_Shl.A n) n word_Shl.b0) m (word_Shl.l4_0.shape t) = word_Shl.l4_0.g (fun a0 a1 => ((Prod.mk (.exit 0) (St.mk [(.ptr 0 []), (.ptr 1 [])] [(some (.var (.ints .u64 4 a0))), (some (.var (.ints .u64 4 a1)))])) : Ex × St)) n m t.1 t.2.1 t.2.2.1 t.2.2.2.1 t.2.2.2.2 :=
  loop_of_round (shape := word_Shl.l4_0.shape) (body := roundOf (word_Shl.C n) (word_Shl.A n) n word_Shl.b0) (g := fun m t => word_Shl.l4_0.g (fun a0 a1 => ((Prod.mk (.exit 0) (St.mk [(.ptr 0 []), (.ptr 1 [])] [(some (.var (.ints .u64 4 a0))), (some (.var (.ints .u64 4 a1)))])) : Ex × St)) n m t.1 t.2.1 t.2.2.1 t.2.2.2.1 t.2.2.2.2) (fun t => rfl)
    fun m t ih => (word_Shl.l4_0.round n (loopOf (roundOf (word_Shl.C n) (word_Shl.A n) n word_Shl.b0) m) t.1 t.2.1 t.2.2.1 t.2.2.2.1 t.2.2.2.2).trans (congrFun (congrFun (congrFun (congrFun (congrFun (congrArg (word_Shl.l4_0.r (fun a0 a1 => ((Prod.mk (.exit 0) (St.mk [(.ptr 0 []), (.ptr 1 [])] [(some (.var (.ints .u64 4 a0))), (some (.var (.ints .u64 4 a1)))])) : Ex × St)) n) (funext fun y0 => funext fun y1 => funext fun y2 => funext fun y3 => funext fun y4 => ih (y0, y1, y2, y3, y4))) t.1) t.2.1) t.2.2.1) t.2.2.2.1) t.2.2.2.2)
theorem word_Shl.l4_0.loop (n m : Nat) (t : (Int × (Int × ((List Int) × ((List Int) × (List Int)))))) : loopOf (roundOf (word_Shl.C n) (word_Shl.A n) n word_Shl.b0) m (word_Shl.l4_0.shape t) = (word_Shl.l4_0.m n m t).map word_Shl.l4_0.res :=
  (word_Shl.l4_0.loop' n m t).trans (word_Shl.l4_0.gmap word_Shl.l4_0.res (fun a0 a1 => (a0, a1)) n m t.1 t.2.1 t.2.2.1 t.2.2.2.1 t.2.2.2.2)
theorem word_Shl.gmap {α β : Type} (h : β → α) (mk0 : (List Int) → β) (n : Nat) (a0 : (List Int)) (a1 : (List Int)) : word_Shl.g (fun a0 => (h (mk0 a0))) n a0 a1 = (word_Shl.g mk0 n a0 a1).map h := by
  unfold word_Shl.g
  exact (bindO_map fun r2 => (bindO_map fun r4 => rfl))
theorem word_Shl.run (n : Nat) (a0 : (List Int)) (a1 : (List Int)) : runF (word_Shl.C n) (word_Shl.A n) n Try.f23 [(.ints .u64 4 a0), (.ints .u64 4 a1)] [] (fun v o => some (v, o)) = word_Shl.g (fun a0 => ((Prod.mk (.ints .u64 4 a0) []) : AV × Blks)) n a0 a1 := by kernel_rfl
theorem word_Shl.call (hmix : Try.prog.follows .mixedOrders = true) (n : Nat) (t : ((List Int) × (List Int))) (u) (h : word_Shl.m n t = some u) : FnC Try.prog (fun _ => .any) 23 (word_Shl.shape t).1 (word_Shl.shape t).2 (word_Shl.res u).1 (word_Shl.res u).2 := by
  have hg : ∀ f m, (word_Shl.C n).Γ f = some m → CalleeS Try.prog (fun _ => .any) f m := by
    intro f m hm
    unfold word_Shl.C at hm
    simp only at hm
    first
    | (cases hm; done)
    | (split at hm <;> first
    | (cases hm; exact word_far.s hmix n)
    | (cases hm; done))
  have hb : Try.f23.body = some (Try.f23.body.getD .skip) := by kernel_rfl
  refine runF_calls (C := word_Shl.C n) (A := word_Shl.A n) (n := n) (fn := Try.f23) hg hmix Try.func23 hb ?_ ?_ (by decide) rfl rfl (by show 2 ≤ Try.f23.ntmps; decide) ?_
  · rw [show loopsIn (Try.f23.body.getD .skip) = [word_Shl.b0] by kernel_rfl]
    intro b hb m hm
    simp only [List.mem_cons, List.not_mem_nil, or_false] at hb
    rcases hb with rfl
    · have e : (word_Shl.A n).loop (key word_Shl.b0) = some (.mk' word_Shl.l4_0.pat (word_Shl.l4_0.m n n) word_Shl.l4_0.resK) := by rw [show key word_Shl.b0 = 4 by kernel_rfl]; rfl
      rw [e] at hm
      cases hm
      exact LoopS.of (res := word_Shl.l4_0.res) (fun R u K => rfl) word_Shl.l4_0.pat_shape fun t => word_Shl.l4_0.loop n n t
  · intro a ha m hm
    have hm' := lookJ_mem (show lookJ [] (jkey a) = some m from hm)
    simp only [List.mem_cons, List.not_mem_nil, or_false, Prod.mk.injEq] at hm'

  · rw [show runF (word_Shl.C n) (word_Shl.A n) n Try.f23 (word_Shl.shape t).1 (word_Shl.shape t).2 (fun v o => some (v, o)) = _ from word_Shl.run n t.1 t.2]
    have e := word_Shl.gmap word_Shl.res (fun a0 => a0) n t.1 t.2
    unfold word_Shl.m at h
    rw [h] at e
    exact e
theorem word_Shl.ok (hmix : Try.prog.follows .mixedOrders = true) (n : Nat) (t : ((List Int) × (List Int))) (u) (h : word_Shl.m n t = some u) : FnOK Try.prog (fun _ => .any) 23 (word_Shl.shape t).1 (word_Shl.shape t).2 (word_Shl.res u).1 (word_Shl.res u).2 :=
  (word_Shl.call hmix n t u h).ok Try.func23 (by decide) (by kernel_rfl)
theorem word_Shl.s (hmix : Try.prog.follows .mixedOrders = true) (n : Nat) : CalleeS Try.prog (fun _ => .any) 23 (word_Shl.c n) :=
  CalleeS.of (res := word_Shl.res) (shape := word_Shl.shape) (fun R u K => rfl) (fun args lent t h => by
    unfold word_Shl.pat at h
    split at h
    · cases h; rfl
    · cases h) fun t u h => word_Shl.ok hmix n t u h
end

section
set_option linter.unusedVariables false
set_option linter.unusedSimpArgs false
set_option maxRecDepth 100000
open Go Go.Abs Go.Proofs
/-! word_rightS1 -/
theorem word_rightS1.gmap {α β : Type} (h : β → α) (mk0 : Int → β) (n : Nat) (i : Int) (f : Int) (a : (List Int)) : word_rightS1.g (fun a0 => (h (mk0 a0))) n i f a = (word_rightS1.g mk0 n i f a).map h := by
  unfold word_rightS1.g
  exact (ite_map rfl (ite_map (ite_map rfl rfl) rfl))
theorem word_rightS1.run (n : Nat) (i : Int) (f : Int) (a : (List Int)) : runF (word_rightS1.C n) (word_rightS1.A n) n Try.f85 [(.int .i64 i), (.rptr (.int .u64 f)), (.rptr (.ints .u64 4 a))] [] (fun v o => some (v, o)) = word_rightS1.g (fun a0 => ((Prod.mk (.int .u64 a0) []) : AV × Blks)) n i f a := by kernel_rfl
theorem word_rightS1.call (hmix : Try.prog.follows .mixedOrders = true) (n : Nat) (t : (Int × (Int × (List Int)))) (u) (h : word_rightS1.m n t = some u) : FnC Try.prog (fun _ => .any) 85 (word_rightS1.shape t).1 (word_rightS1.shape t).2 (word_rightS1.res u).1 (word_rightS1.res u).2 := by
  have hg : ∀ f m, (word_rightS1.C n).Γ f = some m → CalleeS Try.prog (fun _ => .any) f m := by
    intro f m hm
    unfold word_rightS1.C at hm
    simp only at hm
    first
    | (cases hm; done)
    | (split at hm <;> first
    | (cases hm; done))
  have hb : Try.f85.body = some (Try.f85.body.getD .skip) := by kernel_rfl
  refine runF_calls (C := word_rightS1.C n) (A := word_rightS1.A n) (n := n) (fn := Try.f85) hg hmix Try.func85 hb ?_ ?_ (by decide) rfl rfl (by show 3 ≤ Try.f85.ntmps; decide) ?_
  · rw [show loopsIn (Try.f85.body.getD .skip) = [] by kernel_rfl]
    intro b hb m hm
    simp only [List.mem_cons, List.not_mem_nil, or_false] at hb

  · intro a ha m hm
    have hm' := lookJ_mem (show lookJ [] (jkey a) = some m from hm)
    simp only [List.mem_cons, List.not_mem_nil, or_false, Prod.mk.injEq] at hm'

  · rw [show runF (word_rightS1.C n) (word_rightS1.A n) n Try.f85 (word_rightS1.shape t).1 (word_rightS1.shape t).2 (fun v o => some (v, o)) = _ from word_rightS1.run n t.1 t.2.1 t.2.2]
    have e := word_rightS1.gmap word_rightS1.res (fun a0 => a0) n t.1 t.2.1 t.2.2
    unfold word_rightS1.m at h
    rw [h] at e
    exact e
theorem word_rightS1.ok (hmix : Try.prog.follows .mixedOrders = true) (n : Nat) (t : (Int × (Int × (List Int)))) (u) (h : word_rightS1.m n t = some u) : FnOK Try.prog (fun _ => .any) 85 (word_rightS1.shape t).1 (word_rightS1.shape t).2 (word_rightS1.res u).1 (word_rightS1.res u).2 :=
  (word_rightS1.call hmix n t u h).ok Try.func85 (by decide) (by kernel_rfl)
theorem word_rightS1.s (hmix : Try.prog.follows .mixedOrders = true) (n : Nat) : CalleeS Try.prog (fun _ => .any) 85 (word_rightS1.c n) :=
  CalleeS.of (res := word_rightS1.res) (shape := word_rightS1.shape) (fun R u K => rfl) (fun args lent t h => by
    unfold word_rightS1.pat at h
    split at h
    · cases h; rfl
    · cases h) fun t u h => word_rightS1.ok hmix n t u h
end

section
set_option linter.unusedVariables false
set_option linter.unusedSimpArgs false
set_option maxRecDepth 100000
open Go Go.Abs Go.Proofs
/-! word_right -/
theorem word_right.l4_0.rmap {α β : Type} (h : β → α) (mk0 : (List Int) → (List Int) → β) (n : Nat) (f : Int → Int → Int → (List Int) → (List Int) → (List Int) → Option β)  (x0 : Int) (x1 : Int) (x2 : Int) (x3 : (List Int)) (x4 : (List Int)) (x5 : (List Int)) : word_right.l4_0.r (fun a0 a1 => (h (mk0 a0 a1))) n (fun y0 y1 y2 y3 y4 y5 => (f y0 y1 y2 y3 y4 y5).map h) x0 x1 x2 x3 x4 x5 = (word_right.l4_0.r mk0 n f x0 x1 x2 x3 x4 x5).map h := by
  unfold word_right.l4_0.r
  exact (ite_map (bindO_map fun r6 => (ite_map (ite_map (ite_map (ite_map (ite_map (ite_map (bindO_map fun r20 => (ite_map (ite_map (ite_map rfl rfl) rfl) rfl)) rfl) rfl) rfl) rfl) rfl) rfl)) rfl)
theorem word_right.l4_0.gmap {α β : Type} (h : β → α) (mk0 : (List Int) → (List Int) → β) (n : Nat) : ∀ (m : Nat) (x0 : Int) (x1 : Int) (x2 : Int) (x3 : (List Int)) (x4 : (List Int)) (x5 : (List Int)), word_right.l4_0.g (fun a0 a1 => (h (mk0 a0 a1))) n m x0 x1 x2 x3 x4 x5 = (word_right.l4_0.g mk0 n m x0 x1 x2 x3 x4 x5).map h
  | 0, _, _, _, _, _, _ => rfl
  | m + 1, x0, x1, x2, x3, x4, x5 => by
    unfold word_right.l4_0.g
    rw [← word_right.l4_0.rmap]
    congr
    · funext y0 y1 y2 y3 y4 y5; exact word_right.l4_0.gmap h mk0 n m y0 y1 y2 y3 y4 y5
theorem word_right.l4_0.pat_shape : ∀ st t, word_right.l4_0.pat st = some t → st = word_right.l4_0.shape t := by
  intro st t h
  unfold word_right.l4_0.pat at h
  split at h
  · cases h; rfl
  · cases h
theorem word_right.l4_0.round (n : Nat) (rc : St → Option (Ex × St)) (x0 : Int) (x1 : Int) (x2 : Int) (x3 : (List Int)) (x4 : (List Int)) (x5 : (List Int)) : roundOf (word_right.C n) (word_right.A n) n word_right.b0 rc ((St.mk [(.int .i64 x0), (.int .u64 x1), (.fn (.func 85) [] [(.ptr 0 []), (.ptr 1 [])]), (.ptr 2 []), (.ptr 3 [])] [(some (.var (.int .u64 x2))), (some (.var (.ints .u64 4 x3))), (some (.var (.ints .u64 4 x4))), (some (.var (.ints .u64 4 x5)))])) = word_right.l4_0.r (fun a0 a1 => ((Prod.mk (.exit 0) (St.mk [(.ptr 0 []), (.ptr 1 [])] [(some (.var (.ints .u64 4 a0))), (some (.var (.ints .u64 4 a1)))])) : Ex × St)) n (fun y0 y1 y2 y3 y4 y5 => rc ((St.mk [(.int .i64 y0), (.int .u64 y1), (.fn (.func 85) [] [(.ptr 0 []), (.ptr 1 [])]), (.ptr 2 []), (.ptr 3 [])] [(some (.var (.int .u64 y2))), (some (.var (.ints .u64 4 y3))), (some (.var (.ints .u64 4 y4))), (some (.var (.ints .u64 4 y5)))]))) x0 x1 x2 x3 x4 x5 := by kernel_rfl
theorem word_right.l4_0.loop' (n : Nat) : ∀ (m : Nat) (t : (Int × (Int × (Int × ((List Int) × ((List Int) × (List Int))))))), loopOf (roundOf (word_right.C n) (word_right.A n) n word_right.b0) m (word_right.l4_0.shape t) = word_right.l4_0.g (fun a0 a1 => ((Prod.mk (.exit 0) (St.mk [(.ptr 0 []), (.ptr 1 [])] [(some (.var (.ints .u64 4 a0))), (some (.var (.ints .u64 4 a1)))])) : Ex × St)) n m t.1 t.2.1 t.2.2.1 t.2.2.2.1 t.2.2.2.2.1 t.2.2.2.2.2 :=
  loop_of_round (shape := word_right.l4_0.shape) (body := roundOf (word_right.C n) (word_right.A n) n word_right.b0) (g := fun m t => word_right.l4_0.g (fun a0 a1 => ((Prod.mk (.exit 0) (St.mk [(.ptr 0 []), (.ptr 1 [])] [(some (.var (.ints .u64 4 a0))), (some (.var (.ints .u64 4 a1)))])) : Ex × St)) n m t.1 t.2.1 t.2.2.1 t.2.2.2.1 t.2.2.2.2.1 t.2.2.2.2.2) (fun t => rfl)
    fun m t ih => (word_right.l4_0.round n (loopOf (roundOf (word_right.C n) (word_right.A n) n word_right.b0) m) t.1 t.2.1 t.2.2.1 t.2.2.2.1 t.2.2.2.2.1 t.2.2.2.2.2).trans (congrFun (congrFun (congrFun (congrFun (congrFun (congrFun (congrArg (word_right.l4_0.r (fun a0 a1 => ((Prod.mk (.exit 0) (St.mk [(.ptr 0 []), (.ptr 1 [])] [(some (.var (.ints .u64 4 a0))), (some (.var (.ints .u64 4 a1)))])) : Ex × St)) n) (funext fun y0 => funext fun y1 => funext fun y2 => funext fun y3 => funext fun y4 => funext fun y5 => ih (y0, y1, y2, y3, y4, y5))) t.1) t.2.1) t.2.2.1) t.2.2.2.1) t.2.2.2.2.1) t.2.2.2.2.2)
theorem word_right.l4_0.loop (n m : Nat) (t : (Int × (Int × (Int × ((List Int) × ((List Int) × (List Int))))))) : loopOf (roundOf (word_right.C n) (word_right.A n) n word_right.b0) m (word_right.l4_0.shape t) = (word_right.l4_0.m n m t).map word_right.l4_0.res :=
  (word_right.l4_0.loop' n m t).trans (word_right.l4_0.gmap word_right.l4_0.res (fun a0 a1 => (a0, a1)) n m t.1 t.2.1 t.2.2.1 t.2.2.2.1 t.2.2.2.2.1 t.2.2.2.2.2)
theorem word_right.gmap {α β : Type} (h : β → α) (mk0 : (List Int) → β) (n : Nat) (a0 : Int) (a1 : (List Int)) (a2 : Int) : word_right.g (fun a0 => (h (mk0 a0))) n a0 a1 a2 = (word_right.g mk0 n a0 a1 a2).map h := by
  unfold word_right.g
  exact (bindO_map fun r2 => rfl)
theorem word_right.run (n : Nat) (a0 : Int) (a1 : (List Int)) (a2 : Int) : runF (word_right.C n) (word_right.A n) n Try.f75 [(.int .u64 a0), (.ints .u64 4 a1), (.int .u64 a2)] [] (fun v o => some (v, o)) = word_right.g (fun a0 => ((Prod.mk (.ints .u64 4 a0) []) : AV × Blks)) n a0 a1 a2 := by kernel_rfl
theorem word_right.call (hmix : Try.prog.follows .mixedOrders = true) (n : Nat) (t : (Int × ((List Int) × Int))) (u) (h : word_right.m n t = some u) : FnC Try.prog (fun _ => .any) 75 (word_right.shape t).1 (word_right.shape t).2 (word_right.res u).1 (word_right.res u).2 := by
  have hg : ∀ f m, (word_right.C n).Γ f = some m → CalleeS Try.prog (fun _ => .any) f m := by
    intro f m hm
    unfold word_right.C at hm
    simp only at hm
    first
    | (cases hm; done)
    | (split at hm <;> first
    | (cases hm; exact word_rightS1.s hmix n)
    | (cases hm; done))
  have hb : Try.f75.body = some (Try.f75.body.getD .skip) := by kernel_rfl
  refine runF_calls (C := word_right.C n) (A := word_right.A n) (n := n) (fn := Try.f75) hg hmix Try.func75 hb ?_ ?_ (by decide) rfl rfl (by show 3 ≤ Try.f75.ntmps; decide) ?_
  · rw [show loopsIn (Try.f75.body.getD .skip) = [word_right.b0] by kernel_rfl]
    intro b hb m hm
    simp only [List.mem_cons, List.not_mem_nil, or_false] at hb
    rcases hb with rfl
    · have e : (word_right.A n).loop (key word_right.b0) = some (.mk' word_right.l4_0.pat (word_right.l4_0.m n n) word_right.l4_0.resK) := by rw [show key word_right.b0 = 4 by kernel_rfl]; rfl
      rw [e] at hm
      cases hm
      exact LoopS.of (res := word_right.l4_0.res) (fun R u K => rfl) word_right.l4_0.pat_shape fun t => word_right.l4_0.loop n n t
  · intro a ha m hm
    have hm' := lookJ_mem (show lookJ [] (jkey a) = some m from hm)
    simp only [List.mem_cons, List.not_mem_nil, or_false, Prod.mk.injEq] at hm'

  · rw [show runF (word_right.C n) (word_right.A n) n Try.f75 (word_right.shape t).1 (word_right.shape t).2 (fun v o => some (v, o)) = _ from word_right.run n t.1 t.2.1 t.2.2]
    have e := word_right.gmap word_right.res (fun a0 => a0) n t.1 t.2.1 t.2.2
    unfold word_right.m at h
    rw [h] at e
    exact e
theorem word_right.ok (hmix : Try.prog.follows .mixedOrders = true) (n : Nat) (t : (Int × ((List Int) × Int))) (u) (h : word_right.m n t = some u) : FnOK Try.prog (fun _ => .any) 75 (word_right.shape t).1 (word_right.shape t).2 (word_right.res u).1 (word_right.res u).2 :=
  (word_right.call hmix n t u h).ok Try.func75 (by decide) (by kernel_rfl)
theorem word_right.s (hmix : Try.prog.follows .mixedOrders = true) (n : Nat) : CalleeS Try.prog (fun _ => .any) 75 (word_right.c n) :=
  CalleeS.of (res := word_right.res) (shape := word_right.shape) (fun R u K => rfl) (fun args lent t h => by
    unfold word_right.pat at h
    split at h
    · cases h; rfl
    · cases h) fun t u h => word_right.ok hmix n t u h
end

section
set_option linter.unusedVariables false
set_option linter.unusedSimpArgs false
set_option maxRecDepth 100000
open Go Go.Abs Go.Proofs
/-! word_Sar -/
theorem word_Sar.gmap {α β : Type} (h : β → α) (mk0 : (List Int) → β) (n : Nat) (a0 : (List Int)) (a1 : (List Int)) : word_Sar.g (fun a0 => (h (mk0 a0))) n a0 a1 = (word_Sar.g mk0 n a0 a1).map h := by
  unfold word_Sar.g
  exact (bindO_map fun r2 => (ite_map (bindO_map fun r6 => (bindO_map fun r8 => rfl)) (bindO_map fun r6 => (bindO_map fun r8 => rfl))))
theorem word_Sar.run (n : Nat) (a0 : (List Int)) (a1 : (List Int)) : runF (word_Sar.C n) (word_Sar.A n) n Try.f27 [(.ints .u64 4 a0), (.ints .u64 4 a1)] [] (fun v o => some (v, o)) = word_Sar.g (fun a0 => ((Prod.mk (.ints .u64 4 a0) []) : AV × Blks)) n a0 a1 := by kernel_rfl
theorem word_Sar.call (hmix : Try.prog.follows .mixedOrders = true) (n : Nat) (t : ((List Int) × (List Int))) (u) (h : word_Sar.m n t = some u) : FnC Try.prog (fun _ => .any) 27 (word_Sar.shape t).1 (word_Sar.shape t).2 (word_Sar.res u).1 (word_Sar.res u).2 := by
  have hg : ∀ f m, (word_Sar.C n).Γ f = some m → CalleeS Try.prog (fun _ => .any) f m := by
    intro f m hm
    unfold word_Sar.C at hm
    simp only at hm
    first
    | (cases hm; done)
    | (split at hm <;> first
    | (cases hm; exact word_negative.s hmix n)
    | (cases hm; exact word_far.s hmix n)
    | (cases hm; exact word_right.s hmix n)
    | (cases hm; done))
  have hb : Try.f27.body = some (Try.f27.body.getD .skip) := by kernel_rfl
  refine runF_calls (C := word_Sar.C n) (A := word_Sar.A n) (n := n) (fn := Try.f27) hg hmix Try.func27 hb ?_ ?_ (by decide) rfl rfl (by show 2 ≤ Try.f27.ntmps; decide) ?_
  · rw [show loopsIn (Try.f27.body.getD .skip) = [] by kernel_rfl]
    intro b hb m hm
    simp only [List.mem_cons, List.not_mem_nil, or_false] at hb

  · intro a ha m hm
    have hm' := lookJ_mem (show lookJ [] (jkey a) = some m from hm)
    simp only [List.mem_cons, List.not_mem_nil, or_false, Prod.mk.injEq] at hm'

  · rw [show runF (word_Sar.C n) (word_Sar.A n) n Try.f27 (word_Sar.shape t).1 (word_Sar.shape t).2 (fun v o => some (v, o)) = _ from word_Sar.run n t.1 t.2]
    have e := word_Sar.gmap word_Sar.res (fun a0 => a0) n t.1 t.2
    unfold word_Sar.m at h
    rw [h] at e
    exact e
theorem word_Sar.ok (hmix : Try.prog.follows .mixedOrders = true) (n : Nat) (t : ((List Int) × (List Int))) (u) (h : word_Sar.m n t = some u) : FnOK Try.prog (fun _ => .any) 27 (word_Sar.shape t).1 (word_Sar.shape t).2 (word_Sar.res u).1 (word_Sar.res u).2 :=
  (word_Sar.call hmix n t u h).ok Try.func27 (by decide) (by kernel_rfl)
theorem word_Sar.s (hmix : Try.prog.follows .mixedOrders = true) (n : Nat) : CalleeS Try.prog (fun _ => .any) 27 (word_Sar.c n) :=
  CalleeS.of (res := word_Sar.res) (shape := word_Sar.shape) (fun R u K => rfl) (fun args lent t h => by
    unfold word_Sar.pat at h
    split at h
    · cases h; rfl
    · cases h) fun t u h => word_Sar.ok hmix n t u h
end

section
set_option linter.unusedVariables false
set_option linter.unusedSimpArgs false
set_option maxRecDepth 100000
open Go Go.Abs Go.Proofs
/-! word_Extend -/
theorem word_Extend.gmap {α β : Type} (h : β → α) (mk0 : (List Int) → β) (n : Nat) (a0 : (List Int)) (a1 : (List Int)) : word_Extend.g (fun a0 => (h (mk0 a0))) n a0 a1 = (word_Extend.g mk0 n a0 a1).map h := by
  unfold word_Extend.g
  exact (bindO_map fun r2 => (ite_map rfl (ite_map rfl (bindO_map fun r8 => (bindO_map fun r10 => (bindO_map fun r12 => rfl))))))
theorem word_Extend.run (n : Nat) (a0 : (List Int)) (a1 : (List Int)) : runF (word_Extend.C n) (word_Extend.A n) n Try.f21 [(.ints .u64 4 a0), (.ints .u64 4 a1)] [] (fun v o => some (v, o)) = word_Extend.g (fun a0 => ((Prod.mk (.ints .u64 4 a0) []) : AV × Blks)) n a0 a1 := by kernel_rfl
theorem word_Extend.call (hmix : Try.prog.follows .mixedOrders = true) (n : Nat) (t : ((List Int) × (List Int))) (u) (h : word_Extend.m n t = some u) : FnC Try.prog (fun _ => .any) 21 (word_Extend.shape t).1 (word_Extend.shape t).2 (word_Extend.res u).1 (word_Extend.res u).2 := by
  have hg : ∀ f m, (word_Extend.C n).Γ f = some m → CalleeS Try.prog (fun _ => .any) f m := by
    intro f m hm
    unfold word_Extend.C at hm
    simp only at hm
    first
    | (cases hm; done)
    | (split at hm <;> first
    | (cases hm; exact word_Small.s hmix n)
    | (cases hm; exact word_From.s hmix n)
    | (cases hm; exact word_Shl.s hmix n)
    | (cases hm; exact word_Sar.s hmix n)
    | (cases hm; done))
  have hb : Try.f21.body = some (Try.f21.body.getD .skip) := by kernel_rfl
  refine runF_calls (C := word_Extend.C n) (A := word_Extend.A n) (n := n) (fn := Try.f21) hg hmix Try.func21 hb ?_ ?_ (by decide) rfl rfl (by show 2 ≤ Try.f21.ntmps; decide) ?_
  · rw [show loopsIn (Try.f21.body.getD .skip) = [] by kernel_rfl]
    intro b hb m hm
    simp only [List.mem_cons, List.not_mem_nil, or_false] at hb

  · intro a ha m hm
    have hm' := lookJ_mem (show lookJ [] (jkey a) = some m from hm)
    simp only [List.mem_cons, List.not_mem_nil, or_false, Prod.mk.injEq] at hm'

  · rw [show runF (word_Extend.C n) (word_Extend.A n) n Try.f21 (word_Extend.shape t).1 (word_Extend.shape t).2 (fun v o => some (v, o)) = _ from word_Extend.run n t.1 t.2]
    have e := word_Extend.gmap word_Extend.res (fun a0 => a0) n t.1 t.2
    unfold word_Extend.m at h
    rw [h] at e
    exact e
theorem word_Extend.ok (hmix : Try.prog.follows .mixedOrders = true) (n : Nat) (t : ((List Int) × (List Int))) (u) (h : word_Extend.m n t = some u) : FnOK Try.prog (fun _ => .any) 21 (word_Extend.shape t).1 (word_Extend.shape t).2 (word_Extend.res u).1 (word_Extend.res u).2 :=
  (word_Extend.call hmix n t u h).ok Try.func21 (by decide) (by kernel_rfl)
theorem word_Extend.s (hmix : Try.prog.follows .mixedOrders = true) (n : Nat) : CalleeS Try.prog (fun _ => .any) 21 (word_Extend.c n) :=
  CalleeS.of (res := word_Extend.res) (shape := word_Extend.shape) (fun R u K => rfl) (fun args lent t h => by
    unfold word_Extend.pat at h
    split at h
    · cases h; rfl
    · cases h) fun t u h => word_Extend.ok hmix n t u h
end

section
set_option linter.unusedVariables false
set_option linter.unusedSimpArgs false
set_option maxRecDepth 100000
open Go Go.Abs Go.Proofs
/-! word_Byte -/
theorem word_Byte.gmap {α β : Type} (h : β → α) (mk0 : (List Int) → β) (n : Nat) (a0 : (List Int)) (a1 : (List Int)) : word_Byte.g (fun a0 => (h (mk0 a0))) n a0 a1 = (word_Byte.g mk0 n a0 a1).map h := by
  unfold word_Byte.g
  exact (bindO_map fun r2 => (ite_map rfl (ite_map rfl (ite_map (ite_map (ite_map (bindO_map fun r14 => rfl) rfl) rfl) rfl))))
theorem word_Byte.run (n : Nat) (a0 : (List Int)) (a1 : (List Int)) : runF (word_Byte.C n) (word_Byte.A n) n Try.f29 [(.ints .u64 4 a0), (.ints .u64 4 a1)] [] (fun v o => some (v, o)) = word_Byte.g (fun a0 => ((Prod.mk (.ints .u64 4 a0) []) : AV × Blks)) n a0 a1 := by kernel_rfl
theorem word_Byte.call (hmix : Try.prog.follows .mixedOrders = true) (n : Nat) (t : ((List Int) × (List Int))) (u) (h : word_Byte.m n t = some u) : FnC Try.prog (fun _ => .any) 29 (word_Byte.shape t).1 (word_Byte.shape t).2 (word_Byte.res u).1 (word_Byte.res u).2 := by
  have hg : ∀ f m, (word_Byte.C n).Γ f = some m → CalleeS Try.prog (fun _ => .any) f m := by
    intro f m hm
    unfold word_Byte.C at hm
    simp only at hm
    first
    | (cases hm; done)
    | (split at hm <;> first
    | (cases hm; exact word_Small.s hmix n)
    | (cases hm; exact word_From.s hmix n)
    | (cases hm; done))
  have hb : Try.f29.body = some (Try.f29.body.getD .skip) := by kernel_rfl
  refine runF_calls (C := word_Byte.C n) (A := word_Byte.A n) (n := n) (fn := Try.f29) hg hmix Try.func29 hb ?_ ?_ (by decide) rfl rfl (by show 2 ≤ Try.f29.ntmps; decide) ?_
  · rw [show loopsIn (Try.f29.body.getD .skip) = [] by kernel_rfl]
    intro b hb m hm
    simp only [List.mem_cons, List.not_mem_nil, or_false] at hb

  · intro a ha m hm
    have hm' := lookJ_mem (show lookJ [] (jkey a) = some m from hm)
    simp only [List.mem_cons, List.not_mem_nil, or_false, Prod.mk.injEq] at hm'

  · rw [show runF (word_Byte.C n) (word_Byte.A n) n Try.f29 (word_Byte.shape t).1 (word_Byte.shape t).2 (fun v o => some (v, o)) = _ from word_Byte.run n t.1 t.2]
    have e := word_Byte.gmap word_Byte.res (fun a0 => a0) n t.1 t.2
    unfold word_Byte.m at h
    rw [h] at e
    exact e
theorem word_Byte.ok (hmix : Try.prog.follows .mixedOrders = true) (n : Nat) (t : ((List Int) × (List Int))) (u) (h : word_Byte.m n t = some u) : FnOK Try.prog (fun _ => .any) 29 (word_Byte.shape t).1 (word_Byte.shape t).2 (word_Byte.res u).1 (word_Byte.res u).2 :=
  (word_Byte.call hmix n t u h).ok Try.func29 (by decide) (by kernel_rfl)
theorem word_Byte.s (hmix : Try.prog.follows .mixedOrders = true) (n : Nat) : CalleeS Try.prog (fun _ => .any) 29 (word_Byte.c n) :=
  CalleeS.of (res := word_Byte.res) (shape := word_Byte.shape) (fun R u K => rfl) (fun args lent t h => by
    unfold word_Byte.pat at h
    split at h
    · cases h; rfl
    · cases h) fun t u h => word_Byte.ok hmix n t u h
end

section
set_option linter.unusedVariables false
set_option linter.unusedSimpArgs false
set_option maxRecDepth 100000
open Go Go.Abs Go.Proofs
/-! l01_known -/
theorem l01_known.gmap {α β : Type} (h : β → α) (mk0 : Bool → β) (n : Nat)  : l01_known.g (fun a0 => (h (mk0 a0))) n  = (l01_known.g mk0 n ).map h := by
  unfold l01_known.g
  exact (bindO_map fun r2 => (bindO_map fun r4 => (bindO_map fun r6 => (bindO_map fun r8 => (bindO_map fun r10 => (bindO_map fun r12 => (bindO_map fun r14 => (ite_map (ite_map (bindO_map fun r20 => (ite_map (bindO_map fun r24 => (ite_map (bindO_map fun r28 => (bindO_map fun r30 => (bindO_map fun r32 => (bindO_map fun r34 => (ite_map (bindO_map fun r38 => (bindO_map fun r40 => (bindO_map fun r42 => (bindO_map fun r44 => (ite_map (bindO_map fun r48 => (bindO_map fun r50 => (bindO_map fun r52 => (bindO_map fun r54 => (ite_map (bindO_map fun r58 => (bindO_map fun r60 => (bindO_map fun r62 => (bindO_map fun r64 => rfl)))) rfl))))) rfl))))) rfl))))) rfl)) rfl)) rfl) rfl))))))))
theorem l01_known.run (n : Nat)  : runF (l01_known.C n) (l01_known.A n) n Try.f20 [] [] (fun v o => some (v, o)) = l01_known.g (fun a0 => ((Prod.mk (.bool a0) []) : AV × Blks)) n  := by kernel_rfl
theorem l01_known.call (hmix : Try.prog.follows .mixedOrders = true) (n : Nat) (t : Unit) (u) (h : l01_known.m n t = some u) : FnC Try.prog (fun _ => .any) 20 (l01_known.shape t).1 (l01_known.shape t).2 (l01_known.res u).1 (l01_known.res u).2 := by
  have hg : ∀ f m, (l01_known.C n).Γ f = some m → CalleeS Try.prog (fun _ => .any) f m := by
    intro f m hm
    unfold l01_known.C at hm
    simp only at hm
    first
    | (cases hm; done)
    | (split at hm <;> first
    | (cases hm; exact l01_w.s hmix n)
    | (cases hm; exact word_Sub.s hmix n)
    | (cases hm; exact l01_minus.s hmix n)
    | (cases hm; exact word_Sdiv.s hmix n)
    | (cases hm; exact word_MulMod.s hmix n)
    | (cases hm; exact word_Extend.s hmix n)
    | (cases hm; exact word_Sar.s hmix n)
    | (cases hm; exact word_Byte.s hmix n)
    | (cases hm; done))
  have hb : Try.f20.body = some (Try.f20.body.getD .skip) := by kernel_rfl
  refine runF_calls (C := l01_known.C n) (A := l01_known.A n) (n := n) (fn := Try.f20) hg hmix Try.func20 hb ?_ ?_ (by decide) rfl rfl (by show 0 ≤ Try.f20.ntmps; decide) ?_
  · rw [show loopsIn (Try.f20.body.getD .skip) = [] by kernel_rfl]
    intro b hb m hm
    simp only [List.mem_cons, List.not_mem_nil, or_false] at hb

  · intro a ha m hm
    have hm' := lookJ_mem (show lookJ [] (jkey a) = some m from hm)
    simp only [List.mem_cons, List.not_mem_nil, or_false, Prod.mk.injEq] at hm'

  · rw [show runF (l01_known.C n) (l01_known.A n) n Try.f20 (l01_known.shape t).1 (l01_known.shape t).2 (fun v o => some (v, o)) = _ from l01_known.run n ]
    have e := l01_known.gmap l01_known.res (fun a0 => a0) n 
    unfold l01_known.m at h
    rw [h] at e
    exact e
theorem l01_known.ok (hmix : Try.prog.follows .mixedOrders = true) (n : Nat) (t : Unit) (u) (h : l01_known.m n t = some u) : FnOK Try.prog (fun _ => .any) 20 (l01_known.shape t).1 (l01_known.shape t).2 (l01_known.res u).1 (l01_known.res u).2 :=
  (l01_known.call hmix n t u h).ok Try.func20 (by decide) (by kernel_rfl)
theorem l01_known.s (hmix : Try.prog.follows .mixedOrders = true) (n : Nat) : CalleeS Try.prog (fun _ => .any) 20 (l01_known.c n) :=
  CalleeS.of (res := l01_known.res) (shape := l01_known.shape) (fun R u K => rfl) (fun args lent t h => by
    unfold l01_known.pat at h
    split at h
    · cases h; rfl
    · cases h) fun t u h => l01_known.ok hmix n t u h
end

section
set_option linter.unusedVariables false
set_option linter.unusedSimpArgs false
set_option maxRecDepth 100000
open Go Go.Abs Go.Proofs
noncomputable section
/-! l01_WordOrder -/
noncomputable def l01_WordOrder.C (n : Nat) : Ctx := ⟨Try.prog, (fun _ => .any), fun f => match f with
  | 33 => some (word_Cmp.c n)
  | 36 => some (word_Scmp.c n)
  | 20 => some (l01_known.c n)
  | _ => none⟩
def l01_WordOrder.live : Nat → List Nat × List Nat := fun k => match k with
  | _ => ([], [])
def l01_WordOrder.jlive : Nat → List Nat × List Nat := fun k => match k with
  | _ => ([], [])
noncomputable def l01_WordOrder.A (n : Nat) : Ann := ⟨Try.f7.ntmps, 0, l01_WordOrder.live, [], [none], fun k => match k with
  | _ => none, l01_WordOrder.jlive, lookJ []⟩
def l01_WordOrder.g {α : Type} (mk0 : Bool → α) (n : Nat) (a0 : (List Int)) (a1 : (List Int)) (a2 : (List Int)) : Option α :=
  bindO (word_Cmp.m n (Prod.mk a0 a1)) fun r2 =>
    bindO (word_Cmp.m n (Prod.mk a1 a0)) fun r4 =>
      if (r2 == (Go.IntKind.wrap .i64 (0 - r4))) = true then
        bindO (word_Scmp.m n (Prod.mk a0 a1)) fun r8 =>
          bindO (word_Scmp.m n (Prod.mk a1 a0)) fun r10 =>
            if (r8 == (Go.IntKind.wrap .i64 (0 - r10))) = true then
              bindO (word_Cmp.m n (Prod.mk a0 a1)) fun r14 =>
                bindO (word_Cmp.m n (Prod.mk a0 a1)) fun r16 =>
                  if (decide (r16 ≥ 0)) = true then
                    bindO (word_Scmp.m n (Prod.mk a0 a1)) fun r20 =>
                      if (decide (r20 ≥ 0)) = true then
                        bindO (l01_known.m n Unit.unit) fun r24 =>
                          if r24 = true then
                            if ((r14 == 0) == (a0 == a1)) = true then
                              bindO (word_Scmp.m n (Prod.mk a0 a1)) fun r30 =>
                                bindO (word_Cmp.m n (Prod.mk a0 a1)) fun r32 =>
                                  some (mk0 (!((r30 == r32) == ((Go.Abs.ishr .u64 (List.getD a0 3 0) 63) != (Go.Abs.ishr .u64 (List.getD a1 3 0) 63)))))
                            else
                              some (mk0 false)
                          else
                            some (mk0 false)
                      else
                        bindO (word_Scmp.m n (Prod.mk a1 a2)) fun r24 =>
                          if (decide (r24 ≥ 0)) = true then
                            bindO (l01_known.m n Unit.unit) fun r28 =>
                              if r28 = true then
                                if ((r14 == 0) == (a0 == a1)) = true then
                                  bindO (word_Scmp.m n (Prod.mk a0 a1)) fun r34 =>
                                    bindO (word_Cmp.m n (Prod.mk a0 a1)) fun r36 =>
                                      some (mk0 (!((r34 == r36) == ((Go.Abs.ishr .u64 (List.getD a0 3 0) 63) != (Go.Abs.ishr .u64 (List.getD a1 3 0) 63)))))
                                else
                                  some (mk0 false)
                              else
                                some (mk0 false)
                          else
                            bindO (word_Scmp.m n (Prod.mk a0 a2)) fun r28 =>
                              bindO (l01_known.m n Unit.unit) fun r30 =>
                                if r30 = true then
                                  if ((r14 == 0) == (a0 == a1)) = true then
                                    if (decide (r28 < 0)) = true then
                                      bindO (word_Scmp.m n (Prod.mk a0 a1)) fun r38 =>
                                        bindO (word_Cmp.m n (Prod.mk a0 a1)) fun r40 =>
                                          some (mk0 (!((r38 == r40) == ((Go.Abs.ishr .u64 (List.getD a0 3 0) 63) != (Go.Abs.ishr .u64 (List.getD a1 3 0) 63)))))
                                    else
                                      some (mk0 false)
                                  else
                                    some (mk0 false)
                                else
                                  some (mk0 false)
                  else
                    bindO (word_Cmp.m n (Prod.mk a1 a2)) fun r20 =>
                      if (decide (r20 ≥ 0)) = true then
                        bindO (word_Scmp.m n (Prod.mk a0 a1)) fun r24 =>
                          if (decide (r24 ≥ 0)) = true then
                            bindO (l01_known.m n Unit.unit) fun r28 =>
                              if r28 = true then
                                if ((r14 == 0) == (a0 == a1)) = true then
                                  bindO (word_Scmp.m n (Prod.mk a0 a1)) fun r34 =>
                                    bindO (word_Cmp.m n (Prod.mk a0 a1)) fun r36 =>
                                      some (mk0 (!((r34 == r36) == ((Go.Abs.ishr .u64 (List.getD a0 3 0) 63) != (Go.Abs.ishr .u64 (List.getD a1 3 0) 63)))))
                                else
                                  some (mk0 false)
                              else
                                some (mk0 false)
                          else
                            bindO (word_Scmp.m n (Prod.mk a1 a2)) fun r28 =>
                              if (decide (r28 ≥ 0)) = true then
                                bindO (l01_known.m n Unit.unit) fun r32 =>
                                  if r32 = true then
                                    if ((r14 == 0) == (a0 == a1)) = true then
                                      bindO (word_Scmp.m n (Prod.mk a0 a1)) fun r38 =>
                                        bindO (word_Cmp.m n (Prod.mk a0 a1)) fun r40 =>
                                          some (mk0 (!((r38 == r40) == ((Go.Abs.ishr .u64 (List.getD a0 3 0) 63) != (Go.Abs.ishr .u64 (List.getD a1 3 0) 63)))))
                                    else
                                      some (mk0 false)
                                  else
                                    some (mk0 false)
                              else
                                bindO (word_Scmp.m n (Prod.mk a0 a2)) fun r32 =>
                                  bindO (l01_known.m n Unit.unit) fun r34 =>
                                    if r34 = true then
                                      if ((r14 == 0) == (a0 == a1)) = true then
                                        if (decide (r32 < 0)) = true then
                                          bindO (word_Scmp.m n (Prod.mk a0 a1)) fun r42 =>
                                            bindO (word_Cmp.m n (Prod.mk a0 a1)) fun r44 =>
                                              some (mk0 (!((r42 == r44) == ((Go.Abs.ishr .u64 (List.getD a0 3 0) 63) != (Go.Abs.ishr .u64 (List.getD a1 3 0) 63)))))
                                        else
                                          some (mk0 false)
                                      else
                                        some (mk0 false)
                                    else
                                      some (mk0 false)
                      else
                        bindO (word_Cmp.m n (Prod.mk a0 a2)) fun r24 =>
                          bindO (word_Scmp.m n (Prod.mk a0 a1)) fun r26 =>
                            if (decide (r26 ≥ 0)) = true then
                              bindO (l01_known.m n Unit.unit) fun r30 =>
                                if r30 = true then
                                  if ((r14 == 0) == (a0 == a1)) = true then
                                    if (decide (r24 < 0)) = true then
                                      bindO (word_Scmp.m n (Prod.mk a0 a1)) fun r38 =>
                                        bindO (word_Cmp.m n (Prod.mk a0 a1)) fun r40 =>
                                          some (mk0 (!((r38 == r40) == ((Go.Abs.ishr .u64 (List.getD a0 3 0) 63) != (Go.Abs.ishr .u64 (List.getD a1 3 0) 63)))))
                                    else
                                      some (mk0 false)
                                  else
                                    some (mk0 false)
                                else
                                  some (mk0 false)
                            else
                              bindO (word_Scmp.m n (Prod.mk a1 a2)) fun r30 =>
                                if (decide (r30 ≥ 0)) = true then
                                  bindO (l01_known.m n Unit.unit) fun r34 =>
                                    if r34 = true then
                                      if ((r14 == 0) == (a0 == a1)) = true then
                                        if (decide (r24 < 0)) = true then
                                          bindO (word_Scmp.m n (Prod.mk a0 a1)) fun r42 =>
                                            bindO (word_Cmp.m n (Prod.mk a0 a1)) fun r44 =>
                                              some (mk0 (!((r42 == r44) == ((Go.Abs.ishr .u64 (List.getD a0 3 0) 63) != (Go.Abs.ishr .u64 (List.getD a1 3 0) 63)))))
                                        else
                                          some (mk0 false)
                                      else
                                        some (mk0 false)
                                    else
                                      some (mk0 false)
                                else
                                  bindO (word_Scmp.m n (Prod.mk a0 a2)) fun r34 =>
                                    bindO (l01_known.m n Unit.unit) fun r36 =>
                                      if r36 = true then
                                        if ((r14 == 0) == (a0 == a1)) = true then
                                          if (decide (r24 < 0)) = true then
                                            if (decide (r34 < 0)) = true then
                                              bindO (word_Scmp.m n (Prod.mk a0 a1)) fun r46 =>
                                                bindO (word_Cmp.m n (Prod.mk a0 a1)) fun r48 =>
                                                  some (mk0 (!((r46 == r48) == ((Go.Abs.ishr .u64 (List.getD a0 3 0) 63) != (Go.Abs.ishr .u64 (List.getD a1 3 0) 63)))))
                                            else
                                              some (mk0 false)
                                          else
                                            some (mk0 false)
                                        else
                                          some (mk0 false)
                                      else
                                        some (mk0 false)
            else
              bindO (word_Cmp.m n (Prod.mk a0 a1)) fun r14 =>
                if (decide (r14 ≥ 0)) = true then
                  bindO (word_Scmp.m n (Prod.mk a0 a1)) fun r18 =>
                    if (decide (r18 ≥ 0)) = true then
                      bindO (l01_known.m n Unit.unit) fun r22 =>
                        if r22 = true then
                          some (mk0 false)
                        else
                          some (mk0 false)
                    else
                      bindO (word_Scmp.m n (Prod.mk a1 a2)) fun r22 =>
                        if (decide (r22 ≥ 0)) = true then
                          bindO (l01_known.m n Unit.unit) fun r26 =>
                            if r26 = true then
                              some (mk0 false)
                            else
                              some (mk0 false)
                        else
                          bindO (word_Scmp.m n (Prod.mk a0 a2)) fun r26 =>
                            bindO (l01_known.m n Unit.unit) fun r28 =>
                              if r28 = true then
                                some (mk0 false)
                              else
                                some (mk0 false)
                else
                  bindO (word_Cmp.m n (Prod.mk a1 a2)) fun r18 =>
                    if (decide (r18 ≥ 0)) = true then
                      bindO (word_Scmp.m n (Prod.mk a0 a1)) fun r22 =>
                        if (decide (r22 ≥ 0)) = true then
                          bindO (l01_known.m n Unit.unit) fun r26 =>
                            if r26 = true then
                              some (mk0 false)
                            else
                              some (mk0 false)
                        else
                          bindO (word_Scmp.m n (Prod.mk a1 a2)) fun r26 =>
                            if (decide (r26 ≥ 0)) = true then
                              bindO (l01_known.m n Unit.unit) fun r30 =>
                                if r30 = true then
                                  some (mk0 false)
                                else
                                  some (mk0 false)
                            else
                              bindO (word_Scmp.m n (Prod.mk a0 a2)) fun r30 =>
                                bindO (l01_known.m n Unit.unit) fun r32 =>
                                  if r32 = true then
                                    some (mk0 false)
                                  else
                                    some (mk0 false)
                    else
                      bindO (word_Cmp.m n (Prod.mk a0 a2)) fun r22 =>
                        bindO (word_Scmp.m n (Prod.mk a0 a1)) fun r24 =>
                          if (decide (r24 ≥ 0)) = true then
                            bindO (l01_known.m n Unit.unit) fun r28 =>
                              if r28 = true then
                                some (mk0 false)
                              else
                                some (mk0 false)
                          else
                            bindO (word_Scmp.m n (Prod.mk a1 a2)) fun r28 =>
                              if (decide (r28 ≥ 0)) = true then
                                bindO (l01_known.m n Unit.unit) fun r32 =>
                                  if r32 = true then
                                    some (mk0 false)
                                  else
                                    some (mk0 false)
                              else
                                bindO (word_Scmp.m n (Prod.mk a0 a2)) fun r32 =>
                                  bindO (l01_known.m n Unit.unit) fun r34 =>
                                    if r34 = true then
                                      some (mk0 false)
                                    else
                                      some (mk0 false)
      else
        bindO (word_Cmp.m n (Prod.mk a0 a1)) fun r8 =>
          if (decide (r8 ≥ 0)) = true then
            bindO (word_Scmp.m n (Prod.mk a0 a1)) fun r12 =>
              if (decide (r12 ≥ 0)) = true then
                bindO (l01_known.m n Unit.unit) fun r16 =>
                  if r16 = true then
                    some (mk0 false)
                  else
                    some (mk0 false)
              else
                bindO (word_Scmp.m n (Prod.mk a1 a2)) fun r16 =>
                  if (decide (r16 ≥ 0)) = true then
                    bindO (l01_known.m n Unit.unit) fun r20 =>
                      if r20 = true then
                        some (mk0 false)
                      else
                        some (mk0 false)
                  else
                    bindO (word_Scmp.m n (Prod.mk a0 a2)) fun r20 =>
                      bindO (l01_known.m n Unit.unit) fun r22 =>
                        if r22 = true then
                          some (mk0 false)
                        else
                          some (mk0 false)
          else
            bindO (word_Cmp.m n (Prod.mk a1 a2)) fun r12 =>
              if (decide (r12 ≥ 0)) = true then
                bindO (word_Scmp.m n (Prod.mk a0 a1)) fun r16 =>
                  if (decide (r16 ≥ 0)) = true then
                    bindO (l01_known.m n Unit.unit) fun r20 =>
                      if r20 = true then
                        some (mk0 false)
                      else
                        some (mk0 false)
                  else
                    bindO (word_Scmp.m n (Prod.mk a1 a2)) fun r20 =>
                      if (decide (r20 ≥ 0)) = true then
                        bindO (l01_known.m n Unit.unit) fun r24 =>
                          if r24 = true then
                            some (mk0 false)
                          else
                            some (mk0 false)
                      else
                        bindO (word_Scmp.m n (Prod.mk a0 a2)) fun r24 =>
                          bindO (l01_known.m n Unit.unit) fun r26 =>
                            if r26 = true then
                              some (mk0 false)
                            else
                              some (mk0 false)
              else
                bindO (word_Cmp.m n (Prod.mk a0 a2)) fun r16 =>
                  bindO (word_Scmp.m n (Prod.mk a0 a1)) fun r18 =>
                    if (decide (r18 ≥ 0)) = true then
                      bindO (l01_known.m n Unit.unit) fun r22 =>
                        if r22 = true then
                          some (mk0 false)
                        else
                          some (mk0 false)
                    else
                      bindO (word_Scmp.m n (Prod.mk a1 a2)) fun r22 =>
                        if (decide (r22 ≥ 0)) = true then
                          bindO (l01_known.m n Unit.unit) fun r26 =>
                            if r26 = true then
                              some (mk0 false)
                            else
                              some (mk0 false)
                        else
                          bindO (word_Scmp.m n (Prod.mk a0 a2)) fun r26 =>
                            bindO (l01_known.m n Unit.unit) fun r28 =>
                              if r28 = true then
                                some (mk0 false)
                              else
                                some (mk0 false)
def l01_WordOrder.m (n : Nat) (t : ((List Int) × ((List Int) × (List Int)))) : Option Bool := l01_WordOrder.g (fun a0 => a0) n t.1 t.2.1 t.2.2
def l01_WordOrder.pat : List AV → Blks → Option ((List Int) × ((List Int) × (List Int)))
  | [(.ints .u64 4 a0), (.ints .u64 4 a1), (.ints .u64 4 a2)], [] => some (a0, a1, a2)
  | _, _ => none
def l01_WordOrder.shape (t : ((List Int) × ((List Int) × (List Int)))) : List AV × Blks := ([(.ints .u64 4 t.1), (.ints .u64 4 t.2.1), (.ints .u64 4 t.2.2)], [])
def l01_WordOrder.res : Bool → AV × Blks
  | u => (Prod.mk (.bool u) [])
def l01_WordOrder.resK {R : Type} (u : Bool) (K : AV → Blks → Option R) : Option R := (fun p : AV × Blks => K p.1 p.2) (Prod.mk (.bool u) [])
def l01_WordOrder.c (n : Nat) : Abs.Callee := .mk' [] [none, none, none] l01_WordOrder.pat (l01_WordOrder.m n) l01_WordOrder.resK
end
end

section
set_option linter.unusedVariables false
set_option linter.unusedSimpArgs false
set_option maxRecDepth 100000
open Go Go.Abs Go.Proofs
/-! l01_WordOrder -/
theorem l01_WordOrder.gmap {α β : Type} (h : β → α) (mk0 : Bool → β) (n : Nat) (a0 : (List Int)) (a1 : (List Int)) (a2 : (List Int)) : l01_WordOrder.g (fun a0 => (h (mk0 a0))) n a0 a1 a2 = (l01_WordOrder.g mk0 n a0 a1 a2).map h := by
  unfold l01_WordOrder.g
  exact (bindO_map fun r2 => (bindO_map fun r4 => (ite_map (bindO_map fun r8 => (bindO_map fun r10 => (ite_map (bindO_map fun r14 => (bindO_map fun r16 => (ite_map (bindO_map fun r20 => (ite_map (bindO_map fun r24 => (ite_map (ite_map (bindO_map fun r30 => (bindO_map fun r32 => rfl)) rfl) rfl)) (bindO_map fun r24 => (ite_map (bindO_map fun r28 => (ite_map (ite_map (bindO_map fun r34 => (bindO_map fun r36 => rfl)) rfl) rfl)) (bindO_map fun r28 => (bindO_map fun r30 => (ite_map (ite_map (ite_map (bindO_map fun r38 => (bindO_map fun r40 => rfl)) rfl) rfl) rfl))))))) (bindO_map fun r20 => (ite_map (bindO_map fun r24 => (ite_map (bindO_map fun r28 => (ite_map (ite_map (bindO_map fun r34 => (bindO_map fun r36 => rfl)) rfl) rfl)) (bindO_map fun r28 => (ite_map (bindO_map fun r32 => (ite_map (ite_map (bindO_map fun r38 => (bindO_map fun r40 => rfl)) rfl) rfl)) (bindO_map fun r32 => (bindO_map fun r34 => (ite_map (ite_map (ite_map (bindO_map fun r42 => (bindO_map fun r44 => rfl)) rfl) rfl) rfl))))))) (bindO_map fun r24 => (bindO_map fun r26 => (ite_map (bindO_map fun r30 => (ite_map (ite_map (ite_map (bindO_map fun r38 => (bindO_map fun r40 => rfl)) rfl) rfl) rfl)) (bindO_map fun r30 => (ite_map (bindO_map fun r34 => (ite_map (ite_map (ite_map (bindO_map fun r42 => (bindO_map fun r44 => rfl)) rfl) rfl) rfl)) (bindO_map fun r34 => (bindO_map fun r36 => (ite_map (ite_map (ite_map (ite_map (bindO_map fun r46 => (bindO_map fun r48 => rfl)) rfl) rfl) rfl) rfl))))))))))))) (bindO_map fun r14 => (ite_map (bindO_map fun r18 => (ite_map (bindO_map fun r22 => (ite_map rfl rfl)) (bindO_map fun r22 => (ite_map (bindO_map fun r26 => (ite_map rfl rfl)) (bindO_map fun r26 => (bindO_map fun r28 => (ite_map rfl rfl))))))) (bindO_map fun r18 => (ite_map (bindO_map fun r22 => (ite_map (bindO_map fun r26 => (ite_map rfl rfl)) (bindO_map fun r26 => (ite_map (bindO_map fun r30 => (ite_map rfl rfl)) (bindO_map fun r30 => (bindO_map fun r32 => (ite_map rfl rfl))))))) (bindO_map fun r22 => (bindO_map fun r24 => (ite_map (bindO_map fun r28 => (ite_map rfl rfl)) (bindO_map fun r28 => (ite_map (bindO_map fun r32 => (ite_map rfl rfl)) (bindO_map fun r32 => (bindO_map fun r34 => (ite_map rfl rfl))))))))))))))) (bindO_map fun r8 => (ite_map (bindO_map fun r12 => (ite_map (bindO_map fun r16 => (ite_map rfl rfl)) (bindO_map fun r16 => (ite_map (bindO_map fun r20 => (ite_map rfl rfl)) (bindO_map fun r20 => (bindO_map fun r22 => (ite_map rfl rfl))))))) (bindO_map fun r12 => (ite_map (bindO_map fun r16 => (ite_map (bindO_map fun r20 => (ite_map rfl rfl)) (bindO_map fun r20 => (ite_map (bindO_map fun r24 => (ite_map rfl rfl)) (bindO_map fun r24 => (bindO_map fun r26 => (ite_map rfl rfl))))))) (bindO_map fun r16 => (bindO_map fun r18 => (ite_map (bindO_map fun r22 => (ite_map rfl rfl)) (bindO_map fun r22 => (ite_map (bindO_map fun r26 => (ite_map rfl rfl)) (bindO_map fun r26 => (bindO_map fun r28 => (ite_map rfl rfl)))))))))))))))
theorem l01_WordOrder.run (n : Nat) (a0 : (List Int)) (a1 : (List Int)) (a2 : (List Int)) : runF (l01_WordOrder.C n) (l01_WordOrder.A n) n Try.f7 [(.ints .u64 4 a0), (.ints .u64 4 a1), (.ints .u64 4 a2)] [] (fun v o => some (v, o)) = l01_WordOrder.g (fun a0 => ((Prod.mk (.bool a0) []) : AV × Blks)) n a0 a1 a2 := by kernel_rfl
theorem l01_WordOrder.call (hmix : Try.prog.follows .mixedOrders = true) (n : Nat) (t : ((List Int) × ((List Int) × (List Int)))) (u) (h : l01_WordOrder.m n t = some u) : FnC Try.prog (fun _ => .any) 7 (l01_WordOrder.shape t).1 (l01_WordOrder.shape t).2 (l01_WordOrder.res u).1 (l01_WordOrder.res u).2 := by
  have hg : ∀ f m, (l01_WordOrder.C n).Γ f = some m → CalleeS Try.prog (fun _ => .any) f m := by
    intro f m hm
    unfold l01_WordOrder.C at hm
    simp only at hm
    first
    | (cases hm; done)
    | (split at hm <;> first
    | (cases hm; exact word_Cmp.s hmix n)
    | (cases hm; exact word_Scmp.s hmix n)
    | (cases hm; exact l01_known.s hmix n)
    | (cases hm; done))
  have hb : Try.f7.body = some (Try.f7.body.getD .skip) := by kernel_rfl
  refine runF_calls (C := l01_WordOrder.C n) (A := l01_WordOrder.A n) (n := n) (fn := Try.f7) hg hmix Try.func7 hb ?_ ?_ (by decide) rfl rfl (by show 3 ≤ Try.f7.ntmps; decide) ?_
  · rw [show loopsIn (Try.f7.body.getD .skip) = [] by kernel_rfl]
    intro b hb m hm
    simp only [List.mem_cons, List.not_mem_nil, or_false] at hb

  · intro a ha m hm
    have hm' := lookJ_mem (show lookJ [] (jkey a) = some m from hm)
    simp only [List.mem_cons, List.not_mem_nil, or_false, Prod.mk.injEq] at hm'

  · rw [show runF (l01_WordOrder.C n) (l01_WordOrder.A n) n Try.f7 (l01_WordOrder.shape t).1 (l01_WordOrder.shape t).2 (fun v o => some (v, o)) = _ from l01_WordOrder.run n t.1 t.2.1 t.2.2]
    have e := l01_WordOrder.gmap l01_WordOrder.res (fun a0 => a0) n t.1 t.2.1 t.2.2
    unfold l01_WordOrder.m at h
    rw [h] at e
    exact e
theorem l01_WordOrder.ok (hmix : Try.prog.follows .mixedOrders = true) (n : Nat) (t : ((List Int) × ((List Int) × (List Int)))) (u) (h : l01_WordOrder.m n t = some u) : FnOK Try.prog (fun _ => .any) 7 (l01_WordOrder.shape t).1 (l01_WordOrder.shape t).2 (l01_WordOrder.res u).1 (l01_WordOrder.res u).2 :=
  (l01_WordOrder.call hmix n t u h).ok Try.func7 (by decide) (by kernel_rfl)
theorem l01_WordOrder.s (hmix : Try.prog.follows .mixedOrders = true) (n : Nat) : CalleeS Try.prog (fun _ => .any) 7 (l01_WordOrder.c n) :=
  CalleeS.of (res := l01_WordOrder.res) (shape := l01_WordOrder.shape) (fun R u K => rfl) (fun args lent t h => by
    unfold l01_WordOrder.pat at h
    split at h
    · cases h; rfl
    · cases h) fun t u h => l01_WordOrder.ok hmix n t u h
end
