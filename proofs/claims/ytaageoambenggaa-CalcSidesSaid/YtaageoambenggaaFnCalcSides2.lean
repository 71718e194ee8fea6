/- What the program's functions compute, as plain functions, each with its proof: the function does just that. Condition: the plain function has an answer. -/
import Derived.Test.YtaageoambenggaaAbsD6
import Derived.Test.YtaageoambenggaaProg
import Derived.Test.YtaageoambenggaaFnCalcSides1
set_option linter.unusedVariables false
set_option linter.unusedSimpArgs false
set_option maxRecDepth 100000
open Go Go.Abs Go.Proofs
section
noncomputable section
noncomputable def word_divide.C (n : Nat) : Ctx := ⟨Try.prog, (fun _ => .any), fun f => match f with
 | 118 => some (word_wide_size.c n)
 | 88 => some (word_Add.c n)
 | 83 => some (word_Cmp.c n)
 | 90 => some (word_Sub.c n)
 | _ => none⟩
def word_divide.live : Nat → List Nat × List Nat := fun k => match k with
 | 2 => ([6, 5, 2, 3, 4], [4, 5])
 | _ => ([], [])
def word_divide.jlive : Nat → List Nat × List Nat := fun k => match k with
 | _ => ([], [])
def word_divide.l2_0.r {α : Type} (mk0 : (List Int) → (List Int) → α) (n : Nat) (rc : Int → (List Int) → (List Int) → (List Int) → (List Int) → Option α)  (x0 : Int) (x1 : (List Int)) (x2 : (List Int)) (x3 : (List Int)) (x4 : (List Int)) : Option α :=
  if (decide (x0 ≥ 0)) = true then
   bindO (word_Add.m n (Prod.mk x1 x1)) fun r6 =>
    if 0 ≤ (IntKind.wrap .i64 (Int.tdiv x0 64)) then
     if (IntKind.wrap .i64 (Int.tdiv x0 64)) < 8 then
      if 0 ≤ (Int.tmod x0 64) then
       if ((ishr .u64 (List.getD x1 3 0) 63) != 0) = true then
        bindO (word_Sub.m n (Prod.mk (List.set (Prod.fst r6) 0 (ibits BinOp.or .u64 (List.getD (Prod.fst r6) 0 0) (ibits BinOp.and .u64 (ishr .u64 (List.getD x2 (Int.toNat (IntKind.wrap .i64 (Int.tdiv x0 64))) 0) (Int.tmod x0 64)) 1))) x3)) fun r16 =>
         if (decide (x0 < 256)) = true then
          if 0 ≤ (IntKind.wrap .i64 (Int.tdiv x0 64)) then
           if (IntKind.wrap .i64 (Int.tdiv x0 64)) < 4 then
            if 0 ≤ (Int.tmod x0 64) then
             if 0 ≤ (IntKind.wrap .i64 (Int.tdiv x0 64)) then
              if (IntKind.wrap .i64 (Int.tdiv x0 64)) < 4 then
               rc (IntKind.wrap .i64 (x0 - 1)) (Prod.fst r16) x2 x3 (List.set x4 (Int.toNat (IntKind.wrap .i64 (Int.tdiv x0 64))) (ibits BinOp.or .u64 (List.getD x4 (Int.toNat (IntKind.wrap .i64 (Int.tdiv x0 64))) 0) (ishl .u64 1 (Int.tmod x0 64))))
              else
               none
             else
              none
            else
             none
           else
            none
          else
           none
         else
          rc (IntKind.wrap .i64 (x0 - 1)) (Prod.fst r16) x2 x3 x4
       else
        bindO (word_Cmp.m n (Prod.mk (List.set (Prod.fst r6) 0 (ibits BinOp.or .u64 (List.getD (Prod.fst r6) 0 0) (ibits BinOp.and .u64 (ishr .u64 (List.getD x2 (Int.toNat (IntKind.wrap .i64 (Int.tdiv x0 64))) 0) (Int.tmod x0 64)) 1))) x3)) fun r16 =>
         if (decide (r16 ≥ 0)) = true then
          bindO (word_Sub.m n (Prod.mk (List.set (Prod.fst r6) 0 (ibits BinOp.or .u64 (List.getD (Prod.fst r6) 0 0) (ibits BinOp.and .u64 (ishr .u64 (List.getD x2 (Int.toNat (IntKind.wrap .i64 (Int.tdiv x0 64))) 0) (Int.tmod x0 64)) 1))) x3)) fun r20 =>
           if (decide (x0 < 256)) = true then
            if 0 ≤ (IntKind.wrap .i64 (Int.tdiv x0 64)) then
             if (IntKind.wrap .i64 (Int.tdiv x0 64)) < 4 then
              if 0 ≤ (Int.tmod x0 64) then
               if 0 ≤ (IntKind.wrap .i64 (Int.tdiv x0 64)) then
                if (IntKind.wrap .i64 (Int.tdiv x0 64)) < 4 then
                 rc (IntKind.wrap .i64 (x0 - 1)) (Prod.fst r20) x2 x3 (List.set x4 (Int.toNat (IntKind.wrap .i64 (Int.tdiv x0 64))) (ibits BinOp.or .u64 (List.getD x4 (Int.toNat (IntKind.wrap .i64 (Int.tdiv x0 64))) 0) (ishl .u64 1 (Int.tmod x0 64))))
                else
                 none
               else
                none
              else
               none
             else
              none
            else
             none
           else
            rc (IntKind.wrap .i64 (x0 - 1)) (Prod.fst r20) x2 x3 x4
         else
          rc (IntKind.wrap .i64 (x0 - 1)) (List.set (Prod.fst r6) 0 (ibits BinOp.or .u64 (List.getD (Prod.fst r6) 0 0) (ibits BinOp.and .u64 (ishr .u64 (List.getD x2 (Int.toNat (IntKind.wrap .i64 (Int.tdiv x0 64))) 0) (Int.tmod x0 64)) 1))) x2 x3 x4
      else
       none
     else
      none
    else
     none
  else
   some (mk0 x4 x1)
def word_divide.l2_0.g {α : Type} (mk0 : (List Int) → (List Int) → α) (n : Nat) : Nat → Int → (List Int) → (List Int) → (List Int) → (List Int) → Option α
 | 0, _, _, _, _, _ => none
 | m + 1, x0, x1, x2, x3, x4 => word_divide.l2_0.r mk0 n (fun y0 y1 y2 y3 y4 => word_divide.l2_0.g mk0 n m y0 y1 y2 y3 y4)  x0 x1 x2 x3 x4
def word_divide.l2_0.m (n m : Nat) (t : (Int × ((List Int) × ((List Int) × ((List Int) × (List Int)))))) : Option ((List Int) × (List Int)) := word_divide.l2_0.g (fun a0 a1 => (a0, a1)) n m t.1 t.2.1 t.2.2.1 t.2.2.2.1 t.2.2.2.2
def word_divide.l2_0.pat : St → Option (Int × ((List Int) × ((List Int) × ((List Int) × (List Int)))))
 | (St.mk [(.int .i64 x0), (.ptr 0 []), (.ptr 1 []), (.ptr 2 []), (.ptr 3 [])] [(some (.var (.ints .u64 4 x1))), (some (.var (.ints .u64 8 x2))), (some (.var (.ints .u64 4 x3))), (some (.var (.ints .u64 4 x4)))]) => some (x0, x1, x2, x3, x4)
 | _ => none
def word_divide.l2_0.shape (t : (Int × ((List Int) × ((List Int) × ((List Int) × (List Int)))))) : St := (St.mk [(.int .i64 t.1), (.ptr 0 []), (.ptr 1 []), (.ptr 2 []), (.ptr 3 [])] [(some (.var (.ints .u64 4 t.2.1))), (some (.var (.ints .u64 8 t.2.2.1))), (some (.var (.ints .u64 4 t.2.2.2.1))), (some (.var (.ints .u64 4 t.2.2.2.2)))])
def word_divide.l2_0.res : ((List Int) × (List Int)) → Ex × St
 | u => (Prod.mk (.exit 0) (St.mk [(.ptr 0 []), (.ptr 1 [])] [(some (.var (.ints .u64 4 u.1))), (some (.var (.ints .u64 4 u.2)))]))
def word_divide.l2_0.resK {R : Type} (u : ((List Int) × (List Int))) (K : Ex → St → Option R) : Option R := (fun p : Ex × St => K p.1 p.2) (Prod.mk (.exit 0) (St.mk [(.ptr 0 []), (.ptr 1 [])] [(some (.var (.ints .u64 4 u.1))), (some (.var (.ints .u64 4 u.2)))]))
noncomputable def word_divide.A (n : Nat) : Ann := ⟨Try.f114.ntmps, 0, word_divide.live, [], [none, none], fun k => match k with
 | 2 => some (.mk' word_divide.l2_0.pat (word_divide.l2_0.m n n) word_divide.l2_0.resK)
 | _ => none, word_divide.jlive, lookJ []⟩
noncomputable def word_divide.b0 : Code := (loopsIn (Try.f114.body.getD .skip)).getD 0 .skip
def word_divide.g {α : Type} (mk0 : (List Int) → (List Int) → α) (n : Nat) (a0 : (List Int)) (a1 : (List Int)) : Option α :=
 bindO (word_wide_size.m n a0) fun r2 =>
  bindO (word_divide.l2_0.m n n ((IntKind.wrap .i64 (r2 - 1)), [0, 0, 0, 0], a0, a1, [0, 0, 0, 0])) fun r4 =>
   some (mk0 (Prod.fst r4) (Prod.snd r4))
def word_divide.m (n : Nat) (t : ((List Int) × (List Int))) : Option ((List Int) × (List Int)) := word_divide.g (fun a0 a1 => (a0, a1)) n t.1 t.2
def word_divide.pat : List AV → Blks → Option ((List Int) × (List Int))
 | [(.ints .u64 8 a0), (.ints .u64 4 a1)], [] => some (a0, a1)
 | _, _ => none
def word_divide.shape (t : ((List Int) × (List Int))) : List AV × Blks := ([(.ints .u64 8 t.1), (.ints .u64 4 t.2)], [])
def word_divide.res : ((List Int) × (List Int)) → AV × Blks
 | u => (Prod.mk (.tup [(.ints .u64 4 u.1), (.ints .u64 4 u.2)]) [])
def word_divide.resK {R : Type} (u : ((List Int) × (List Int))) (K : AV → Blks → Option R) : Option R := (fun p : AV × Blks => K p.1 p.2) (Prod.mk (.tup [(.ints .u64 4 u.1), (.ints .u64 4 u.2)]) [])
def word_divide.c (n : Nat) : Abs.Callee := .mk' [] [none, none] word_divide.pat (word_divide.m n) word_divide.resK
end
end
section
noncomputable section
noncomputable def word_Div.C (n : Nat) : Ctx := ⟨Try.prog, (fun _ => .any), fun f => match f with
 | 115 => some (word_widened.c n)
 | 114 => some (word_divide.c n)
 | _ => none⟩
def word_Div.live : Nat → List Nat × List Nat := fun k => match k with
 | _ => ([], [])
def word_Div.jlive : Nat → List Nat × List Nat := fun k => match k with
 | _ => ([], [])
noncomputable def word_Div.A (n : Nat) : Ann := ⟨Try.f91.ntmps, 0, word_Div.live, [], [none, none], fun k => match k with
 | _ => none, word_Div.jlive, lookJ []⟩
def word_Div.g {α : Type} (mk0 : (List Int) → (List Int) → α) (n : Nat) (a0 : (List Int)) (a1 : (List Int)) : Option α :=
 if (a1 == [0, 0, 0, 0]) = true then
  some (mk0 a1 a1)
 else
  bindO (word_widened.m n a0) fun r4 =>
   bindO (word_divide.m n (Prod.mk r4 a1)) fun r6 =>
    some (mk0 (Prod.fst r6) (Prod.snd r6))
def word_Div.m (n : Nat) (t : ((List Int) × (List Int))) : Option ((List Int) × (List Int)) := word_Div.g (fun a0 a1 => (a0, a1)) n t.1 t.2
def word_Div.pat : List AV → Blks → Option ((List Int) × (List Int))
 | [(.ints .u64 4 a0), (.ints .u64 4 a1)], [] => some (a0, a1)
 | _, _ => none
def word_Div.shape (t : ((List Int) × (List Int))) : List AV × Blks := ([(.ints .u64 4 t.1), (.ints .u64 4 t.2)], [])
def word_Div.res : ((List Int) × (List Int)) → AV × Blks
 | u => (Prod.mk (.tup [(.ints .u64 4 u.1), (.ints .u64 4 u.2)]) [])
def word_Div.resK {R : Type} (u : ((List Int) × (List Int))) (K : AV → Blks → Option R) : Option R := (fun p : AV × Blks => K p.1 p.2) (Prod.mk (.tup [(.ints .u64 4 u.1), (.ints .u64 4 u.2)]) [])
def word_Div.c (n : Nat) : Abs.Callee := .mk' [] [none, none] word_Div.pat (word_Div.m n) word_Div.resK
end
end
section
theorem word_widened.gmap {α β : Type} (h : β → α) (mk0 : (List Int) → β) (n : Nat) (a0 : (List Int)) : word_widened.g (fun a0 => (h (mk0 a0))) n a0 = (word_widened.g mk0 n a0).map h := by
  unfold word_widened.g
  exact rfl
theorem word_widened.run (n : Nat) (a0 : (List Int)) : runF (word_widened.C n) (word_widened.A n) n Try.f115 [(.ints .u64 4 a0)] [] (fun v o => some (v, o)) = word_widened.g (fun a0 => ((Prod.mk (.ints .u64 8 a0) []) : AV × Blks)) n a0 := by kernel_rfl
theorem word_widened.call (hmix : Try.prog.follows .mixedOrders = true) (n : Nat) (t : (List Int)) (u) (h : word_widened.m n t = some u) : FnC Try.prog (fun _ => .any) 115 (word_widened.shape t).1 (word_widened.shape t).2 (word_widened.res u).1 (word_widened.res u).2 := by
  have hg : ∀ f m, (word_widened.C n).Γ f = some m → CalleeS Try.prog (fun _ => .any) f m := by
    intro f m hm
    unfold word_widened.C at hm
    simp only at hm
    first
    | (cases hm; done)
    | (split at hm <;> first
    | (cases hm; done))
  have hb : Try.f115.body = some (Try.f115.body.getD .skip) := by kernel_rfl
  refine runF_calls (C := word_widened.C n) (A := word_widened.A n) (n := n) (fn := Try.f115) hg hmix Try.func115 hb ?_ ?_ (by decide) rfl rfl (by show 1 ≤ Try.f115.ntmps; decide) ?_
  · rw [show loopsIn (Try.f115.body.getD .skip) = [] by kernel_rfl]
    intro b hb
    cases hb
  · intro a ha m hm
    cases (show none = some m from hm)
  · rw [show runF (word_widened.C n) (word_widened.A n) n Try.f115 (word_widened.shape t).1 (word_widened.shape t).2 (fun v o => some (v, o)) = _ from word_widened.run n t]
    have e := word_widened.gmap word_widened.res (fun a0 => a0) n t
    unfold word_widened.m at h
    rw [h] at e
    exact e
theorem word_widened.s (hmix : Try.prog.follows .mixedOrders = true) (n : Nat) : CalleeS Try.prog (fun _ => .any) 115 (word_widened.c n) :=
  CalleeS.of (res := word_widened.res) (shape := word_widened.shape) (fun R u K => rfl) (fun args lent t h => by
    unfold word_widened.pat at h
    split at h
    · cases h; rfl
    · cases h) fun t u h => (word_widened.call hmix n t u h).ok Try.func115 (by decide) (by kernel_rfl)
end
section
theorem bits_Len64.j1.gmap {α β : Type} (h : β → α) (mk0 : Int → Int → β) (n : Nat) (x0 : Int) (x1 : Int) : bits_Len64.j1.g (fun a0 a1 => (h (mk0 a0 a1))) n x0 x1 = (bits_Len64.j1.g mk0 n x0 x1).map h := by
  unfold bits_Len64.j1.g
  exact (ite_map rfl rfl)
theorem bits_Len64.j1.pat_shape : ∀ st t, bits_Len64.j1.pat st = some t → st = bits_Len64.j1.shape t := by
  intro st t h
  unfold bits_Len64.j1.pat at h
  split at h
  · cases h; rfl
  · cases h
theorem bits_Len64.j1.run (n : Nat) (x0 : Int) (x1 : Int) : joinOf (bits_Len64.C n) (bits_Len64.A n) n bits_Len64.jc0 ((St.mk [(.int .u64 x0), (.int .i64 x1)] [])) = bits_Len64.j1.g (fun a0 a1 => ((Prod.mk .normal (St.mk [(.int .u64 a0), (.int .i64 a1)] [])) : Ex × St)) n x0 x1 := by kernel_rfl
theorem bits_Len64.j1.join (n : Nat) (t : (Int × Int)) : joinOf (bits_Len64.C n) (bits_Len64.A n) n bits_Len64.jc0 (bits_Len64.j1.shape t) = (bits_Len64.j1.m n t).map bits_Len64.j1.res :=
  (bits_Len64.j1.run n t.1 t.2).trans (bits_Len64.j1.gmap bits_Len64.j1.res (fun a0 a1 => (a0, a1)) n t.1 t.2)
theorem bits_Len64.j4.gmap {α β : Type} (h : β → α) (mk0 : Int → Int → β) (n : Nat) (x0 : Int) (x1 : Int) : bits_Len64.j4.g (fun a0 a1 => (h (mk0 a0 a1))) n x0 x1 = (bits_Len64.j4.g mk0 n x0 x1).map h := by
  unfold bits_Len64.j4.g
  exact (ite_map rfl rfl)
theorem bits_Len64.j4.pat_shape : ∀ st t, bits_Len64.j4.pat st = some t → st = bits_Len64.j4.shape t := by
  intro st t h
  unfold bits_Len64.j4.pat at h
  split at h
  · cases h; rfl
  · cases h
theorem bits_Len64.j4.run (n : Nat) (x0 : Int) (x1 : Int) : joinOf (bits_Len64.C n) (bits_Len64.A n) n bits_Len64.jc1 ((St.mk [(.int .u64 x0), (.int .i64 x1)] [])) = bits_Len64.j4.g (fun a0 a1 => ((Prod.mk .normal (St.mk [(.int .u64 a0), (.int .i64 a1)] [])) : Ex × St)) n x0 x1 := by kernel_rfl
theorem bits_Len64.j4.join (n : Nat) (t : (Int × Int)) : joinOf (bits_Len64.C n) (bits_Len64.A n) n bits_Len64.jc1 (bits_Len64.j4.shape t) = (bits_Len64.j4.m n t).map bits_Len64.j4.res :=
  (bits_Len64.j4.run n t.1 t.2).trans (bits_Len64.j4.gmap bits_Len64.j4.res (fun a0 a1 => (a0, a1)) n t.1 t.2)
theorem bits_Len64.j7.gmap {α β : Type} (h : β → α) (mk0 : Int → Int → β) (n : Nat) (x0 : Int) (x1 : Int) : bits_Len64.j7.g (fun a0 a1 => (h (mk0 a0 a1))) n x0 x1 = (bits_Len64.j7.g mk0 n x0 x1).map h := by
  unfold bits_Len64.j7.g
  exact (ite_map rfl rfl)
theorem bits_Len64.j7.pat_shape : ∀ st t, bits_Len64.j7.pat st = some t → st = bits_Len64.j7.shape t := by
  intro st t h
  unfold bits_Len64.j7.pat at h
  split at h
  · cases h; rfl
  · cases h
theorem bits_Len64.j7.run (n : Nat) (x0 : Int) (x1 : Int) : joinOf (bits_Len64.C n) (bits_Len64.A n) n bits_Len64.jc2 ((St.mk [(.int .u64 x0), (.int .i64 x1)] [])) = bits_Len64.j7.g (fun a0 a1 => ((Prod.mk .normal (St.mk [(.int .i64 a0), (.int .u64 a1)] [])) : Ex × St)) n x0 x1 := by kernel_rfl
theorem bits_Len64.j7.join (n : Nat) (t : (Int × Int)) : joinOf (bits_Len64.C n) (bits_Len64.A n) n bits_Len64.jc2 (bits_Len64.j7.shape t) = (bits_Len64.j7.m n t).map bits_Len64.j7.res :=
  (bits_Len64.j7.run n t.1 t.2).trans (bits_Len64.j7.gmap bits_Len64.j7.res (fun a0 a1 => (a0, a1)) n t.1 t.2)
theorem bits_Len64.gmap {α β : Type} (h : β → α) (mk0 : Int → β) (n : Nat) (a0 : Int) : bits_Len64.g (fun a0 => (h (mk0 a0))) n a0 = (bits_Len64.g mk0 n a0).map h := by
  unfold bits_Len64.g
  exact (bindO_map fun r2 => (bindO_map fun r4 => (bindO_map fun r6 => (ite_map (ite_map rfl rfl) rfl))))
theorem bits_Len64.run (n : Nat) (a0 : Int) : runF (bits_Len64.C n) (bits_Len64.A n) n Try.f128 [(.int .u64 a0)] [] (fun v o => some (v, o)) = bits_Len64.g (fun a0 => ((Prod.mk (.int .i64 a0) []) : AV × Blks)) n a0 := by kernel_rfl
theorem bits_Len64.call (hmix : Try.prog.follows .mixedOrders = true) (n : Nat) (t : Int) (u) (h : bits_Len64.m n t = some u) : FnC Try.prog (fun _ => .any) 128 (bits_Len64.shape t).1 (bits_Len64.shape t).2 (bits_Len64.res u).1 (bits_Len64.res u).2 := by
  have hg : ∀ f m, (bits_Len64.C n).Γ f = some m → CalleeS Try.prog (fun _ => .any) f m := by
    intro f m hm
    unfold bits_Len64.C at hm
    simp only at hm
    first
    | (cases hm; done)
    | (split at hm <;> first
    | (cases hm; done))
  have hb : Try.f128.body = some (Try.f128.body.getD .skip) := by kernel_rfl
  refine runF_calls (C := bits_Len64.C n) (A := bits_Len64.A n) (n := n) (fn := Try.f128) hg hmix Try.func128 hb ?_ ?_ (by decide) rfl rfl (by show 1 ≤ Try.f128.ntmps; decide) ?_
  · rw [show loopsIn (Try.f128.body.getD .skip) = [] by kernel_rfl]
    intro b hb
    cases hb
  · intro a ha m hm
    have hm' := lookJ_mem (show lookJ [(1, .mk' bits_Len64.j1.pat (bits_Len64.j1.m n) bits_Len64.j1.resK), (4, .mk' bits_Len64.j4.pat (bits_Len64.j4.m n) bits_Len64.j4.resK), (7, .mk' bits_Len64.j7.pat (bits_Len64.j7.m n) bits_Len64.j7.resK)] (jkey a) = some m from hm)
    simp only [List.mem_cons, List.not_mem_nil, or_false, Prod.mk.injEq] at hm'
    rcases hm' with ⟨hk, rfl⟩ | ⟨hk, rfl⟩ | ⟨hk, rfl⟩
    · obtain rfl := only ha hk (c := bits_Len64.jc0) (by kernel_rfl)
      exact JoinS.of (res := bits_Len64.j1.res) (fun R u K => rfl) bits_Len64.j1.pat_shape fun t => bits_Len64.j1.join n t
    · obtain rfl := only ha hk (c := bits_Len64.jc1) (by kernel_rfl)
      exact JoinS.of (res := bits_Len64.j4.res) (fun R u K => rfl) bits_Len64.j4.pat_shape fun t => bits_Len64.j4.join n t
    · obtain rfl := only ha hk (c := bits_Len64.jc2) (by kernel_rfl)
      exact JoinS.of (res := bits_Len64.j7.res) (fun R u K => rfl) bits_Len64.j7.pat_shape fun t => bits_Len64.j7.join n t
  · rw [show runF (bits_Len64.C n) (bits_Len64.A n) n Try.f128 (bits_Len64.shape t).1 (bits_Len64.shape t).2 (fun v o => some (v, o)) = _ from bits_Len64.run n t]
    have e := bits_Len64.gmap bits_Len64.res (fun a0 => a0) n t
    unfold bits_Len64.m at h
    rw [h] at e
    exact e
theorem bits_Len64.s (hmix : Try.prog.follows .mixedOrders = true) (n : Nat) : CalleeS Try.prog (fun _ => .any) 128 (bits_Len64.c n) :=
  CalleeS.of (res := bits_Len64.res) (shape := bits_Len64.shape) (fun R u K => rfl) (fun args lent t h => by
    unfold bits_Len64.pat at h
    split at h
    · cases h; rfl
    · cases h) fun t u h => (bits_Len64.call hmix n t u h).ok Try.func128 (by decide) (by kernel_rfl)
end
section
theorem word_wide_size.l2_0.rmap {α β : Type} (h : β → α) (mk0 : Int → β) (mk1 : β) (n : Nat) (f : Int → (List Int) → Option β)  (x0 : Int) (x1 : (List Int)) : word_wide_size.l2_0.r (fun a0 => (h (mk0 a0))) (h mk1) n (fun y0 y1 => (f y0 y1).map h) x0 x1 = (word_wide_size.l2_0.r mk0 mk1 n f x0 x1).map h := by
  unfold word_wide_size.l2_0.r
  exact (ite_map (ite_map (ite_map (ite_map (ite_map (ite_map (bindO_map fun r16 => rfl) rfl) rfl) rfl) rfl) rfl) rfl)
theorem word_wide_size.l2_0.gmap {α β : Type} (h : β → α) (mk0 : Int → β) (mk1 : β) (n : Nat) : ∀ (m : Nat) (x0 : Int) (x1 : (List Int)), word_wide_size.l2_0.g (fun a0 => (h (mk0 a0))) (h mk1) n m x0 x1 = (word_wide_size.l2_0.g mk0 mk1 n m x0 x1).map h
  | 0, _, _ => rfl
  | m + 1, x0, x1 => by
    unfold word_wide_size.l2_0.g
    rw [← word_wide_size.l2_0.rmap]
    congr
    · funext y0 y1; exact word_wide_size.l2_0.gmap h mk0 mk1 n m y0 y1
theorem word_wide_size.l2_0.pat_shape : ∀ st t, word_wide_size.l2_0.pat st = some t → st = word_wide_size.l2_0.shape t := by
  intro st t h
  unfold word_wide_size.l2_0.pat at h
  split at h
  · cases h; rfl
  · cases h
theorem word_wide_size.l2_0.round (n : Nat) (rc : St → Option (Ex × St)) (x0 : Int) (x1 : (List Int)) : roundOf (word_wide_size.C n) (word_wide_size.A n) n word_wide_size.b0 rc ((St.mk [(.int .i64 x0), (.ptr 0 [])] [(some (.var (.ints .u64 8 x1)))])) = word_wide_size.l2_0.r (fun a0 => ((Prod.mk .ret (St.mk [(.int .i64 a0)] [])) : Ex × St)) ((Prod.mk (.exit 0) (St.mk [.any] [])) : Ex × St) n (fun y0 y1 => rc ((St.mk [(.int .i64 y0), (.ptr 0 [])] [(some (.var (.ints .u64 8 y1)))]))) x0 x1 := by kernel_rfl
theorem word_wide_size.l2_0.loop' (n : Nat) : ∀ (m : Nat) (t : (Int × (List Int))), loopOf (roundOf (word_wide_size.C n) (word_wide_size.A n) n word_wide_size.b0) m (word_wide_size.l2_0.shape t) = word_wide_size.l2_0.g (fun a0 => ((Prod.mk .ret (St.mk [(.int .i64 a0)] [])) : Ex × St)) ((Prod.mk (.exit 0) (St.mk [.any] [])) : Ex × St) n m t.1 t.2 :=
  loop_of_round (shape := word_wide_size.l2_0.shape) (body := roundOf (word_wide_size.C n) (word_wide_size.A n) n word_wide_size.b0) (g := fun m t => word_wide_size.l2_0.g (fun a0 => ((Prod.mk .ret (St.mk [(.int .i64 a0)] [])) : Ex × St)) ((Prod.mk (.exit 0) (St.mk [.any] [])) : Ex × St) n m t.1 t.2) (fun t => rfl)
    fun m t ih => (word_wide_size.l2_0.round n (loopOf (roundOf (word_wide_size.C n) (word_wide_size.A n) n word_wide_size.b0) m) t.1 t.2).trans (congrFun (congrFun (congrArg (word_wide_size.l2_0.r (fun a0 => ((Prod.mk .ret (St.mk [(.int .i64 a0)] [])) : Ex × St)) ((Prod.mk (.exit 0) (St.mk [.any] [])) : Ex × St) n) (funext fun y0 => funext fun y1 => ih (y0, y1))) t.1) t.2)
theorem word_wide_size.l2_0.loop (n m : Nat) (t : (Int × (List Int))) : loopOf (roundOf (word_wide_size.C n) (word_wide_size.A n) n word_wide_size.b0) m (word_wide_size.l2_0.shape t) = (word_wide_size.l2_0.m n m t).map word_wide_size.l2_0.res :=
  (word_wide_size.l2_0.loop' n m t).trans (word_wide_size.l2_0.gmap word_wide_size.l2_0.res (fun a0 => (.inl a0)) (.inr ()) n m t.1 t.2)
theorem word_wide_size.gmap {α β : Type} (h : β → α) (mk0 : Int → β) (n : Nat) (a0 : (List Int)) : word_wide_size.g (fun a0 => (h (mk0 a0))) n a0 = (word_wide_size.g mk0 n a0).map h := by
  unfold word_wide_size.g
  exact (bindO_map fun r2 => match r2 with | (.inl r2) => rfl | (.inr r2) => rfl)
theorem word_wide_size.run (n : Nat) (a0 : (List Int)) : runF (word_wide_size.C n) (word_wide_size.A n) n Try.f118 [(.ints .u64 8 a0)] [] (fun v o => some (v, o)) = word_wide_size.g (fun a0 => ((Prod.mk (.int .i64 a0) []) : AV × Blks)) n a0 := by kernel_rfl
theorem word_wide_size.call (hmix : Try.prog.follows .mixedOrders = true) (n : Nat) (t : (List Int)) (u) (h : word_wide_size.m n t = some u) : FnC Try.prog (fun _ => .any) 118 (word_wide_size.shape t).1 (word_wide_size.shape t).2 (word_wide_size.res u).1 (word_wide_size.res u).2 := by
  have hg : ∀ f m, (word_wide_size.C n).Γ f = some m → CalleeS Try.prog (fun _ => .any) f m := by
    intro f m hm
    unfold word_wide_size.C at hm
    simp only at hm
    first
    | (cases hm; done)
    | (split at hm <;> first
    | (cases hm; exact bits_Len64.s hmix n)
    | (cases hm; done))
  have hb : Try.f118.body = some (Try.f118.body.getD .skip) := by kernel_rfl
  refine runF_calls (C := word_wide_size.C n) (A := word_wide_size.A n) (n := n) (fn := Try.f118) hg hmix Try.func118 hb ?_ ?_ (by decide) rfl rfl (by show 1 ≤ Try.f118.ntmps; decide) ?_
  · rw [show loopsIn (Try.f118.body.getD .skip) = [word_wide_size.b0] by kernel_rfl]
    intro b hb m hm
    simp only [List.mem_cons, List.not_mem_nil, or_false] at hb
    rcases hb with rfl
    · have e : (word_wide_size.A n).loop (key word_wide_size.b0) = some (.mk' word_wide_size.l2_0.pat (word_wide_size.l2_0.m n n) word_wide_size.l2_0.resK) := by rw [show key word_wide_size.b0 = 2 by kernel_rfl]; rfl
      rw [e] at hm
      cases hm
      exact LoopS.of (res := word_wide_size.l2_0.res) (fun R u K => by rcases u with u | u <;> rfl) word_wide_size.l2_0.pat_shape fun t => word_wide_size.l2_0.loop n n t
  · intro a ha m hm
    cases (show none = some m from hm)
  · rw [show runF (word_wide_size.C n) (word_wide_size.A n) n Try.f118 (word_wide_size.shape t).1 (word_wide_size.shape t).2 (fun v o => some (v, o)) = _ from word_wide_size.run n t]
    have e := word_wide_size.gmap word_wide_size.res (fun a0 => a0) n t
    unfold word_wide_size.m at h
    rw [h] at e
    exact e
theorem word_wide_size.s (hmix : Try.prog.follows .mixedOrders = true) (n : Nat) : CalleeS Try.prog (fun _ => .any) 118 (word_wide_size.c n) :=
  CalleeS.of (res := word_wide_size.res) (shape := word_wide_size.shape) (fun R u K => rfl) (fun args lent t h => by
    unfold word_wide_size.pat at h
    split at h
    · cases h; rfl
    · cases h) fun t u h => (word_wide_size.call hmix n t u h).ok Try.func118 (by decide) (by kernel_rfl)
end
section
theorem word_divide.l2_0.rmap {α β : Type} (h : β → α) (mk0 : (List Int) → (List Int) → β) (n : Nat) (f : Int → (List Int) → (List Int) → (List Int) → (List Int) → Option β)  (x0 : Int) (x1 : (List Int)) (x2 : (List Int)) (x3 : (List Int)) (x4 : (List Int)) : word_divide.l2_0.r (fun a0 a1 => (h (mk0 a0 a1))) n (fun y0 y1 y2 y3 y4 => (f y0 y1 y2 y3 y4).map h) x0 x1 x2 x3 x4 = (word_divide.l2_0.r mk0 n f x0 x1 x2 x3 x4).map h := by
  unfold word_divide.l2_0.r
  exact (ite_map (bindO_map fun r6 => (ite_map (ite_map (ite_map (ite_map (bindO_map fun r16 => (ite_map (ite_map (ite_map (ite_map (ite_map (ite_map rfl rfl) rfl) rfl) rfl) rfl) rfl)) (bindO_map fun r16 => (ite_map (bindO_map fun r20 => (ite_map (ite_map (ite_map (ite_map (ite_map (ite_map rfl rfl) rfl) rfl) rfl) rfl) rfl)) rfl))) rfl) rfl) rfl)) rfl)
theorem word_divide.l2_0.gmap {α β : Type} (h : β → α) (mk0 : (List Int) → (List Int) → β) (n : Nat) : ∀ (m : Nat) (x0 : Int) (x1 : (List Int)) (x2 : (List Int)) (x3 : (List Int)) (x4 : (List Int)), word_divide.l2_0.g (fun a0 a1 => (h (mk0 a0 a1))) n m x0 x1 x2 x3 x4 = (word_divide.l2_0.g mk0 n m x0 x1 x2 x3 x4).map h
  | 0, _, _, _, _, _ => rfl
  | m + 1, x0, x1, x2, x3, x4 => by
    unfold word_divide.l2_0.g
    rw [← word_divide.l2_0.rmap]
    congr
    · funext y0 y1 y2 y3 y4; exact word_divide.l2_0.gmap h mk0 n m y0 y1 y2 y3 y4
theorem word_divide.l2_0.pat_shape : ∀ st t, word_divide.l2_0.pat st = some t → st = word_divide.l2_0.shape t := by
  intro st t h
  unfold word_divide.l2_0.pat at h
  split at h
  · cases h; rfl
  · cases h
theorem word_divide.l2_0.round (n : Nat) (rc : St → Option (Ex × St)) (x0 : Int) (x1 : (List Int)) (x2 : (List Int)) (x3 : (List Int)) (x4 : (List Int)) : roundOf (word_divide.C n) (word_divide.A n) n word_divide.b0 rc ((St.mk [(.int .i64 x0), (.ptr 0 []), (.ptr 1 []), (.ptr 2 []), (.ptr 3 [])] [(some (.var (.ints .u64 4 x1))), (some (.var (.ints .u64 8 x2))), (some (.var (.ints .u64 4 x3))), (some (.var (.ints .u64 4 x4)))])) = word_divide.l2_0.r (fun a0 a1 => ((Prod.mk (.exit 0) (St.mk [(.ptr 0 []), (.ptr 1 [])] [(some (.var (.ints .u64 4 a0))), (some (.var (.ints .u64 4 a1)))])) : Ex × St)) n (fun y0 y1 y2 y3 y4 => rc ((St.mk [(.int .i64 y0), (.ptr 0 []), (.ptr 1 []), (.ptr 2 []), (.ptr 3 [])] [(some (.var (.ints .u64 4 y1))), (some (.var (.ints .u64 8 y2))), (some (.var (.ints .u64 4 y3))), (some (.var (.ints .u64 4 y4)))]))) x0 x1 x2 x3 x4 := by kernel_rfl
theorem word_divide.l2_0.loop' (n : Nat) : ∀ (m : Nat) (t : (Int × ((List Int) × ((List Int) × ((List Int) × (List Int)))))), loopOf (roundOf (word_divide.C n) (word_divide.A n) n word_divide.b0) m (word_divide.l2_0.shape t) = word_divide.l2_0.g (fun a0 a1 => ((Prod.mk (.exit 0) (St.mk [(.ptr 0 []), (.ptr 1 [])] [(some (.var (.ints .u64 4 a0))), (some (.var (.ints .u64 4 a1)))])) : Ex × St)) n m t.1 t.2.1 t.2.2.1 t.2.2.2.1 t.2.2.2.2 :=
  loop_of_round (shape := word_divide.l2_0.shape) (body := roundOf (word_divide.C n) (word_divide.A n) n word_divide.b0) (g := fun m t => word_divide.l2_0.g (fun a0 a1 => ((Prod.mk (.exit 0) (St.mk [(.ptr 0 []), (.ptr 1 [])] [(some (.var (.ints .u64 4 a0))), (some (.var (.ints .u64 4 a1)))])) : Ex × St)) n m t.1 t.2.1 t.2.2.1 t.2.2.2.1 t.2.2.2.2) (fun t => rfl)
    fun m t ih => (word_divide.l2_0.round n (loopOf (roundOf (word_divide.C n) (word_divide.A n) n word_divide.b0) m) t.1 t.2.1 t.2.2.1 t.2.2.2.1 t.2.2.2.2).trans (congrFun (congrFun (congrFun (congrFun (congrFun (congrArg (word_divide.l2_0.r (fun a0 a1 => ((Prod.mk (.exit 0) (St.mk [(.ptr 0 []), (.ptr 1 [])] [(some (.var (.ints .u64 4 a0))), (some (.var (.ints .u64 4 a1)))])) : Ex × St)) n) (funext fun y0 => funext fun y1 => funext fun y2 => funext fun y3 => funext fun y4 => ih (y0, y1, y2, y3, y4))) t.1) t.2.1) t.2.2.1) t.2.2.2.1) t.2.2.2.2)
theorem word_divide.l2_0.loop (n m : Nat) (t : (Int × ((List Int) × ((List Int) × ((List Int) × (List Int)))))) : loopOf (roundOf (word_divide.C n) (word_divide.A n) n word_divide.b0) m (word_divide.l2_0.shape t) = (word_divide.l2_0.m n m t).map word_divide.l2_0.res :=
  (word_divide.l2_0.loop' n m t).trans (word_divide.l2_0.gmap word_divide.l2_0.res (fun a0 a1 => (a0, a1)) n m t.1 t.2.1 t.2.2.1 t.2.2.2.1 t.2.2.2.2)
theorem word_divide.gmap {α β : Type} (h : β → α) (mk0 : (List Int) → (List Int) → β) (n : Nat) (a0 : (List Int)) (a1 : (List Int)) : word_divide.g (fun a0 a1 => (h (mk0 a0 a1))) n a0 a1 = (word_divide.g mk0 n a0 a1).map h := by
  unfold word_divide.g
  exact (bindO_map fun r2 => (bindO_map fun r4 => rfl))
theorem word_divide.run (n : Nat) (a0 : (List Int)) (a1 : (List Int)) : runF (word_divide.C n) (word_divide.A n) n Try.f114 [(.ints .u64 8 a0), (.ints .u64 4 a1)] [] (fun v o => some (v, o)) = word_divide.g (fun a0 a1 => ((Prod.mk (.tup [(.ints .u64 4 a0), (.ints .u64 4 a1)]) []) : AV × Blks)) n a0 a1 := by kernel_rfl
theorem word_divide.call (hmix : Try.prog.follows .mixedOrders = true) (n : Nat) (t : ((List Int) × (List Int))) (u) (h : word_divide.m n t = some u) : FnC Try.prog (fun _ => .any) 114 (word_divide.shape t).1 (word_divide.shape t).2 (word_divide.res u).1 (word_divide.res u).2 := by
  have hg : ∀ f m, (word_divide.C n).Γ f = some m → CalleeS Try.prog (fun _ => .any) f m := by
    intro f m hm
    unfold word_divide.C at hm
    simp only at hm
    first
    | (cases hm; done)
    | (split at hm <;> first
    | (cases hm; exact word_wide_size.s hmix n)
    | (cases hm; exact word_Add.s hmix n)
    | (cases hm; exact word_Cmp.s hmix n)
    | (cases hm; exact word_Sub.s hmix n)
    | (cases hm; done))
  have hb : Try.f114.body = some (Try.f114.body.getD .skip) := by kernel_rfl
  refine runF_calls (C := word_divide.C n) (A := word_divide.A n) (n := n) (fn := Try.f114) hg hmix Try.func114 hb ?_ ?_ (by decide) rfl rfl (by show 2 ≤ Try.f114.ntmps; decide) ?_
  · rw [show loopsIn (Try.f114.body.getD .skip) = [word_divide.b0] by kernel_rfl]
    intro b hb m hm
    simp only [List.mem_cons, List.not_mem_nil, or_false] at hb
    rcases hb with rfl
    · have e : (word_divide.A n).loop (key word_divide.b0) = some (.mk' word_divide.l2_0.pat (word_divide.l2_0.m n n) word_divide.l2_0.resK) := by rw [show key word_divide.b0 = 2 by kernel_rfl]; rfl
      rw [e] at hm
      cases hm
      exact LoopS.of (res := word_divide.l2_0.res) (fun R u K => rfl) word_divide.l2_0.pat_shape fun t => word_divide.l2_0.loop n n t
  · intro a ha m hm
    cases (show none = some m from hm)
  · rw [show runF (word_divide.C n) (word_divide.A n) n Try.f114 (word_divide.shape t).1 (word_divide.shape t).2 (fun v o => some (v, o)) = _ from word_divide.run n t.1 t.2]
    have e := word_divide.gmap word_divide.res (fun a0 a1 => (a0, a1)) n t.1 t.2
    unfold word_divide.m at h
    rw [h] at e
    exact e
theorem word_divide.s (hmix : Try.prog.follows .mixedOrders = true) (n : Nat) : CalleeS Try.prog (fun _ => .any) 114 (word_divide.c n) :=
  CalleeS.of (res := word_divide.res) (shape := word_divide.shape) (fun R u K => rfl) (fun args lent t h => by
    unfold word_divide.pat at h
    split at h
    · cases h; rfl
    · cases h) fun t u h => (word_divide.call hmix n t u h).ok Try.func114 (by decide) (by kernel_rfl)
end
section
theorem word_Div.gmap {α β : Type} (h : β → α) (mk0 : (List Int) → (List Int) → β) (n : Nat) (a0 : (List Int)) (a1 : (List Int)) : word_Div.g (fun a0 a1 => (h (mk0 a0 a1))) n a0 a1 = (word_Div.g mk0 n a0 a1).map h := by
  unfold word_Div.g
  exact (ite_map rfl (bindO_map fun r4 => (bindO_map fun r6 => rfl)))
theorem word_Div.run (n : Nat) (a0 : (List Int)) (a1 : (List Int)) : runF (word_Div.C n) (word_Div.A n) n Try.f91 [(.ints .u64 4 a0), (.ints .u64 4 a1)] [] (fun v o => some (v, o)) = word_Div.g (fun a0 a1 => ((Prod.mk (.tup [(.ints .u64 4 a0), (.ints .u64 4 a1)]) []) : AV × Blks)) n a0 a1 := by kernel_rfl
theorem word_Div.call (hmix : Try.prog.follows .mixedOrders = true) (n : Nat) (t : ((List Int) × (List Int))) (u) (h : word_Div.m n t = some u) : FnC Try.prog (fun _ => .any) 91 (word_Div.shape t).1 (word_Div.shape t).2 (word_Div.res u).1 (word_Div.res u).2 := by
  have hg : ∀ f m, (word_Div.C n).Γ f = some m → CalleeS Try.prog (fun _ => .any) f m := by
    intro f m hm
    unfold word_Div.C at hm
    simp only at hm
    first
    | (cases hm; done)
    | (split at hm <;> first
    | (cases hm; exact word_widened.s hmix n)
    | (cases hm; exact word_divide.s hmix n)
    | (cases hm; done))
  have hb : Try.f91.body = some (Try.f91.body.getD .skip) := by kernel_rfl
  refine runF_calls (C := word_Div.C n) (A := word_Div.A n) (n := n) (fn := Try.f91) hg hmix Try.func91 hb ?_ ?_ (by decide) rfl rfl (by show 2 ≤ Try.f91.ntmps; decide) ?_
  · rw [show loopsIn (Try.f91.body.getD .skip) = [] by kernel_rfl]
    intro b hb
    cases hb
  · intro a ha m hm
    cases (show none = some m from hm)
  · rw [show runF (word_Div.C n) (word_Div.A n) n Try.f91 (word_Div.shape t).1 (word_Div.shape t).2 (fun v o => some (v, o)) = _ from word_Div.run n t.1 t.2]
    have e := word_Div.gmap word_Div.res (fun a0 a1 => (a0, a1)) n t.1 t.2
    unfold word_Div.m at h
    rw [h] at e
    exact e
theorem word_Div.s (hmix : Try.prog.follows .mixedOrders = true) (n : Nat) : CalleeS Try.prog (fun _ => .any) 91 (word_Div.c n) :=
  CalleeS.of (res := word_Div.res) (shape := word_Div.shape) (fun R u K => rfl) (fun args lent t h => by
    unfold word_Div.pat at h
    split at h
    · cases h; rfl
    · cases h) fun t u h => (word_Div.call hmix n t u h).ok Try.func91 (by decide) (by kernel_rfl)
end
section
noncomputable section
noncomputable def q01_twice.C (n : Nat) : Ctx := ⟨Try.prog, (fun _ => .any), fun f => match f with
 | 97 => some (q01_Add.c n)
 | _ => none⟩
def q01_twice.live : Nat → List Nat × List Nat := fun k => match k with
 | _ => ([], [])
def q01_twice.jlive : Nat → List Nat × List Nat := fun k => match k with
 | _ => ([], [])
noncomputable def q01_twice.A (n : Nat) : Ann := ⟨Try.f121.ntmps, 0, q01_twice.live, [], [none, none], fun k => match k with
 | _ => none, q01_twice.jlive, lookJ []⟩
def q01_twice.g {α : Type} (mk0 : (List Int) → Bool → α) (n : Nat) (a0 : (List Int)) : Option α :=
 bindO (q01_Add.m n (Prod.mk a0 a0)) fun r2 =>
  some (mk0 (Prod.fst r2) (Prod.snd r2))
def q01_twice.m (n : Nat) (t : (List Int)) : Option ((List Int) × Bool) := q01_twice.g (fun a0 a1 => (a0, a1)) n t
def q01_twice.pat : List AV → Blks → Option (List Int)
 | [(.ints .u64 4 a0)], [] => some a0
 | _, _ => none
def q01_twice.shape (t : (List Int)) : List AV × Blks := ([(.ints .u64 4 t)], [])
def q01_twice.res : ((List Int) × Bool) → AV × Blks
 | u => (Prod.mk (.tup [(.ints .u64 4 u.1), (.bool u.2)]) [])
def q01_twice.resK {R : Type} (u : ((List Int) × Bool)) (K : AV → Blks → Option R) : Option R := (fun p : AV × Blks => K p.1 p.2) (Prod.mk (.tup [(.ints .u64 4 u.1), (.bool u.2)]) [])
def q01_twice.c (n : Nat) : Abs.Callee := .mk' [] [none] q01_twice.pat (q01_twice.m n) q01_twice.resK
end
end
section
noncomputable section
noncomputable def q01_bit.C (n : Nat) : Ctx := ⟨Try.prog, (fun _ => .any), fun f => match f with
 | _ => none⟩
def q01_bit.live : Nat → List Nat × List Nat := fun k => match k with
 | _ => ([], [])
def q01_bit.jlive : Nat → List Nat × List Nat := fun k => match k with
 | _ => ([], [])
noncomputable def q01_bit.A (n : Nat) : Ann := ⟨Try.f122.ntmps, 0, q01_bit.live, [], [none], fun k => match k with
 | _ => none, q01_bit.jlive, lookJ []⟩
def q01_bit.g {α : Type} (mk0 : Bool → α) (n : Nat) (a0 : (List Int)) (a1 : Int) : Option α :=
 if 0 ≤ (IntKind.wrap .i64 (Int.tdiv a1 64)) then
  if (IntKind.wrap .i64 (Int.tdiv a1 64)) < 4 then
   if 0 ≤ (IntKind.wrap .u64 (Int.tmod a1 64)) then
    some (mk0 ((ibits BinOp.and .u64 (ishr .u64 (List.getD a0 (Int.toNat (IntKind.wrap .i64 (Int.tdiv a1 64))) 0) (IntKind.wrap .u64 (Int.tmod a1 64))) 1) == 1))
   else
    none
  else
   none
 else
  none
def q01_bit.m (n : Nat) (t : ((List Int) × Int)) : Option Bool := q01_bit.g (fun a0 => a0) n t.1 t.2
def q01_bit.pat : List AV → Blks → Option ((List Int) × Int)
 | [(.ints .u64 4 a0), (.int .i64 a1)], [] => some (a0, a1)
 | _, _ => none
def q01_bit.shape (t : ((List Int) × Int)) : List AV × Blks := ([(.ints .u64 4 t.1), (.int .i64 t.2)], [])
def q01_bit.res : Bool → AV × Blks
 | u => (Prod.mk (.bool u) [])
def q01_bit.resK {R : Type} (u : Bool) (K : AV → Blks → Option R) : Option R := (fun p : AV × Blks => K p.1 p.2) (Prod.mk (.bool u) [])
def q01_bit.c (n : Nat) : Abs.Callee := .mk' [] [none, none] q01_bit.pat (q01_bit.m n) q01_bit.resK
end
end
section
noncomputable section
noncomputable def q01_Div.C (n : Nat) : Ctx := ⟨Try.prog, (fun _ => .any), fun f => match f with
 | 121 => some (q01_twice.c n)
 | 122 => some (q01_bit.c n)
 | 74 => some (q01_Cmp.c n)
 | 99 => some (q01_Sub.c n)
 | _ => none⟩
def q01_Div.live : Nat → List Nat × List Nat := fun k => match k with
 | 5 => ([8, 7, 2, 3, 6, 4, 5], [6, 7, 4, 5])
 | _ => ([], [])
def q01_Div.jlive : Nat → List Nat × List Nat := fun k => match k with
 | _ => ([], [])
def q01_Div.l5_0.r {α : Type} (mk0 : (List Int) → (List Int) → (List Int) → (List Int) → α) (n : Nat) (rc : Int → (List Int) → (List Int) → (List Int) → (List Int) → (List Int) → (List Int) → Option α)  (x0 : Int) (x1 : (List Int)) (x2 : (List Int)) (x3 : (List Int)) (x4 : (List Int)) (x5 : (List Int)) (x6 : (List Int)) : Option α :=
  if (decide (x0 ≥ 0)) = true then
   bindO (q01_twice.m n x1) fun r6 =>
    bindO (q01_bit.m n (Prod.mk x2 x0)) fun r8 =>
     if r8 = true then
      if (Prod.snd r6) = true then
       bindO (q01_Sub.m n (Prod.mk (List.set (Prod.fst r6) 0 (ibits BinOp.or .u64 (List.getD (Prod.fst r6) 0 0) 1)) x3)) fun r14 =>
        if 0 ≤ (IntKind.wrap .i64 (Int.tdiv x0 64)) then
         if (IntKind.wrap .i64 (Int.tdiv x0 64)) < 4 then
          if 0 ≤ (IntKind.wrap .u64 (Int.tmod x0 64)) then
           if 0 ≤ (IntKind.wrap .i64 (Int.tdiv x0 64)) then
            if (IntKind.wrap .i64 (Int.tdiv x0 64)) < 4 then
             rc (IntKind.wrap .i64 (x0 - 1)) (Prod.fst r14) x2 x3 (List.set x4 (Int.toNat (IntKind.wrap .i64 (Int.tdiv x0 64))) (ibits BinOp.or .u64 (List.getD x4 (Int.toNat (IntKind.wrap .i64 (Int.tdiv x0 64))) 0) (ishl .u64 1 (IntKind.wrap .u64 (Int.tmod x0 64))))) x5 x6
            else
             none
           else
            none
          else
           none
         else
          none
        else
         none
      else
       bindO (q01_Cmp.m n (Prod.mk (List.set (Prod.fst r6) 0 (ibits BinOp.or .u64 (List.getD (Prod.fst r6) 0 0) 1)) x3)) fun r14 =>
        if (decide (r14 ≥ 0)) = true then
         bindO (q01_Sub.m n (Prod.mk (List.set (Prod.fst r6) 0 (ibits BinOp.or .u64 (List.getD (Prod.fst r6) 0 0) 1)) x3)) fun r18 =>
          if 0 ≤ (IntKind.wrap .i64 (Int.tdiv x0 64)) then
           if (IntKind.wrap .i64 (Int.tdiv x0 64)) < 4 then
            if 0 ≤ (IntKind.wrap .u64 (Int.tmod x0 64)) then
             if 0 ≤ (IntKind.wrap .i64 (Int.tdiv x0 64)) then
              if (IntKind.wrap .i64 (Int.tdiv x0 64)) < 4 then
               rc (IntKind.wrap .i64 (x0 - 1)) (Prod.fst r18) x2 x3 (List.set x4 (Int.toNat (IntKind.wrap .i64 (Int.tdiv x0 64))) (ibits BinOp.or .u64 (List.getD x4 (Int.toNat (IntKind.wrap .i64 (Int.tdiv x0 64))) 0) (ishl .u64 1 (IntKind.wrap .u64 (Int.tmod x0 64))))) x5 x6
              else
               none
             else
              none
            else
             none
           else
            none
          else
           none
        else
         rc (IntKind.wrap .i64 (x0 - 1)) (List.set (Prod.fst r6) 0 (ibits BinOp.or .u64 (List.getD (Prod.fst r6) 0 0) 1)) x2 x3 x4 x5 x6
     else
      if (Prod.snd r6) = true then
       bindO (q01_Sub.m n (Prod.mk (Prod.fst r6) x3)) fun r14 =>
        if 0 ≤ (IntKind.wrap .i64 (Int.tdiv x0 64)) then
         if (IntKind.wrap .i64 (Int.tdiv x0 64)) < 4 then
          if 0 ≤ (IntKind.wrap .u64 (Int.tmod x0 64)) then
           if 0 ≤ (IntKind.wrap .i64 (Int.tdiv x0 64)) then
            if (IntKind.wrap .i64 (Int.tdiv x0 64)) < 4 then
             rc (IntKind.wrap .i64 (x0 - 1)) (Prod.fst r14) x2 x3 (List.set x4 (Int.toNat (IntKind.wrap .i64 (Int.tdiv x0 64))) (ibits BinOp.or .u64 (List.getD x4 (Int.toNat (IntKind.wrap .i64 (Int.tdiv x0 64))) 0) (ishl .u64 1 (IntKind.wrap .u64 (Int.tmod x0 64))))) x5 x6
            else
             none
           else
            none
          else
           none
         else
          none
        else
         none
      else
       bindO (q01_Cmp.m n (Prod.mk (Prod.fst r6) x3)) fun r14 =>
        if (decide (r14 ≥ 0)) = true then
         bindO (q01_Sub.m n (Prod.mk (Prod.fst r6) x3)) fun r18 =>
          if 0 ≤ (IntKind.wrap .i64 (Int.tdiv x0 64)) then
           if (IntKind.wrap .i64 (Int.tdiv x0 64)) < 4 then
            if 0 ≤ (IntKind.wrap .u64 (Int.tmod x0 64)) then
             if 0 ≤ (IntKind.wrap .i64 (Int.tdiv x0 64)) then
              if (IntKind.wrap .i64 (Int.tdiv x0 64)) < 4 then
               rc (IntKind.wrap .i64 (x0 - 1)) (Prod.fst r18) x2 x3 (List.set x4 (Int.toNat (IntKind.wrap .i64 (Int.tdiv x0 64))) (ibits BinOp.or .u64 (List.getD x4 (Int.toNat (IntKind.wrap .i64 (Int.tdiv x0 64))) 0) (ishl .u64 1 (IntKind.wrap .u64 (Int.tmod x0 64))))) x5 x6
              else
               none
             else
              none
            else
             none
           else
            none
          else
           none
        else
         rc (IntKind.wrap .i64 (x0 - 1)) (Prod.fst r6) x2 x3 x4 x5 x6
  else
   some (mk0 x4 x1 x5 x6)
def q01_Div.l5_0.g {α : Type} (mk0 : (List Int) → (List Int) → (List Int) → (List Int) → α) (n : Nat) : Nat → Int → (List Int) → (List Int) → (List Int) → (List Int) → (List Int) → (List Int) → Option α
 | 0, _, _, _, _, _, _, _ => none
 | m + 1, x0, x1, x2, x3, x4, x5, x6 => q01_Div.l5_0.r mk0 n (fun y0 y1 y2 y3 y4 y5 y6 => q01_Div.l5_0.g mk0 n m y0 y1 y2 y3 y4 y5 y6)  x0 x1 x2 x3 x4 x5 x6
def q01_Div.l5_0.m (n m : Nat) (t : (Int × ((List Int) × ((List Int) × ((List Int) × ((List Int) × ((List Int) × (List Int)))))))) : Option ((List Int) × ((List Int) × ((List Int) × (List Int)))) := q01_Div.l5_0.g (fun a0 a1 a2 a3 => (a0, a1, a2, a3)) n m t.1 t.2.1 t.2.2.1 t.2.2.2.1 t.2.2.2.2.1 t.2.2.2.2.2.1 t.2.2.2.2.2.2
def q01_Div.l5_0.pat : St → Option (Int × ((List Int) × ((List Int) × ((List Int) × ((List Int) × ((List Int) × (List Int)))))))
 | (St.mk [(.int .i64 x0), (.ptr 0 []), (.ptr 1 []), (.ptr 2 []), (.ptr 3 []), (.ptr 4 []), (.ptr 5 [])] [(some (.var (.ints .u64 4 x1))), (some (.var (.ints .u64 4 x2))), (some (.var (.ints .u64 4 x3))), (some (.var (.ints .u64 4 x4))), (some (.var (.ints .u64 4 x5))), (some (.var (.ints .u64 4 x6)))]) => some (x0, x1, x2, x3, x4, x5, x6)
 | _ => none
def q01_Div.l5_0.shape (t : (Int × ((List Int) × ((List Int) × ((List Int) × ((List Int) × ((List Int) × (List Int)))))))) : St := (St.mk [(.int .i64 t.1), (.ptr 0 []), (.ptr 1 []), (.ptr 2 []), (.ptr 3 []), (.ptr 4 []), (.ptr 5 [])] [(some (.var (.ints .u64 4 t.2.1))), (some (.var (.ints .u64 4 t.2.2.1))), (some (.var (.ints .u64 4 t.2.2.2.1))), (some (.var (.ints .u64 4 t.2.2.2.2.1))), (some (.var (.ints .u64 4 t.2.2.2.2.2.1))), (some (.var (.ints .u64 4 t.2.2.2.2.2.2)))])
def q01_Div.l5_0.res : ((List Int) × ((List Int) × ((List Int) × (List Int)))) → Ex × St
 | u => (Prod.mk (.exit 0) (St.mk [(.ptr 0 []), (.ptr 1 []), (.ptr 2 []), (.ptr 3 [])] [(some (.var (.ints .u64 4 u.1))), (some (.var (.ints .u64 4 u.2.1))), (some (.var (.ints .u64 4 u.2.2.1))), (some (.var (.ints .u64 4 u.2.2.2)))]))
def q01_Div.l5_0.resK {R : Type} (u : ((List Int) × ((List Int) × ((List Int) × (List Int))))) (K : Ex → St → Option R) : Option R := (fun p : Ex × St => K p.1 p.2) (Prod.mk (.exit 0) (St.mk [(.ptr 0 []), (.ptr 1 []), (.ptr 2 []), (.ptr 3 [])] [(some (.var (.ints .u64 4 u.1))), (some (.var (.ints .u64 4 u.2.1))), (some (.var (.ints .u64 4 u.2.2.1))), (some (.var (.ints .u64 4 u.2.2.2)))]))
noncomputable def q01_Div.A (n : Nat) : Ann := ⟨Try.f100.ntmps, 0, q01_Div.live, [], [none, none], fun k => match k with
 | 5 => some (.mk' q01_Div.l5_0.pat (q01_Div.l5_0.m n n) q01_Div.l5_0.resK)
 | _ => none, q01_Div.jlive, lookJ []⟩
noncomputable def q01_Div.b0 : Code := (loopsIn (Try.f100.body.getD .skip)).getD 0 .skip
def q01_Div.g {α : Type} (mk0 : (List Int) → (List Int) → α) (n : Nat) (a0 : (List Int)) (a1 : (List Int)) : Option α :=
 if (a1 == [0, 0, 0, 0]) = true then
  some (mk0 [0, 0, 0, 0] [0, 0, 0, 0])
 else
  bindO (q01_Div.l5_0.m n n (255, [0, 0, 0, 0], a0, a1, [0, 0, 0, 0], [0, 0, 0, 0], [0, 0, 0, 0])) fun r4 =>
   some (mk0 (Prod.fst r4) (Prod.fst (Prod.snd r4)))
def q01_Div.m (n : Nat) (t : ((List Int) × (List Int))) : Option ((List Int) × (List Int)) := q01_Div.g (fun a0 a1 => (a0, a1)) n t.1 t.2
def q01_Div.pat : List AV → Blks → Option ((List Int) × (List Int))
 | [(.ints .u64 4 a0), (.ints .u64 4 a1)], [] => some (a0, a1)
 | _, _ => none
def q01_Div.shape (t : ((List Int) × (List Int))) : List AV × Blks := ([(.ints .u64 4 t.1), (.ints .u64 4 t.2)], [])
def q01_Div.res : ((List Int) × (List Int)) → AV × Blks
 | u => (Prod.mk (.tup [(.ints .u64 4 u.1), (.ints .u64 4 u.2)]) [])
def q01_Div.resK {R : Type} (u : ((List Int) × (List Int))) (K : AV → Blks → Option R) : Option R := (fun p : AV × Blks => K p.1 p.2) (Prod.mk (.tup [(.ints .u64 4 u.1), (.ints .u64 4 u.2)]) [])
def q01_Div.c (n : Nat) : Abs.Callee := .mk' [] [none, none] q01_Div.pat (q01_Div.m n) q01_Div.resK
end
end
section
theorem q01_twice.gmap {α β : Type} (h : β → α) (mk0 : (List Int) → Bool → β) (n : Nat) (a0 : (List Int)) : q01_twice.g (fun a0 a1 => (h (mk0 a0 a1))) n a0 = (q01_twice.g mk0 n a0).map h := by
  unfold q01_twice.g
  exact (bindO_map fun r2 => rfl)
theorem q01_twice.run (n : Nat) (a0 : (List Int)) : runF (q01_twice.C n) (q01_twice.A n) n Try.f121 [(.ints .u64 4 a0)] [] (fun v o => some (v, o)) = q01_twice.g (fun a0 a1 => ((Prod.mk (.tup [(.ints .u64 4 a0), (.bool a1)]) []) : AV × Blks)) n a0 := by kernel_rfl
theorem q01_twice.call (hmix : Try.prog.follows .mixedOrders = true) (n : Nat) (t : (List Int)) (u) (h : q01_twice.m n t = some u) : FnC Try.prog (fun _ => .any) 121 (q01_twice.shape t).1 (q01_twice.shape t).2 (q01_twice.res u).1 (q01_twice.res u).2 := by
  have hg : ∀ f m, (q01_twice.C n).Γ f = some m → CalleeS Try.prog (fun _ => .any) f m := by
    intro f m hm
    unfold q01_twice.C at hm
    simp only at hm
    first
    | (cases hm; done)
    | (split at hm <;> first
    | (cases hm; exact q01_Add.s hmix n)
    | (cases hm; done))
  have hb : Try.f121.body = some (Try.f121.body.getD .skip) := by kernel_rfl
  refine runF_calls (C := q01_twice.C n) (A := q01_twice.A n) (n := n) (fn := Try.f121) hg hmix Try.func121 hb ?_ ?_ (by decide) rfl rfl (by show 1 ≤ Try.f121.ntmps; decide) ?_
  · rw [show loopsIn (Try.f121.body.getD .skip) = [] by kernel_rfl]
    intro b hb
    cases hb
  · intro a ha m hm
    cases (show none = some m from hm)
  · rw [show runF (q01_twice.C n) (q01_twice.A n) n Try.f121 (q01_twice.shape t).1 (q01_twice.shape t).2 (fun v o => some (v, o)) = _ from q01_twice.run n t]
    have e := q01_twice.gmap q01_twice.res (fun a0 a1 => (a0, a1)) n t
    unfold q01_twice.m at h
    rw [h] at e
    exact e
theorem q01_twice.s (hmix : Try.prog.follows .mixedOrders = true) (n : Nat) : CalleeS Try.prog (fun _ => .any) 121 (q01_twice.c n) :=
  CalleeS.of (res := q01_twice.res) (shape := q01_twice.shape) (fun R u K => rfl) (fun args lent t h => by
    unfold q01_twice.pat at h
    split at h
    · cases h; rfl
    · cases h) fun t u h => (q01_twice.call hmix n t u h).ok Try.func121 (by decide) (by kernel_rfl)
end
section
theorem q01_bit.gmap {α β : Type} (h : β → α) (mk0 : Bool → β) (n : Nat) (a0 : (List Int)) (a1 : Int) : q01_bit.g (fun a0 => (h (mk0 a0))) n a0 a1 = (q01_bit.g mk0 n a0 a1).map h := by
  unfold q01_bit.g
  exact (ite_map (ite_map (ite_map rfl rfl) rfl) rfl)
theorem q01_bit.run (n : Nat) (a0 : (List Int)) (a1 : Int) : runF (q01_bit.C n) (q01_bit.A n) n Try.f122 [(.ints .u64 4 a0), (.int .i64 a1)] [] (fun v o => some (v, o)) = q01_bit.g (fun a0 => ((Prod.mk (.bool a0) []) : AV × Blks)) n a0 a1 := by kernel_rfl
theorem q01_bit.call (hmix : Try.prog.follows .mixedOrders = true) (n : Nat) (t : ((List Int) × Int)) (u) (h : q01_bit.m n t = some u) : FnC Try.prog (fun _ => .any) 122 (q01_bit.shape t).1 (q01_bit.shape t).2 (q01_bit.res u).1 (q01_bit.res u).2 := by
  have hg : ∀ f m, (q01_bit.C n).Γ f = some m → CalleeS Try.prog (fun _ => .any) f m := by
    intro f m hm
    unfold q01_bit.C at hm
    simp only at hm
    first
    | (cases hm; done)
    | (split at hm <;> first
    | (cases hm; done))
  have hb : Try.f122.body = some (Try.f122.body.getD .skip) := by kernel_rfl
  refine runF_calls (C := q01_bit.C n) (A := q01_bit.A n) (n := n) (fn := Try.f122) hg hmix Try.func122 hb ?_ ?_ (by decide) rfl rfl (by show 2 ≤ Try.f122.ntmps; decide) ?_
  · rw [show loopsIn (Try.f122.body.getD .skip) = [] by kernel_rfl]
    intro b hb
    cases hb
  · intro a ha m hm
    cases (show none = some m from hm)
  · rw [show runF (q01_bit.C n) (q01_bit.A n) n Try.f122 (q01_bit.shape t).1 (q01_bit.shape t).2 (fun v o => some (v, o)) = _ from q01_bit.run n t.1 t.2]
    have e := q01_bit.gmap q01_bit.res (fun a0 => a0) n t.1 t.2
    unfold q01_bit.m at h
    rw [h] at e
    exact e
theorem q01_bit.s (hmix : Try.prog.follows .mixedOrders = true) (n : Nat) : CalleeS Try.prog (fun _ => .any) 122 (q01_bit.c n) :=
  CalleeS.of (res := q01_bit.res) (shape := q01_bit.shape) (fun R u K => rfl) (fun args lent t h => by
    unfold q01_bit.pat at h
    split at h
    · cases h; rfl
    · cases h) fun t u h => (q01_bit.call hmix n t u h).ok Try.func122 (by decide) (by kernel_rfl)
end
section
theorem q01_Div.l5_0.rmap {α β : Type} (h : β → α) (mk0 : (List Int) → (List Int) → (List Int) → (List Int) → β) (n : Nat) (f : Int → (List Int) → (List Int) → (List Int) → (List Int) → (List Int) → (List Int) → Option β)  (x0 : Int) (x1 : (List Int)) (x2 : (List Int)) (x3 : (List Int)) (x4 : (List Int)) (x5 : (List Int)) (x6 : (List Int)) : q01_Div.l5_0.r (fun a0 a1 a2 a3 => (h (mk0 a0 a1 a2 a3))) n (fun y0 y1 y2 y3 y4 y5 y6 => (f y0 y1 y2 y3 y4 y5 y6).map h) x0 x1 x2 x3 x4 x5 x6 = (q01_Div.l5_0.r mk0 n f x0 x1 x2 x3 x4 x5 x6).map h := by
  unfold q01_Div.l5_0.r
  exact (ite_map (bindO_map fun r6 => (bindO_map fun r8 => (ite_map (ite_map (bindO_map fun r14 => (ite_map (ite_map (ite_map (ite_map (ite_map rfl rfl) rfl) rfl) rfl) rfl)) (bindO_map fun r14 => (ite_map (bindO_map fun r18 => (ite_map (ite_map (ite_map (ite_map (ite_map rfl rfl) rfl) rfl) rfl) rfl)) rfl))) (ite_map (bindO_map fun r14 => (ite_map (ite_map (ite_map (ite_map (ite_map rfl rfl) rfl) rfl) rfl) rfl)) (bindO_map fun r14 => (ite_map (bindO_map fun r18 => (ite_map (ite_map (ite_map (ite_map (ite_map rfl rfl) rfl) rfl) rfl) rfl)) rfl)))))) rfl)
theorem q01_Div.l5_0.gmap {α β : Type} (h : β → α) (mk0 : (List Int) → (List Int) → (List Int) → (List Int) → β) (n : Nat) : ∀ (m : Nat) (x0 : Int) (x1 : (List Int)) (x2 : (List Int)) (x3 : (List Int)) (x4 : (List Int)) (x5 : (List Int)) (x6 : (List Int)), q01_Div.l5_0.g (fun a0 a1 a2 a3 => (h (mk0 a0 a1 a2 a3))) n m x0 x1 x2 x3 x4 x5 x6 = (q01_Div.l5_0.g mk0 n m x0 x1 x2 x3 x4 x5 x6).map h
  | 0, _, _, _, _, _, _, _ => rfl
  | m + 1, x0, x1, x2, x3, x4, x5, x6 => by
    unfold q01_Div.l5_0.g
    rw [← q01_Div.l5_0.rmap]
    congr
    · funext y0 y1 y2 y3 y4 y5 y6; exact q01_Div.l5_0.gmap h mk0 n m y0 y1 y2 y3 y4 y5 y6
theorem q01_Div.l5_0.pat_shape : ∀ st t, q01_Div.l5_0.pat st = some t → st = q01_Div.l5_0.shape t := by
  intro st t h
  unfold q01_Div.l5_0.pat at h
  split at h
  · cases h; rfl
  · cases h
theorem q01_Div.l5_0.round (n : Nat) (rc : St → Option (Ex × St)) (x0 : Int) (x1 : (List Int)) (x2 : (List Int)) (x3 : (List Int)) (x4 : (List Int)) (x5 : (List Int)) (x6 : (List Int)) : roundOf (q01_Div.C n) (q01_Div.A n) n q01_Div.b0 rc ((St.mk [(.int .i64 x0), (.ptr 0 []), (.ptr 1 []), (.ptr 2 []), (.ptr 3 []), (.ptr 4 []), (.ptr 5 [])] [(some (.var (.ints .u64 4 x1))), (some (.var (.ints .u64 4 x2))), (some (.var (.ints .u64 4 x3))), (some (.var (.ints .u64 4 x4))), (some (.var (.ints .u64 4 x5))), (some (.var (.ints .u64 4 x6)))])) = q01_Div.l5_0.r (fun a0 a1 a2 a3 => ((Prod.mk (.exit 0) (St.mk [(.ptr 0 []), (.ptr 1 []), (.ptr 2 []), (.ptr 3 [])] [(some (.var (.ints .u64 4 a0))), (some (.var (.ints .u64 4 a1))), (some (.var (.ints .u64 4 a2))), (some (.var (.ints .u64 4 a3)))])) : Ex × St)) n (fun y0 y1 y2 y3 y4 y5 y6 => rc ((St.mk [(.int .i64 y0), (.ptr 0 []), (.ptr 1 []), (.ptr 2 []), (.ptr 3 []), (.ptr 4 []), (.ptr 5 [])] [(some (.var (.ints .u64 4 y1))), (some (.var (.ints .u64 4 y2))), (some (.var (.ints .u64 4 y3))), (some (.var (.ints .u64 4 y4))), (some (.var (.ints .u64 4 y5))), (some (.var (.ints .u64 4 y6)))]))) x0 x1 x2 x3 x4 x5 x6 := by kernel_rfl
theorem q01_Div.l5_0.loop' (n : Nat) : ∀ (m : Nat) (t : (Int × ((List Int) × ((List Int) × ((List Int) × ((List Int) × ((List Int) × (List Int)))))))), loopOf (roundOf (q01_Div.C n) (q01_Div.A n) n q01_Div.b0) m (q01_Div.l5_0.shape t) = q01_Div.l5_0.g (fun a0 a1 a2 a3 => ((Prod.mk (.exit 0) (St.mk [(.ptr 0 []), (.ptr 1 []), (.ptr 2 []), (.ptr 3 [])] [(some (.var (.ints .u64 4 a0))), (some (.var (.ints .u64 4 a1))), (some (.var (.ints .u64 4 a2))), (some (.var (.ints .u64 4 a3)))])) : Ex × St)) n m t.1 t.2.1 t.2.2.1 t.2.2.2.1 t.2.2.2.2.1 t.2.2.2.2.2.1 t.2.2.2.2.2.2 :=
  loop_of_round (shape := q01_Div.l5_0.shape) (body := roundOf (q01_Div.C n) (q01_Div.A n) n q01_Div.b0) (g := fun m t => q01_Div.l5_0.g (fun a0 a1 a2 a3 => ((Prod.mk (.exit 0) (St.mk [(.ptr 0 []), (.ptr 1 []), (.ptr 2 []), (.ptr 3 [])] [(some (.var (.ints .u64 4 a0))), (some (.var (.ints .u64 4 a1))), (some (.var (.ints .u64 4 a2))), (some (.var (.ints .u64 4 a3)))])) : Ex × St)) n m t.1 t.2.1 t.2.2.1 t.2.2.2.1 t.2.2.2.2.1 t.2.2.2.2.2.1 t.2.2.2.2.2.2) (fun t => rfl)
    fun m t ih => (q01_Div.l5_0.round n (loopOf (roundOf (q01_Div.C n) (q01_Div.A n) n q01_Div.b0) m) t.1 t.2.1 t.2.2.1 t.2.2.2.1 t.2.2.2.2.1 t.2.2.2.2.2.1 t.2.2.2.2.2.2).trans (congrFun (congrFun (congrFun (congrFun (congrFun (congrFun (congrFun (congrArg (q01_Div.l5_0.r (fun a0 a1 a2 a3 => ((Prod.mk (.exit 0) (St.mk [(.ptr 0 []), (.ptr 1 []), (.ptr 2 []), (.ptr 3 [])] [(some (.var (.ints .u64 4 a0))), (some (.var (.ints .u64 4 a1))), (some (.var (.ints .u64 4 a2))), (some (.var (.ints .u64 4 a3)))])) : Ex × St)) n) (funext fun y0 => funext fun y1 => funext fun y2 => funext fun y3 => funext fun y4 => funext fun y5 => funext fun y6 => ih (y0, y1, y2, y3, y4, y5, y6))) t.1) t.2.1) t.2.2.1) t.2.2.2.1) t.2.2.2.2.1) t.2.2.2.2.2.1) t.2.2.2.2.2.2)
theorem q01_Div.l5_0.loop (n m : Nat) (t : (Int × ((List Int) × ((List Int) × ((List Int) × ((List Int) × ((List Int) × (List Int)))))))) : loopOf (roundOf (q01_Div.C n) (q01_Div.A n) n q01_Div.b0) m (q01_Div.l5_0.shape t) = (q01_Div.l5_0.m n m t).map q01_Div.l5_0.res :=
  (q01_Div.l5_0.loop' n m t).trans (q01_Div.l5_0.gmap q01_Div.l5_0.res (fun a0 a1 a2 a3 => (a0, a1, a2, a3)) n m t.1 t.2.1 t.2.2.1 t.2.2.2.1 t.2.2.2.2.1 t.2.2.2.2.2.1 t.2.2.2.2.2.2)
theorem q01_Div.gmap {α β : Type} (h : β → α) (mk0 : (List Int) → (List Int) → β) (n : Nat) (a0 : (List Int)) (a1 : (List Int)) : q01_Div.g (fun a0 a1 => (h (mk0 a0 a1))) n a0 a1 = (q01_Div.g mk0 n a0 a1).map h := by
  unfold q01_Div.g
  exact (ite_map rfl (bindO_map fun r4 => rfl))
theorem q01_Div.run (n : Nat) (a0 : (List Int)) (a1 : (List Int)) : runF (q01_Div.C n) (q01_Div.A n) n Try.f100 [(.ints .u64 4 a0), (.ints .u64 4 a1)] [] (fun v o => some (v, o)) = q01_Div.g (fun a0 a1 => ((Prod.mk (.tup [(.ints .u64 4 a0), (.ints .u64 4 a1)]) []) : AV × Blks)) n a0 a1 := by kernel_rfl
theorem q01_Div.call (hmix : Try.prog.follows .mixedOrders = true) (n : Nat) (t : ((List Int) × (List Int))) (u) (h : q01_Div.m n t = some u) : FnC Try.prog (fun _ => .any) 100 (q01_Div.shape t).1 (q01_Div.shape t).2 (q01_Div.res u).1 (q01_Div.res u).2 := by
  have hg : ∀ f m, (q01_Div.C n).Γ f = some m → CalleeS Try.prog (fun _ => .any) f m := by
    intro f m hm
    unfold q01_Div.C at hm
    simp only at hm
    first
    | (cases hm; done)
    | (split at hm <;> first
    | (cases hm; exact q01_twice.s hmix n)
    | (cases hm; exact q01_bit.s hmix n)
    | (cases hm; exact q01_Cmp.s hmix n)
    | (cases hm; exact q01_Sub.s hmix n)
    | (cases hm; done))
  have hb : Try.f100.body = some (Try.f100.body.getD .skip) := by kernel_rfl
  refine runF_calls (C := q01_Div.C n) (A := q01_Div.A n) (n := n) (fn := Try.f100) hg hmix Try.func100 hb ?_ ?_ (by decide) rfl rfl (by show 2 ≤ Try.f100.ntmps; decide) ?_
  · rw [show loopsIn (Try.f100.body.getD .skip) = [q01_Div.b0] by kernel_rfl]
    intro b hb m hm
    simp only [List.mem_cons, List.not_mem_nil, or_false] at hb
    rcases hb with rfl
    · have e : (q01_Div.A n).loop (key q01_Div.b0) = some (.mk' q01_Div.l5_0.pat (q01_Div.l5_0.m n n) q01_Div.l5_0.resK) := by rw [show key q01_Div.b0 = 5 by kernel_rfl]; rfl
      rw [e] at hm
      cases hm
      exact LoopS.of (res := q01_Div.l5_0.res) (fun R u K => rfl) q01_Div.l5_0.pat_shape fun t => q01_Div.l5_0.loop n n t
  · intro a ha m hm
    cases (show none = some m from hm)
  · rw [show runF (q01_Div.C n) (q01_Div.A n) n Try.f100 (q01_Div.shape t).1 (q01_Div.shape t).2 (fun v o => some (v, o)) = _ from q01_Div.run n t.1 t.2]
    have e := q01_Div.gmap q01_Div.res (fun a0 a1 => (a0, a1)) n t.1 t.2
    unfold q01_Div.m at h
    rw [h] at e
    exact e
theorem q01_Div.s (hmix : Try.prog.follows .mixedOrders = true) (n : Nat) : CalleeS Try.prog (fun _ => .any) 100 (q01_Div.c n) :=
  CalleeS.of (res := q01_Div.res) (shape := q01_Div.shape) (fun R u K => rfl) (fun args lent t h => by
    unfold q01_Div.pat at h
    split at h
    · cases h; rfl
    · cases h) fun t u h => (q01_Div.call hmix n t u h).ok Try.func100 (by decide) (by kernel_rfl)
end
section
noncomputable section
noncomputable def word_Sdiv.C (n : Nat) : Ctx := ⟨Try.prog, (fun _ => .any), fun f => match f with
 | 116 => some (word_abs.c n)
 | 91 => some (word_Div.c n)
 | 87 => some (word_negative.c n)
 | 117 => some (word_minus.c n)
 | _ => none⟩
def word_Sdiv.live : Nat → List Nat × List Nat := fun k => match k with
 | _ => ([], [])
def word_Sdiv.jlive : Nat → List Nat × List Nat := fun k => match k with
 | _ => ([], [])
noncomputable def word_Sdiv.A (n : Nat) : Ann := ⟨Try.f92.ntmps, 0, word_Sdiv.live, [], [none, none], fun k => match k with
 | _ => none, word_Sdiv.jlive, lookJ []⟩
def word_Sdiv.g {α : Type} (mk0 : (List Int) → (List Int) → α) (n : Nat) (a0 : (List Int)) (a1 : (List Int)) : Option α :=
 bindO (word_abs.m n a0) fun r2 =>
  bindO (word_abs.m n a1) fun r4 =>
   bindO (word_Div.m n (Prod.mk r2 r4)) fun r6 =>
    bindO (word_negative.m n a0) fun r8 =>
     bindO (word_negative.m n a1) fun r10 =>
      if (!(r8 == r10)) = true then
       bindO (word_minus.m n (Prod.fst r6)) fun r14 =>
        bindO (word_negative.m n a0) fun r16 =>
         if r16 = true then
          bindO (word_minus.m n (Prod.snd r6)) fun r20 =>
           some (mk0 r14 r20)
         else
          some (mk0 r14 (Prod.snd r6))
      else
       bindO (word_negative.m n a0) fun r14 =>
        if r14 = true then
         bindO (word_minus.m n (Prod.snd r6)) fun r18 =>
          some (mk0 (Prod.fst r6) r18)
        else
         some (mk0 (Prod.fst r6) (Prod.snd r6))
def word_Sdiv.m (n : Nat) (t : ((List Int) × (List Int))) : Option ((List Int) × (List Int)) := word_Sdiv.g (fun a0 a1 => (a0, a1)) n t.1 t.2
def word_Sdiv.pat : List AV → Blks → Option ((List Int) × (List Int))
 | [(.ints .u64 4 a0), (.ints .u64 4 a1)], [] => some (a0, a1)
 | _, _ => none
def word_Sdiv.shape (t : ((List Int) × (List Int))) : List AV × Blks := ([(.ints .u64 4 t.1), (.ints .u64 4 t.2)], [])
def word_Sdiv.res : ((List Int) × (List Int)) → AV × Blks
 | u => (Prod.mk (.tup [(.ints .u64 4 u.1), (.ints .u64 4 u.2)]) [])
def word_Sdiv.resK {R : Type} (u : ((List Int) × (List Int))) (K : AV → Blks → Option R) : Option R := (fun p : AV × Blks => K p.1 p.2) (Prod.mk (.tup [(.ints .u64 4 u.1), (.ints .u64 4 u.2)]) [])
def word_Sdiv.c (n : Nat) : Abs.Callee := .mk' [] [none, none] word_Sdiv.pat (word_Sdiv.m n) word_Sdiv.resK
end
end
section
theorem word_Sdiv.gmap {α β : Type} (h : β → α) (mk0 : (List Int) → (List Int) → β) (n : Nat) (a0 : (List Int)) (a1 : (List Int)) : word_Sdiv.g (fun a0 a1 => (h (mk0 a0 a1))) n a0 a1 = (word_Sdiv.g mk0 n a0 a1).map h := by
  unfold word_Sdiv.g
  exact (bindO_map fun r2 => (bindO_map fun r4 => (bindO_map fun r6 => (bindO_map fun r8 => (bindO_map fun r10 => (ite_map (bindO_map fun r14 => (bindO_map fun r16 => (ite_map (bindO_map fun r20 => rfl) rfl))) (bindO_map fun r14 => (ite_map (bindO_map fun r18 => rfl) rfl))))))))
theorem word_Sdiv.run (n : Nat) (a0 : (List Int)) (a1 : (List Int)) : runF (word_Sdiv.C n) (word_Sdiv.A n) n Try.f92 [(.ints .u64 4 a0), (.ints .u64 4 a1)] [] (fun v o => some (v, o)) = word_Sdiv.g (fun a0 a1 => ((Prod.mk (.tup [(.ints .u64 4 a0), (.ints .u64 4 a1)]) []) : AV × Blks)) n a0 a1 := by kernel_rfl
theorem word_Sdiv.call (hmix : Try.prog.follows .mixedOrders = true) (n : Nat) (t : ((List Int) × (List Int))) (u) (h : word_Sdiv.m n t = some u) : FnC Try.prog (fun _ => .any) 92 (word_Sdiv.shape t).1 (word_Sdiv.shape t).2 (word_Sdiv.res u).1 (word_Sdiv.res u).2 := by
  have hg : ∀ f m, (word_Sdiv.C n).Γ f = some m → CalleeS Try.prog (fun _ => .any) f m := by
    intro f m hm
    unfold word_Sdiv.C at hm
    simp only at hm
    first
    | (cases hm; done)
    | (split at hm <;> first
    | (cases hm; exact word_abs.s hmix n)
    | (cases hm; exact word_Div.s hmix n)
    | (cases hm; exact word_negative.s hmix n)
    | (cases hm; exact word_minus.s hmix n)
    | (cases hm; done))
  have hb : Try.f92.body = some (Try.f92.body.getD .skip) := by kernel_rfl
  refine runF_calls (C := word_Sdiv.C n) (A := word_Sdiv.A n) (n := n) (fn := Try.f92) hg hmix Try.func92 hb ?_ ?_ (by decide) rfl rfl (by show 2 ≤ Try.f92.ntmps; decide) ?_
  · rw [show loopsIn (Try.f92.body.getD .skip) = [] by kernel_rfl]
    intro b hb
    cases hb
  · intro a ha m hm
    cases (show none = some m from hm)
  · rw [show runF (word_Sdiv.C n) (word_Sdiv.A n) n Try.f92 (word_Sdiv.shape t).1 (word_Sdiv.shape t).2 (fun v o => some (v, o)) = _ from word_Sdiv.run n t.1 t.2]
    have e := word_Sdiv.gmap word_Sdiv.res (fun a0 a1 => (a0, a1)) n t.1 t.2
    unfold word_Sdiv.m at h
    rw [h] at e
    exact e
theorem word_Sdiv.s (hmix : Try.prog.follows .mixedOrders = true) (n : Nat) : CalleeS Try.prog (fun _ => .any) 92 (word_Sdiv.c n) :=
  CalleeS.of (res := word_Sdiv.res) (shape := word_Sdiv.shape) (fun R u K => rfl) (fun args lent t h => by
    unfold word_Sdiv.pat at h
    split at h
    · cases h; rfl
    · cases h) fun t u h => (word_Sdiv.call hmix n t u h).ok Try.func92 (by decide) (by kernel_rfl)
end
section
noncomputable section
noncomputable def q01_Sdiv.C (n : Nat) : Ctx := ⟨Try.prog, (fun _ => .any), fun f => match f with
 | 123 => some (q01_size.c n)
 | 100 => some (q01_Div.c n)
 | 107 => some (q01_neg.c n)
 | 120 => some (q01_Neg.c n)
 | _ => none⟩
def q01_Sdiv.live : Nat → List Nat × List Nat := fun k => match k with
 | _ => ([], [])
def q01_Sdiv.jlive : Nat → List Nat × List Nat := fun k => match k with
 | _ => ([], [])
noncomputable def q01_Sdiv.A (n : Nat) : Ann := ⟨Try.f101.ntmps, 0, q01_Sdiv.live, [], [none, none], fun k => match k with
 | _ => none, q01_Sdiv.jlive, lookJ []⟩
def q01_Sdiv.g {α : Type} (mk0 : (List Int) → (List Int) → α) (n : Nat) (a0 : (List Int)) (a1 : (List Int)) : Option α :=
 bindO (q01_size.m n a0) fun r2 =>
  bindO (q01_size.m n a1) fun r4 =>
   bindO (q01_Div.m n (Prod.mk r2 r4)) fun r6 =>
    bindO (q01_neg.m n a0) fun r8 =>
     bindO (q01_neg.m n a1) fun r10 =>
      if (!(r8 == r10)) = true then
       bindO (q01_Neg.m n (Prod.fst r6)) fun r14 =>
        bindO (q01_neg.m n a0) fun r16 =>
         if r16 = true then
          bindO (q01_Neg.m n (Prod.snd r6)) fun r20 =>
           some (mk0 r14 r20)
         else
          some (mk0 r14 (Prod.snd r6))
      else
       bindO (q01_neg.m n a0) fun r14 =>
        if r14 = true then
         bindO (q01_Neg.m n (Prod.snd r6)) fun r18 =>
          some (mk0 (Prod.fst r6) r18)
        else
         some (mk0 (Prod.fst r6) (Prod.snd r6))
def q01_Sdiv.m (n : Nat) (t : ((List Int) × (List Int))) : Option ((List Int) × (List Int)) := q01_Sdiv.g (fun a0 a1 => (a0, a1)) n t.1 t.2
def q01_Sdiv.pat : List AV → Blks → Option ((List Int) × (List Int))
 | [(.ints .u64 4 a0), (.ints .u64 4 a1)], [] => some (a0, a1)
 | _, _ => none
def q01_Sdiv.shape (t : ((List Int) × (List Int))) : List AV × Blks := ([(.ints .u64 4 t.1), (.ints .u64 4 t.2)], [])
def q01_Sdiv.res : ((List Int) × (List Int)) → AV × Blks
 | u => (Prod.mk (.tup [(.ints .u64 4 u.1), (.ints .u64 4 u.2)]) [])
def q01_Sdiv.resK {R : Type} (u : ((List Int) × (List Int))) (K : AV → Blks → Option R) : Option R := (fun p : AV × Blks => K p.1 p.2) (Prod.mk (.tup [(.ints .u64 4 u.1), (.ints .u64 4 u.2)]) [])
def q01_Sdiv.c (n : Nat) : Abs.Callee := .mk' [] [none, none] q01_Sdiv.pat (q01_Sdiv.m n) q01_Sdiv.resK
end
end
section
theorem q01_Sdiv.gmap {α β : Type} (h : β → α) (mk0 : (List Int) → (List Int) → β) (n : Nat) (a0 : (List Int)) (a1 : (List Int)) : q01_Sdiv.g (fun a0 a1 => (h (mk0 a0 a1))) n a0 a1 = (q01_Sdiv.g mk0 n a0 a1).map h := by
  unfold q01_Sdiv.g
  exact (bindO_map fun r2 => (bindO_map fun r4 => (bindO_map fun r6 => (bindO_map fun r8 => (bindO_map fun r10 => (ite_map (bindO_map fun r14 => (bindO_map fun r16 => (ite_map (bindO_map fun r20 => rfl) rfl))) (bindO_map fun r14 => (ite_map (bindO_map fun r18 => rfl) rfl))))))))
theorem q01_Sdiv.run (n : Nat) (a0 : (List Int)) (a1 : (List Int)) : runF (q01_Sdiv.C n) (q01_Sdiv.A n) n Try.f101 [(.ints .u64 4 a0), (.ints .u64 4 a1)] [] (fun v o => some (v, o)) = q01_Sdiv.g (fun a0 a1 => ((Prod.mk (.tup [(.ints .u64 4 a0), (.ints .u64 4 a1)]) []) : AV × Blks)) n a0 a1 := by kernel_rfl
theorem q01_Sdiv.call (hmix : Try.prog.follows .mixedOrders = true) (n : Nat) (t : ((List Int) × (List Int))) (u) (h : q01_Sdiv.m n t = some u) : FnC Try.prog (fun _ => .any) 101 (q01_Sdiv.shape t).1 (q01_Sdiv.shape t).2 (q01_Sdiv.res u).1 (q01_Sdiv.res u).2 := by
  have hg : ∀ f m, (q01_Sdiv.C n).Γ f = some m → CalleeS Try.prog (fun _ => .any) f m := by
    intro f m hm
    unfold q01_Sdiv.C at hm
    simp only at hm
    first
    | (cases hm; done)
    | (split at hm <;> first
    | (cases hm; exact q01_size.s hmix n)
    | (cases hm; exact q01_Div.s hmix n)
    | (cases hm; exact q01_neg.s hmix n)
    | (cases hm; exact q01_Neg.s hmix n)
    | (cases hm; done))
  have hb : Try.f101.body = some (Try.f101.body.getD .skip) := by kernel_rfl
  refine runF_calls (C := q01_Sdiv.C n) (A := q01_Sdiv.A n) (n := n) (fn := Try.f101) hg hmix Try.func101 hb ?_ ?_ (by decide) rfl rfl (by show 2 ≤ Try.f101.ntmps; decide) ?_
  · rw [show loopsIn (Try.f101.body.getD .skip) = [] by kernel_rfl]
    intro b hb
    cases hb
  · intro a ha m hm
    cases (show none = some m from hm)
  · rw [show runF (q01_Sdiv.C n) (q01_Sdiv.A n) n Try.f101 (q01_Sdiv.shape t).1 (q01_Sdiv.shape t).2 (fun v o => some (v, o)) = _ from q01_Sdiv.run n t.1 t.2]
    have e := q01_Sdiv.gmap q01_Sdiv.res (fun a0 a1 => (a0, a1)) n t.1 t.2
    unfold q01_Sdiv.m at h
    rw [h] at e
    exact e
theorem q01_Sdiv.s (hmix : Try.prog.follows .mixedOrders = true) (n : Nat) : CalleeS Try.prog (fun _ => .any) 101 (q01_Sdiv.c n) :=
  CalleeS.of (res := q01_Sdiv.res) (shape := q01_Sdiv.shape) (fun R u K => rfl) (fun args lent t h => by
    unfold q01_Sdiv.pat at h
    split at h
    · cases h; rfl
    · cases h) fun t u h => (q01_Sdiv.call hmix n t u h).ok Try.func101 (by decide) (by kernel_rfl)
end
section
noncomputable section
noncomputable def word_AddMod.C (n : Nat) : Ctx := ⟨Try.prog, (fun _ => .any), fun f => match f with
 | 88 => some (word_Add.c n)
 | 115 => some (word_widened.c n)
 | 114 => some (word_divide.c n)
 | _ => none⟩
def word_AddMod.live : Nat → List Nat × List Nat := fun k => match k with
 | _ => ([], [])
def word_AddMod.jlive : Nat → List Nat × List Nat := fun k => match k with
 | _ => ([], [])
noncomputable def word_AddMod.A (n : Nat) : Ann := ⟨Try.f93.ntmps, 0, word_AddMod.live, [], [none], fun k => match k with
 | _ => none, word_AddMod.jlive, lookJ []⟩
def word_AddMod.g {α : Type} (mk0 : (List Int) → α) (n : Nat) (a0 : (List Int)) (a1 : (List Int)) (a2 : (List Int)) : Option α :=
 if (a2 == [0, 0, 0, 0]) = true then
  some (mk0 a2)
 else
  bindO (word_Add.m n (Prod.mk a0 a1)) fun r4 =>
   bindO (word_widened.m n (Prod.fst r4)) fun r6 =>
    if (Prod.snd r4) = true then
     bindO (word_divide.m n (Prod.mk (List.set r6 4 1) a2)) fun r10 =>
      some (mk0 (Prod.snd r10))
    else
     bindO (word_divide.m n (Prod.mk r6 a2)) fun r10 =>
      some (mk0 (Prod.snd r10))
def word_AddMod.m (n : Nat) (t : ((List Int) × ((List Int) × (List Int)))) : Option (List Int) := word_AddMod.g (fun a0 => a0) n t.1 t.2.1 t.2.2
def word_AddMod.pat : List AV → Blks → Option ((List Int) × ((List Int) × (List Int)))
 | [(.ints .u64 4 a0), (.ints .u64 4 a1), (.ints .u64 4 a2)], [] => some (a0, a1, a2)
 | _, _ => none
def word_AddMod.shape (t : ((List Int) × ((List Int) × (List Int)))) : List AV × Blks := ([(.ints .u64 4 t.1), (.ints .u64 4 t.2.1), (.ints .u64 4 t.2.2)], [])
def word_AddMod.res : (List Int) → AV × Blks
 | u => (Prod.mk (.ints .u64 4 u) [])
def word_AddMod.resK {R : Type} (u : (List Int)) (K : AV → Blks → Option R) : Option R := (fun p : AV × Blks => K p.1 p.2) (Prod.mk (.ints .u64 4 u) [])
def word_AddMod.c (n : Nat) : Abs.Callee := .mk' [] [none, none, none] word_AddMod.pat (word_AddMod.m n) word_AddMod.resK
end
end
section
theorem word_AddMod.gmap {α β : Type} (h : β → α) (mk0 : (List Int) → β) (n : Nat) (a0 : (List Int)) (a1 : (List Int)) (a2 : (List Int)) : word_AddMod.g (fun a0 => (h (mk0 a0))) n a0 a1 a2 = (word_AddMod.g mk0 n a0 a1 a2).map h := by
  unfold word_AddMod.g
  exact (ite_map rfl (bindO_map fun r4 => (bindO_map fun r6 => (ite_map (bindO_map fun r10 => rfl) (bindO_map fun r10 => rfl)))))
theorem word_AddMod.run (n : Nat) (a0 : (List Int)) (a1 : (List Int)) (a2 : (List Int)) : runF (word_AddMod.C n) (word_AddMod.A n) n Try.f93 [(.ints .u64 4 a0), (.ints .u64 4 a1), (.ints .u64 4 a2)] [] (fun v o => some (v, o)) = word_AddMod.g (fun a0 => ((Prod.mk (.ints .u64 4 a0) []) : AV × Blks)) n a0 a1 a2 := by kernel_rfl
theorem word_AddMod.call (hmix : Try.prog.follows .mixedOrders = true) (n : Nat) (t : ((List Int) × ((List Int) × (List Int)))) (u) (h : word_AddMod.m n t = some u) : FnC Try.prog (fun _ => .any) 93 (word_AddMod.shape t).1 (word_AddMod.shape t).2 (word_AddMod.res u).1 (word_AddMod.res u).2 := by
  have hg : ∀ f m, (word_AddMod.C n).Γ f = some m → CalleeS Try.prog (fun _ => .any) f m := by
    intro f m hm
    unfold word_AddMod.C at hm
    simp only at hm
    first
    | (cases hm; done)
    | (split at hm <;> first
    | (cases hm; exact word_Add.s hmix n)
    | (cases hm; exact word_widened.s hmix n)
    | (cases hm; exact word_divide.s hmix n)
    | (cases hm; done))
  have hb : Try.f93.body = some (Try.f93.body.getD .skip) := by kernel_rfl
  refine runF_calls (C := word_AddMod.C n) (A := word_AddMod.A n) (n := n) (fn := Try.f93) hg hmix Try.func93 hb ?_ ?_ (by decide) rfl rfl (by show 3 ≤ Try.f93.ntmps; decide) ?_
  · rw [show loopsIn (Try.f93.body.getD .skip) = [] by kernel_rfl]
    intro b hb
    cases hb
  · intro a ha m hm
    cases (show none = some m from hm)
  · rw [show runF (word_AddMod.C n) (word_AddMod.A n) n Try.f93 (word_AddMod.shape t).1 (word_AddMod.shape t).2 (fun v o => some (v, o)) = _ from word_AddMod.run n t.1 t.2.1 t.2.2]
    have e := word_AddMod.gmap word_AddMod.res (fun a0 => a0) n t.1 t.2.1 t.2.2
    unfold word_AddMod.m at h
    rw [h] at e
    exact e
theorem word_AddMod.s (hmix : Try.prog.follows .mixedOrders = true) (n : Nat) : CalleeS Try.prog (fun _ => .any) 93 (word_AddMod.c n) :=
  CalleeS.of (res := word_AddMod.res) (shape := word_AddMod.shape) (fun R u K => rfl) (fun args lent t h => by
    unfold word_AddMod.pat at h
    split at h
    · cases h; rfl
    · cases h) fun t u h => (word_AddMod.call hmix n t u h).ok Try.func93 (by decide) (by kernel_rfl)
end
section
noncomputable section
noncomputable def word_MulMod.C (n : Nat) : Ctx := ⟨Try.prog, (fun _ => .any), fun f => match f with
 | 112 => some (word_product.c n)
 | 114 => some (word_divide.c n)
 | _ => none⟩
def word_MulMod.live : Nat → List Nat × List Nat := fun k => match k with
 | _ => ([], [])
def word_MulMod.jlive : Nat → List Nat × List Nat := fun k => match k with
 | _ => ([], [])
noncomputable def word_MulMod.A (n : Nat) : Ann := ⟨Try.f94.ntmps, 0, word_MulMod.live, [], [none], fun k => match k with
 | _ => none, word_MulMod.jlive, lookJ []⟩
def word_MulMod.g {α : Type} (mk0 : (List Int) → α) (n : Nat) (a0 : (List Int)) (a1 : (List Int)) (a2 : (List Int)) : Option α :=
 if (a2 == [0, 0, 0, 0]) = true then
  some (mk0 a2)
 else
  bindO (word_product.m n (Prod.mk a0 a1)) fun r4 =>
   bindO (word_divide.m n (Prod.mk r4 a2)) fun r6 =>
    some (mk0 (Prod.snd r6))
def word_MulMod.m (n : Nat) (t : ((List Int) × ((List Int) × (List Int)))) : Option (List Int) := word_MulMod.g (fun a0 => a0) n t.1 t.2.1 t.2.2
def word_MulMod.pat : List AV → Blks → Option ((List Int) × ((List Int) × (List Int)))
 | [(.ints .u64 4 a0), (.ints .u64 4 a1), (.ints .u64 4 a2)], [] => some (a0, a1, a2)
 | _, _ => none
def word_MulMod.shape (t : ((List Int) × ((List Int) × (List Int)))) : List AV × Blks := ([(.ints .u64 4 t.1), (.ints .u64 4 t.2.1), (.ints .u64 4 t.2.2)], [])
def word_MulMod.res : (List Int) → AV × Blks
 | u => (Prod.mk (.ints .u64 4 u) [])
def word_MulMod.resK {R : Type} (u : (List Int)) (K : AV → Blks → Option R) : Option R := (fun p : AV × Blks => K p.1 p.2) (Prod.mk (.ints .u64 4 u) [])
def word_MulMod.c (n : Nat) : Abs.Callee := .mk' [] [none, none, none] word_MulMod.pat (word_MulMod.m n) word_MulMod.resK
end
end
section
theorem word_MulMod.gmap {α β : Type} (h : β → α) (mk0 : (List Int) → β) (n : Nat) (a0 : (List Int)) (a1 : (List Int)) (a2 : (List Int)) : word_MulMod.g (fun a0 => (h (mk0 a0))) n a0 a1 a2 = (word_MulMod.g mk0 n a0 a1 a2).map h := by
  unfold word_MulMod.g
  exact (ite_map rfl (bindO_map fun r4 => (bindO_map fun r6 => rfl)))
theorem word_MulMod.run (n : Nat) (a0 : (List Int)) (a1 : (List Int)) (a2 : (List Int)) : runF (word_MulMod.C n) (word_MulMod.A n) n Try.f94 [(.ints .u64 4 a0), (.ints .u64 4 a1), (.ints .u64 4 a2)] [] (fun v o => some (v, o)) = word_MulMod.g (fun a0 => ((Prod.mk (.ints .u64 4 a0) []) : AV × Blks)) n a0 a1 a2 := by kernel_rfl
theorem word_MulMod.call (hmix : Try.prog.follows .mixedOrders = true) (n : Nat) (t : ((List Int) × ((List Int) × (List Int)))) (u) (h : word_MulMod.m n t = some u) : FnC Try.prog (fun _ => .any) 94 (word_MulMod.shape t).1 (word_MulMod.shape t).2 (word_MulMod.res u).1 (word_MulMod.res u).2 := by
  have hg : ∀ f m, (word_MulMod.C n).Γ f = some m → CalleeS Try.prog (fun _ => .any) f m := by
    intro f m hm
    unfold word_MulMod.C at hm
    simp only at hm
    first
    | (cases hm; done)
    | (split at hm <;> first
    | (cases hm; exact word_product.s hmix n)
    | (cases hm; exact word_divide.s hmix n)
    | (cases hm; done))
  have hb : Try.f94.body = some (Try.f94.body.getD .skip) := by kernel_rfl
  refine runF_calls (C := word_MulMod.C n) (A := word_MulMod.A n) (n := n) (fn := Try.f94) hg hmix Try.func94 hb ?_ ?_ (by decide) rfl rfl (by show 3 ≤ Try.f94.ntmps; decide) ?_
  · rw [show loopsIn (Try.f94.body.getD .skip) = [] by kernel_rfl]
    intro b hb
    cases hb
  · intro a ha m hm
    cases (show none = some m from hm)
  · rw [show runF (word_MulMod.C n) (word_MulMod.A n) n Try.f94 (word_MulMod.shape t).1 (word_MulMod.shape t).2 (fun v o => some (v, o)) = _ from word_MulMod.run n t.1 t.2.1 t.2.2]
    have e := word_MulMod.gmap word_MulMod.res (fun a0 => a0) n t.1 t.2.1 t.2.2
    unfold word_MulMod.m at h
    rw [h] at e
    exact e
theorem word_MulMod.s (hmix : Try.prog.follows .mixedOrders = true) (n : Nat) : CalleeS Try.prog (fun _ => .any) 94 (word_MulMod.c n) :=
  CalleeS.of (res := word_MulMod.res) (shape := word_MulMod.shape) (fun R u K => rfl) (fun args lent t h => by
    unfold word_MulMod.pat at h
    split at h
    · cases h; rfl
    · cases h) fun t u h => (word_MulMod.call hmix n t u h).ok Try.func94 (by decide) (by kernel_rfl)
end
section
noncomputable section
noncomputable def q01_less.C (n : Nat) : Ctx := ⟨Try.prog, (fun _ => .any), fun f => match f with
 | 97 => some (q01_Add.c n)
 | 74 => some (q01_Cmp.c n)
 | 99 => some (q01_Sub.c n)
 | _ => none⟩
def q01_less.live : Nat → List Nat × List Nat := fun k => match k with
 | _ => ([], [])
def q01_less.jlive : Nat → List Nat × List Nat := fun k => match k with
 | _ => ([], [])
noncomputable def q01_less.A (n : Nat) : Ann := ⟨Try.f124.ntmps, 0, q01_less.live, [], [none], fun k => match k with
 | _ => none, q01_less.jlive, lookJ []⟩
def q01_less.g {α : Type} (mk0 : (List Int) → α) (n : Nat) (a0 : (List Int)) (a1 : (List Int)) (a2 : (List Int)) : Option α :=
 bindO (q01_Add.m n (Prod.mk a0 a1)) fun r2 =>
  if (Prod.snd r2) = true then
   bindO (q01_Sub.m n (Prod.mk (Prod.fst r2) a2)) fun r6 =>
    some (mk0 (Prod.fst r6))
  else
   bindO (q01_Cmp.m n (Prod.mk (Prod.fst r2) a2)) fun r6 =>
    if (decide (r6 ≥ 0)) = true then
     bindO (q01_Sub.m n (Prod.mk (Prod.fst r2) a2)) fun r10 =>
      some (mk0 (Prod.fst r10))
    else
     some (mk0 (Prod.fst r2))
def q01_less.m (n : Nat) (t : ((List Int) × ((List Int) × (List Int)))) : Option (List Int) := q01_less.g (fun a0 => a0) n t.1 t.2.1 t.2.2
def q01_less.pat : List AV → Blks → Option ((List Int) × ((List Int) × (List Int)))
 | [(.ints .u64 4 a0), (.ints .u64 4 a1), (.ints .u64 4 a2)], [] => some (a0, a1, a2)
 | _, _ => none
def q01_less.shape (t : ((List Int) × ((List Int) × (List Int)))) : List AV × Blks := ([(.ints .u64 4 t.1), (.ints .u64 4 t.2.1), (.ints .u64 4 t.2.2)], [])
def q01_less.res : (List Int) → AV × Blks
 | u => (Prod.mk (.ints .u64 4 u) [])
def q01_less.resK {R : Type} (u : (List Int)) (K : AV → Blks → Option R) : Option R := (fun p : AV × Blks => K p.1 p.2) (Prod.mk (.ints .u64 4 u) [])
def q01_less.c (n : Nat) : Abs.Callee := .mk' [] [none, none, none] q01_less.pat (q01_less.m n) q01_less.resK
end
end
section
noncomputable section
noncomputable def q01_AddMod.C (n : Nat) : Ctx := ⟨Try.prog, (fun _ => .any), fun f => match f with
 | 100 => some (q01_Div.c n)
 | 124 => some (q01_less.c n)
 | _ => none⟩
def q01_AddMod.live : Nat → List Nat × List Nat := fun k => match k with
 | _ => ([], [])
def q01_AddMod.jlive : Nat → List Nat × List Nat := fun k => match k with
 | _ => ([], [])
noncomputable def q01_AddMod.A (n : Nat) : Ann := ⟨Try.f102.ntmps, 0, q01_AddMod.live, [], [none], fun k => match k with
 | _ => none, q01_AddMod.jlive, lookJ []⟩
def q01_AddMod.g {α : Type} (mk0 : (List Int) → α) (n : Nat) (a0 : (List Int)) (a1 : (List Int)) (a2 : (List Int)) : Option α :=
 if (a2 == [0, 0, 0, 0]) = true then
  some (mk0 a2)
 else
  bindO (q01_Div.m n (Prod.mk a0 a2)) fun r4 =>
   bindO (q01_Div.m n (Prod.mk a1 a2)) fun r6 =>
    bindO (q01_less.m n (Prod.mk (Prod.snd r4) (Prod.mk (Prod.snd r6) a2))) fun r8 =>
     some (mk0 r8)
def q01_AddMod.m (n : Nat) (t : ((List Int) × ((List Int) × (List Int)))) : Option (List Int) := q01_AddMod.g (fun a0 => a0) n t.1 t.2.1 t.2.2
def q01_AddMod.pat : List AV → Blks → Option ((List Int) × ((List Int) × (List Int)))
 | [(.ints .u64 4 a0), (.ints .u64 4 a1), (.ints .u64 4 a2)], [] => some (a0, a1, a2)
 | _, _ => none
def q01_AddMod.shape (t : ((List Int) × ((List Int) × (List Int)))) : List AV × Blks := ([(.ints .u64 4 t.1), (.ints .u64 4 t.2.1), (.ints .u64 4 t.2.2)], [])
def q01_AddMod.res : (List Int) → AV × Blks
 | u => (Prod.mk (.ints .u64 4 u) [])
def q01_AddMod.resK {R : Type} (u : (List Int)) (K : AV → Blks → Option R) : Option R := (fun p : AV × Blks => K p.1 p.2) (Prod.mk (.ints .u64 4 u) [])
def q01_AddMod.c (n : Nat) : Abs.Callee := .mk' [] [none, none, none] q01_AddMod.pat (q01_AddMod.m n) q01_AddMod.resK
end
end
section
theorem q01_less.gmap {α β : Type} (h : β → α) (mk0 : (List Int) → β) (n : Nat) (a0 : (List Int)) (a1 : (List Int)) (a2 : (List Int)) : q01_less.g (fun a0 => (h (mk0 a0))) n a0 a1 a2 = (q01_less.g mk0 n a0 a1 a2).map h := by
  unfold q01_less.g
  exact (bindO_map fun r2 => (ite_map (bindO_map fun r6 => rfl) (bindO_map fun r6 => (ite_map (bindO_map fun r10 => rfl) rfl))))
theorem q01_less.run (n : Nat) (a0 : (List Int)) (a1 : (List Int)) (a2 : (List Int)) : runF (q01_less.C n) (q01_less.A n) n Try.f124 [(.ints .u64 4 a0), (.ints .u64 4 a1), (.ints .u64 4 a2)] [] (fun v o => some (v, o)) = q01_less.g (fun a0 => ((Prod.mk (.ints .u64 4 a0) []) : AV × Blks)) n a0 a1 a2 := by kernel_rfl
theorem q01_less.call (hmix : Try.prog.follows .mixedOrders = true) (n : Nat) (t : ((List Int) × ((List Int) × (List Int)))) (u) (h : q01_less.m n t = some u) : FnC Try.prog (fun _ => .any) 124 (q01_less.shape t).1 (q01_less.shape t).2 (q01_less.res u).1 (q01_less.res u).2 := by
  have hg : ∀ f m, (q01_less.C n).Γ f = some m → CalleeS Try.prog (fun _ => .any) f m := by
    intro f m hm
    unfold q01_less.C at hm
    simp only at hm
    first
    | (cases hm; done)
    | (split at hm <;> first
    | (cases hm; exact q01_Add.s hmix n)
    | (cases hm; exact q01_Cmp.s hmix n)
    | (cases hm; exact q01_Sub.s hmix n)
    | (cases hm; done))
  have hb : Try.f124.body = some (Try.f124.body.getD .skip) := by kernel_rfl
  refine runF_calls (C := q01_less.C n) (A := q01_less.A n) (n := n) (fn := Try.f124) hg hmix Try.func124 hb ?_ ?_ (by decide) rfl rfl (by show 3 ≤ Try.f124.ntmps; decide) ?_
  · rw [show loopsIn (Try.f124.body.getD .skip) = [] by kernel_rfl]
    intro b hb
    cases hb
  · intro a ha m hm
    cases (show none = some m from hm)
  · rw [show runF (q01_less.C n) (q01_less.A n) n Try.f124 (q01_less.shape t).1 (q01_less.shape t).2 (fun v o => some (v, o)) = _ from q01_less.run n t.1 t.2.1 t.2.2]
    have e := q01_less.gmap q01_less.res (fun a0 => a0) n t.1 t.2.1 t.2.2
    unfold q01_less.m at h
    rw [h] at e
    exact e
theorem q01_less.s (hmix : Try.prog.follows .mixedOrders = true) (n : Nat) : CalleeS Try.prog (fun _ => .any) 124 (q01_less.c n) :=
  CalleeS.of (res := q01_less.res) (shape := q01_less.shape) (fun R u K => rfl) (fun args lent t h => by
    unfold q01_less.pat at h
    split at h
    · cases h; rfl
    · cases h) fun t u h => (q01_less.call hmix n t u h).ok Try.func124 (by decide) (by kernel_rfl)
end
section
theorem q01_AddMod.gmap {α β : Type} (h : β → α) (mk0 : (List Int) → β) (n : Nat) (a0 : (List Int)) (a1 : (List Int)) (a2 : (List Int)) : q01_AddMod.g (fun a0 => (h (mk0 a0))) n a0 a1 a2 = (q01_AddMod.g mk0 n a0 a1 a2).map h := by
  unfold q01_AddMod.g
  exact (ite_map rfl (bindO_map fun r4 => (bindO_map fun r6 => (bindO_map fun r8 => rfl))))
theorem q01_AddMod.run (n : Nat) (a0 : (List Int)) (a1 : (List Int)) (a2 : (List Int)) : runF (q01_AddMod.C n) (q01_AddMod.A n) n Try.f102 [(.ints .u64 4 a0), (.ints .u64 4 a1), (.ints .u64 4 a2)] [] (fun v o => some (v, o)) = q01_AddMod.g (fun a0 => ((Prod.mk (.ints .u64 4 a0) []) : AV × Blks)) n a0 a1 a2 := by kernel_rfl
theorem q01_AddMod.call (hmix : Try.prog.follows .mixedOrders = true) (n : Nat) (t : ((List Int) × ((List Int) × (List Int)))) (u) (h : q01_AddMod.m n t = some u) : FnC Try.prog (fun _ => .any) 102 (q01_AddMod.shape t).1 (q01_AddMod.shape t).2 (q01_AddMod.res u).1 (q01_AddMod.res u).2 := by
  have hg : ∀ f m, (q01_AddMod.C n).Γ f = some m → CalleeS Try.prog (fun _ => .any) f m := by
    intro f m hm
    unfold q01_AddMod.C at hm
    simp only at hm
    first
    | (cases hm; done)
    | (split at hm <;> first
    | (cases hm; exact q01_Div.s hmix n)
    | (cases hm; exact q01_less.s hmix n)
    | (cases hm; done))
  have hb : Try.f102.body = some (Try.f102.body.getD .skip) := by kernel_rfl
  refine runF_calls (C := q01_AddMod.C n) (A := q01_AddMod.A n) (n := n) (fn := Try.f102) hg hmix Try.func102 hb ?_ ?_ (by decide) rfl rfl (by show 3 ≤ Try.f102.ntmps; decide) ?_
  · rw [show loopsIn (Try.f102.body.getD .skip) = [] by kernel_rfl]
    intro b hb
    cases hb
  · intro a ha m hm
    cases (show none = some m from hm)
  · rw [show runF (q01_AddMod.C n) (q01_AddMod.A n) n Try.f102 (q01_AddMod.shape t).1 (q01_AddMod.shape t).2 (fun v o => some (v, o)) = _ from q01_AddMod.run n t.1 t.2.1 t.2.2]
    have e := q01_AddMod.gmap q01_AddMod.res (fun a0 => a0) n t.1 t.2.1 t.2.2
    unfold q01_AddMod.m at h
    rw [h] at e
    exact e
theorem q01_AddMod.s (hmix : Try.prog.follows .mixedOrders = true) (n : Nat) : CalleeS Try.prog (fun _ => .any) 102 (q01_AddMod.c n) :=
  CalleeS.of (res := q01_AddMod.res) (shape := q01_AddMod.shape) (fun R u K => rfl) (fun args lent t h => by
    unfold q01_AddMod.pat at h
    split at h
    · cases h; rfl
    · cases h) fun t u h => (q01_AddMod.call hmix n t u h).ok Try.func102 (by decide) (by kernel_rfl)
end
section
noncomputable section
noncomputable def q01_MulMod.C (n : Nat) : Ctx := ⟨Try.prog, (fun _ => .any), fun f => match f with
 | 100 => some (q01_Div.c n)
 | 124 => some (q01_less.c n)
 | 122 => some (q01_bit.c n)
 | _ => none⟩
def q01_MulMod.live : Nat → List Nat × List Nat := fun k => match k with
 | 6 => ([10, 9, 5, 4, 8, 6], [9, 6])
 | _ => ([], [])
def q01_MulMod.jlive : Nat → List Nat × List Nat := fun k => match k with
 | _ => ([], [])
def q01_MulMod.l6_0.r {α : Type} (mk0 : (List Int) → (List Int) → α) (n : Nat) (rc : Int → (List Int) → (List Int) → (List Int) → (List Int) → (List Int) → Option α)  (x0 : Int) (x1 : (List Int)) (x2 : (List Int)) (x3 : (List Int)) (x4 : (List Int)) (x5 : (List Int)) : Option α :=
  if (decide (x0 ≥ 0)) = true then
   bindO (q01_less.m n (Prod.mk x1 (Prod.mk x1 x2))) fun r6 =>
    bindO (q01_bit.m n (Prod.mk x3 x0)) fun r8 =>
     if r8 = true then
      bindO (q01_less.m n (Prod.mk r6 (Prod.mk x4 x2))) fun r12 =>
       rc (IntKind.wrap .i64 (x0 - 1)) r12 x2 x3 x4 x5
     else
      rc (IntKind.wrap .i64 (x0 - 1)) r6 x2 x3 x4 x5
  else
   some (mk0 x1 x5)
def q01_MulMod.l6_0.g {α : Type} (mk0 : (List Int) → (List Int) → α) (n : Nat) : Nat → Int → (List Int) → (List Int) → (List Int) → (List Int) → (List Int) → Option α
 | 0, _, _, _, _, _, _ => none
 | m + 1, x0, x1, x2, x3, x4, x5 => q01_MulMod.l6_0.r mk0 n (fun y0 y1 y2 y3 y4 y5 => q01_MulMod.l6_0.g mk0 n m y0 y1 y2 y3 y4 y5)  x0 x1 x2 x3 x4 x5
def q01_MulMod.l6_0.m (n m : Nat) (t : (Int × ((List Int) × ((List Int) × ((List Int) × ((List Int) × (List Int))))))) : Option ((List Int) × (List Int)) := q01_MulMod.l6_0.g (fun a0 a1 => (a0, a1)) n m t.1 t.2.1 t.2.2.1 t.2.2.2.1 t.2.2.2.2.1 t.2.2.2.2.2
def q01_MulMod.l6_0.pat : St → Option (Int × ((List Int) × ((List Int) × ((List Int) × ((List Int) × (List Int))))))
 | (St.mk [(.int .i64 x0), (.ptr 0 []), (.ptr 1 []), (.ptr 2 []), (.ptr 3 []), (.ptr 4 [])] [(some (.var (.ints .u64 4 x1))), (some (.var (.ints .u64 4 x2))), (some (.var (.ints .u64 4 x3))), (some (.var (.ints .u64 4 x4))), (some (.var (.ints .u64 4 x5)))]) => some (x0, x1, x2, x3, x4, x5)
 | _ => none
def q01_MulMod.l6_0.shape (t : (Int × ((List Int) × ((List Int) × ((List Int) × ((List Int) × (List Int))))))) : St := (St.mk [(.int .i64 t.1), (.ptr 0 []), (.ptr 1 []), (.ptr 2 []), (.ptr 3 []), (.ptr 4 [])] [(some (.var (.ints .u64 4 t.2.1))), (some (.var (.ints .u64 4 t.2.2.1))), (some (.var (.ints .u64 4 t.2.2.2.1))), (some (.var (.ints .u64 4 t.2.2.2.2.1))), (some (.var (.ints .u64 4 t.2.2.2.2.2)))])
def q01_MulMod.l6_0.res : ((List Int) × (List Int)) → Ex × St
 | u => (Prod.mk (.exit 0) (St.mk [(.ptr 0 []), (.ptr 1 [])] [(some (.var (.ints .u64 4 u.1))), (some (.var (.ints .u64 4 u.2)))]))
def q01_MulMod.l6_0.resK {R : Type} (u : ((List Int) × (List Int))) (K : Ex → St → Option R) : Option R := (fun p : Ex × St => K p.1 p.2) (Prod.mk (.exit 0) (St.mk [(.ptr 0 []), (.ptr 1 [])] [(some (.var (.ints .u64 4 u.1))), (some (.var (.ints .u64 4 u.2)))]))
noncomputable def q01_MulMod.A (n : Nat) : Ann := ⟨Try.f103.ntmps, 0, q01_MulMod.live, [], [none], fun k => match k with
 | 6 => some (.mk' q01_MulMod.l6_0.pat (q01_MulMod.l6_0.m n n) q01_MulMod.l6_0.resK)
 | _ => none, q01_MulMod.jlive, lookJ []⟩
noncomputable def q01_MulMod.b0 : Code := (loopsIn (Try.f103.body.getD .skip)).getD 0 .skip
def q01_MulMod.g {α : Type} (mk0 : (List Int) → α) (n : Nat) (a0 : (List Int)) (a1 : (List Int)) (a2 : (List Int)) : Option α :=
 if (a2 == [0, 0, 0, 0]) = true then
  some (mk0 a2)
 else
  bindO (q01_Div.m n (Prod.mk a0 a2)) fun r4 =>
   bindO (q01_MulMod.l6_0.m n n (255, [0, 0, 0, 0], a2, a1, (Prod.snd r4), [0, 0, 0, 0])) fun r6 =>
    some (mk0 (Prod.fst r6))
def q01_MulMod.m (n : Nat) (t : ((List Int) × ((List Int) × (List Int)))) : Option (List Int) := q01_MulMod.g (fun a0 => a0) n t.1 t.2.1 t.2.2
def q01_MulMod.pat : List AV → Blks → Option ((List Int) × ((List Int) × (List Int)))
 | [(.ints .u64 4 a0), (.ints .u64 4 a1), (.ints .u64 4 a2)], [] => some (a0, a1, a2)
 | _, _ => none
def q01_MulMod.shape (t : ((List Int) × ((List Int) × (List Int)))) : List AV × Blks := ([(.ints .u64 4 t.1), (.ints .u64 4 t.2.1), (.ints .u64 4 t.2.2)], [])
def q01_MulMod.res : (List Int) → AV × Blks
 | u => (Prod.mk (.ints .u64 4 u) [])
def q01_MulMod.resK {R : Type} (u : (List Int)) (K : AV → Blks → Option R) : Option R := (fun p : AV × Blks => K p.1 p.2) (Prod.mk (.ints .u64 4 u) [])
def q01_MulMod.c (n : Nat) : Abs.Callee := .mk' [] [none, none, none] q01_MulMod.pat (q01_MulMod.m n) q01_MulMod.resK
end
end
section
theorem q01_MulMod.l6_0.rmap {α β : Type} (h : β → α) (mk0 : (List Int) → (List Int) → β) (n : Nat) (f : Int → (List Int) → (List Int) → (List Int) → (List Int) → (List Int) → Option β)  (x0 : Int) (x1 : (List Int)) (x2 : (List Int)) (x3 : (List Int)) (x4 : (List Int)) (x5 : (List Int)) : q01_MulMod.l6_0.r (fun a0 a1 => (h (mk0 a0 a1))) n (fun y0 y1 y2 y3 y4 y5 => (f y0 y1 y2 y3 y4 y5).map h) x0 x1 x2 x3 x4 x5 = (q01_MulMod.l6_0.r mk0 n f x0 x1 x2 x3 x4 x5).map h := by
  unfold q01_MulMod.l6_0.r
  exact (ite_map (bindO_map fun r6 => (bindO_map fun r8 => (ite_map (bindO_map fun r12 => rfl) rfl))) rfl)
theorem q01_MulMod.l6_0.gmap {α β : Type} (h : β → α) (mk0 : (List Int) → (List Int) → β) (n : Nat) : ∀ (m : Nat) (x0 : Int) (x1 : (List Int)) (x2 : (List Int)) (x3 : (List Int)) (x4 : (List Int)) (x5 : (List Int)), q01_MulMod.l6_0.g (fun a0 a1 => (h (mk0 a0 a1))) n m x0 x1 x2 x3 x4 x5 = (q01_MulMod.l6_0.g mk0 n m x0 x1 x2 x3 x4 x5).map h
  | 0, _, _, _, _, _, _ => rfl
  | m + 1, x0, x1, x2, x3, x4, x5 => by
    unfold q01_MulMod.l6_0.g
    rw [← q01_MulMod.l6_0.rmap]
    congr
    · funext y0 y1 y2 y3 y4 y5; exact q01_MulMod.l6_0.gmap h mk0 n m y0 y1 y2 y3 y4 y5
theorem q01_MulMod.l6_0.pat_shape : ∀ st t, q01_MulMod.l6_0.pat st = some t → st = q01_MulMod.l6_0.shape t := by
  intro st t h
  unfold q01_MulMod.l6_0.pat at h
  split at h
  · cases h; rfl
  · cases h
theorem q01_MulMod.l6_0.round (n : Nat) (rc : St → Option (Ex × St)) (x0 : Int) (x1 : (List Int)) (x2 : (List Int)) (x3 : (List Int)) (x4 : (List Int)) (x5 : (List Int)) : roundOf (q01_MulMod.C n) (q01_MulMod.A n) n q01_MulMod.b0 rc ((St.mk [(.int .i64 x0), (.ptr 0 []), (.ptr 1 []), (.ptr 2 []), (.ptr 3 []), (.ptr 4 [])] [(some (.var (.ints .u64 4 x1))), (some (.var (.ints .u64 4 x2))), (some (.var (.ints .u64 4 x3))), (some (.var (.ints .u64 4 x4))), (some (.var (.ints .u64 4 x5)))])) = q01_MulMod.l6_0.r (fun a0 a1 => ((Prod.mk (.exit 0) (St.mk [(.ptr 0 []), (.ptr 1 [])] [(some (.var (.ints .u64 4 a0))), (some (.var (.ints .u64 4 a1)))])) : Ex × St)) n (fun y0 y1 y2 y3 y4 y5 => rc ((St.mk [(.int .i64 y0), (.ptr 0 []), (.ptr 1 []), (.ptr 2 []), (.ptr 3 []), (.ptr 4 [])] [(some (.var (.ints .u64 4 y1))), (some (.var (.ints .u64 4 y2))), (some (.var (.ints .u64 4 y3))), (some (.var (.ints .u64 4 y4))), (some (.var (.ints .u64 4 y5)))]))) x0 x1 x2 x3 x4 x5 := by kernel_rfl
theorem q01_MulMod.l6_0.loop' (n : Nat) : ∀ (m : Nat) (t : (Int × ((List Int) × ((List Int) × ((List Int) × ((List Int) × (List Int))))))), loopOf (roundOf (q01_MulMod.C n) (q01_MulMod.A n) n q01_MulMod.b0) m (q01_MulMod.l6_0.shape t) = q01_MulMod.l6_0.g (fun a0 a1 => ((Prod.mk (.exit 0) (St.mk [(.ptr 0 []), (.ptr 1 [])] [(some (.var (.ints .u64 4 a0))), (some (.var (.ints .u64 4 a1)))])) : Ex × St)) n m t.1 t.2.1 t.2.2.1 t.2.2.2.1 t.2.2.2.2.1 t.2.2.2.2.2 :=
  loop_of_round (shape := q01_MulMod.l6_0.shape) (body := roundOf (q01_MulMod.C n) (q01_MulMod.A n) n q01_MulMod.b0) (g := fun m t => q01_MulMod.l6_0.g (fun a0 a1 => ((Prod.mk (.exit 0) (St.mk [(.ptr 0 []), (.ptr 1 [])] [(some (.var (.ints .u64 4 a0))), (some (.var (.ints .u64 4 a1)))])) : Ex × St)) n m t.1 t.2.1 t.2.2.1 t.2.2.2.1 t.2.2.2.2.1 t.2.2.2.2.2) (fun t => rfl)
    fun m t ih => (q01_MulMod.l6_0.round n (loopOf (roundOf (q01_MulMod.C n) (q01_MulMod.A n) n q01_MulMod.b0) m) t.1 t.2.1 t.2.2.1 t.2.2.2.1 t.2.2.2.2.1 t.2.2.2.2.2).trans (congrFun (congrFun (congrFun (congrFun (congrFun (congrFun (congrArg (q01_MulMod.l6_0.r (fun a0 a1 => ((Prod.mk (.exit 0) (St.mk [(.ptr 0 []), (.ptr 1 [])] [(some (.var (.ints .u64 4 a0))), (some (.var (.ints .u64 4 a1)))])) : Ex × St)) n) (funext fun y0 => funext fun y1 => funext fun y2 => funext fun y3 => funext fun y4 => funext fun y5 => ih (y0, y1, y2, y3, y4, y5))) t.1) t.2.1) t.2.2.1) t.2.2.2.1) t.2.2.2.2.1) t.2.2.2.2.2)
theorem q01_MulMod.l6_0.loop (n m : Nat) (t : (Int × ((List Int) × ((List Int) × ((List Int) × ((List Int) × (List Int))))))) : loopOf (roundOf (q01_MulMod.C n) (q01_MulMod.A n) n q01_MulMod.b0) m (q01_MulMod.l6_0.shape t) = (q01_MulMod.l6_0.m n m t).map q01_MulMod.l6_0.res :=
  (q01_MulMod.l6_0.loop' n m t).trans (q01_MulMod.l6_0.gmap q01_MulMod.l6_0.res (fun a0 a1 => (a0, a1)) n m t.1 t.2.1 t.2.2.1 t.2.2.2.1 t.2.2.2.2.1 t.2.2.2.2.2)
theorem q01_MulMod.gmap {α β : Type} (h : β → α) (mk0 : (List Int) → β) (n : Nat) (a0 : (List Int)) (a1 : (List Int)) (a2 : (List Int)) : q01_MulMod.g (fun a0 => (h (mk0 a0))) n a0 a1 a2 = (q01_MulMod.g mk0 n a0 a1 a2).map h := by
  unfold q01_MulMod.g
  exact (ite_map rfl (bindO_map fun r4 => (bindO_map fun r6 => rfl)))
theorem q01_MulMod.run (n : Nat) (a0 : (List Int)) (a1 : (List Int)) (a2 : (List Int)) : runF (q01_MulMod.C n) (q01_MulMod.A n) n Try.f103 [(.ints .u64 4 a0), (.ints .u64 4 a1), (.ints .u64 4 a2)] [] (fun v o => some (v, o)) = q01_MulMod.g (fun a0 => ((Prod.mk (.ints .u64 4 a0) []) : AV × Blks)) n a0 a1 a2 := by kernel_rfl
theorem q01_MulMod.call (hmix : Try.prog.follows .mixedOrders = true) (n : Nat) (t : ((List Int) × ((List Int) × (List Int)))) (u) (h : q01_MulMod.m n t = some u) : FnC Try.prog (fun _ => .any) 103 (q01_MulMod.shape t).1 (q01_MulMod.shape t).2 (q01_MulMod.res u).1 (q01_MulMod.res u).2 := by
  have hg : ∀ f m, (q01_MulMod.C n).Γ f = some m → CalleeS Try.prog (fun _ => .any) f m := by
    intro f m hm
    unfold q01_MulMod.C at hm
    simp only at hm
    first
    | (cases hm; done)
    | (split at hm <;> first
    | (cases hm; exact q01_Div.s hmix n)
    | (cases hm; exact q01_less.s hmix n)
    | (cases hm; exact q01_bit.s hmix n)
    | (cases hm; done))
  have hb : Try.f103.body = some (Try.f103.body.getD .skip) := by kernel_rfl
  refine runF_calls (C := q01_MulMod.C n) (A := q01_MulMod.A n) (n := n) (fn := Try.f103) hg hmix Try.func103 hb ?_ ?_ (by decide) rfl rfl (by show 3 ≤ Try.f103.ntmps; decide) ?_
  · rw [show loopsIn (Try.f103.body.getD .skip) = [q01_MulMod.b0] by kernel_rfl]
    intro b hb m hm
    simp only [List.mem_cons, List.not_mem_nil, or_false] at hb
    rcases hb with rfl
    · have e : (q01_MulMod.A n).loop (key q01_MulMod.b0) = some (.mk' q01_MulMod.l6_0.pat (q01_MulMod.l6_0.m n n) q01_MulMod.l6_0.resK) := by rw [show key q01_MulMod.b0 = 6 by kernel_rfl]; rfl
      rw [e] at hm
      cases hm
      exact LoopS.of (res := q01_MulMod.l6_0.res) (fun R u K => rfl) q01_MulMod.l6_0.pat_shape fun t => q01_MulMod.l6_0.loop n n t
  · intro a ha m hm
    cases (show none = some m from hm)
  · rw [show runF (q01_MulMod.C n) (q01_MulMod.A n) n Try.f103 (q01_MulMod.shape t).1 (q01_MulMod.shape t).2 (fun v o => some (v, o)) = _ from q01_MulMod.run n t.1 t.2.1 t.2.2]
    have e := q01_MulMod.gmap q01_MulMod.res (fun a0 => a0) n t.1 t.2.1 t.2.2
    unfold q01_MulMod.m at h
    rw [h] at e
    exact e
theorem q01_MulMod.s (hmix : Try.prog.follows .mixedOrders = true) (n : Nat) : CalleeS Try.prog (fun _ => .any) 103 (q01_MulMod.c n) :=
  CalleeS.of (res := q01_MulMod.res) (shape := q01_MulMod.shape) (fun R u K => rfl) (fun args lent t h => by
    unfold q01_MulMod.pat at h
    split at h
    · cases h; rfl
    · cases h) fun t u h => (q01_MulMod.call hmix n t u h).ok Try.func103 (by decide) (by kernel_rfl)
end
section
noncomputable section
noncomputable def word_From.C (n : Nat) : Ctx := ⟨Try.prog, (fun _ => .any), fun f => match f with
 | _ => none⟩
def word_From.live : Nat → List Nat × List Nat := fun k => match k with
 | _ => ([], [])
def word_From.jlive : Nat → List Nat × List Nat := fun k => match k with
 | _ => ([], [])
noncomputable def word_From.A (n : Nat) : Ann := ⟨Try.f82.ntmps, 0, word_From.live, [], [none], fun k => match k with
 | _ => none, word_From.jlive, lookJ []⟩
def word_From.g {α : Type} (mk0 : (List Int) → α) (n : Nat) (a0 : Int) : Option α :=
 some (mk0 [a0, 0, 0, 0])
def word_From.m (n : Nat) (t : Int) : Option (List Int) := word_From.g (fun a0 => a0) n t
def word_From.pat : List AV → Blks → Option Int
 | [(.int .u64 a0)], [] => some a0
 | _, _ => none
def word_From.shape (t : Int) : List AV × Blks := ([(.int .u64 t)], [])
def word_From.res : (List Int) → AV × Blks
 | u => (Prod.mk (.ints .u64 4 u) [])
def word_From.resK {R : Type} (u : (List Int)) (K : AV → Blks → Option R) : Option R := (fun p : AV × Blks => K p.1 p.2) (Prod.mk (.ints .u64 4 u) [])
def word_From.c (n : Nat) : Abs.Callee := .mk' [] [none] word_From.pat (word_From.m n) word_From.resK
end
end
section
noncomputable section
noncomputable def word_Exp.C (n : Nat) : Ctx := ⟨Try.prog, (fun _ => .any), fun f => match f with
 | 82 => some (word_From.c n)
 | 115 => some (word_widened.c n)
 | 118 => some (word_wide_size.c n)
 | 89 => some (word_Mul.c n)
 | _ => none⟩
def word_Exp.live : Nat → List Nat × List Nat := fun k => match k with
 | 3 => ([6, 5, 3, 2, 4], [5, 4])
 | _ => ([], [])
def word_Exp.jlive : Nat → List Nat × List Nat := fun k => match k with
 | _ => ([], [])
def word_Exp.l3_0.r {α : Type} (mk0 : (List Int) → (List Int) → α) (n : Nat) (rc : Int → (List Int) → (List Int) → (List Int) → (List Int) → Option α)  (x0 : Int) (x1 : (List Int)) (x2 : (List Int)) (x3 : (List Int)) (x4 : (List Int)) : Option α :=
  if (decide (x0 ≥ 0)) = true then
   bindO (word_Mul.m n (Prod.mk x1 x1)) fun r6 =>
    if 0 ≤ (IntKind.wrap .i64 (Int.tdiv x0 64)) then
     if (IntKind.wrap .i64 (Int.tdiv x0 64)) < 4 then
      if 0 ≤ (Int.tmod x0 64) then
       if ((ibits BinOp.and .u64 (ishr .u64 (List.getD x2 (Int.toNat (IntKind.wrap .i64 (Int.tdiv x0 64))) 0) (Int.tmod x0 64)) 1) != 0) = true then
        bindO (word_Mul.m n (Prod.mk (Prod.fst r6) x3)) fun r16 =>
         rc (IntKind.wrap .i64 (x0 - 1)) (Prod.fst r16) x2 x3 x4
       else
        rc (IntKind.wrap .i64 (x0 - 1)) (Prod.fst r6) x2 x3 x4
      else
       none
     else
      none
    else
     none
  else
   some (mk0 x1 x4)
def word_Exp.l3_0.g {α : Type} (mk0 : (List Int) → (List Int) → α) (n : Nat) : Nat → Int → (List Int) → (List Int) → (List Int) → (List Int) → Option α
 | 0, _, _, _, _, _ => none
 | m + 1, x0, x1, x2, x3, x4 => word_Exp.l3_0.r mk0 n (fun y0 y1 y2 y3 y4 => word_Exp.l3_0.g mk0 n m y0 y1 y2 y3 y4)  x0 x1 x2 x3 x4
def word_Exp.l3_0.m (n m : Nat) (t : (Int × ((List Int) × ((List Int) × ((List Int) × (List Int)))))) : Option ((List Int) × (List Int)) := word_Exp.l3_0.g (fun a0 a1 => (a0, a1)) n m t.1 t.2.1 t.2.2.1 t.2.2.2.1 t.2.2.2.2
def word_Exp.l3_0.pat : St → Option (Int × ((List Int) × ((List Int) × ((List Int) × (List Int)))))
 | (St.mk [(.int .i64 x0), (.ptr 0 []), (.ptr 1 []), (.ptr 2 []), (.ptr 3 [])] [(some (.var (.ints .u64 4 x1))), (some (.var (.ints .u64 4 x2))), (some (.var (.ints .u64 4 x3))), (some (.var (.ints .u64 4 x4)))]) => some (x0, x1, x2, x3, x4)
 | _ => none
def word_Exp.l3_0.shape (t : (Int × ((List Int) × ((List Int) × ((List Int) × (List Int)))))) : St := (St.mk [(.int .i64 t.1), (.ptr 0 []), (.ptr 1 []), (.ptr 2 []), (.ptr 3 [])] [(some (.var (.ints .u64 4 t.2.1))), (some (.var (.ints .u64 4 t.2.2.1))), (some (.var (.ints .u64 4 t.2.2.2.1))), (some (.var (.ints .u64 4 t.2.2.2.2)))])
def word_Exp.l3_0.res : ((List Int) × (List Int)) → Ex × St
 | u => (Prod.mk (.exit 0) (St.mk [(.ptr 0 []), (.ptr 1 [])] [(some (.var (.ints .u64 4 u.1))), (some (.var (.ints .u64 4 u.2)))]))
def word_Exp.l3_0.resK {R : Type} (u : ((List Int) × (List Int))) (K : Ex → St → Option R) : Option R := (fun p : Ex × St => K p.1 p.2) (Prod.mk (.exit 0) (St.mk [(.ptr 0 []), (.ptr 1 [])] [(some (.var (.ints .u64 4 u.1))), (some (.var (.ints .u64 4 u.2)))]))
noncomputable def word_Exp.A (n : Nat) : Ann := ⟨Try.f95.ntmps, 0, word_Exp.live, [], [none], fun k => match k with
 | 3 => some (.mk' word_Exp.l3_0.pat (word_Exp.l3_0.m n n) word_Exp.l3_0.resK)
 | _ => none, word_Exp.jlive, lookJ []⟩
noncomputable def word_Exp.b0 : Code := (loopsIn (Try.f95.body.getD .skip)).getD 0 .skip
def word_Exp.g {α : Type} (mk0 : (List Int) → α) (n : Nat) (a0 : (List Int)) (a1 : (List Int)) : Option α :=
 bindO (word_From.m n 1) fun r2 =>
  bindO (word_widened.m n a1) fun r4 =>
   bindO (word_wide_size.m n r4) fun r6 =>
    bindO (word_Exp.l3_0.m n n ((IntKind.wrap .i64 (r6 - 1)), r2, a1, a0, [0, 0, 0, 0])) fun r8 =>
     some (mk0 (Prod.fst r8))
def word_Exp.m (n : Nat) (t : ((List Int) × (List Int))) : Option (List Int) := word_Exp.g (fun a0 => a0) n t.1 t.2
def word_Exp.pat : List AV → Blks → Option ((List Int) × (List Int))
 | [(.ints .u64 4 a0), (.ints .u64 4 a1)], [] => some (a0, a1)
 | _, _ => none
def word_Exp.shape (t : ((List Int) × (List Int))) : List AV × Blks := ([(.ints .u64 4 t.1), (.ints .u64 4 t.2)], [])
def word_Exp.res : (List Int) → AV × Blks
 | u => (Prod.mk (.ints .u64 4 u) [])
def word_Exp.resK {R : Type} (u : (List Int)) (K : AV → Blks → Option R) : Option R := (fun p : AV × Blks => K p.1 p.2) (Prod.mk (.ints .u64 4 u) [])
def word_Exp.c (n : Nat) : Abs.Callee := .mk' [] [none, none] word_Exp.pat (word_Exp.m n) word_Exp.resK
end
end
section
theorem word_From.gmap {α β : Type} (h : β → α) (mk0 : (List Int) → β) (n : Nat) (a0 : Int) : word_From.g (fun a0 => (h (mk0 a0))) n a0 = (word_From.g mk0 n a0).map h := by
  unfold word_From.g
  exact rfl
theorem word_From.run (n : Nat) (a0 : Int) : runF (word_From.C n) (word_From.A n) n Try.f82 [(.int .u64 a0)] [] (fun v o => some (v, o)) = word_From.g (fun a0 => ((Prod.mk (.ints .u64 4 a0) []) : AV × Blks)) n a0 := by kernel_rfl
theorem word_From.call (hmix : Try.prog.follows .mixedOrders = true) (n : Nat) (t : Int) (u) (h : word_From.m n t = some u) : FnC Try.prog (fun _ => .any) 82 (word_From.shape t).1 (word_From.shape t).2 (word_From.res u).1 (word_From.res u).2 := by
  have hg : ∀ f m, (word_From.C n).Γ f = some m → CalleeS Try.prog (fun _ => .any) f m := by
    intro f m hm
    unfold word_From.C at hm
    simp only at hm
    first
    | (cases hm; done)
    | (split at hm <;> first
    | (cases hm; done))
  have hb : Try.f82.body = some (Try.f82.body.getD .skip) := by kernel_rfl
  refine runF_calls (C := word_From.C n) (A := word_From.A n) (n := n) (fn := Try.f82) hg hmix Try.func82 hb ?_ ?_ (by decide) rfl rfl (by show 1 ≤ Try.f82.ntmps; decide) ?_
  · rw [show loopsIn (Try.f82.body.getD .skip) = [] by kernel_rfl]
    intro b hb
    cases hb
  · intro a ha m hm
    cases (show none = some m from hm)
  · rw [show runF (word_From.C n) (word_From.A n) n Try.f82 (word_From.shape t).1 (word_From.shape t).2 (fun v o => some (v, o)) = _ from word_From.run n t]
    have e := word_From.gmap word_From.res (fun a0 => a0) n t
    unfold word_From.m at h
    rw [h] at e
    exact e
theorem word_From.s (hmix : Try.prog.follows .mixedOrders = true) (n : Nat) : CalleeS Try.prog (fun _ => .any) 82 (word_From.c n) :=
  CalleeS.of (res := word_From.res) (shape := word_From.shape) (fun R u K => rfl) (fun args lent t h => by
    unfold word_From.pat at h
    split at h
    · cases h; rfl
    · cases h) fun t u h => (word_From.call hmix n t u h).ok Try.func82 (by decide) (by kernel_rfl)
end
section
theorem word_Exp.l3_0.rmap {α β : Type} (h : β → α) (mk0 : (List Int) → (List Int) → β) (n : Nat) (f : Int → (List Int) → (List Int) → (List Int) → (List Int) → Option β)  (x0 : Int) (x1 : (List Int)) (x2 : (List Int)) (x3 : (List Int)) (x4 : (List Int)) : word_Exp.l3_0.r (fun a0 a1 => (h (mk0 a0 a1))) n (fun y0 y1 y2 y3 y4 => (f y0 y1 y2 y3 y4).map h) x0 x1 x2 x3 x4 = (word_Exp.l3_0.r mk0 n f x0 x1 x2 x3 x4).map h := by
  unfold word_Exp.l3_0.r
  exact (ite_map (bindO_map fun r6 => (ite_map (ite_map (ite_map (ite_map (bindO_map fun r16 => rfl) rfl) rfl) rfl) rfl)) rfl)
theorem word_Exp.l3_0.gmap {α β : Type} (h : β → α) (mk0 : (List Int) → (List Int) → β) (n : Nat) : ∀ (m : Nat) (x0 : Int) (x1 : (List Int)) (x2 : (List Int)) (x3 : (List Int)) (x4 : (List Int)), word_Exp.l3_0.g (fun a0 a1 => (h (mk0 a0 a1))) n m x0 x1 x2 x3 x4 = (word_Exp.l3_0.g mk0 n m x0 x1 x2 x3 x4).map h
  | 0, _, _, _, _, _ => rfl
  | m + 1, x0, x1, x2, x3, x4 => by
    unfold word_Exp.l3_0.g
    rw [← word_Exp.l3_0.rmap]
    congr
    · funext y0 y1 y2 y3 y4; exact word_Exp.l3_0.gmap h mk0 n m y0 y1 y2 y3 y4
theorem word_Exp.l3_0.pat_shape : ∀ st t, word_Exp.l3_0.pat st = some t → st = word_Exp.l3_0.shape t := by
  intro st t h
  unfold word_Exp.l3_0.pat at h
  split at h
  · cases h; rfl
  · cases h
theorem word_Exp.l3_0.round (n : Nat) (rc : St → Option (Ex × St)) (x0 : Int) (x1 : (List Int)) (x2 : (List Int)) (x3 : (List Int)) (x4 : (List Int)) : roundOf (word_Exp.C n) (word_Exp.A n) n word_Exp.b0 rc ((St.mk [(.int .i64 x0), (.ptr 0 []), (.ptr 1 []), (.ptr 2 []), (.ptr 3 [])] [(some (.var (.ints .u64 4 x1))), (some (.var (.ints .u64 4 x2))), (some (.var (.ints .u64 4 x3))), (some (.var (.ints .u64 4 x4)))])) = word_Exp.l3_0.r (fun a0 a1 => ((Prod.mk (.exit 0) (St.mk [(.ptr 0 []), (.ptr 1 [])] [(some (.var (.ints .u64 4 a0))), (some (.var (.ints .u64 4 a1)))])) : Ex × St)) n (fun y0 y1 y2 y3 y4 => rc ((St.mk [(.int .i64 y0), (.ptr 0 []), (.ptr 1 []), (.ptr 2 []), (.ptr 3 [])] [(some (.var (.ints .u64 4 y1))), (some (.var (.ints .u64 4 y2))), (some (.var (.ints .u64 4 y3))), (some (.var (.ints .u64 4 y4)))]))) x0 x1 x2 x3 x4 := by kernel_rfl
theorem word_Exp.l3_0.loop' (n : Nat) : ∀ (m : Nat) (t : (Int × ((List Int) × ((List Int) × ((List Int) × (List Int)))))), loopOf (roundOf (word_Exp.C n) (word_Exp.A n) n word_Exp.b0) m (word_Exp.l3_0.shape t) = word_Exp.l3_0.g (fun a0 a1 => ((Prod.mk (.exit 0) (St.mk [(.ptr 0 []), (.ptr 1 [])] [(some (.var (.ints .u64 4 a0))), (some (.var (.ints .u64 4 a1)))])) : Ex × St)) n m t.1 t.2.1 t.2.2.1 t.2.2.2.1 t.2.2.2.2 :=
  loop_of_round (shape := word_Exp.l3_0.shape) (body := roundOf (word_Exp.C n) (word_Exp.A n) n word_Exp.b0) (g := fun m t => word_Exp.l3_0.g (fun a0 a1 => ((Prod.mk (.exit 0) (St.mk [(.ptr 0 []), (.ptr 1 [])] [(some (.var (.ints .u64 4 a0))), (some (.var (.ints .u64 4 a1)))])) : Ex × St)) n m t.1 t.2.1 t.2.2.1 t.2.2.2.1 t.2.2.2.2) (fun t => rfl)
    fun m t ih => (word_Exp.l3_0.round n (loopOf (roundOf (word_Exp.C n) (word_Exp.A n) n word_Exp.b0) m) t.1 t.2.1 t.2.2.1 t.2.2.2.1 t.2.2.2.2).trans (congrFun (congrFun (congrFun (congrFun (congrFun (congrArg (word_Exp.l3_0.r (fun a0 a1 => ((Prod.mk (.exit 0) (St.mk [(.ptr 0 []), (.ptr 1 [])] [(some (.var (.ints .u64 4 a0))), (some (.var (.ints .u64 4 a1)))])) : Ex × St)) n) (funext fun y0 => funext fun y1 => funext fun y2 => funext fun y3 => funext fun y4 => ih (y0, y1, y2, y3, y4))) t.1) t.2.1) t.2.2.1) t.2.2.2.1) t.2.2.2.2)
theorem word_Exp.l3_0.loop (n m : Nat) (t : (Int × ((List Int) × ((List Int) × ((List Int) × (List Int)))))) : loopOf (roundOf (word_Exp.C n) (word_Exp.A n) n word_Exp.b0) m (word_Exp.l3_0.shape t) = (word_Exp.l3_0.m n m t).map word_Exp.l3_0.res :=
  (word_Exp.l3_0.loop' n m t).trans (word_Exp.l3_0.gmap word_Exp.l3_0.res (fun a0 a1 => (a0, a1)) n m t.1 t.2.1 t.2.2.1 t.2.2.2.1 t.2.2.2.2)
theorem word_Exp.gmap {α β : Type} (h : β → α) (mk0 : (List Int) → β) (n : Nat) (a0 : (List Int)) (a1 : (List Int)) : word_Exp.g (fun a0 => (h (mk0 a0))) n a0 a1 = (word_Exp.g mk0 n a0 a1).map h := by
  unfold word_Exp.g
  exact (bindO_map fun r2 => (bindO_map fun r4 => (bindO_map fun r6 => (bindO_map fun r8 => rfl))))
theorem word_Exp.run (n : Nat) (a0 : (List Int)) (a1 : (List Int)) : runF (word_Exp.C n) (word_Exp.A n) n Try.f95 [(.ints .u64 4 a0), (.ints .u64 4 a1)] [] (fun v o => some (v, o)) = word_Exp.g (fun a0 => ((Prod.mk (.ints .u64 4 a0) []) : AV × Blks)) n a0 a1 := by kernel_rfl
theorem word_Exp.call (hmix : Try.prog.follows .mixedOrders = true) (n : Nat) (t : ((List Int) × (List Int))) (u) (h : word_Exp.m n t = some u) : FnC Try.prog (fun _ => .any) 95 (word_Exp.shape t).1 (word_Exp.shape t).2 (word_Exp.res u).1 (word_Exp.res u).2 := by
  have hg : ∀ f m, (word_Exp.C n).Γ f = some m → CalleeS Try.prog (fun _ => .any) f m := by
    intro f m hm
    unfold word_Exp.C at hm
    simp only at hm
    first
    | (cases hm; done)
    | (split at hm <;> first
    | (cases hm; exact word_From.s hmix n)
    | (cases hm; exact word_widened.s hmix n)
    | (cases hm; exact word_wide_size.s hmix n)
    | (cases hm; exact word_Mul.s hmix n)
    | (cases hm; done))
  have hb : Try.f95.body = some (Try.f95.body.getD .skip) := by kernel_rfl
  refine runF_calls (C := word_Exp.C n) (A := word_Exp.A n) (n := n) (fn := Try.f95) hg hmix Try.func95 hb ?_ ?_ (by decide) rfl rfl (by show 2 ≤ Try.f95.ntmps; decide) ?_
  · rw [show loopsIn (Try.f95.body.getD .skip) = [word_Exp.b0] by kernel_rfl]
    intro b hb m hm
    simp only [List.mem_cons, List.not_mem_nil, or_false] at hb
    rcases hb with rfl
    · have e : (word_Exp.A n).loop (key word_Exp.b0) = some (.mk' word_Exp.l3_0.pat (word_Exp.l3_0.m n n) word_Exp.l3_0.resK) := by rw [show key word_Exp.b0 = 3 by kernel_rfl]; rfl
      rw [e] at hm
      cases hm
      exact LoopS.of (res := word_Exp.l3_0.res) (fun R u K => rfl) word_Exp.l3_0.pat_shape fun t => word_Exp.l3_0.loop n n t
  · intro a ha m hm
    cases (show none = some m from hm)
  · rw [show runF (word_Exp.C n) (word_Exp.A n) n Try.f95 (word_Exp.shape t).1 (word_Exp.shape t).2 (fun v o => some (v, o)) = _ from word_Exp.run n t.1 t.2]
    have e := word_Exp.gmap word_Exp.res (fun a0 => a0) n t.1 t.2
    unfold word_Exp.m at h
    rw [h] at e
    exact e
theorem word_Exp.s (hmix : Try.prog.follows .mixedOrders = true) (n : Nat) : CalleeS Try.prog (fun _ => .any) 95 (word_Exp.c n) :=
  CalleeS.of (res := word_Exp.res) (shape := word_Exp.shape) (fun R u K => rfl) (fun args lent t h => by
    unfold word_Exp.pat at h
    split at h
    · cases h; rfl
    · cases h) fun t u h => (word_Exp.call hmix n t u h).ok Try.func95 (by decide) (by kernel_rfl)
end
section
noncomputable section
noncomputable def q01_highest.C (n : Nat) : Ctx := ⟨Try.prog, (fun _ => .any), fun f => match f with
 | 122 => some (q01_bit.c n)
 | _ => none⟩
def q01_highest.live : Nat → List Nat × List Nat := fun k => match k with
 | 2 => ([3, 1], [2])
 | _ => ([], [])
def q01_highest.jlive : Nat → List Nat × List Nat := fun k => match k with
 | _ => ([], [])
def q01_highest.l2_0.r {α : Type} (mk0 : Int → α) (mk1 : α) (n : Nat) (rc : Int → (List Int) → Option α)  (x0 : Int) (x1 : (List Int)) : Option α :=
  if (decide (x0 ≥ 0)) = true then
   bindO (q01_bit.m n (Prod.mk x1 x0)) fun r6 =>
    if r6 = true then
     some (mk0 x0)
    else
     rc (IntKind.wrap .i64 (x0 - 1)) x1
  else
   some (mk1)
def q01_highest.l2_0.g {α : Type} (mk0 : Int → α) (mk1 : α) (n : Nat) : Nat → Int → (List Int) → Option α
 | 0, _, _ => none
 | m + 1, x0, x1 => q01_highest.l2_0.r mk0 mk1 n (fun y0 y1 => q01_highest.l2_0.g mk0 mk1 n m y0 y1)  x0 x1
def q01_highest.l2_0.m (n m : Nat) (t : (Int × (List Int))) : Option (Int ⊕ Unit) := q01_highest.l2_0.g (fun a0 => (.inl a0)) (.inr ()) n m t.1 t.2
def q01_highest.l2_0.pat : St → Option (Int × (List Int))
 | (St.mk [(.int .i64 x0), (.ptr 0 [])] [(some (.var (.ints .u64 4 x1)))]) => some (x0, x1)
 | _ => none
def q01_highest.l2_0.shape (t : (Int × (List Int))) : St := (St.mk [(.int .i64 t.1), (.ptr 0 [])] [(some (.var (.ints .u64 4 t.2)))])
def q01_highest.l2_0.res : (Int ⊕ Unit) → Ex × St
 | (.inl u) => (Prod.mk .ret (St.mk [(.int .i64 u)] []))
 | (.inr u) => (Prod.mk (.exit 0) (St.mk [.any] []))
def q01_highest.l2_0.resK {R : Type} (u : (Int ⊕ Unit)) (K : Ex → St → Option R) : Option R := match u with
 | (.inl u) => (fun p : Ex × St => K p.1 p.2) (Prod.mk .ret (St.mk [(.int .i64 u)] []))
 | (.inr u) => (fun p : Ex × St => K p.1 p.2) (Prod.mk (.exit 0) (St.mk [.any] []))
noncomputable def q01_highest.A (n : Nat) : Ann := ⟨Try.f125.ntmps, 0, q01_highest.live, [], [none], fun k => match k with
 | 2 => some (.mk' q01_highest.l2_0.pat (q01_highest.l2_0.m n n) q01_highest.l2_0.resK)
 | _ => none, q01_highest.jlive, lookJ []⟩
noncomputable def q01_highest.b0 : Code := (loopsIn (Try.f125.body.getD .skip)).getD 0 .skip
def q01_highest.g {α : Type} (mk0 : Int → α) (n : Nat) (a0 : (List Int)) : Option α :=
 bindO (q01_highest.l2_0.m n n (255, a0)) fun r2 => match r2 with
  | (.inl r2) =>
   some (mk0 r2)
  | (.inr r2) =>
   some (mk0 (-1))
def q01_highest.m (n : Nat) (t : (List Int)) : Option Int := q01_highest.g (fun a0 => a0) n t
def q01_highest.pat : List AV → Blks → Option (List Int)
 | [(.ints .u64 4 a0)], [] => some a0
 | _, _ => none
def q01_highest.shape (t : (List Int)) : List AV × Blks := ([(.ints .u64 4 t)], [])
def q01_highest.res : Int → AV × Blks
 | u => (Prod.mk (.int .i64 u) [])
def q01_highest.resK {R : Type} (u : Int) (K : AV → Blks → Option R) : Option R := (fun p : AV × Blks => K p.1 p.2) (Prod.mk (.int .i64 u) [])
def q01_highest.c (n : Nat) : Abs.Callee := .mk' [] [none] q01_highest.pat (q01_highest.m n) q01_highest.resK
end
end
section
noncomputable section
noncomputable def q01_Exp.C (n : Nat) : Ctx := ⟨Try.prog, (fun _ => .any), fun f => match f with
 | 106 => some (q01_From.c n)
 | 125 => some (q01_highest.c n)
 | 98 => some (q01_Mul.c n)
 | 122 => some (q01_bit.c n)
 | _ => none⟩
def q01_Exp.live : Nat → List Nat × List Nat := fun k => match k with
 | 3 => ([6, 5, 3, 2, 4], [5, 4])
 | _ => ([], [])
def q01_Exp.jlive : Nat → List Nat × List Nat := fun k => match k with
 | _ => ([], [])
def q01_Exp.l3_0.r {α : Type} (mk0 : (List Int) → (List Int) → α) (n : Nat) (rc : Int → (List Int) → (List Int) → (List Int) → (List Int) → Option α)  (x0 : Int) (x1 : (List Int)) (x2 : (List Int)) (x3 : (List Int)) (x4 : (List Int)) : Option α :=
  if (decide (x0 ≥ 0)) = true then
   bindO (q01_Mul.m n (Prod.mk x1 x1)) fun r6 =>
    bindO (q01_bit.m n (Prod.mk x2 x0)) fun r8 =>
     if r8 = true then
      bindO (q01_Mul.m n (Prod.mk (Prod.fst r6) x3)) fun r12 =>
       rc (IntKind.wrap .i64 (x0 - 1)) (Prod.fst r12) x2 x3 x4
     else
      rc (IntKind.wrap .i64 (x0 - 1)) (Prod.fst r6) x2 x3 x4
  else
   some (mk0 x1 x4)
def q01_Exp.l3_0.g {α : Type} (mk0 : (List Int) → (List Int) → α) (n : Nat) : Nat → Int → (List Int) → (List Int) → (List Int) → (List Int) → Option α
 | 0, _, _, _, _, _ => none
 | m + 1, x0, x1, x2, x3, x4 => q01_Exp.l3_0.r mk0 n (fun y0 y1 y2 y3 y4 => q01_Exp.l3_0.g mk0 n m y0 y1 y2 y3 y4)  x0 x1 x2 x3 x4
def q01_Exp.l3_0.m (n m : Nat) (t : (Int × ((List Int) × ((List Int) × ((List Int) × (List Int)))))) : Option ((List Int) × (List Int)) := q01_Exp.l3_0.g (fun a0 a1 => (a0, a1)) n m t.1 t.2.1 t.2.2.1 t.2.2.2.1 t.2.2.2.2
def q01_Exp.l3_0.pat : St → Option (Int × ((List Int) × ((List Int) × ((List Int) × (List Int)))))
 | (St.mk [(.int .i64 x0), (.ptr 0 []), (.ptr 1 []), (.ptr 2 []), (.ptr 3 [])] [(some (.var (.ints .u64 4 x1))), (some (.var (.ints .u64 4 x2))), (some (.var (.ints .u64 4 x3))), (some (.var (.ints .u64 4 x4)))]) => some (x0, x1, x2, x3, x4)
 | _ => none
def q01_Exp.l3_0.shape (t : (Int × ((List Int) × ((List Int) × ((List Int) × (List Int)))))) : St := (St.mk [(.int .i64 t.1), (.ptr 0 []), (.ptr 1 []), (.ptr 2 []), (.ptr 3 [])] [(some (.var (.ints .u64 4 t.2.1))), (some (.var (.ints .u64 4 t.2.2.1))), (some (.var (.ints .u64 4 t.2.2.2.1))), (some (.var (.ints .u64 4 t.2.2.2.2)))])
def q01_Exp.l3_0.res : ((List Int) × (List Int)) → Ex × St
 | u => (Prod.mk (.exit 0) (St.mk [(.ptr 0 []), (.ptr 1 [])] [(some (.var (.ints .u64 4 u.1))), (some (.var (.ints .u64 4 u.2)))]))
def q01_Exp.l3_0.resK {R : Type} (u : ((List Int) × (List Int))) (K : Ex → St → Option R) : Option R := (fun p : Ex × St => K p.1 p.2) (Prod.mk (.exit 0) (St.mk [(.ptr 0 []), (.ptr 1 [])] [(some (.var (.ints .u64 4 u.1))), (some (.var (.ints .u64 4 u.2)))]))
noncomputable def q01_Exp.A (n : Nat) : Ann := ⟨Try.f104.ntmps, 0, q01_Exp.live, [], [none], fun k => match k with
 | 3 => some (.mk' q01_Exp.l3_0.pat (q01_Exp.l3_0.m n n) q01_Exp.l3_0.resK)
 | _ => none, q01_Exp.jlive, lookJ []⟩
noncomputable def q01_Exp.b0 : Code := (loopsIn (Try.f104.body.getD .skip)).getD 0 .skip
def q01_Exp.g {α : Type} (mk0 : (List Int) → α) (n : Nat) (a0 : (List Int)) (a1 : (List Int)) : Option α :=
 bindO (q01_From.m n 1) fun r2 =>
  bindO (q01_highest.m n a1) fun r4 =>
   bindO (q01_Exp.l3_0.m n n (r4, r2, a1, a0, [0, 0, 0, 0])) fun r6 =>
    some (mk0 (Prod.fst r6))
def q01_Exp.m (n : Nat) (t : ((List Int) × (List Int))) : Option (List Int) := q01_Exp.g (fun a0 => a0) n t.1 t.2
def q01_Exp.pat : List AV → Blks → Option ((List Int) × (List Int))
 | [(.ints .u64 4 a0), (.ints .u64 4 a1)], [] => some (a0, a1)
 | _, _ => none
def q01_Exp.shape (t : ((List Int) × (List Int))) : List AV × Blks := ([(.ints .u64 4 t.1), (.ints .u64 4 t.2)], [])
def q01_Exp.res : (List Int) → AV × Blks
 | u => (Prod.mk (.ints .u64 4 u) [])
def q01_Exp.resK {R : Type} (u : (List Int)) (K : AV → Blks → Option R) : Option R := (fun p : AV × Blks => K p.1 p.2) (Prod.mk (.ints .u64 4 u) [])
def q01_Exp.c (n : Nat) : Abs.Callee := .mk' [] [none, none] q01_Exp.pat (q01_Exp.m n) q01_Exp.resK
end
end
section
theorem q01_highest.l2_0.rmap {α β : Type} (h : β → α) (mk0 : Int → β) (mk1 : β) (n : Nat) (f : Int → (List Int) → Option β)  (x0 : Int) (x1 : (List Int)) : q01_highest.l2_0.r (fun a0 => (h (mk0 a0))) (h mk1) n (fun y0 y1 => (f y0 y1).map h) x0 x1 = (q01_highest.l2_0.r mk0 mk1 n f x0 x1).map h := by
  unfold q01_highest.l2_0.r
  exact (ite_map (bindO_map fun r6 => (ite_map rfl rfl)) rfl)
theorem q01_highest.l2_0.gmap {α β : Type} (h : β → α) (mk0 : Int → β) (mk1 : β) (n : Nat) : ∀ (m : Nat) (x0 : Int) (x1 : (List Int)), q01_highest.l2_0.g (fun a0 => (h (mk0 a0))) (h mk1) n m x0 x1 = (q01_highest.l2_0.g mk0 mk1 n m x0 x1).map h
  | 0, _, _ => rfl
  | m + 1, x0, x1 => by
    unfold q01_highest.l2_0.g
    rw [← q01_highest.l2_0.rmap]
    congr
    · funext y0 y1; exact q01_highest.l2_0.gmap h mk0 mk1 n m y0 y1
theorem q01_highest.l2_0.pat_shape : ∀ st t, q01_highest.l2_0.pat st = some t → st = q01_highest.l2_0.shape t := by
  intro st t h
  unfold q01_highest.l2_0.pat at h
  split at h
  · cases h; rfl
  · cases h
theorem q01_highest.l2_0.round (n : Nat) (rc : St → Option (Ex × St)) (x0 : Int) (x1 : (List Int)) : roundOf (q01_highest.C n) (q01_highest.A n) n q01_highest.b0 rc ((St.mk [(.int .i64 x0), (.ptr 0 [])] [(some (.var (.ints .u64 4 x1)))])) = q01_highest.l2_0.r (fun a0 => ((Prod.mk .ret (St.mk [(.int .i64 a0)] [])) : Ex × St)) ((Prod.mk (.exit 0) (St.mk [.any] [])) : Ex × St) n (fun y0 y1 => rc ((St.mk [(.int .i64 y0), (.ptr 0 [])] [(some (.var (.ints .u64 4 y1)))]))) x0 x1 := by kernel_rfl
theorem q01_highest.l2_0.loop' (n : Nat) : ∀ (m : Nat) (t : (Int × (List Int))), loopOf (roundOf (q01_highest.C n) (q01_highest.A n) n q01_highest.b0) m (q01_highest.l2_0.shape t) = q01_highest.l2_0.g (fun a0 => ((Prod.mk .ret (St.mk [(.int .i64 a0)] [])) : Ex × St)) ((Prod.mk (.exit 0) (St.mk [.any] [])) : Ex × St) n m t.1 t.2 :=
  loop_of_round (shape := q01_highest.l2_0.shape) (body := roundOf (q01_highest.C n) (q01_highest.A n) n q01_highest.b0) (g := fun m t => q01_highest.l2_0.g (fun a0 => ((Prod.mk .ret (St.mk [(.int .i64 a0)] [])) : Ex × St)) ((Prod.mk (.exit 0) (St.mk [.any] [])) : Ex × St) n m t.1 t.2) (fun t => rfl)
    fun m t ih => (q01_highest.l2_0.round n (loopOf (roundOf (q01_highest.C n) (q01_highest.A n) n q01_highest.b0) m) t.1 t.2).trans (congrFun (congrFun (congrArg (q01_highest.l2_0.r (fun a0 => ((Prod.mk .ret (St.mk [(.int .i64 a0)] [])) : Ex × St)) ((Prod.mk (.exit 0) (St.mk [.any] [])) : Ex × St) n) (funext fun y0 => funext fun y1 => ih (y0, y1))) t.1) t.2)
theorem q01_highest.l2_0.loop (n m : Nat) (t : (Int × (List Int))) : loopOf (roundOf (q01_highest.C n) (q01_highest.A n) n q01_highest.b0) m (q01_highest.l2_0.shape t) = (q01_highest.l2_0.m n m t).map q01_highest.l2_0.res :=
  (q01_highest.l2_0.loop' n m t).trans (q01_highest.l2_0.gmap q01_highest.l2_0.res (fun a0 => (.inl a0)) (.inr ()) n m t.1 t.2)
theorem q01_highest.gmap {α β : Type} (h : β → α) (mk0 : Int → β) (n : Nat) (a0 : (List Int)) : q01_highest.g (fun a0 => (h (mk0 a0))) n a0 = (q01_highest.g mk0 n a0).map h := by
  unfold q01_highest.g
  exact (bindO_map fun r2 => match r2 with | (.inl r2) => rfl | (.inr r2) => rfl)
theorem q01_highest.run (n : Nat) (a0 : (List Int)) : runF (q01_highest.C n) (q01_highest.A n) n Try.f125 [(.ints .u64 4 a0)] [] (fun v o => some (v, o)) = q01_highest.g (fun a0 => ((Prod.mk (.int .i64 a0) []) : AV × Blks)) n a0 := by kernel_rfl
theorem q01_highest.call (hmix : Try.prog.follows .mixedOrders = true) (n : Nat) (t : (List Int)) (u) (h : q01_highest.m n t = some u) : FnC Try.prog (fun _ => .any) 125 (q01_highest.shape t).1 (q01_highest.shape t).2 (q01_highest.res u).1 (q01_highest.res u).2 := by
  have hg : ∀ f m, (q01_highest.C n).Γ f = some m → CalleeS Try.prog (fun _ => .any) f m := by
    intro f m hm
    unfold q01_highest.C at hm
    simp only at hm
    first
    | (cases hm; done)
    | (split at hm <;> first
    | (cases hm; exact q01_bit.s hmix n)
    | (cases hm; done))
  have hb : Try.f125.body = some (Try.f125.body.getD .skip) := by kernel_rfl
  refine runF_calls (C := q01_highest.C n) (A := q01_highest.A n) (n := n) (fn := Try.f125) hg hmix Try.func125 hb ?_ ?_ (by decide) rfl rfl (by show 1 ≤ Try.f125.ntmps; decide) ?_
  · rw [show loopsIn (Try.f125.body.getD .skip) = [q01_highest.b0] by kernel_rfl]
    intro b hb m hm
    simp only [List.mem_cons, List.not_mem_nil, or_false] at hb
    rcases hb with rfl
    · have e : (q01_highest.A n).loop (key q01_highest.b0) = some (.mk' q01_highest.l2_0.pat (q01_highest.l2_0.m n n) q01_highest.l2_0.resK) := by rw [show key q01_highest.b0 = 2 by kernel_rfl]; rfl
      rw [e] at hm
      cases hm
      exact LoopS.of (res := q01_highest.l2_0.res) (fun R u K => by rcases u with u | u <;> rfl) q01_highest.l2_0.pat_shape fun t => q01_highest.l2_0.loop n n t
  · intro a ha m hm
    cases (show none = some m from hm)
  · rw [show runF (q01_highest.C n) (q01_highest.A n) n Try.f125 (q01_highest.shape t).1 (q01_highest.shape t).2 (fun v o => some (v, o)) = _ from q01_highest.run n t]
    have e := q01_highest.gmap q01_highest.res (fun a0 => a0) n t
    unfold q01_highest.m at h
    rw [h] at e
    exact e
theorem q01_highest.s (hmix : Try.prog.follows .mixedOrders = true) (n : Nat) : CalleeS Try.prog (fun _ => .any) 125 (q01_highest.c n) :=
  CalleeS.of (res := q01_highest.res) (shape := q01_highest.shape) (fun R u K => rfl) (fun args lent t h => by
    unfold q01_highest.pat at h
    split at h
    · cases h; rfl
    · cases h) fun t u h => (q01_highest.call hmix n t u h).ok Try.func125 (by decide) (by kernel_rfl)
end
section
theorem q01_Exp.l3_0.rmap {α β : Type} (h : β → α) (mk0 : (List Int) → (List Int) → β) (n : Nat) (f : Int → (List Int) → (List Int) → (List Int) → (List Int) → Option β)  (x0 : Int) (x1 : (List Int)) (x2 : (List Int)) (x3 : (List Int)) (x4 : (List Int)) : q01_Exp.l3_0.r (fun a0 a1 => (h (mk0 a0 a1))) n (fun y0 y1 y2 y3 y4 => (f y0 y1 y2 y3 y4).map h) x0 x1 x2 x3 x4 = (q01_Exp.l3_0.r mk0 n f x0 x1 x2 x3 x4).map h := by
  unfold q01_Exp.l3_0.r
  exact (ite_map (bindO_map fun r6 => (bindO_map fun r8 => (ite_map (bindO_map fun r12 => rfl) rfl))) rfl)
theorem q01_Exp.l3_0.gmap {α β : Type} (h : β → α) (mk0 : (List Int) → (List Int) → β) (n : Nat) : ∀ (m : Nat) (x0 : Int) (x1 : (List Int)) (x2 : (List Int)) (x3 : (List Int)) (x4 : (List Int)), q01_Exp.l3_0.g (fun a0 a1 => (h (mk0 a0 a1))) n m x0 x1 x2 x3 x4 = (q01_Exp.l3_0.g mk0 n m x0 x1 x2 x3 x4).map h
  | 0, _, _, _, _, _ => rfl
  | m + 1, x0, x1, x2, x3, x4 => by
    unfold q01_Exp.l3_0.g
    rw [← q01_Exp.l3_0.rmap]
    congr
    · funext y0 y1 y2 y3 y4; exact q01_Exp.l3_0.gmap h mk0 n m y0 y1 y2 y3 y4
theorem q01_Exp.l3_0.pat_shape : ∀ st t, q01_Exp.l3_0.pat st = some t → st = q01_Exp.l3_0.shape t := by
  intro st t h
  unfold q01_Exp.l3_0.pat at h
  split at h
  · cases h; rfl
  · cases h
theorem q01_Exp.l3_0.round (n : Nat) (rc : St → Option (Ex × St)) (x0 : Int) (x1 : (List Int)) (x2 : (List Int)) (x3 : (List Int)) (x4 : (List Int)) : roundOf (q01_Exp.C n) (q01_Exp.A n) n q01_Exp.b0 rc ((St.mk [(.int .i64 x0), (.ptr 0 []), (.ptr 1 []), (.ptr 2 []), (.ptr 3 [])] [(some (.var (.ints .u64 4 x1))), (some (.var (.ints .u64 4 x2))), (some (.var (.ints .u64 4 x3))), (some (.var (.ints .u64 4 x4)))])) = q01_Exp.l3_0.r (fun a0 a1 => ((Prod.mk (.exit 0) (St.mk [(.ptr 0 []), (.ptr 1 [])] [(some (.var (.ints .u64 4 a0))), (some (.var (.ints .u64 4 a1)))])) : Ex × St)) n (fun y0 y1 y2 y3 y4 => rc ((St.mk [(.int .i64 y0), (.ptr 0 []), (.ptr 1 []), (.ptr 2 []), (.ptr 3 [])] [(some (.var (.ints .u64 4 y1))), (some (.var (.ints .u64 4 y2))), (some (.var (.ints .u64 4 y3))), (some (.var (.ints .u64 4 y4)))]))) x0 x1 x2 x3 x4 := by kernel_rfl
theorem q01_Exp.l3_0.loop' (n : Nat) : ∀ (m : Nat) (t : (Int × ((List Int) × ((List Int) × ((List Int) × (List Int)))))), loopOf (roundOf (q01_Exp.C n) (q01_Exp.A n) n q01_Exp.b0) m (q01_Exp.l3_0.shape t) = q01_Exp.l3_0.g (fun a0 a1 => ((Prod.mk (.exit 0) (St.mk [(.ptr 0 []), (.ptr 1 [])] [(some (.var (.ints .u64 4 a0))), (some (.var (.ints .u64 4 a1)))])) : Ex × St)) n m t.1 t.2.1 t.2.2.1 t.2.2.2.1 t.2.2.2.2 :=
  loop_of_round (shape := q01_Exp.l3_0.shape) (body := roundOf (q01_Exp.C n) (q01_Exp.A n) n q01_Exp.b0) (g := fun m t => q01_Exp.l3_0.g (fun a0 a1 => ((Prod.mk (.exit 0) (St.mk [(.ptr 0 []), (.ptr 1 [])] [(some (.var (.ints .u64 4 a0))), (some (.var (.ints .u64 4 a1)))])) : Ex × St)) n m t.1 t.2.1 t.2.2.1 t.2.2.2.1 t.2.2.2.2) (fun t => rfl)
    fun m t ih => (q01_Exp.l3_0.round n (loopOf (roundOf (q01_Exp.C n) (q01_Exp.A n) n q01_Exp.b0) m) t.1 t.2.1 t.2.2.1 t.2.2.2.1 t.2.2.2.2).trans (congrFun (congrFun (congrFun (congrFun (congrFun (congrArg (q01_Exp.l3_0.r (fun a0 a1 => ((Prod.mk (.exit 0) (St.mk [(.ptr 0 []), (.ptr 1 [])] [(some (.var (.ints .u64 4 a0))), (some (.var (.ints .u64 4 a1)))])) : Ex × St)) n) (funext fun y0 => funext fun y1 => funext fun y2 => funext fun y3 => funext fun y4 => ih (y0, y1, y2, y3, y4))) t.1) t.2.1) t.2.2.1) t.2.2.2.1) t.2.2.2.2)
theorem q01_Exp.l3_0.loop (n m : Nat) (t : (Int × ((List Int) × ((List Int) × ((List Int) × (List Int)))))) : loopOf (roundOf (q01_Exp.C n) (q01_Exp.A n) n q01_Exp.b0) m (q01_Exp.l3_0.shape t) = (q01_Exp.l3_0.m n m t).map q01_Exp.l3_0.res :=
  (q01_Exp.l3_0.loop' n m t).trans (q01_Exp.l3_0.gmap q01_Exp.l3_0.res (fun a0 a1 => (a0, a1)) n m t.1 t.2.1 t.2.2.1 t.2.2.2.1 t.2.2.2.2)
theorem q01_Exp.gmap {α β : Type} (h : β → α) (mk0 : (List Int) → β) (n : Nat) (a0 : (List Int)) (a1 : (List Int)) : q01_Exp.g (fun a0 => (h (mk0 a0))) n a0 a1 = (q01_Exp.g mk0 n a0 a1).map h := by
  unfold q01_Exp.g
  exact (bindO_map fun r2 => (bindO_map fun r4 => (bindO_map fun r6 => rfl)))
theorem q01_Exp.run (n : Nat) (a0 : (List Int)) (a1 : (List Int)) : runF (q01_Exp.C n) (q01_Exp.A n) n Try.f104 [(.ints .u64 4 a0), (.ints .u64 4 a1)] [] (fun v o => some (v, o)) = q01_Exp.g (fun a0 => ((Prod.mk (.ints .u64 4 a0) []) : AV × Blks)) n a0 a1 := by kernel_rfl
theorem q01_Exp.call (hmix : Try.prog.follows .mixedOrders = true) (n : Nat) (t : ((List Int) × (List Int))) (u) (h : q01_Exp.m n t = some u) : FnC Try.prog (fun _ => .any) 104 (q01_Exp.shape t).1 (q01_Exp.shape t).2 (q01_Exp.res u).1 (q01_Exp.res u).2 := by
  have hg : ∀ f m, (q01_Exp.C n).Γ f = some m → CalleeS Try.prog (fun _ => .any) f m := by
    intro f m hm
    unfold q01_Exp.C at hm
    simp only at hm
    first
    | (cases hm; done)
    | (split at hm <;> first
    | (cases hm; exact q01_From.s hmix n)
    | (cases hm; exact q01_highest.s hmix n)
    | (cases hm; exact q01_Mul.s hmix n)
    | (cases hm; exact q01_bit.s hmix n)
    | (cases hm; done))
  have hb : Try.f104.body = some (Try.f104.body.getD .skip) := by kernel_rfl
  refine runF_calls (C := q01_Exp.C n) (A := q01_Exp.A n) (n := n) (fn := Try.f104) hg hmix Try.func104 hb ?_ ?_ (by decide) rfl rfl (by show 2 ≤ Try.f104.ntmps; decide) ?_
  · rw [show loopsIn (Try.f104.body.getD .skip) = [q01_Exp.b0] by kernel_rfl]
    intro b hb m hm
    simp only [List.mem_cons, List.not_mem_nil, or_false] at hb
    rcases hb with rfl
    · have e : (q01_Exp.A n).loop (key q01_Exp.b0) = some (.mk' q01_Exp.l3_0.pat (q01_Exp.l3_0.m n n) q01_Exp.l3_0.resK) := by rw [show key q01_Exp.b0 = 3 by kernel_rfl]; rfl
      rw [e] at hm
      cases hm
      exact LoopS.of (res := q01_Exp.l3_0.res) (fun R u K => rfl) q01_Exp.l3_0.pat_shape fun t => q01_Exp.l3_0.loop n n t
  · intro a ha m hm
    cases (show none = some m from hm)
  · rw [show runF (q01_Exp.C n) (q01_Exp.A n) n Try.f104 (q01_Exp.shape t).1 (q01_Exp.shape t).2 (fun v o => some (v, o)) = _ from q01_Exp.run n t.1 t.2]
    have e := q01_Exp.gmap q01_Exp.res (fun a0 => a0) n t.1 t.2
    unfold q01_Exp.m at h
    rw [h] at e
    exact e
theorem q01_Exp.s (hmix : Try.prog.follows .mixedOrders = true) (n : Nat) : CalleeS Try.prog (fun _ => .any) 104 (q01_Exp.c n) :=
  CalleeS.of (res := q01_Exp.res) (shape := q01_Exp.shape) (fun R u K => rfl) (fun args lent t h => by
    unfold q01_Exp.pat at h
    split at h
    · cases h; rfl
    · cases h) fun t u h => (q01_Exp.call hmix n t u h).ok Try.func104 (by decide) (by kernel_rfl)
end
section
noncomputable section
noncomputable def q01_Small.C (n : Nat) : Ctx := ⟨Try.prog, (fun _ => .any), fun f => match f with
 | _ => none⟩
def q01_Small.live : Nat → List Nat × List Nat := fun k => match k with
 | _ => ([], [])
def q01_Small.jlive : Nat → List Nat × List Nat := fun k => match k with
 | _ => ([], [])
noncomputable def q01_Small.A (n : Nat) : Ann := ⟨Try.f55.ntmps, 0, q01_Small.live, [], [none, none], fun k => match k with
 | _ => none, q01_Small.jlive, lookJ []⟩
def q01_Small.g {α : Type} (mk0 : Int → Bool → α) (n : Nat) (a0 : (List Int)) : Option α :=
 if ((List.getD a0 1 0) != 0) = true then
  some (mk0 0 false)
 else
  if ((List.getD a0 2 0) != 0) = true then
   some (mk0 0 false)
  else
   if ((List.getD a0 3 0) != 0) = true then
    some (mk0 0 false)
   else
    some (mk0 (List.getD a0 0 0) true)
def q01_Small.m (n : Nat) (t : (List Int)) : Option (Int × Bool) := q01_Small.g (fun a0 a1 => (a0, a1)) n t
def q01_Small.pat : List AV → Blks → Option (List Int)
 | [(.ints .u64 4 a0)], [] => some a0
 | _, _ => none
def q01_Small.shape (t : (List Int)) : List AV × Blks := ([(.ints .u64 4 t)], [])
def q01_Small.res : (Int × Bool) → AV × Blks
 | u => (Prod.mk (.tup [(.int .u64 u.1), (.bool u.2)]) [])
def q01_Small.resK {R : Type} (u : (Int × Bool)) (K : AV → Blks → Option R) : Option R := (fun p : AV × Blks => K p.1 p.2) (Prod.mk (.tup [(.int .u64 u.1), (.bool u.2)]) [])
def q01_Small.c (n : Nat) : Abs.Callee := .mk' [] [none] q01_Small.pat (q01_Small.m n) q01_Small.resK
end
end
section
noncomputable section
noncomputable def q01_far.C (n : Nat) : Ctx := ⟨Try.prog, (fun _ => .any), fun f => match f with
 | 55 => some (q01_Small.c n)
 | _ => none⟩
def q01_far.live : Nat → List Nat × List Nat := fun k => match k with
 | _ => ([], [])
def q01_far.jlive : Nat → List Nat × List Nat := fun k => match k with
 | _ => ([], [])
noncomputable def q01_far.A (n : Nat) : Ann := ⟨Try.f109.ntmps, 0, q01_far.live, [], [none], fun k => match k with
 | _ => none, q01_far.jlive, lookJ []⟩
def q01_far.g {α : Type} (mk0 : Int → α) (n : Nat) (a0 : (List Int)) : Option α :=
 bindO (q01_Small.m n a0) fun r2 =>
  if (!(Prod.snd r2)) = true then
   some (mk0 256)
  else
   if (decide ((Prod.fst r2) > 256)) = true then
    some (mk0 256)
   else
    some (mk0 (IntKind.wrap .i64 (Prod.fst r2)))
def q01_far.m (n : Nat) (t : (List Int)) : Option Int := q01_far.g (fun a0 => a0) n t
def q01_far.pat : List AV → Blks → Option (List Int)
 | [(.ints .u64 4 a0)], [] => some a0
 | _, _ => none
def q01_far.shape (t : (List Int)) : List AV × Blks := ([(.ints .u64 4 t)], [])
def q01_far.res : Int → AV × Blks
 | u => (Prod.mk (.int .i64 u) [])
def q01_far.resK {R : Type} (u : Int) (K : AV → Blks → Option R) : Option R := (fun p : AV × Blks => K p.1 p.2) (Prod.mk (.int .i64 u) [])
def q01_far.c (n : Nat) : Abs.Callee := .mk' [] [none] q01_far.pat (q01_far.m n) q01_far.resK
end
end
section
noncomputable section
noncomputable def q01_with.C (n : Nat) : Ctx := ⟨Try.prog, (fun _ => .any), fun f => match f with
 | _ => none⟩
def q01_with.live : Nat → List Nat × List Nat := fun k => match k with
 | _ => ([], [])
def q01_with.jlive : Nat → List Nat × List Nat := fun k => match k with
 | _ => ([], [])
noncomputable def q01_with.A (n : Nat) : Ann := ⟨Try.f126.ntmps, 0, q01_with.live, [], [none], fun k => match k with
 | _ => none, q01_with.jlive, lookJ []⟩
def q01_with.g {α : Type} (mk0 : (List Int) → α) (n : Nat) (a0 : (List Int)) (a1 : Int) (a2 : Bool) : Option α :=
 if 0 ≤ (IntKind.wrap .u64 (Int.tmod a1 64)) then
  if a2 = true then
   if 0 ≤ (IntKind.wrap .i64 (Int.tdiv a1 64)) then
    if (IntKind.wrap .i64 (Int.tdiv a1 64)) < 4 then
     if 0 ≤ (IntKind.wrap .i64 (Int.tdiv a1 64)) then
      if (IntKind.wrap .i64 (Int.tdiv a1 64)) < 4 then
       some (mk0 (List.set a0 (Int.toNat (IntKind.wrap .i64 (Int.tdiv a1 64))) (ibits BinOp.or .u64 (List.getD a0 (Int.toNat (IntKind.wrap .i64 (Int.tdiv a1 64))) 0) (ishl .u64 1 (IntKind.wrap .u64 (Int.tmod a1 64))))))
      else
       none
     else
      none
    else
     none
   else
    none
  else
   if 0 ≤ (IntKind.wrap .i64 (Int.tdiv a1 64)) then
    if (IntKind.wrap .i64 (Int.tdiv a1 64)) < 4 then
     if 0 ≤ (IntKind.wrap .i64 (Int.tdiv a1 64)) then
      if (IntKind.wrap .i64 (Int.tdiv a1 64)) < 4 then
       some (mk0 (List.set a0 (Int.toNat (IntKind.wrap .i64 (Int.tdiv a1 64))) (ibits BinOp.andNot .u64 (List.getD a0 (Int.toNat (IntKind.wrap .i64 (Int.tdiv a1 64))) 0) (ishl .u64 1 (IntKind.wrap .u64 (Int.tmod a1 64))))))
      else
       none
     else
      none
    else
     none
   else
    none
 else
  none
def q01_with.m (n : Nat) (t : ((List Int) × (Int × Bool))) : Option (List Int) := q01_with.g (fun a0 => a0) n t.1 t.2.1 t.2.2
def q01_with.pat : List AV → Blks → Option ((List Int) × (Int × Bool))
 | [(.ints .u64 4 a0), (.int .i64 a1), (.bool a2)], [] => some (a0, a1, a2)
 | _, _ => none
def q01_with.shape (t : ((List Int) × (Int × Bool))) : List AV × Blks := ([(.ints .u64 4 t.1), (.int .i64 t.2.1), (.bool t.2.2)], [])
def q01_with.res : (List Int) → AV × Blks
 | u => (Prod.mk (.ints .u64 4 u) [])
def q01_with.resK {R : Type} (u : (List Int)) (K : AV → Blks → Option R) : Option R := (fun p : AV × Blks => K p.1 p.2) (Prod.mk (.ints .u64 4 u) [])
def q01_with.c (n : Nat) : Abs.Callee := .mk' [] [none, none, none] q01_with.pat (q01_with.m n) q01_with.resK
end
end
section
noncomputable section
noncomputable def q01_shift.C (n : Nat) : Ctx := ⟨Try.prog, (fun _ => .any), fun f => match f with
 | 122 => some (q01_bit.c n)
 | 126 => some (q01_with.c n)
 | _ => none⟩
def q01_shift.live : Nat → List Nat × List Nat := fun k => match k with
 | 3 => ([8, 2, 1, 3, 7, 6], [7, 6])
 | _ => ([], [])
def q01_shift.jlive : Nat → List Nat × List Nat := fun k => match k with
 | _ => ([], [])
def q01_shift.l3_0.r {α : Type} (mk0 : (List Int) → (List Int) → α) (n : Nat) (rc : Int → Bool → Int → (List Int) → (List Int) → (List Int) → Option α)  (x0 : Int) (x1 : Bool) (x2 : Int) (x3 : (List Int)) (x4 : (List Int)) (x5 : (List Int)) : Option α :=
  if (decide (x0 < 256)) = true then
   if (decide ((IntKind.wrap .i64 (x0 - x2)) ≥ 0)) = true then
    if (decide ((IntKind.wrap .i64 (x0 - x2)) < 256)) = true then
     bindO (q01_bit.m n (Prod.mk x3 (IntKind.wrap .i64 (x0 - x2)))) fun r10 =>
      bindO (q01_with.m n (Prod.mk x4 (Prod.mk x0 r10))) fun r12 =>
       rc (IntKind.wrap .i64 (x0 + 1)) x1 x2 x3 r12 x5
    else
     bindO (q01_with.m n (Prod.mk x4 (Prod.mk x0 x1))) fun r10 =>
      rc (IntKind.wrap .i64 (x0 + 1)) x1 x2 x3 r10 x5
   else
    bindO (q01_with.m n (Prod.mk x4 (Prod.mk x0 x1))) fun r8 =>
     rc (IntKind.wrap .i64 (x0 + 1)) x1 x2 x3 r8 x5
  else
   some (mk0 x4 x5)
def q01_shift.l3_0.g {α : Type} (mk0 : (List Int) → (List Int) → α) (n : Nat) : Nat → Int → Bool → Int → (List Int) → (List Int) → (List Int) → Option α
 | 0, _, _, _, _, _, _ => none
 | m + 1, x0, x1, x2, x3, x4, x5 => q01_shift.l3_0.r mk0 n (fun y0 y1 y2 y3 y4 y5 => q01_shift.l3_0.g mk0 n m y0 y1 y2 y3 y4 y5)  x0 x1 x2 x3 x4 x5
def q01_shift.l3_0.m (n m : Nat) (t : (Int × (Bool × (Int × ((List Int) × ((List Int) × (List Int))))))) : Option ((List Int) × (List Int)) := q01_shift.l3_0.g (fun a0 a1 => (a0, a1)) n m t.1 t.2.1 t.2.2.1 t.2.2.2.1 t.2.2.2.2.1 t.2.2.2.2.2
def q01_shift.l3_0.pat : St → Option (Int × (Bool × (Int × ((List Int) × ((List Int) × (List Int))))))
 | (St.mk [(.int .i64 x0), (.bool x1), (.int .i64 x2), (.ptr 0 []), (.ptr 1 []), (.ptr 2 [])] [(some (.var (.ints .u64 4 x3))), (some (.var (.ints .u64 4 x4))), (some (.var (.ints .u64 4 x5)))]) => some (x0, x1, x2, x3, x4, x5)
 | _ => none
def q01_shift.l3_0.shape (t : (Int × (Bool × (Int × ((List Int) × ((List Int) × (List Int))))))) : St := (St.mk [(.int .i64 t.1), (.bool t.2.1), (.int .i64 t.2.2.1), (.ptr 0 []), (.ptr 1 []), (.ptr 2 [])] [(some (.var (.ints .u64 4 t.2.2.2.1))), (some (.var (.ints .u64 4 t.2.2.2.2.1))), (some (.var (.ints .u64 4 t.2.2.2.2.2)))])
def q01_shift.l3_0.res : ((List Int) × (List Int)) → Ex × St
 | u => (Prod.mk (.exit 0) (St.mk [(.ptr 0 []), (.ptr 1 [])] [(some (.var (.ints .u64 4 u.1))), (some (.var (.ints .u64 4 u.2)))]))
def q01_shift.l3_0.resK {R : Type} (u : ((List Int) × (List Int))) (K : Ex → St → Option R) : Option R := (fun p : Ex × St => K p.1 p.2) (Prod.mk (.exit 0) (St.mk [(.ptr 0 []), (.ptr 1 [])] [(some (.var (.ints .u64 4 u.1))), (some (.var (.ints .u64 4 u.2)))]))
noncomputable def q01_shift.A (n : Nat) : Ann := ⟨Try.f108.ntmps, 0, q01_shift.live, [], [none], fun k => match k with
 | 3 => some (.mk' q01_shift.l3_0.pat (q01_shift.l3_0.m n n) q01_shift.l3_0.resK)
 | _ => none, q01_shift.jlive, lookJ []⟩
noncomputable def q01_shift.b0 : Code := (loopsIn (Try.f108.body.getD .skip)).getD 0 .skip
def q01_shift.g {α : Type} (mk0 : (List Int) → α) (n : Nat) (a0 : (List Int)) (a1 : Int) (a2 : Bool) : Option α :=
 bindO (q01_shift.l3_0.m n n (0, a2, a1, a0, [0, 0, 0, 0], [0, 0, 0, 0])) fun r2 =>
  some (mk0 (Prod.fst r2))
def q01_shift.m (n : Nat) (t : ((List Int) × (Int × Bool))) : Option (List Int) := q01_shift.g (fun a0 => a0) n t.1 t.2.1 t.2.2
def q01_shift.pat : List AV → Blks → Option ((List Int) × (Int × Bool))
 | [(.ints .u64 4 a0), (.int .i64 a1), (.bool a2)], [] => some (a0, a1, a2)
 | _, _ => none
def q01_shift.shape (t : ((List Int) × (Int × Bool))) : List AV × Blks := ([(.ints .u64 4 t.1), (.int .i64 t.2.1), (.bool t.2.2)], [])
def q01_shift.res : (List Int) → AV × Blks
 | u => (Prod.mk (.ints .u64 4 u) [])
def q01_shift.resK {R : Type} (u : (List Int)) (K : AV → Blks → Option R) : Option R := (fun p : AV × Blks => K p.1 p.2) (Prod.mk (.ints .u64 4 u) [])
def q01_shift.c (n : Nat) : Abs.Callee := .mk' [] [none, none, none] q01_shift.pat (q01_shift.m n) q01_shift.resK
end
end
section
noncomputable section
noncomputable def q01_Shl.C (n : Nat) : Ctx := ⟨Try.prog, (fun _ => .any), fun f => match f with
 | 109 => some (q01_far.c n)
 | 108 => some (q01_shift.c n)
 | _ => none⟩
def q01_Shl.live : Nat → List Nat × List Nat := fun k => match k with
 | _ => ([], [])
def q01_Shl.jlive : Nat → List Nat × List Nat := fun k => match k with
 | _ => ([], [])
noncomputable def q01_Shl.A (n : Nat) : Ann := ⟨Try.f78.ntmps, 0, q01_Shl.live, [], [none], fun k => match k with
 | _ => none, q01_Shl.jlive, lookJ []⟩
def q01_Shl.g {α : Type} (mk0 : (List Int) → α) (n : Nat) (a0 : (List Int)) (a1 : (List Int)) : Option α :=
 bindO (q01_far.m n a0) fun r2 =>
  bindO (q01_shift.m n (Prod.mk a1 (Prod.mk r2 false))) fun r4 =>
   some (mk0 r4)
def q01_Shl.m (n : Nat) (t : ((List Int) × (List Int))) : Option (List Int) := q01_Shl.g (fun a0 => a0) n t.1 t.2
def q01_Shl.pat : List AV → Blks → Option ((List Int) × (List Int))
 | [(.ints .u64 4 a0), (.ints .u64 4 a1)], [] => some (a0, a1)
 | _, _ => none
def q01_Shl.shape (t : ((List Int) × (List Int))) : List AV × Blks := ([(.ints .u64 4 t.1), (.ints .u64 4 t.2)], [])
def q01_Shl.res : (List Int) → AV × Blks
 | u => (Prod.mk (.ints .u64 4 u) [])
def q01_Shl.resK {R : Type} (u : (List Int)) (K : AV → Blks → Option R) : Option R := (fun p : AV × Blks => K p.1 p.2) (Prod.mk (.ints .u64 4 u) [])
def q01_Shl.c (n : Nat) : Abs.Callee := .mk' [] [none, none] q01_Shl.pat (q01_Shl.m n) q01_Shl.resK
end
end
section
theorem q01_Small.gmap {α β : Type} (h : β → α) (mk0 : Int → Bool → β) (n : Nat) (a0 : (List Int)) : q01_Small.g (fun a0 a1 => (h (mk0 a0 a1))) n a0 = (q01_Small.g mk0 n a0).map h := by
  unfold q01_Small.g
  exact (ite_map rfl (ite_map rfl (ite_map rfl rfl)))
theorem q01_Small.run (n : Nat) (a0 : (List Int)) : runF (q01_Small.C n) (q01_Small.A n) n Try.f55 [(.ints .u64 4 a0)] [] (fun v o => some (v, o)) = q01_Small.g (fun a0 a1 => ((Prod.mk (.tup [(.int .u64 a0), (.bool a1)]) []) : AV × Blks)) n a0 := by kernel_rfl
theorem q01_Small.call (hmix : Try.prog.follows .mixedOrders = true) (n : Nat) (t : (List Int)) (u) (h : q01_Small.m n t = some u) : FnC Try.prog (fun _ => .any) 55 (q01_Small.shape t).1 (q01_Small.shape t).2 (q01_Small.res u).1 (q01_Small.res u).2 := by
  have hg : ∀ f m, (q01_Small.C n).Γ f = some m → CalleeS Try.prog (fun _ => .any) f m := by
    intro f m hm
    unfold q01_Small.C at hm
    simp only at hm
    first
    | (cases hm; done)
    | (split at hm <;> first
    | (cases hm; done))
  have hb : Try.f55.body = some (Try.f55.body.getD .skip) := by kernel_rfl
  refine runF_calls (C := q01_Small.C n) (A := q01_Small.A n) (n := n) (fn := Try.f55) hg hmix Try.func55 hb ?_ ?_ (by decide) rfl rfl (by show 1 ≤ Try.f55.ntmps; decide) ?_
  · rw [show loopsIn (Try.f55.body.getD .skip) = [] by kernel_rfl]
    intro b hb
    cases hb
  · intro a ha m hm
    cases (show none = some m from hm)
  · rw [show runF (q01_Small.C n) (q01_Small.A n) n Try.f55 (q01_Small.shape t).1 (q01_Small.shape t).2 (fun v o => some (v, o)) = _ from q01_Small.run n t]
    have e := q01_Small.gmap q01_Small.res (fun a0 a1 => (a0, a1)) n t
    unfold q01_Small.m at h
    rw [h] at e
    exact e
theorem q01_Small.s (hmix : Try.prog.follows .mixedOrders = true) (n : Nat) : CalleeS Try.prog (fun _ => .any) 55 (q01_Small.c n) :=
  CalleeS.of (res := q01_Small.res) (shape := q01_Small.shape) (fun R u K => rfl) (fun args lent t h => by
    unfold q01_Small.pat at h
    split at h
    · cases h; rfl
    · cases h) fun t u h => (q01_Small.call hmix n t u h).ok Try.func55 (by decide) (by kernel_rfl)
end
section
theorem q01_far.gmap {α β : Type} (h : β → α) (mk0 : Int → β) (n : Nat) (a0 : (List Int)) : q01_far.g (fun a0 => (h (mk0 a0))) n a0 = (q01_far.g mk0 n a0).map h := by
  unfold q01_far.g
  exact (bindO_map fun r2 => (ite_map rfl (ite_map rfl rfl)))
theorem q01_far.run (n : Nat) (a0 : (List Int)) : runF (q01_far.C n) (q01_far.A n) n Try.f109 [(.ints .u64 4 a0)] [] (fun v o => some (v, o)) = q01_far.g (fun a0 => ((Prod.mk (.int .i64 a0) []) : AV × Blks)) n a0 := by kernel_rfl
theorem q01_far.call (hmix : Try.prog.follows .mixedOrders = true) (n : Nat) (t : (List Int)) (u) (h : q01_far.m n t = some u) : FnC Try.prog (fun _ => .any) 109 (q01_far.shape t).1 (q01_far.shape t).2 (q01_far.res u).1 (q01_far.res u).2 := by
  have hg : ∀ f m, (q01_far.C n).Γ f = some m → CalleeS Try.prog (fun _ => .any) f m := by
    intro f m hm
    unfold q01_far.C at hm
    simp only at hm
    first
    | (cases hm; done)
    | (split at hm <;> first
    | (cases hm; exact q01_Small.s hmix n)
    | (cases hm; done))
  have hb : Try.f109.body = some (Try.f109.body.getD .skip) := by kernel_rfl
  refine runF_calls (C := q01_far.C n) (A := q01_far.A n) (n := n) (fn := Try.f109) hg hmix Try.func109 hb ?_ ?_ (by decide) rfl rfl (by show 1 ≤ Try.f109.ntmps; decide) ?_
  · rw [show loopsIn (Try.f109.body.getD .skip) = [] by kernel_rfl]
    intro b hb
    cases hb
  · intro a ha m hm
    cases (show none = some m from hm)
  · rw [show runF (q01_far.C n) (q01_far.A n) n Try.f109 (q01_far.shape t).1 (q01_far.shape t).2 (fun v o => some (v, o)) = _ from q01_far.run n t]
    have e := q01_far.gmap q01_far.res (fun a0 => a0) n t
    unfold q01_far.m at h
    rw [h] at e
    exact e
theorem q01_far.s (hmix : Try.prog.follows .mixedOrders = true) (n : Nat) : CalleeS Try.prog (fun _ => .any) 109 (q01_far.c n) :=
  CalleeS.of (res := q01_far.res) (shape := q01_far.shape) (fun R u K => rfl) (fun args lent t h => by
    unfold q01_far.pat at h
    split at h
    · cases h; rfl
    · cases h) fun t u h => (q01_far.call hmix n t u h).ok Try.func109 (by decide) (by kernel_rfl)
end
section
theorem q01_with.gmap {α β : Type} (h : β → α) (mk0 : (List Int) → β) (n : Nat) (a0 : (List Int)) (a1 : Int) (a2 : Bool) : q01_with.g (fun a0 => (h (mk0 a0))) n a0 a1 a2 = (q01_with.g mk0 n a0 a1 a2).map h := by
  unfold q01_with.g
  exact (ite_map (ite_map (ite_map (ite_map (ite_map (ite_map rfl rfl) rfl) rfl) rfl) (ite_map (ite_map (ite_map (ite_map rfl rfl) rfl) rfl) rfl)) rfl)
theorem q01_with.run (n : Nat) (a0 : (List Int)) (a1 : Int) (a2 : Bool) : runF (q01_with.C n) (q01_with.A n) n Try.f126 [(.ints .u64 4 a0), (.int .i64 a1), (.bool a2)] [] (fun v o => some (v, o)) = q01_with.g (fun a0 => ((Prod.mk (.ints .u64 4 a0) []) : AV × Blks)) n a0 a1 a2 := by kernel_rfl
theorem q01_with.call (hmix : Try.prog.follows .mixedOrders = true) (n : Nat) (t : ((List Int) × (Int × Bool))) (u) (h : q01_with.m n t = some u) : FnC Try.prog (fun _ => .any) 126 (q01_with.shape t).1 (q01_with.shape t).2 (q01_with.res u).1 (q01_with.res u).2 := by
  have hg : ∀ f m, (q01_with.C n).Γ f = some m → CalleeS Try.prog (fun _ => .any) f m := by
    intro f m hm
    unfold q01_with.C at hm
    simp only at hm
    first
    | (cases hm; done)
    | (split at hm <;> first
    | (cases hm; done))
  have hb : Try.f126.body = some (Try.f126.body.getD .skip) := by kernel_rfl
  refine runF_calls (C := q01_with.C n) (A := q01_with.A n) (n := n) (fn := Try.f126) hg hmix Try.func126 hb ?_ ?_ (by decide) rfl rfl (by show 3 ≤ Try.f126.ntmps; decide) ?_
  · rw [show loopsIn (Try.f126.body.getD .skip) = [] by kernel_rfl]
    intro b hb
    cases hb
  · intro a ha m hm
    cases (show none = some m from hm)
  · rw [show runF (q01_with.C n) (q01_with.A n) n Try.f126 (q01_with.shape t).1 (q01_with.shape t).2 (fun v o => some (v, o)) = _ from q01_with.run n t.1 t.2.1 t.2.2]
    have e := q01_with.gmap q01_with.res (fun a0 => a0) n t.1 t.2.1 t.2.2
    unfold q01_with.m at h
    rw [h] at e
    exact e
theorem q01_with.s (hmix : Try.prog.follows .mixedOrders = true) (n : Nat) : CalleeS Try.prog (fun _ => .any) 126 (q01_with.c n) :=
  CalleeS.of (res := q01_with.res) (shape := q01_with.shape) (fun R u K => rfl) (fun args lent t h => by
    unfold q01_with.pat at h
    split at h
    · cases h; rfl
    · cases h) fun t u h => (q01_with.call hmix n t u h).ok Try.func126 (by decide) (by kernel_rfl)
end
section
theorem q01_shift.l3_0.rmap {α β : Type} (h : β → α) (mk0 : (List Int) → (List Int) → β) (n : Nat) (f : Int → Bool → Int → (List Int) → (List Int) → (List Int) → Option β)  (x0 : Int) (x1 : Bool) (x2 : Int) (x3 : (List Int)) (x4 : (List Int)) (x5 : (List Int)) : q01_shift.l3_0.r (fun a0 a1 => (h (mk0 a0 a1))) n (fun y0 y1 y2 y3 y4 y5 => (f y0 y1 y2 y3 y4 y5).map h) x0 x1 x2 x3 x4 x5 = (q01_shift.l3_0.r mk0 n f x0 x1 x2 x3 x4 x5).map h := by
  unfold q01_shift.l3_0.r
  exact (ite_map (ite_map (ite_map (bindO_map fun r10 => (bindO_map fun r12 => rfl)) (bindO_map fun r10 => rfl)) (bindO_map fun r8 => rfl)) rfl)
theorem q01_shift.l3_0.gmap {α β : Type} (h : β → α) (mk0 : (List Int) → (List Int) → β) (n : Nat) : ∀ (m : Nat) (x0 : Int) (x1 : Bool) (x2 : Int) (x3 : (List Int)) (x4 : (List Int)) (x5 : (List Int)), q01_shift.l3_0.g (fun a0 a1 => (h (mk0 a0 a1))) n m x0 x1 x2 x3 x4 x5 = (q01_shift.l3_0.g mk0 n m x0 x1 x2 x3 x4 x5).map h
  | 0, _, _, _, _, _, _ => rfl
  | m + 1, x0, x1, x2, x3, x4, x5 => by
    unfold q01_shift.l3_0.g
    rw [← q01_shift.l3_0.rmap]
    congr
    · funext y0 y1 y2 y3 y4 y5; exact q01_shift.l3_0.gmap h mk0 n m y0 y1 y2 y3 y4 y5
theorem q01_shift.l3_0.pat_shape : ∀ st t, q01_shift.l3_0.pat st = some t → st = q01_shift.l3_0.shape t := by
  intro st t h
  unfold q01_shift.l3_0.pat at h
  split at h
  · cases h; rfl
  · cases h
theorem q01_shift.l3_0.round (n : Nat) (rc : St → Option (Ex × St)) (x0 : Int) (x1 : Bool) (x2 : Int) (x3 : (List Int)) (x4 : (List Int)) (x5 : (List Int)) : roundOf (q01_shift.C n) (q01_shift.A n) n q01_shift.b0 rc ((St.mk [(.int .i64 x0), (.bool x1), (.int .i64 x2), (.ptr 0 []), (.ptr 1 []), (.ptr 2 [])] [(some (.var (.ints .u64 4 x3))), (some (.var (.ints .u64 4 x4))), (some (.var (.ints .u64 4 x5)))])) = q01_shift.l3_0.r (fun a0 a1 => ((Prod.mk (.exit 0) (St.mk [(.ptr 0 []), (.ptr 1 [])] [(some (.var (.ints .u64 4 a0))), (some (.var (.ints .u64 4 a1)))])) : Ex × St)) n (fun y0 y1 y2 y3 y4 y5 => rc ((St.mk [(.int .i64 y0), (.bool y1), (.int .i64 y2), (.ptr 0 []), (.ptr 1 []), (.ptr 2 [])] [(some (.var (.ints .u64 4 y3))), (some (.var (.ints .u64 4 y4))), (some (.var (.ints .u64 4 y5)))]))) x0 x1 x2 x3 x4 x5 := by kernel_rfl
theorem q01_shift.l3_0.loop' (n : Nat) : ∀ (m : Nat) (t : (Int × (Bool × (Int × ((List Int) × ((List Int) × (List Int))))))), loopOf (roundOf (q01_shift.C n) (q01_shift.A n) n q01_shift.b0) m (q01_shift.l3_0.shape t) = q01_shift.l3_0.g (fun a0 a1 => ((Prod.mk (.exit 0) (St.mk [(.ptr 0 []), (.ptr 1 [])] [(some (.var (.ints .u64 4 a0))), (some (.var (.ints .u64 4 a1)))])) : Ex × St)) n m t.1 t.2.1 t.2.2.1 t.2.2.2.1 t.2.2.2.2.1 t.2.2.2.2.2 :=
  loop_of_round (shape := q01_shift.l3_0.shape) (body := roundOf (q01_shift.C n) (q01_shift.A n) n q01_shift.b0) (g := fun m t => q01_shift.l3_0.g (fun a0 a1 => ((Prod.mk (.exit 0) (St.mk [(.ptr 0 []), (.ptr 1 [])] [(some (.var (.ints .u64 4 a0))), (some (.var (.ints .u64 4 a1)))])) : Ex × St)) n m t.1 t.2.1 t.2.2.1 t.2.2.2.1 t.2.2.2.2.1 t.2.2.2.2.2) (fun t => rfl)
    fun m t ih => (q01_shift.l3_0.round n (loopOf (roundOf (q01_shift.C n) (q01_shift.A n) n q01_shift.b0) m) t.1 t.2.1 t.2.2.1 t.2.2.2.1 t.2.2.2.2.1 t.2.2.2.2.2).trans (congrFun (congrFun (congrFun (congrFun (congrFun (congrFun (congrArg (q01_shift.l3_0.r (fun a0 a1 => ((Prod.mk (.exit 0) (St.mk [(.ptr 0 []), (.ptr 1 [])] [(some (.var (.ints .u64 4 a0))), (some (.var (.ints .u64 4 a1)))])) : Ex × St)) n) (funext fun y0 => funext fun y1 => funext fun y2 => funext fun y3 => funext fun y4 => funext fun y5 => ih (y0, y1, y2, y3, y4, y5))) t.1) t.2.1) t.2.2.1) t.2.2.2.1) t.2.2.2.2.1) t.2.2.2.2.2)
theorem q01_shift.l3_0.loop (n m : Nat) (t : (Int × (Bool × (Int × ((List Int) × ((List Int) × (List Int))))))) : loopOf (roundOf (q01_shift.C n) (q01_shift.A n) n q01_shift.b0) m (q01_shift.l3_0.shape t) = (q01_shift.l3_0.m n m t).map q01_shift.l3_0.res :=
  (q01_shift.l3_0.loop' n m t).trans (q01_shift.l3_0.gmap q01_shift.l3_0.res (fun a0 a1 => (a0, a1)) n m t.1 t.2.1 t.2.2.1 t.2.2.2.1 t.2.2.2.2.1 t.2.2.2.2.2)
theorem q01_shift.gmap {α β : Type} (h : β → α) (mk0 : (List Int) → β) (n : Nat) (a0 : (List Int)) (a1 : Int) (a2 : Bool) : q01_shift.g (fun a0 => (h (mk0 a0))) n a0 a1 a2 = (q01_shift.g mk0 n a0 a1 a2).map h := by
  unfold q01_shift.g
  exact (bindO_map fun r2 => rfl)
theorem q01_shift.run (n : Nat) (a0 : (List Int)) (a1 : Int) (a2 : Bool) : runF (q01_shift.C n) (q01_shift.A n) n Try.f108 [(.ints .u64 4 a0), (.int .i64 a1), (.bool a2)] [] (fun v o => some (v, o)) = q01_shift.g (fun a0 => ((Prod.mk (.ints .u64 4 a0) []) : AV × Blks)) n a0 a1 a2 := by kernel_rfl
theorem q01_shift.call (hmix : Try.prog.follows .mixedOrders = true) (n : Nat) (t : ((List Int) × (Int × Bool))) (u) (h : q01_shift.m n t = some u) : FnC Try.prog (fun _ => .any) 108 (q01_shift.shape t).1 (q01_shift.shape t).2 (q01_shift.res u).1 (q01_shift.res u).2 := by
  have hg : ∀ f m, (q01_shift.C n).Γ f = some m → CalleeS Try.prog (fun _ => .any) f m := by
    intro f m hm
    unfold q01_shift.C at hm
    simp only at hm
    first
    | (cases hm; done)
    | (split at hm <;> first
    | (cases hm; exact q01_bit.s hmix n)
    | (cases hm; exact q01_with.s hmix n)
    | (cases hm; done))
  have hb : Try.f108.body = some (Try.f108.body.getD .skip) := by kernel_rfl
  refine runF_calls (C := q01_shift.C n) (A := q01_shift.A n) (n := n) (fn := Try.f108) hg hmix Try.func108 hb ?_ ?_ (by decide) rfl rfl (by show 3 ≤ Try.f108.ntmps; decide) ?_
  · rw [show loopsIn (Try.f108.body.getD .skip) = [q01_shift.b0] by kernel_rfl]
    intro b hb m hm
    simp only [List.mem_cons, List.not_mem_nil, or_false] at hb
    rcases hb with rfl
    · have e : (q01_shift.A n).loop (key q01_shift.b0) = some (.mk' q01_shift.l3_0.pat (q01_shift.l3_0.m n n) q01_shift.l3_0.resK) := by rw [show key q01_shift.b0 = 3 by kernel_rfl]; rfl
      rw [e] at hm
      cases hm
      exact LoopS.of (res := q01_shift.l3_0.res) (fun R u K => rfl) q01_shift.l3_0.pat_shape fun t => q01_shift.l3_0.loop n n t
  · intro a ha m hm
    cases (show none = some m from hm)
  · rw [show runF (q01_shift.C n) (q01_shift.A n) n Try.f108 (q01_shift.shape t).1 (q01_shift.shape t).2 (fun v o => some (v, o)) = _ from q01_shift.run n t.1 t.2.1 t.2.2]
    have e := q01_shift.gmap q01_shift.res (fun a0 => a0) n t.1 t.2.1 t.2.2
    unfold q01_shift.m at h
    rw [h] at e
    exact e
theorem q01_shift.s (hmix : Try.prog.follows .mixedOrders = true) (n : Nat) : CalleeS Try.prog (fun _ => .any) 108 (q01_shift.c n) :=
  CalleeS.of (res := q01_shift.res) (shape := q01_shift.shape) (fun R u K => rfl) (fun args lent t h => by
    unfold q01_shift.pat at h
    split at h
    · cases h; rfl
    · cases h) fun t u h => (q01_shift.call hmix n t u h).ok Try.func108 (by decide) (by kernel_rfl)
end
section
theorem q01_Shl.gmap {α β : Type} (h : β → α) (mk0 : (List Int) → β) (n : Nat) (a0 : (List Int)) (a1 : (List Int)) : q01_Shl.g (fun a0 => (h (mk0 a0))) n a0 a1 = (q01_Shl.g mk0 n a0 a1).map h := by
  unfold q01_Shl.g
  exact (bindO_map fun r2 => (bindO_map fun r4 => rfl))
theorem q01_Shl.run (n : Nat) (a0 : (List Int)) (a1 : (List Int)) : runF (q01_Shl.C n) (q01_Shl.A n) n Try.f78 [(.ints .u64 4 a0), (.ints .u64 4 a1)] [] (fun v o => some (v, o)) = q01_Shl.g (fun a0 => ((Prod.mk (.ints .u64 4 a0) []) : AV × Blks)) n a0 a1 := by kernel_rfl
theorem q01_Shl.call (hmix : Try.prog.follows .mixedOrders = true) (n : Nat) (t : ((List Int) × (List Int))) (u) (h : q01_Shl.m n t = some u) : FnC Try.prog (fun _ => .any) 78 (q01_Shl.shape t).1 (q01_Shl.shape t).2 (q01_Shl.res u).1 (q01_Shl.res u).2 := by
  have hg : ∀ f m, (q01_Shl.C n).Γ f = some m → CalleeS Try.prog (fun _ => .any) f m := by
    intro f m hm
    unfold q01_Shl.C at hm
    simp only at hm
    first
    | (cases hm; done)
    | (split at hm <;> first
    | (cases hm; exact q01_far.s hmix n)
    | (cases hm; exact q01_shift.s hmix n)
    | (cases hm; done))
  have hb : Try.f78.body = some (Try.f78.body.getD .skip) := by kernel_rfl
  refine runF_calls (C := q01_Shl.C n) (A := q01_Shl.A n) (n := n) (fn := Try.f78) hg hmix Try.func78 hb ?_ ?_ (by decide) rfl rfl (by show 2 ≤ Try.f78.ntmps; decide) ?_
  · rw [show loopsIn (Try.f78.body.getD .skip) = [] by kernel_rfl]
    intro b hb
    cases hb
  · intro a ha m hm
    cases (show none = some m from hm)
  · rw [show runF (q01_Shl.C n) (q01_Shl.A n) n Try.f78 (q01_Shl.shape t).1 (q01_Shl.shape t).2 (fun v o => some (v, o)) = _ from q01_Shl.run n t.1 t.2]
    have e := q01_Shl.gmap q01_Shl.res (fun a0 => a0) n t.1 t.2
    unfold q01_Shl.m at h
    rw [h] at e
    exact e
theorem q01_Shl.s (hmix : Try.prog.follows .mixedOrders = true) (n : Nat) : CalleeS Try.prog (fun _ => .any) 78 (q01_Shl.c n) :=
  CalleeS.of (res := q01_Shl.res) (shape := q01_Shl.shape) (fun R u K => rfl) (fun args lent t h => by
    unfold q01_Shl.pat at h
    split at h
    · cases h; rfl
    · cases h) fun t u h => (q01_Shl.call hmix n t u h).ok Try.func78 (by decide) (by kernel_rfl)
end
section
noncomputable section
noncomputable def q01_Shr.C (n : Nat) : Ctx := ⟨Try.prog, (fun _ => .any), fun f => match f with
 | 109 => some (q01_far.c n)
 | 108 => some (q01_shift.c n)
 | _ => none⟩
def q01_Shr.live : Nat → List Nat × List Nat := fun k => match k with
 | _ => ([], [])
def q01_Shr.jlive : Nat → List Nat × List Nat := fun k => match k with
 | _ => ([], [])
noncomputable def q01_Shr.A (n : Nat) : Ann := ⟨Try.f79.ntmps, 0, q01_Shr.live, [], [none], fun k => match k with
 | _ => none, q01_Shr.jlive, lookJ []⟩
def q01_Shr.g {α : Type} (mk0 : (List Int) → α) (n : Nat) (a0 : (List Int)) (a1 : (List Int)) : Option α :=
 bindO (q01_far.m n a0) fun r2 =>
  bindO (q01_shift.m n (Prod.mk a1 (Prod.mk (IntKind.wrap .i64 (0 - r2)) false))) fun r4 =>
   some (mk0 r4)
def q01_Shr.m (n : Nat) (t : ((List Int) × (List Int))) : Option (List Int) := q01_Shr.g (fun a0 => a0) n t.1 t.2
def q01_Shr.pat : List AV → Blks → Option ((List Int) × (List Int))
 | [(.ints .u64 4 a0), (.ints .u64 4 a1)], [] => some (a0, a1)
 | _, _ => none
def q01_Shr.shape (t : ((List Int) × (List Int))) : List AV × Blks := ([(.ints .u64 4 t.1), (.ints .u64 4 t.2)], [])
def q01_Shr.res : (List Int) → AV × Blks
 | u => (Prod.mk (.ints .u64 4 u) [])
def q01_Shr.resK {R : Type} (u : (List Int)) (K : AV → Blks → Option R) : Option R := (fun p : AV × Blks => K p.1 p.2) (Prod.mk (.ints .u64 4 u) [])
def q01_Shr.c (n : Nat) : Abs.Callee := .mk' [] [none, none] q01_Shr.pat (q01_Shr.m n) q01_Shr.resK
end
end
section
theorem q01_Shr.gmap {α β : Type} (h : β → α) (mk0 : (List Int) → β) (n : Nat) (a0 : (List Int)) (a1 : (List Int)) : q01_Shr.g (fun a0 => (h (mk0 a0))) n a0 a1 = (q01_Shr.g mk0 n a0 a1).map h := by
  unfold q01_Shr.g
  exact (bindO_map fun r2 => (bindO_map fun r4 => rfl))
theorem q01_Shr.run (n : Nat) (a0 : (List Int)) (a1 : (List Int)) : runF (q01_Shr.C n) (q01_Shr.A n) n Try.f79 [(.ints .u64 4 a0), (.ints .u64 4 a1)] [] (fun v o => some (v, o)) = q01_Shr.g (fun a0 => ((Prod.mk (.ints .u64 4 a0) []) : AV × Blks)) n a0 a1 := by kernel_rfl
theorem q01_Shr.call (hmix : Try.prog.follows .mixedOrders = true) (n : Nat) (t : ((List Int) × (List Int))) (u) (h : q01_Shr.m n t = some u) : FnC Try.prog (fun _ => .any) 79 (q01_Shr.shape t).1 (q01_Shr.shape t).2 (q01_Shr.res u).1 (q01_Shr.res u).2 := by
  have hg : ∀ f m, (q01_Shr.C n).Γ f = some m → CalleeS Try.prog (fun _ => .any) f m := by
    intro f m hm
    unfold q01_Shr.C at hm
    simp only at hm
    first
    | (cases hm; done)
    | (split at hm <;> first
    | (cases hm; exact q01_far.s hmix n)
    | (cases hm; exact q01_shift.s hmix n)
    | (cases hm; done))
  have hb : Try.f79.body = some (Try.f79.body.getD .skip) := by kernel_rfl
  refine runF_calls (C := q01_Shr.C n) (A := q01_Shr.A n) (n := n) (fn := Try.f79) hg hmix Try.func79 hb ?_ ?_ (by decide) rfl rfl (by show 2 ≤ Try.f79.ntmps; decide) ?_
  · rw [show loopsIn (Try.f79.body.getD .skip) = [] by kernel_rfl]
    intro b hb
    cases hb
  · intro a ha m hm
    cases (show none = some m from hm)
  · rw [show runF (q01_Shr.C n) (q01_Shr.A n) n Try.f79 (q01_Shr.shape t).1 (q01_Shr.shape t).2 (fun v o => some (v, o)) = _ from q01_Shr.run n t.1 t.2]
    have e := q01_Shr.gmap q01_Shr.res (fun a0 => a0) n t.1 t.2
    unfold q01_Shr.m at h
    rw [h] at e
    exact e
theorem q01_Shr.s (hmix : Try.prog.follows .mixedOrders = true) (n : Nat) : CalleeS Try.prog (fun _ => .any) 79 (q01_Shr.c n) :=
  CalleeS.of (res := q01_Shr.res) (shape := q01_Shr.shape) (fun R u K => rfl) (fun args lent t h => by
    unfold q01_Shr.pat at h
    split at h
    · cases h; rfl
    · cases h) fun t u h => (q01_Shr.call hmix n t u h).ok Try.func79 (by decide) (by kernel_rfl)
end
section
noncomputable section
noncomputable def q01_Sar.C (n : Nat) : Ctx := ⟨Try.prog, (fun _ => .any), fun f => match f with
 | 109 => some (q01_far.c n)
 | 107 => some (q01_neg.c n)
 | 108 => some (q01_shift.c n)
 | _ => none⟩
def q01_Sar.live : Nat → List Nat × List Nat := fun k => match k with
 | _ => ([], [])
def q01_Sar.jlive : Nat → List Nat × List Nat := fun k => match k with
 | _ => ([], [])
noncomputable def q01_Sar.A (n : Nat) : Ann := ⟨Try.f80.ntmps, 0, q01_Sar.live, [], [none], fun k => match k with
 | _ => none, q01_Sar.jlive, lookJ []⟩
def q01_Sar.g {α : Type} (mk0 : (List Int) → α) (n : Nat) (a0 : (List Int)) (a1 : (List Int)) : Option α :=
 bindO (q01_far.m n a0) fun r2 =>
  bindO (q01_neg.m n a1) fun r4 =>
   bindO (q01_shift.m n (Prod.mk a1 (Prod.mk (IntKind.wrap .i64 (0 - r2)) r4))) fun r6 =>
    some (mk0 r6)
def q01_Sar.m (n : Nat) (t : ((List Int) × (List Int))) : Option (List Int) := q01_Sar.g (fun a0 => a0) n t.1 t.2
def q01_Sar.pat : List AV → Blks → Option ((List Int) × (List Int))
 | [(.ints .u64 4 a0), (.ints .u64 4 a1)], [] => some (a0, a1)
 | _, _ => none
def q01_Sar.shape (t : ((List Int) × (List Int))) : List AV × Blks := ([(.ints .u64 4 t.1), (.ints .u64 4 t.2)], [])
def q01_Sar.res : (List Int) → AV × Blks
 | u => (Prod.mk (.ints .u64 4 u) [])
def q01_Sar.resK {R : Type} (u : (List Int)) (K : AV → Blks → Option R) : Option R := (fun p : AV × Blks => K p.1 p.2) (Prod.mk (.ints .u64 4 u) [])
def q01_Sar.c (n : Nat) : Abs.Callee := .mk' [] [none, none] q01_Sar.pat (q01_Sar.m n) q01_Sar.resK
end
end
section
theorem q01_Sar.gmap {α β : Type} (h : β → α) (mk0 : (List Int) → β) (n : Nat) (a0 : (List Int)) (a1 : (List Int)) : q01_Sar.g (fun a0 => (h (mk0 a0))) n a0 a1 = (q01_Sar.g mk0 n a0 a1).map h := by
  unfold q01_Sar.g
  exact (bindO_map fun r2 => (bindO_map fun r4 => (bindO_map fun r6 => rfl)))
theorem q01_Sar.run (n : Nat) (a0 : (List Int)) (a1 : (List Int)) : runF (q01_Sar.C n) (q01_Sar.A n) n Try.f80 [(.ints .u64 4 a0), (.ints .u64 4 a1)] [] (fun v o => some (v, o)) = q01_Sar.g (fun a0 => ((Prod.mk (.ints .u64 4 a0) []) : AV × Blks)) n a0 a1 := by kernel_rfl
theorem q01_Sar.call (hmix : Try.prog.follows .mixedOrders = true) (n : Nat) (t : ((List Int) × (List Int))) (u) (h : q01_Sar.m n t = some u) : FnC Try.prog (fun _ => .any) 80 (q01_Sar.shape t).1 (q01_Sar.shape t).2 (q01_Sar.res u).1 (q01_Sar.res u).2 := by
  have hg : ∀ f m, (q01_Sar.C n).Γ f = some m → CalleeS Try.prog (fun _ => .any) f m := by
    intro f m hm
    unfold q01_Sar.C at hm
    simp only at hm
    first
    | (cases hm; done)
    | (split at hm <;> first
    | (cases hm; exact q01_far.s hmix n)
    | (cases hm; exact q01_neg.s hmix n)
    | (cases hm; exact q01_shift.s hmix n)
    | (cases hm; done))
  have hb : Try.f80.body = some (Try.f80.body.getD .skip) := by kernel_rfl
  refine runF_calls (C := q01_Sar.C n) (A := q01_Sar.A n) (n := n) (fn := Try.f80) hg hmix Try.func80 hb ?_ ?_ (by decide) rfl rfl (by show 2 ≤ Try.f80.ntmps; decide) ?_
  · rw [show loopsIn (Try.f80.body.getD .skip) = [] by kernel_rfl]
    intro b hb
    cases hb
  · intro a ha m hm
    cases (show none = some m from hm)
  · rw [show runF (q01_Sar.C n) (q01_Sar.A n) n Try.f80 (q01_Sar.shape t).1 (q01_Sar.shape t).2 (fun v o => some (v, o)) = _ from q01_Sar.run n t.1 t.2]
    have e := q01_Sar.gmap q01_Sar.res (fun a0 => a0) n t.1 t.2
    unfold q01_Sar.m at h
    rw [h] at e
    exact e
theorem q01_Sar.s (hmix : Try.prog.follows .mixedOrders = true) (n : Nat) : CalleeS Try.prog (fun _ => .any) 80 (q01_Sar.c n) :=
  CalleeS.of (res := q01_Sar.res) (shape := q01_Sar.shape) (fun R u K => rfl) (fun args lent t h => by
    unfold q01_Sar.pat at h
    split at h
    · cases h; rfl
    · cases h) fun t u h => (q01_Sar.call hmix n t u h).ok Try.func80 (by decide) (by kernel_rfl)
end
section
noncomputable section
noncomputable def q01_Extend.C (n : Nat) : Ctx := ⟨Try.prog, (fun _ => .any), fun f => match f with
 | 55 => some (q01_Small.c n)
 | 122 => some (q01_bit.c n)
 | 126 => some (q01_with.c n)
 | _ => none⟩
def q01_Extend.live : Nat → List Nat × List Nat := fun k => match k with
 | 6 => ([8, 3, 7, 4], [3, 4])
 | _ => ([], [])
def q01_Extend.jlive : Nat → List Nat × List Nat := fun k => match k with
 | _ => ([], [])
def q01_Extend.l6_0.r {α : Type} (mk0 : (List Int) → (List Int) → α) (n : Nat) (rc : Int → Int → (List Int) → (List Int) → Option α)  (x0 : Int) (x1 : Int) (x2 : (List Int)) (x3 : (List Int)) : Option α :=
  if (decide (x0 < 256)) = true then
   bindO (q01_bit.m n (Prod.mk x2 x1)) fun r6 =>
    bindO (q01_with.m n (Prod.mk x2 (Prod.mk x0 r6))) fun r8 =>
     rc (IntKind.wrap .i64 (x0 + 1)) x1 r8 x3
  else
   some (mk0 x2 x3)
def q01_Extend.l6_0.g {α : Type} (mk0 : (List Int) → (List Int) → α) (n : Nat) : Nat → Int → Int → (List Int) → (List Int) → Option α
 | 0, _, _, _, _ => none
 | m + 1, x0, x1, x2, x3 => q01_Extend.l6_0.r mk0 n (fun y0 y1 y2 y3 => q01_Extend.l6_0.g mk0 n m y0 y1 y2 y3)  x0 x1 x2 x3
def q01_Extend.l6_0.m (n m : Nat) (t : (Int × (Int × ((List Int) × (List Int))))) : Option ((List Int) × (List Int)) := q01_Extend.l6_0.g (fun a0 a1 => (a0, a1)) n m t.1 t.2.1 t.2.2.1 t.2.2.2
def q01_Extend.l6_0.pat : St → Option (Int × (Int × ((List Int) × (List Int))))
 | (St.mk [(.int .i64 x0), (.ptr 0 []), (.int .i64 x1), (.ptr 1 [])] [(some (.var (.ints .u64 4 x2))), (some (.var (.ints .u64 4 x3)))]) => some (x0, x1, x2, x3)
 | _ => none
def q01_Extend.l6_0.shape (t : (Int × (Int × ((List Int) × (List Int))))) : St := (St.mk [(.int .i64 t.1), (.ptr 0 []), (.int .i64 t.2.1), (.ptr 1 [])] [(some (.var (.ints .u64 4 t.2.2.1))), (some (.var (.ints .u64 4 t.2.2.2)))])
def q01_Extend.l6_0.res : ((List Int) × (List Int)) → Ex × St
 | u => (Prod.mk (.exit 0) (St.mk [(.ptr 0 []), (.ptr 1 [])] [(some (.var (.ints .u64 4 u.1))), (some (.var (.ints .u64 4 u.2)))]))
def q01_Extend.l6_0.resK {R : Type} (u : ((List Int) × (List Int))) (K : Ex → St → Option R) : Option R := (fun p : Ex × St => K p.1 p.2) (Prod.mk (.exit 0) (St.mk [(.ptr 0 []), (.ptr 1 [])] [(some (.var (.ints .u64 4 u.1))), (some (.var (.ints .u64 4 u.2)))]))
noncomputable def q01_Extend.A (n : Nat) : Ann := ⟨Try.f105.ntmps, 0, q01_Extend.live, [], [none], fun k => match k with
 | 6 => some (.mk' q01_Extend.l6_0.pat (q01_Extend.l6_0.m n n) q01_Extend.l6_0.resK)
 | _ => none, q01_Extend.jlive, lookJ []⟩
noncomputable def q01_Extend.b0 : Code := (loopsIn (Try.f105.body.getD .skip)).getD 0 .skip
def q01_Extend.g {α : Type} (mk0 : (List Int) → α) (n : Nat) (a0 : (List Int)) (a1 : (List Int)) : Option α :=
 bindO (q01_Small.m n a0) fun r2 =>
  if (!(Prod.snd r2)) = true then
   some (mk0 a1)
  else
   if (decide ((Prod.fst r2) ≥ 31)) = true then
    some (mk0 a1)
   else
    bindO (q01_Extend.l6_0.m n n ((IntKind.wrap .i64 ((IntKind.wrap .i64 ((IntKind.wrap .i64 (8 * (IntKind.wrap .i64 (Prod.fst r2)))) + 7)) + 1)), (IntKind.wrap .i64 ((IntKind.wrap .i64 (8 * (IntKind.wrap .i64 (Prod.fst r2)))) + 7)), a1, [0, 0, 0, 0])) fun r8 =>
     some (mk0 (Prod.fst r8))
def q01_Extend.m (n : Nat) (t : ((List Int) × (List Int))) : Option (List Int) := q01_Extend.g (fun a0 => a0) n t.1 t.2
def q01_Extend.pat : List AV → Blks → Option ((List Int) × (List Int))
 | [(.ints .u64 4 a0), (.ints .u64 4 a1)], [] => some (a0, a1)
 | _, _ => none
def q01_Extend.shape (t : ((List Int) × (List Int))) : List AV × Blks := ([(.ints .u64 4 t.1), (.ints .u64 4 t.2)], [])
def q01_Extend.res : (List Int) → AV × Blks
 | u => (Prod.mk (.ints .u64 4 u) [])
def q01_Extend.resK {R : Type} (u : (List Int)) (K : AV → Blks → Option R) : Option R := (fun p : AV × Blks => K p.1 p.2) (Prod.mk (.ints .u64 4 u) [])
def q01_Extend.c (n : Nat) : Abs.Callee := .mk' [] [none, none] q01_Extend.pat (q01_Extend.m n) q01_Extend.resK
end
end
