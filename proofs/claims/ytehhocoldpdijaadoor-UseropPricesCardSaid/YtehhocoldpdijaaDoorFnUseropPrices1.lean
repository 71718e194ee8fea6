/- What the program's functions compute, as plain functions, each with its proof: the function does just that. Condition: the plain function has an answer. -/
import Derived.Test.YtehhocoldpdijaaDoorAbsF1
import Derived.Test.YtehhocoldpdijaaDoorAbsF6
import Derived.Test.YtehhocoldpdijaaDoorProg
set_option linter.unusedVariables false
set_option linter.unusedSimpArgs false
set_option maxRecDepth 100000
open Go Go.Abs Go.Proofs
section
namespace Go.Abs
open Go
def kecKeys : List Int := [1, 32898, 9223372036854808714, 9223372039002292224, 32907, 2147483649, 9223372039002292353, 9223372036854808585, 138, 136, 2147516425, 2147483658, 2147516555, 9223372036854775947, 9223372036854808713, 9223372036854808579, 9223372036854808578, 9223372036854775936, 32778, 9223372039002259466, 9223372039002292353, 9223372036854808704, 2147483649, 9223372039002292232]
def kecTo : List Int := [10, 7, 11, 17, 18, 3, 5, 16, 8, 21, 24, 4, 15, 23, 19, 13, 12, 2, 20, 14, 22, 9, 6, 1]
def kecTurns : List Int := [1, 3, 6, 10, 15, 21, 28, 36, 45, 55, 2, 14, 27, 41, 56, 8, 25, 43, 62, 18, 39, 61, 20, 44]
def abiG : Nat → AV := fun g => match g with
  | 2 => .ints .u64 24 kecKeys
  | 3 => .ints .i64 24 kecTo
  | 4 => .ints .i64 24 kecTurns
  | _ => .any
end Go.Abs
end
section
noncomputable section
noncomputable def q01_Bytes.C (n : Nat) : Ctx := ⟨Tryd.prog, abiG, fun f => match f with
 | _ => none, fun _ => false⟩
def q01_Bytes.live : Nat → List Nat × List Nat := fun k => match k with
 | 3 => ([4, 3, 1], [3])
 | _ => ([], [])
def q01_Bytes.jlive : Nat → List Nat × List Nat := fun k => match k with
 | _ => ([], [])
def q01_Bytes.l3_0.r {α : Type} (mk0 : (List Int) → α) (n : Nat) (rc : Int → (List Int) → (List Int) → Option α)  (x0 : Int) (x1 : (List Int)) (x2 : (List Int)) : Option α :=
  if (decide (x0 < 32)) = true then
   if 0 ≤ (IntKind.wrap .i64 (Int.tdiv (IntKind.wrap .i64 (31 - x0)) 8)) then
    if (IntKind.wrap .i64 (Int.tdiv (IntKind.wrap .i64 (31 - x0)) 8)) < 4 then
     if 0 ≤ (IntKind.wrap .u64 (IntKind.wrap .i64 ((Int.tmod (IntKind.wrap .i64 (31 - x0)) 8) * 8))) then
      if ((((List.length x1) + 1) * 1) ≤ 70368744177664 ∧ ((List.length x1) + 1) ≤ 9223372036854775807) then
       rc (IntKind.wrap .i64 (x0 + 1)) (x1 ++ [(IntKind.wrap .u8 (ishr .u64 (List.getD x2 (Int.toNat (IntKind.wrap .i64 (Int.tdiv (IntKind.wrap .i64 (31 - x0)) 8))) 0) (IntKind.wrap .u64 (IntKind.wrap .i64 ((Int.tmod (IntKind.wrap .i64 (31 - x0)) 8) * 8)))))]) x2
      else
       none
     else
      none
    else
     none
   else
    none
  else
   some (mk0 x1)
def q01_Bytes.l3_0.g {α : Type} (mk0 : (List Int) → α) (n : Nat) : Nat → Int → (List Int) → (List Int) → Option α
 | 0, _, _, _ => none
 | m + 1, x0, x1, x2 => q01_Bytes.l3_0.r mk0 n (fun y0 y1 y2 => q01_Bytes.l3_0.g mk0 n m y0 y1 y2)  x0 x1 x2
def q01_Bytes.l3_0.m (n m : Nat) (t : (Int × ((List Int) × (List Int)))) : Option (List Int) := q01_Bytes.l3_0.g (fun a0 => a0) n m t.1 t.2.1 t.2.2
def q01_Bytes.l3_0.pat : St → Option (Int × ((List Int) × (List Int)))
 | (St.mk [(.int .i64 x0), (.own 0 1), (.ptr 1 [])] [(some (.ints .u8 x1)), (some (.var (.ints .u64 4 x2)))]) => some (x0, x1, x2)
 | _ => none
def q01_Bytes.l3_0.shape (t : (Int × ((List Int) × (List Int)))) : St := (St.mk [(.int .i64 t.1), (.own 0 1), (.ptr 1 [])] [(some (.ints .u8 t.2.1)), (some (.var (.ints .u64 4 t.2.2)))])
def q01_Bytes.l3_0.res : (List Int) → Ex × St
 | u => (Prod.mk (.exit 0) (St.mk [(.own 0 1)] [(some (.ints .u8 u))]))
def q01_Bytes.l3_0.resK {R : Type} (u : (List Int)) (K : Ex → St → Option R) : Option R := (fun p : Ex × St => K p.1 p.2) (Prod.mk (.exit 0) (St.mk [(.own 0 1)] [(some (.ints .u8 u))]))
noncomputable def q01_Bytes.A (n : Nat) : Ann := ⟨Tryd.f55.ntmps, 0, q01_Bytes.live, [(3, (.ints .u8))], [(some (.ints .u8))], fun k => match k with
 | 3 => some (.mk' q01_Bytes.l3_0.pat (q01_Bytes.l3_0.m n n) q01_Bytes.l3_0.resK)
 | _ => none, q01_Bytes.jlive, lookJ []⟩
noncomputable def q01_Bytes.b0 : Code := (loopsIn (Tryd.f55.body.getD .skip)).getD 0 .skip
def q01_Bytes.g {α : Type} (mk0 : (List Int) → α) (n : Nat) (a0 : (List Int)) : Option α :=
 bindO (q01_Bytes.l3_0.m n n (0, [], a0)) fun r2 =>
  some (mk0 r2)
def q01_Bytes.m (n : Nat) (t : (List Int)) : Option (List Int) := q01_Bytes.g (fun a0 => a0) n t
def q01_Bytes.pat : List AV → Blks → Option (List Int)
 | [(.ints .u64 4 a0)], [] => some a0
 | _, _ => none
def q01_Bytes.shape (t : (List Int)) : List AV × Blks := ([(.ints .u64 4 t)], [])
def q01_Bytes.res : (List Int) → AV × Blks
 | u => (Prod.mk (.own 0 1) [(some (.ints .u8 u))])
def q01_Bytes.resK {R : Type} (u : (List Int)) (K : AV → Blks → Option R) : Option R := (fun p : AV × Blks => K p.1 p.2) (Prod.mk (.own 0 1) [(some (.ints .u8 u))])
def q01_Bytes.c (n : Nat) : Abs.Callee := .mk' [] [none] q01_Bytes.pat (q01_Bytes.m n) q01_Bytes.resK
end
end
section
theorem q01_Bytes.l3_0.rmap {α β : Type} (h : β → α) (mk0 : (List Int) → β) (n : Nat) (f : Int → (List Int) → (List Int) → Option β)  (x0 : Int) (x1 : (List Int)) (x2 : (List Int)) : q01_Bytes.l3_0.r (fun a0 => (h (mk0 a0))) n (fun y0 y1 y2 => (f y0 y1 y2).map h) x0 x1 x2 = (q01_Bytes.l3_0.r mk0 n f x0 x1 x2).map h := by
  unfold q01_Bytes.l3_0.r
  exact (ite_map (ite_map (ite_map (ite_map (ite_map rfl rfl) rfl) rfl) rfl) rfl)
theorem q01_Bytes.l3_0.gmap {α β : Type} (h : β → α) (mk0 : (List Int) → β) (n : Nat) : ∀ (m : Nat) (x0 : Int) (x1 : (List Int)) (x2 : (List Int)), q01_Bytes.l3_0.g (fun a0 => (h (mk0 a0))) n m x0 x1 x2 = (q01_Bytes.l3_0.g mk0 n m x0 x1 x2).map h
  | 0, _, _, _ => rfl
  | m + 1, x0, x1, x2 => by
    unfold q01_Bytes.l3_0.g
    rw [← q01_Bytes.l3_0.rmap]
    congr
    · funext y0 y1 y2; exact q01_Bytes.l3_0.gmap h mk0 n m y0 y1 y2
theorem q01_Bytes.l3_0.pat_shape : ∀ st t, q01_Bytes.l3_0.pat st = some t → st = q01_Bytes.l3_0.shape t := by
  intro st t h
  unfold q01_Bytes.l3_0.pat at h
  split at h
  · cases h; rfl
  · cases h
theorem q01_Bytes.l3_0.round (n : Nat) (rc : St → Option (Ex × St)) (x0 : Int) (x1 : (List Int)) (x2 : (List Int)) : roundOf (q01_Bytes.C n) (q01_Bytes.A n) n q01_Bytes.b0 rc ((St.mk [(.int .i64 x0), (.own 0 1), (.ptr 1 [])] [(some (.ints .u8 x1)), (some (.var (.ints .u64 4 x2)))])) = q01_Bytes.l3_0.r (fun a0 => ((Prod.mk (.exit 0) (St.mk [(.own 0 1)] [(some (.ints .u8 a0))])) : Ex × St)) n (fun y0 y1 y2 => rc ((St.mk [(.int .i64 y0), (.own 0 1), (.ptr 1 [])] [(some (.ints .u8 y1)), (some (.var (.ints .u64 4 y2)))]))) x0 x1 x2 := by kernel_rfl
theorem q01_Bytes.l3_0.loop' (n : Nat) : ∀ (m : Nat) (t : (Int × ((List Int) × (List Int)))), loopOf (roundOf (q01_Bytes.C n) (q01_Bytes.A n) n q01_Bytes.b0) m (q01_Bytes.l3_0.shape t) = q01_Bytes.l3_0.g (fun a0 => ((Prod.mk (.exit 0) (St.mk [(.own 0 1)] [(some (.ints .u8 a0))])) : Ex × St)) n m t.1 t.2.1 t.2.2 :=
  loop_of_round (shape := q01_Bytes.l3_0.shape) (body := roundOf (q01_Bytes.C n) (q01_Bytes.A n) n q01_Bytes.b0) (g := fun m t => q01_Bytes.l3_0.g (fun a0 => ((Prod.mk (.exit 0) (St.mk [(.own 0 1)] [(some (.ints .u8 a0))])) : Ex × St)) n m t.1 t.2.1 t.2.2) (fun t => rfl)
    fun m t ih => (q01_Bytes.l3_0.round n (loopOf (roundOf (q01_Bytes.C n) (q01_Bytes.A n) n q01_Bytes.b0) m) t.1 t.2.1 t.2.2).trans (congrFun (congrFun (congrFun (congrArg (q01_Bytes.l3_0.r (fun a0 => ((Prod.mk (.exit 0) (St.mk [(.own 0 1)] [(some (.ints .u8 a0))])) : Ex × St)) n) (funext fun y0 => funext fun y1 => funext fun y2 => ih (y0, y1, y2))) t.1) t.2.1) t.2.2)
theorem q01_Bytes.l3_0.loop (n m : Nat) (t : (Int × ((List Int) × (List Int)))) : loopOf (roundOf (q01_Bytes.C n) (q01_Bytes.A n) n q01_Bytes.b0) m (q01_Bytes.l3_0.shape t) = (q01_Bytes.l3_0.m n m t).map q01_Bytes.l3_0.res :=
  (q01_Bytes.l3_0.loop' n m t).trans (q01_Bytes.l3_0.gmap q01_Bytes.l3_0.res (fun a0 => a0) n m t.1 t.2.1 t.2.2)
theorem q01_Bytes.gmap {α β : Type} (h : β → α) (mk0 : (List Int) → β) (n : Nat) (a0 : (List Int)) : q01_Bytes.g (fun a0 => (h (mk0 a0))) n a0 = (q01_Bytes.g mk0 n a0).map h := by
  unfold q01_Bytes.g
  exact (bindO_map fun r2 => rfl)
theorem q01_Bytes.run (n : Nat) (a0 : (List Int)) : runF (q01_Bytes.C n) (q01_Bytes.A n) n Tryd.f55 [(.ints .u64 4 a0)] [] (fun v o => some (v, o)) = q01_Bytes.g (fun a0 => ((Prod.mk (.own 0 1) [(some (.ints .u8 a0))]) : AV × Blks)) n a0 := by kernel_rfl
theorem q01_Bytes.call (hmix : Tryd.prog.follows .mixedOrders = true) (n : Nat) (t : (List Int)) (u) (h : q01_Bytes.m n t = some u) : FnC Tryd.prog abiG 55 (q01_Bytes.shape t).1 (q01_Bytes.shape t).2 (q01_Bytes.res u).1 (q01_Bytes.res u).2 := by
  have hg : ∀ f m, (q01_Bytes.C n).Γ f = some m → CalleeS Tryd.prog abiG f m := by
    intro f m hm
    unfold q01_Bytes.C at hm
    simp only at hm
    first
    | (cases hm; done)
    | (split at hm <;> first
    | (cases hm; done))
  have hb : Tryd.f55.body = some (Tryd.f55.body.getD .skip) := by kernel_rfl
  refine runF_calls (C := q01_Bytes.C n) (A := q01_Bytes.A n) (n := n) (fn := Tryd.f55) hg hmix Tryd.func55 hb ?_ ?_ (by decide) rfl rfl (by show 1 ≤ Tryd.f55.ntmps; decide) ?_
  · rw [show loopsIn (Tryd.f55.body.getD .skip) = [q01_Bytes.b0] by kernel_rfl]
    intro b hb m hm
    simp only [List.mem_cons, List.not_mem_nil, or_false] at hb
    rcases hb with rfl
    · have e : (q01_Bytes.A n).loop (key q01_Bytes.b0) = some (.mk' q01_Bytes.l3_0.pat (q01_Bytes.l3_0.m n n) q01_Bytes.l3_0.resK) := by rw [show key q01_Bytes.b0 = 3 by kernel_rfl]; rfl
      rw [e] at hm
      cases hm
      exact (LoopS.of (res := q01_Bytes.l3_0.res) (fun R u K => rfl) q01_Bytes.l3_0.pat_shape fun t => q01_Bytes.l3_0.loop n n t)
  · intro a ha m hm
    cases (show none = some m from hm)
  · rw [show runF (q01_Bytes.C n) (q01_Bytes.A n) n Tryd.f55 (q01_Bytes.shape t).1 (q01_Bytes.shape t).2 (fun v o => some (v, o)) = _ from q01_Bytes.run n t]
    have e := q01_Bytes.gmap q01_Bytes.res (fun a0 => a0) n t
    unfold q01_Bytes.m at h
    rw [h] at e
    exact e
theorem q01_Bytes.s (hmix : Tryd.prog.follows .mixedOrders = true) (n : Nat) : CalleeS Tryd.prog abiG 55 (q01_Bytes.c n) :=
  CalleeS.of (res := q01_Bytes.res) (shape := q01_Bytes.shape) (fun R u K => rfl) (fun args lent t h => by
    unfold q01_Bytes.pat at h
    split at h
    · cases h; rfl
    · cases h) fun t u h => (q01_Bytes.call hmix n t u h).ok Tryd.func55 (by decide) (by kernel_rfl)
end
section
noncomputable section
noncomputable def q01_bit.C (n : Nat) : Ctx := ⟨Tryd.prog, abiG, fun f => match f with
 | _ => none, fun _ => false⟩
def q01_bit.live : Nat → List Nat × List Nat := fun k => match k with
 | _ => ([], [])
def q01_bit.jlive : Nat → List Nat × List Nat := fun k => match k with
 | _ => ([], [])
noncomputable def q01_bit.A (n : Nat) : Ann := ⟨Tryd.f128.ntmps, 0, q01_bit.live, [], [none], fun k => match k with
 | _ => none, q01_bit.jlive, lookJ []⟩
def q01_bit.g {α : Type} (mk0 : Bool → α) (n : Nat) (a0 : (List Int)) (a1 : Int) : Option α :=
 if 0 ≤ (IntKind.wrap .i64 (Int.tdiv a1 64)) then
  if (IntKind.wrap .i64 (Int.tdiv a1 64)) < 4 then
   if 0 ≤ (IntKind.wrap .u64 (Int.tmod a1 64)) then
    some (mk0 ((ibits BinOp.and .u64 (ishr .u64 (List.getD a0 (Int.toNat (IntKind.wrap .i64 (Int.tdiv a1 64))) 0) (IntKind.wrap .u64 (Int.tmod a1 64))) 1) == 1))
   else
    none
  else
   none
 else
  none
def q01_bit.m (n : Nat) (t : ((List Int) × Int)) : Option Bool := q01_bit.g (fun a0 => a0) n t.1 t.2
def q01_bit.pat : List AV → Blks → Option ((List Int) × Int)
 | [(.ints .u64 4 a0), (.int .i64 a1)], [] => some (a0, a1)
 | _, _ => none
def q01_bit.shape (t : ((List Int) × Int)) : List AV × Blks := ([(.ints .u64 4 t.1), (.int .i64 t.2)], [])
def q01_bit.res : Bool → AV × Blks
 | u => (Prod.mk (.bool u) [])
def q01_bit.resK {R : Type} (u : Bool) (K : AV → Blks → Option R) : Option R := (fun p : AV × Blks => K p.1 p.2) (Prod.mk (.bool u) [])
def q01_bit.c (n : Nat) : Abs.Callee := .mk' [] [none, none] q01_bit.pat (q01_bit.m n) q01_bit.resK
end
end
section
theorem q01_bit.gmap {α β : Type} (h : β → α) (mk0 : Bool → β) (n : Nat) (a0 : (List Int)) (a1 : Int) : q01_bit.g (fun a0 => (h (mk0 a0))) n a0 a1 = (q01_bit.g mk0 n a0 a1).map h := by
  unfold q01_bit.g
  exact (ite_map (ite_map (ite_map rfl rfl) rfl) rfl)
theorem q01_bit.run (n : Nat) (a0 : (List Int)) (a1 : Int) : runF (q01_bit.C n) (q01_bit.A n) n Tryd.f128 [(.ints .u64 4 a0), (.int .i64 a1)] [] (fun v o => some (v, o)) = q01_bit.g (fun a0 => ((Prod.mk (.bool a0) []) : AV × Blks)) n a0 a1 := by kernel_rfl
theorem q01_bit.call (hmix : Tryd.prog.follows .mixedOrders = true) (n : Nat) (t : ((List Int) × Int)) (u) (h : q01_bit.m n t = some u) : FnC Tryd.prog abiG 128 (q01_bit.shape t).1 (q01_bit.shape t).2 (q01_bit.res u).1 (q01_bit.res u).2 := by
  have hg : ∀ f m, (q01_bit.C n).Γ f = some m → CalleeS Tryd.prog abiG f m := by
    intro f m hm
    unfold q01_bit.C at hm
    simp only at hm
    first
    | (cases hm; done)
    | (split at hm <;> first
    | (cases hm; done))
  have hb : Tryd.f128.body = some (Tryd.f128.body.getD .skip) := by kernel_rfl
  refine runF_calls (C := q01_bit.C n) (A := q01_bit.A n) (n := n) (fn := Tryd.f128) hg hmix Tryd.func128 hb ?_ ?_ (by decide) rfl rfl (by show 2 ≤ Tryd.f128.ntmps; decide) ?_
  · rw [show loopsIn (Tryd.f128.body.getD .skip) = [] by kernel_rfl]
    intro b hb
    cases hb
  · intro a ha m hm
    cases (show none = some m from hm)
  · rw [show runF (q01_bit.C n) (q01_bit.A n) n Tryd.f128 (q01_bit.shape t).1 (q01_bit.shape t).2 (fun v o => some (v, o)) = _ from q01_bit.run n t.1 t.2]
    have e := q01_bit.gmap q01_bit.res (fun a0 => a0) n t.1 t.2
    unfold q01_bit.m at h
    rw [h] at e
    exact e
theorem q01_bit.s (hmix : Tryd.prog.follows .mixedOrders = true) (n : Nat) : CalleeS Tryd.prog abiG 128 (q01_bit.c n) :=
  CalleeS.of (res := q01_bit.res) (shape := q01_bit.shape) (fun R u K => rfl) (fun args lent t h => by
    unfold q01_bit.pat at h
    split at h
    · cases h; rfl
    · cases h) fun t u h => (q01_bit.call hmix n t u h).ok Tryd.func128 (by decide) (by kernel_rfl)
end
section
noncomputable section
def bits_Sub64.m (n : Nat) (t : (Int × (Int × Int))) : Option (Int × Int) := xSub64 t
def bits_Sub64.pat : List AV → Blks → Option (Int × (Int × Int))
 | [(.int .u64 a0), (.int .u64 a1), (.int .u64 a2)], [] => some (a0, a1, a2)
 | _, _ => none
def bits_Sub64.shape (t : (Int × (Int × Int))) : List AV × Blks := ([(.int .u64 t.1), (.int .u64 t.2.1), (.int .u64 t.2.2)], [])
def bits_Sub64.res : (Int × Int) → AV × Blks
 | u => (Prod.mk (.tup [(.int .u64 u.1), (.int .u64 u.2)]) [])
def bits_Sub64.resK {R : Type} (u : (Int × Int)) (K : AV → Blks → Option R) : Option R := (fun p : AV × Blks => K p.1 p.2) (Prod.mk (.tup [(.int .u64 u.1), (.int .u64 u.2)]) [])
def bits_Sub64.c (n : Nat) : Abs.Callee := .mk' [] [none, none, none] bits_Sub64.pat (bits_Sub64.m n) bits_Sub64.resK
end
end
section
noncomputable section
noncomputable def word_Sub.C (n : Nat) : Ctx := ⟨Tryd.prog, abiG, fun f => match f with
 | 119 => some (bits_Sub64.c n)
 | _ => none, fun _ => false⟩
def word_Sub.live : Nat → List Nat × List Nat := fun k => match k with
 | 4 => ([9, 2, 3, 7, 6, 4], [6, 7, 4])
 | _ => ([], [])
def word_Sub.jlive : Nat → List Nat × List Nat := fun k => match k with
 | _ => ([], [])
def word_Sub.l4_0.r {α : Type} (mk0 : Int → (List Int) → (List Int) → α) (n : Nat) (rc : Int → Int → (List Int) → (List Int) → (List Int) → (List Int) → Option α)  (x0 : Int) (x1 : Int) (x2 : (List Int)) (x3 : (List Int)) (x4 : (List Int)) (x5 : (List Int)) : Option α :=
  if (decide (x0 < 4)) = true then
   if 0 ≤ x0 then
    if x0 < 4 then
     if 0 ≤ x0 then
      if x0 < 4 then
       bindO (bits_Sub64.m n (Prod.mk (List.getD x2 (Int.toNat x0) 0) (Prod.mk (List.getD x3 (Int.toNat x0) 0) x1))) fun r14 =>
        if 0 ≤ x0 then
         if x0 < 4 then
          rc (IntKind.wrap .i64 (x0 + 1)) (Prod.snd r14) x2 x3 (List.set x4 (Int.toNat x0) (Prod.fst r14)) x5
         else
          none
        else
         none
      else
       none
     else
      none
    else
     none
   else
    none
  else
   some (mk0 x1 x4 x5)
def word_Sub.l4_0.g {α : Type} (mk0 : Int → (List Int) → (List Int) → α) (n : Nat) : Nat → Int → Int → (List Int) → (List Int) → (List Int) → (List Int) → Option α
 | 0, _, _, _, _, _, _ => none
 | m + 1, x0, x1, x2, x3, x4, x5 => word_Sub.l4_0.r mk0 n (fun y0 y1 y2 y3 y4 y5 => word_Sub.l4_0.g mk0 n m y0 y1 y2 y3 y4 y5)  x0 x1 x2 x3 x4 x5
def word_Sub.l4_0.m (n m : Nat) (t : (Int × (Int × ((List Int) × ((List Int) × ((List Int) × (List Int))))))) : Option (Int × ((List Int) × (List Int))) := word_Sub.l4_0.g (fun a0 a1 a2 => (a0, a1, a2)) n m t.1 t.2.1 t.2.2.1 t.2.2.2.1 t.2.2.2.2.1 t.2.2.2.2.2
def word_Sub.l4_0.pat : St → Option (Int × (Int × ((List Int) × ((List Int) × ((List Int) × (List Int))))))
 | (St.mk [(.int .i64 x0), (.ptr 0 []), (.ptr 1 []), (.int .u64 x1), (.ptr 2 []), (.ptr 3 [])] [(some (.var (.ints .u64 4 x2))), (some (.var (.ints .u64 4 x3))), (some (.var (.ints .u64 4 x4))), (some (.var (.ints .u64 4 x5)))]) => some (x0, x1, x2, x3, x4, x5)
 | _ => none
def word_Sub.l4_0.shape (t : (Int × (Int × ((List Int) × ((List Int) × ((List Int) × (List Int))))))) : St := (St.mk [(.int .i64 t.1), (.ptr 0 []), (.ptr 1 []), (.int .u64 t.2.1), (.ptr 2 []), (.ptr 3 [])] [(some (.var (.ints .u64 4 t.2.2.1))), (some (.var (.ints .u64 4 t.2.2.2.1))), (some (.var (.ints .u64 4 t.2.2.2.2.1))), (some (.var (.ints .u64 4 t.2.2.2.2.2)))])
def word_Sub.l4_0.res : (Int × ((List Int) × (List Int))) → Ex × St
 | u => (Prod.mk (.exit 0) (St.mk [(.ptr 0 []), (.int .u64 u.1), (.ptr 1 [])] [(some (.var (.ints .u64 4 u.2.1))), (some (.var (.ints .u64 4 u.2.2)))]))
def word_Sub.l4_0.resK {R : Type} (u : (Int × ((List Int) × (List Int)))) (K : Ex → St → Option R) : Option R := (fun p : Ex × St => K p.1 p.2) (Prod.mk (.exit 0) (St.mk [(.ptr 0 []), (.int .u64 u.1), (.ptr 1 [])] [(some (.var (.ints .u64 4 u.2.1))), (some (.var (.ints .u64 4 u.2.2)))]))
noncomputable def word_Sub.A (n : Nat) : Ann := ⟨Tryd.f104.ntmps, 0, word_Sub.live, [], [none, none], fun k => match k with
 | 4 => some (.mk' word_Sub.l4_0.pat (word_Sub.l4_0.m n n) word_Sub.l4_0.resK)
 | _ => none, word_Sub.jlive, lookJ []⟩
noncomputable def word_Sub.b0 : Code := (loopsIn (Tryd.f104.body.getD .skip)).getD 0 .skip
def word_Sub.g {α : Type} (mk0 : (List Int) → Bool → α) (n : Nat) (a0 : (List Int)) (a1 : (List Int)) : Option α :=
 bindO (word_Sub.l4_0.m n n (0, 0, a0, a1, [0, 0, 0, 0], [0, 0, 0, 0])) fun r2 =>
  some (mk0 (Prod.fst r2.2) ((Prod.fst r2) != 0))
def word_Sub.m (n : Nat) (t : ((List Int) × (List Int))) : Option ((List Int) × Bool) := word_Sub.g (fun a0 a1 => (a0, a1)) n t.1 t.2
def word_Sub.pat : List AV → Blks → Option ((List Int) × (List Int))
 | [(.ints .u64 4 a0), (.ints .u64 4 a1)], [] => some (a0, a1)
 | _, _ => none
def word_Sub.shape (t : ((List Int) × (List Int))) : List AV × Blks := ([(.ints .u64 4 t.1), (.ints .u64 4 t.2)], [])
def word_Sub.res : ((List Int) × Bool) → AV × Blks
 | u => (Prod.mk (.tup [(.ints .u64 4 u.1), (.bool u.2)]) [])
def word_Sub.resK {R : Type} (u : ((List Int) × Bool)) (K : AV → Blks → Option R) : Option R := (fun p : AV × Blks => K p.1 p.2) (Prod.mk (.tup [(.ints .u64 4 u.1), (.bool u.2)]) [])
def word_Sub.c (n : Nat) : Abs.Callee := .mk' [] [none, none] word_Sub.pat (word_Sub.m n) word_Sub.resK
end
end
section
noncomputable section
noncomputable def word_Cmp.C (n : Nat) : Ctx := ⟨Tryd.prog, abiG, fun f => match f with
 | 104 => some (word_Sub.c n)
 | _ => none, fun _ => false⟩
def word_Cmp.live : Nat → List Nat × List Nat := fun k => match k with
 | _ => ([], [])
def word_Cmp.jlive : Nat → List Nat × List Nat := fun k => match k with
 | _ => ([], [])
noncomputable def word_Cmp.A (n : Nat) : Ann := ⟨Tryd.f86.ntmps, 0, word_Cmp.live, [], [none], fun k => match k with
 | _ => none, word_Cmp.jlive, lookJ []⟩
def word_Cmp.g {α : Type} (mk0 : Int → α) (n : Nat) (a0 : (List Int)) (a1 : (List Int)) : Option α :=
 bindO (word_Sub.m n (Prod.mk a0 a1)) fun r2 =>
  if (Prod.snd r2) = true then
   some (mk0 (-1))
  else
   if (a0 == a1) = true then
    some (mk0 0)
   else
    some (mk0 1)
def word_Cmp.m (n : Nat) (t : ((List Int) × (List Int))) : Option Int := word_Cmp.g (fun a0 => a0) n t.1 t.2
def word_Cmp.pat : List AV → Blks → Option ((List Int) × (List Int))
 | [(.ints .u64 4 a0), (.ints .u64 4 a1)], [] => some (a0, a1)
 | _, _ => none
def word_Cmp.shape (t : ((List Int) × (List Int))) : List AV × Blks := ([(.ints .u64 4 t.1), (.ints .u64 4 t.2)], [])
def word_Cmp.res : Int → AV × Blks
 | u => (Prod.mk (.int .i64 u) [])
def word_Cmp.resK {R : Type} (u : Int) (K : AV → Blks → Option R) : Option R := (fun p : AV × Blks => K p.1 p.2) (Prod.mk (.int .i64 u) [])
def word_Cmp.c (n : Nat) : Abs.Callee := .mk' [] [none, none] word_Cmp.pat (word_Cmp.m n) word_Cmp.resK
end
end
section
theorem bits_Sub64.ok (hmix : Tryd.prog.follows .mixedOrders = true) (n : Nat) (t) (u) (h : bits_Sub64.m n t = some u) : FnOK Tryd.prog abiG 119 (bits_Sub64.shape t).1 (bits_Sub64.shape t).2 (bits_Sub64.res u).1 (bits_Sub64.res u).2 :=
  xSub64_ok Tryd.func119 (by kernel_rfl) (by kernel_rfl) (by kernel_rfl) (show Go.Extern.find Tryd.f119 = some sub64Entry by kernel_rfl) t u h
theorem bits_Sub64.s (hmix : Tryd.prog.follows .mixedOrders = true) (n : Nat) : CalleeS Tryd.prog abiG 119 (bits_Sub64.c n) :=
  CalleeS.of (res := bits_Sub64.res) (shape := bits_Sub64.shape) (fun R u K => rfl) (fun args lent t h => by
    unfold bits_Sub64.pat at h
    split at h
    · cases h; rfl
    · cases h) fun t u h => bits_Sub64.ok hmix n t u h
end
section
theorem word_Sub.l4_0.rmap {α β : Type} (h : β → α) (mk0 : Int → (List Int) → (List Int) → β) (n : Nat) (f : Int → Int → (List Int) → (List Int) → (List Int) → (List Int) → Option β)  (x0 : Int) (x1 : Int) (x2 : (List Int)) (x3 : (List Int)) (x4 : (List Int)) (x5 : (List Int)) : word_Sub.l4_0.r (fun a0 a1 a2 => (h (mk0 a0 a1 a2))) n (fun y0 y1 y2 y3 y4 y5 => (f y0 y1 y2 y3 y4 y5).map h) x0 x1 x2 x3 x4 x5 = (word_Sub.l4_0.r mk0 n f x0 x1 x2 x3 x4 x5).map h := by
  unfold word_Sub.l4_0.r
  exact (ite_map (ite_map (ite_map (ite_map (ite_map (bindO_map fun r14 => (ite_map (ite_map rfl rfl) rfl)) rfl) rfl) rfl) rfl) rfl)
theorem word_Sub.l4_0.gmap {α β : Type} (h : β → α) (mk0 : Int → (List Int) → (List Int) → β) (n : Nat) : ∀ (m : Nat) (x0 : Int) (x1 : Int) (x2 : (List Int)) (x3 : (List Int)) (x4 : (List Int)) (x5 : (List Int)), word_Sub.l4_0.g (fun a0 a1 a2 => (h (mk0 a0 a1 a2))) n m x0 x1 x2 x3 x4 x5 = (word_Sub.l4_0.g mk0 n m x0 x1 x2 x3 x4 x5).map h
  | 0, _, _, _, _, _, _ => rfl
  | m + 1, x0, x1, x2, x3, x4, x5 => by
    unfold word_Sub.l4_0.g
    rw [← word_Sub.l4_0.rmap]
    congr
    · funext y0 y1 y2 y3 y4 y5; exact word_Sub.l4_0.gmap h mk0 n m y0 y1 y2 y3 y4 y5
theorem word_Sub.l4_0.pat_shape : ∀ st t, word_Sub.l4_0.pat st = some t → st = word_Sub.l4_0.shape t := by
  intro st t h
  unfold word_Sub.l4_0.pat at h
  split at h
  · cases h; rfl
  · cases h
theorem word_Sub.l4_0.round (n : Nat) (rc : St → Option (Ex × St)) (x0 : Int) (x1 : Int) (x2 : (List Int)) (x3 : (List Int)) (x4 : (List Int)) (x5 : (List Int)) : roundOf (word_Sub.C n) (word_Sub.A n) n word_Sub.b0 rc ((St.mk [(.int .i64 x0), (.ptr 0 []), (.ptr 1 []), (.int .u64 x1), (.ptr 2 []), (.ptr 3 [])] [(some (.var (.ints .u64 4 x2))), (some (.var (.ints .u64 4 x3))), (some (.var (.ints .u64 4 x4))), (some (.var (.ints .u64 4 x5)))])) = word_Sub.l4_0.r (fun a0 a1 a2 => ((Prod.mk (.exit 0) (St.mk [(.ptr 0 []), (.int .u64 a0), (.ptr 1 [])] [(some (.var (.ints .u64 4 a1))), (some (.var (.ints .u64 4 a2)))])) : Ex × St)) n (fun y0 y1 y2 y3 y4 y5 => rc ((St.mk [(.int .i64 y0), (.ptr 0 []), (.ptr 1 []), (.int .u64 y1), (.ptr 2 []), (.ptr 3 [])] [(some (.var (.ints .u64 4 y2))), (some (.var (.ints .u64 4 y3))), (some (.var (.ints .u64 4 y4))), (some (.var (.ints .u64 4 y5)))]))) x0 x1 x2 x3 x4 x5 := by kernel_rfl
theorem word_Sub.l4_0.loop' (n : Nat) : ∀ (m : Nat) (t : (Int × (Int × ((List Int) × ((List Int) × ((List Int) × (List Int))))))), loopOf (roundOf (word_Sub.C n) (word_Sub.A n) n word_Sub.b0) m (word_Sub.l4_0.shape t) = word_Sub.l4_0.g (fun a0 a1 a2 => ((Prod.mk (.exit 0) (St.mk [(.ptr 0 []), (.int .u64 a0), (.ptr 1 [])] [(some (.var (.ints .u64 4 a1))), (some (.var (.ints .u64 4 a2)))])) : Ex × St)) n m t.1 t.2.1 t.2.2.1 t.2.2.2.1 t.2.2.2.2.1 t.2.2.2.2.2 :=
  loop_of_round (shape := word_Sub.l4_0.shape) (body := roundOf (word_Sub.C n) (word_Sub.A n) n word_Sub.b0) (g := fun m t => word_Sub.l4_0.g (fun a0 a1 a2 => ((Prod.mk (.exit 0) (St.mk [(.ptr 0 []), (.int .u64 a0), (.ptr 1 [])] [(some (.var (.ints .u64 4 a1))), (some (.var (.ints .u64 4 a2)))])) : Ex × St)) n m t.1 t.2.1 t.2.2.1 t.2.2.2.1 t.2.2.2.2.1 t.2.2.2.2.2) (fun t => rfl)
    fun m t ih => (word_Sub.l4_0.round n (loopOf (roundOf (word_Sub.C n) (word_Sub.A n) n word_Sub.b0) m) t.1 t.2.1 t.2.2.1 t.2.2.2.1 t.2.2.2.2.1 t.2.2.2.2.2).trans (congrFun (congrFun (congrFun (congrFun (congrFun (congrFun (congrArg (word_Sub.l4_0.r (fun a0 a1 a2 => ((Prod.mk (.exit 0) (St.mk [(.ptr 0 []), (.int .u64 a0), (.ptr 1 [])] [(some (.var (.ints .u64 4 a1))), (some (.var (.ints .u64 4 a2)))])) : Ex × St)) n) (funext fun y0 => funext fun y1 => funext fun y2 => funext fun y3 => funext fun y4 => funext fun y5 => ih (y0, y1, y2, y3, y4, y5))) t.1) t.2.1) t.2.2.1) t.2.2.2.1) t.2.2.2.2.1) t.2.2.2.2.2)
theorem word_Sub.l4_0.loop (n m : Nat) (t : (Int × (Int × ((List Int) × ((List Int) × ((List Int) × (List Int))))))) : loopOf (roundOf (word_Sub.C n) (word_Sub.A n) n word_Sub.b0) m (word_Sub.l4_0.shape t) = (word_Sub.l4_0.m n m t).map word_Sub.l4_0.res :=
  (word_Sub.l4_0.loop' n m t).trans (word_Sub.l4_0.gmap word_Sub.l4_0.res (fun a0 a1 a2 => (a0, a1, a2)) n m t.1 t.2.1 t.2.2.1 t.2.2.2.1 t.2.2.2.2.1 t.2.2.2.2.2)
theorem word_Sub.gmap {α β : Type} (h : β → α) (mk0 : (List Int) → Bool → β) (n : Nat) (a0 : (List Int)) (a1 : (List Int)) : word_Sub.g (fun a0 a1 => (h (mk0 a0 a1))) n a0 a1 = (word_Sub.g mk0 n a0 a1).map h := by
  unfold word_Sub.g
  exact (bindO_map fun r2 => rfl)
theorem word_Sub.run (n : Nat) (a0 : (List Int)) (a1 : (List Int)) : runF (word_Sub.C n) (word_Sub.A n) n Tryd.f104 [(.ints .u64 4 a0), (.ints .u64 4 a1)] [] (fun v o => some (v, o)) = word_Sub.g (fun a0 a1 => ((Prod.mk (.tup [(.ints .u64 4 a0), (.bool a1)]) []) : AV × Blks)) n a0 a1 := by kernel_rfl
theorem word_Sub.call (hmix : Tryd.prog.follows .mixedOrders = true) (n : Nat) (t : ((List Int) × (List Int))) (u) (h : word_Sub.m n t = some u) : FnC Tryd.prog abiG 104 (word_Sub.shape t).1 (word_Sub.shape t).2 (word_Sub.res u).1 (word_Sub.res u).2 := by
  have hg : ∀ f m, (word_Sub.C n).Γ f = some m → CalleeS Tryd.prog abiG f m := by
    intro f m hm
    unfold word_Sub.C at hm
    simp only at hm
    first
    | (cases hm; done)
    | (split at hm <;> first
    | (cases hm; exact bits_Sub64.s hmix n)
    | (cases hm; done))
  have hb : Tryd.f104.body = some (Tryd.f104.body.getD .skip) := by kernel_rfl
  refine runF_calls (C := word_Sub.C n) (A := word_Sub.A n) (n := n) (fn := Tryd.f104) hg hmix Tryd.func104 hb ?_ ?_ (by decide) rfl rfl (by show 2 ≤ Tryd.f104.ntmps; decide) ?_
  · rw [show loopsIn (Tryd.f104.body.getD .skip) = [word_Sub.b0] by kernel_rfl]
    intro b hb m hm
    simp only [List.mem_cons, List.not_mem_nil, or_false] at hb
    rcases hb with rfl
    · have e : (word_Sub.A n).loop (key word_Sub.b0) = some (.mk' word_Sub.l4_0.pat (word_Sub.l4_0.m n n) word_Sub.l4_0.resK) := by rw [show key word_Sub.b0 = 4 by kernel_rfl]; rfl
      rw [e] at hm
      cases hm
      exact (LoopS.of (res := word_Sub.l4_0.res) (fun R u K => rfl) word_Sub.l4_0.pat_shape fun t => word_Sub.l4_0.loop n n t)
  · intro a ha m hm
    cases (show none = some m from hm)
  · rw [show runF (word_Sub.C n) (word_Sub.A n) n Tryd.f104 (word_Sub.shape t).1 (word_Sub.shape t).2 (fun v o => some (v, o)) = _ from word_Sub.run n t.1 t.2]
    have e := word_Sub.gmap word_Sub.res (fun a0 a1 => (a0, a1)) n t.1 t.2
    unfold word_Sub.m at h
    rw [h] at e
    exact e
theorem word_Sub.s (hmix : Tryd.prog.follows .mixedOrders = true) (n : Nat) : CalleeS Tryd.prog abiG 104 (word_Sub.c n) :=
  CalleeS.of (res := word_Sub.res) (shape := word_Sub.shape) (fun R u K => rfl) (fun args lent t h => by
    unfold word_Sub.pat at h
    split at h
    · cases h; rfl
    · cases h) fun t u h => (word_Sub.call hmix n t u h).ok Tryd.func104 (by decide) (by kernel_rfl)
end
section
theorem word_Cmp.gmap {α β : Type} (h : β → α) (mk0 : Int → β) (n : Nat) (a0 : (List Int)) (a1 : (List Int)) : word_Cmp.g (fun a0 => (h (mk0 a0))) n a0 a1 = (word_Cmp.g mk0 n a0 a1).map h := by
  unfold word_Cmp.g
  exact (bindO_map fun r2 => (ite_map rfl (ite_map rfl rfl)))
theorem word_Cmp.run (n : Nat) (a0 : (List Int)) (a1 : (List Int)) : runF (word_Cmp.C n) (word_Cmp.A n) n Tryd.f86 [(.ints .u64 4 a0), (.ints .u64 4 a1)] [] (fun v o => some (v, o)) = word_Cmp.g (fun a0 => ((Prod.mk (.int .i64 a0) []) : AV × Blks)) n a0 a1 := by kernel_rfl
theorem word_Cmp.call (hmix : Tryd.prog.follows .mixedOrders = true) (n : Nat) (t : ((List Int) × (List Int))) (u) (h : word_Cmp.m n t = some u) : FnC Tryd.prog abiG 86 (word_Cmp.shape t).1 (word_Cmp.shape t).2 (word_Cmp.res u).1 (word_Cmp.res u).2 := by
  have hg : ∀ f m, (word_Cmp.C n).Γ f = some m → CalleeS Tryd.prog abiG f m := by
    intro f m hm
    unfold word_Cmp.C at hm
    simp only at hm
    first
    | (cases hm; done)
    | (split at hm <;> first
    | (cases hm; exact word_Sub.s hmix n)
    | (cases hm; done))
  have hb : Tryd.f86.body = some (Tryd.f86.body.getD .skip) := by kernel_rfl
  refine runF_calls (C := word_Cmp.C n) (A := word_Cmp.A n) (n := n) (fn := Tryd.f86) hg hmix Tryd.func86 hb ?_ ?_ (by decide) rfl rfl (by show 2 ≤ Tryd.f86.ntmps; decide) ?_
  · rw [show loopsIn (Tryd.f86.body.getD .skip) = [] by kernel_rfl]
    intro b hb
    cases hb
  · intro a ha m hm
    cases (show none = some m from hm)
  · rw [show runF (word_Cmp.C n) (word_Cmp.A n) n Tryd.f86 (word_Cmp.shape t).1 (word_Cmp.shape t).2 (fun v o => some (v, o)) = _ from word_Cmp.run n t.1 t.2]
    have e := word_Cmp.gmap word_Cmp.res (fun a0 => a0) n t.1 t.2
    unfold word_Cmp.m at h
    rw [h] at e
    exact e
theorem word_Cmp.s (hmix : Tryd.prog.follows .mixedOrders = true) (n : Nat) : CalleeS Tryd.prog abiG 86 (word_Cmp.c n) :=
  CalleeS.of (res := word_Cmp.res) (shape := word_Cmp.shape) (fun R u K => rfl) (fun args lent t h => by
    unfold word_Cmp.pat at h
    split at h
    · cases h; rfl
    · cases h) fun t u h => (word_Cmp.call hmix n t u h).ok Tryd.func86 (by decide) (by kernel_rfl)
end
section
noncomputable section
def bits_Add64.m (n : Nat) (t : (Int × (Int × Int))) : Option (Int × Int) := xAdd64 t
def bits_Add64.pat : List AV → Blks → Option (Int × (Int × Int))
 | [(.int .u64 a0), (.int .u64 a1), (.int .u64 a2)], [] => some (a0, a1, a2)
 | _, _ => none
def bits_Add64.shape (t : (Int × (Int × Int))) : List AV × Blks := ([(.int .u64 t.1), (.int .u64 t.2.1), (.int .u64 t.2.2)], [])
def bits_Add64.res : (Int × Int) → AV × Blks
 | u => (Prod.mk (.tup [(.int .u64 u.1), (.int .u64 u.2)]) [])
def bits_Add64.resK {R : Type} (u : (Int × Int)) (K : AV → Blks → Option R) : Option R := (fun p : AV × Blks => K p.1 p.2) (Prod.mk (.tup [(.int .u64 u.1), (.int .u64 u.2)]) [])
def bits_Add64.c (n : Nat) : Abs.Callee := .mk' [] [none, none, none] bits_Add64.pat (bits_Add64.m n) bits_Add64.resK
end
end
section
noncomputable section
noncomputable def word_Add.C (n : Nat) : Ctx := ⟨Tryd.prog, abiG, fun f => match f with
 | 103 => some (bits_Add64.c n)
 | _ => none, fun _ => false⟩
def word_Add.live : Nat → List Nat × List Nat := fun k => match k with
 | 4 => ([9, 2, 3, 7, 6, 4], [6, 7, 4])
 | _ => ([], [])
def word_Add.jlive : Nat → List Nat × List Nat := fun k => match k with
 | _ => ([], [])
def word_Add.l4_0.r {α : Type} (mk0 : Int → (List Int) → (List Int) → α) (n : Nat) (rc : Int → Int → (List Int) → (List Int) → (List Int) → (List Int) → Option α)  (x0 : Int) (x1 : Int) (x2 : (List Int)) (x3 : (List Int)) (x4 : (List Int)) (x5 : (List Int)) : Option α :=
  if (decide (x0 < 4)) = true then
   if 0 ≤ x0 then
    if x0 < 4 then
     if 0 ≤ x0 then
      if x0 < 4 then
       bindO (bits_Add64.m n (Prod.mk (List.getD x2 (Int.toNat x0) 0) (Prod.mk (List.getD x3 (Int.toNat x0) 0) x1))) fun r14 =>
        if 0 ≤ x0 then
         if x0 < 4 then
          rc (IntKind.wrap .i64 (x0 + 1)) (Prod.snd r14) x2 x3 (List.set x4 (Int.toNat x0) (Prod.fst r14)) x5
         else
          none
        else
         none
      else
       none
     else
      none
    else
     none
   else
    none
  else
   some (mk0 x1 x4 x5)
def word_Add.l4_0.g {α : Type} (mk0 : Int → (List Int) → (List Int) → α) (n : Nat) : Nat → Int → Int → (List Int) → (List Int) → (List Int) → (List Int) → Option α
 | 0, _, _, _, _, _, _ => none
 | m + 1, x0, x1, x2, x3, x4, x5 => word_Add.l4_0.r mk0 n (fun y0 y1 y2 y3 y4 y5 => word_Add.l4_0.g mk0 n m y0 y1 y2 y3 y4 y5)  x0 x1 x2 x3 x4 x5
def word_Add.l4_0.m (n m : Nat) (t : (Int × (Int × ((List Int) × ((List Int) × ((List Int) × (List Int))))))) : Option (Int × ((List Int) × (List Int))) := word_Add.l4_0.g (fun a0 a1 a2 => (a0, a1, a2)) n m t.1 t.2.1 t.2.2.1 t.2.2.2.1 t.2.2.2.2.1 t.2.2.2.2.2
def word_Add.l4_0.pat : St → Option (Int × (Int × ((List Int) × ((List Int) × ((List Int) × (List Int))))))
 | (St.mk [(.int .i64 x0), (.ptr 0 []), (.ptr 1 []), (.int .u64 x1), (.ptr 2 []), (.ptr 3 [])] [(some (.var (.ints .u64 4 x2))), (some (.var (.ints .u64 4 x3))), (some (.var (.ints .u64 4 x4))), (some (.var (.ints .u64 4 x5)))]) => some (x0, x1, x2, x3, x4, x5)
 | _ => none
def word_Add.l4_0.shape (t : (Int × (Int × ((List Int) × ((List Int) × ((List Int) × (List Int))))))) : St := (St.mk [(.int .i64 t.1), (.ptr 0 []), (.ptr 1 []), (.int .u64 t.2.1), (.ptr 2 []), (.ptr 3 [])] [(some (.var (.ints .u64 4 t.2.2.1))), (some (.var (.ints .u64 4 t.2.2.2.1))), (some (.var (.ints .u64 4 t.2.2.2.2.1))), (some (.var (.ints .u64 4 t.2.2.2.2.2)))])
def word_Add.l4_0.res : (Int × ((List Int) × (List Int))) → Ex × St
 | u => (Prod.mk (.exit 0) (St.mk [(.ptr 0 []), (.int .u64 u.1), (.ptr 1 [])] [(some (.var (.ints .u64 4 u.2.1))), (some (.var (.ints .u64 4 u.2.2)))]))
def word_Add.l4_0.resK {R : Type} (u : (Int × ((List Int) × (List Int)))) (K : Ex → St → Option R) : Option R := (fun p : Ex × St => K p.1 p.2) (Prod.mk (.exit 0) (St.mk [(.ptr 0 []), (.int .u64 u.1), (.ptr 1 [])] [(some (.var (.ints .u64 4 u.2.1))), (some (.var (.ints .u64 4 u.2.2)))]))
noncomputable def word_Add.A (n : Nat) : Ann := ⟨Tryd.f85.ntmps, 0, word_Add.live, [], [none, none], fun k => match k with
 | 4 => some (.mk' word_Add.l4_0.pat (word_Add.l4_0.m n n) word_Add.l4_0.resK)
 | _ => none, word_Add.jlive, lookJ []⟩
noncomputable def word_Add.b0 : Code := (loopsIn (Tryd.f85.body.getD .skip)).getD 0 .skip
def word_Add.g {α : Type} (mk0 : (List Int) → Bool → α) (n : Nat) (a0 : (List Int)) (a1 : (List Int)) : Option α :=
 bindO (word_Add.l4_0.m n n (0, 0, a0, a1, [0, 0, 0, 0], [0, 0, 0, 0])) fun r2 =>
  some (mk0 (Prod.fst r2.2) ((Prod.fst r2) != 0))
def word_Add.m (n : Nat) (t : ((List Int) × (List Int))) : Option ((List Int) × Bool) := word_Add.g (fun a0 a1 => (a0, a1)) n t.1 t.2
def word_Add.pat : List AV → Blks → Option ((List Int) × (List Int))
 | [(.ints .u64 4 a0), (.ints .u64 4 a1)], [] => some (a0, a1)
 | _, _ => none
def word_Add.shape (t : ((List Int) × (List Int))) : List AV × Blks := ([(.ints .u64 4 t.1), (.ints .u64 4 t.2)], [])
def word_Add.res : ((List Int) × Bool) → AV × Blks
 | u => (Prod.mk (.tup [(.ints .u64 4 u.1), (.bool u.2)]) [])
def word_Add.resK {R : Type} (u : ((List Int) × Bool)) (K : AV → Blks → Option R) : Option R := (fun p : AV × Blks => K p.1 p.2) (Prod.mk (.tup [(.ints .u64 4 u.1), (.bool u.2)]) [])
def word_Add.c (n : Nat) : Abs.Callee := .mk' [] [none, none] word_Add.pat (word_Add.m n) word_Add.resK
end
end
section
theorem bits_Add64.ok (hmix : Tryd.prog.follows .mixedOrders = true) (n : Nat) (t) (u) (h : bits_Add64.m n t = some u) : FnOK Tryd.prog abiG 103 (bits_Add64.shape t).1 (bits_Add64.shape t).2 (bits_Add64.res u).1 (bits_Add64.res u).2 :=
  xAdd64_ok Tryd.func103 (by kernel_rfl) (by kernel_rfl) (by kernel_rfl) (show Go.Extern.find Tryd.f103 = some add64Entry by kernel_rfl) t u h
theorem bits_Add64.s (hmix : Tryd.prog.follows .mixedOrders = true) (n : Nat) : CalleeS Tryd.prog abiG 103 (bits_Add64.c n) :=
  CalleeS.of (res := bits_Add64.res) (shape := bits_Add64.shape) (fun R u K => rfl) (fun args lent t h => by
    unfold bits_Add64.pat at h
    split at h
    · cases h; rfl
    · cases h) fun t u h => bits_Add64.ok hmix n t u h
end
section
theorem word_Add.l4_0.rmap {α β : Type} (h : β → α) (mk0 : Int → (List Int) → (List Int) → β) (n : Nat) (f : Int → Int → (List Int) → (List Int) → (List Int) → (List Int) → Option β)  (x0 : Int) (x1 : Int) (x2 : (List Int)) (x3 : (List Int)) (x4 : (List Int)) (x5 : (List Int)) : word_Add.l4_0.r (fun a0 a1 a2 => (h (mk0 a0 a1 a2))) n (fun y0 y1 y2 y3 y4 y5 => (f y0 y1 y2 y3 y4 y5).map h) x0 x1 x2 x3 x4 x5 = (word_Add.l4_0.r mk0 n f x0 x1 x2 x3 x4 x5).map h := by
  unfold word_Add.l4_0.r
  exact (ite_map (ite_map (ite_map (ite_map (ite_map (bindO_map fun r14 => (ite_map (ite_map rfl rfl) rfl)) rfl) rfl) rfl) rfl) rfl)
theorem word_Add.l4_0.gmap {α β : Type} (h : β → α) (mk0 : Int → (List Int) → (List Int) → β) (n : Nat) : ∀ (m : Nat) (x0 : Int) (x1 : Int) (x2 : (List Int)) (x3 : (List Int)) (x4 : (List Int)) (x5 : (List Int)), word_Add.l4_0.g (fun a0 a1 a2 => (h (mk0 a0 a1 a2))) n m x0 x1 x2 x3 x4 x5 = (word_Add.l4_0.g mk0 n m x0 x1 x2 x3 x4 x5).map h
  | 0, _, _, _, _, _, _ => rfl
  | m + 1, x0, x1, x2, x3, x4, x5 => by
    unfold word_Add.l4_0.g
    rw [← word_Add.l4_0.rmap]
    congr
    · funext y0 y1 y2 y3 y4 y5; exact word_Add.l4_0.gmap h mk0 n m y0 y1 y2 y3 y4 y5
theorem word_Add.l4_0.pat_shape : ∀ st t, word_Add.l4_0.pat st = some t → st = word_Add.l4_0.shape t := by
  intro st t h
  unfold word_Add.l4_0.pat at h
  split at h
  · cases h; rfl
  · cases h
theorem word_Add.l4_0.round (n : Nat) (rc : St → Option (Ex × St)) (x0 : Int) (x1 : Int) (x2 : (List Int)) (x3 : (List Int)) (x4 : (List Int)) (x5 : (List Int)) : roundOf (word_Add.C n) (word_Add.A n) n word_Add.b0 rc ((St.mk [(.int .i64 x0), (.ptr 0 []), (.ptr 1 []), (.int .u64 x1), (.ptr 2 []), (.ptr 3 [])] [(some (.var (.ints .u64 4 x2))), (some (.var (.ints .u64 4 x3))), (some (.var (.ints .u64 4 x4))), (some (.var (.ints .u64 4 x5)))])) = word_Add.l4_0.r (fun a0 a1 a2 => ((Prod.mk (.exit 0) (St.mk [(.ptr 0 []), (.int .u64 a0), (.ptr 1 [])] [(some (.var (.ints .u64 4 a1))), (some (.var (.ints .u64 4 a2)))])) : Ex × St)) n (fun y0 y1 y2 y3 y4 y5 => rc ((St.mk [(.int .i64 y0), (.ptr 0 []), (.ptr 1 []), (.int .u64 y1), (.ptr 2 []), (.ptr 3 [])] [(some (.var (.ints .u64 4 y2))), (some (.var (.ints .u64 4 y3))), (some (.var (.ints .u64 4 y4))), (some (.var (.ints .u64 4 y5)))]))) x0 x1 x2 x3 x4 x5 := by kernel_rfl
theorem word_Add.l4_0.loop' (n : Nat) : ∀ (m : Nat) (t : (Int × (Int × ((List Int) × ((List Int) × ((List Int) × (List Int))))))), loopOf (roundOf (word_Add.C n) (word_Add.A n) n word_Add.b0) m (word_Add.l4_0.shape t) = word_Add.l4_0.g (fun a0 a1 a2 => ((Prod.mk (.exit 0) (St.mk [(.ptr 0 []), (.int .u64 a0), (.ptr 1 [])] [(some (.var (.ints .u64 4 a1))), (some (.var (.ints .u64 4 a2)))])) : Ex × St)) n m t.1 t.2.1 t.2.2.1 t.2.2.2.1 t.2.2.2.2.1 t.2.2.2.2.2 :=
  loop_of_round (shape := word_Add.l4_0.shape) (body := roundOf (word_Add.C n) (word_Add.A n) n word_Add.b0) (g := fun m t => word_Add.l4_0.g (fun a0 a1 a2 => ((Prod.mk (.exit 0) (St.mk [(.ptr 0 []), (.int .u64 a0), (.ptr 1 [])] [(some (.var (.ints .u64 4 a1))), (some (.var (.ints .u64 4 a2)))])) : Ex × St)) n m t.1 t.2.1 t.2.2.1 t.2.2.2.1 t.2.2.2.2.1 t.2.2.2.2.2) (fun t => rfl)
    fun m t ih => (word_Add.l4_0.round n (loopOf (roundOf (word_Add.C n) (word_Add.A n) n word_Add.b0) m) t.1 t.2.1 t.2.2.1 t.2.2.2.1 t.2.2.2.2.1 t.2.2.2.2.2).trans (congrFun (congrFun (congrFun (congrFun (congrFun (congrFun (congrArg (word_Add.l4_0.r (fun a0 a1 a2 => ((Prod.mk (.exit 0) (St.mk [(.ptr 0 []), (.int .u64 a0), (.ptr 1 [])] [(some (.var (.ints .u64 4 a1))), (some (.var (.ints .u64 4 a2)))])) : Ex × St)) n) (funext fun y0 => funext fun y1 => funext fun y2 => funext fun y3 => funext fun y4 => funext fun y5 => ih (y0, y1, y2, y3, y4, y5))) t.1) t.2.1) t.2.2.1) t.2.2.2.1) t.2.2.2.2.1) t.2.2.2.2.2)
theorem word_Add.l4_0.loop (n m : Nat) (t : (Int × (Int × ((List Int) × ((List Int) × ((List Int) × (List Int))))))) : loopOf (roundOf (word_Add.C n) (word_Add.A n) n word_Add.b0) m (word_Add.l4_0.shape t) = (word_Add.l4_0.m n m t).map word_Add.l4_0.res :=
  (word_Add.l4_0.loop' n m t).trans (word_Add.l4_0.gmap word_Add.l4_0.res (fun a0 a1 a2 => (a0, a1, a2)) n m t.1 t.2.1 t.2.2.1 t.2.2.2.1 t.2.2.2.2.1 t.2.2.2.2.2)
theorem word_Add.gmap {α β : Type} (h : β → α) (mk0 : (List Int) → Bool → β) (n : Nat) (a0 : (List Int)) (a1 : (List Int)) : word_Add.g (fun a0 a1 => (h (mk0 a0 a1))) n a0 a1 = (word_Add.g mk0 n a0 a1).map h := by
  unfold word_Add.g
  exact (bindO_map fun r2 => rfl)
theorem word_Add.run (n : Nat) (a0 : (List Int)) (a1 : (List Int)) : runF (word_Add.C n) (word_Add.A n) n Tryd.f85 [(.ints .u64 4 a0), (.ints .u64 4 a1)] [] (fun v o => some (v, o)) = word_Add.g (fun a0 a1 => ((Prod.mk (.tup [(.ints .u64 4 a0), (.bool a1)]) []) : AV × Blks)) n a0 a1 := by kernel_rfl
theorem word_Add.call (hmix : Tryd.prog.follows .mixedOrders = true) (n : Nat) (t : ((List Int) × (List Int))) (u) (h : word_Add.m n t = some u) : FnC Tryd.prog abiG 85 (word_Add.shape t).1 (word_Add.shape t).2 (word_Add.res u).1 (word_Add.res u).2 := by
  have hg : ∀ f m, (word_Add.C n).Γ f = some m → CalleeS Tryd.prog abiG f m := by
    intro f m hm
    unfold word_Add.C at hm
    simp only at hm
    first
    | (cases hm; done)
    | (split at hm <;> first
    | (cases hm; exact bits_Add64.s hmix n)
    | (cases hm; done))
  have hb : Tryd.f85.body = some (Tryd.f85.body.getD .skip) := by kernel_rfl
  refine runF_calls (C := word_Add.C n) (A := word_Add.A n) (n := n) (fn := Tryd.f85) hg hmix Tryd.func85 hb ?_ ?_ (by decide) rfl rfl (by show 2 ≤ Tryd.f85.ntmps; decide) ?_
  · rw [show loopsIn (Tryd.f85.body.getD .skip) = [word_Add.b0] by kernel_rfl]
    intro b hb m hm
    simp only [List.mem_cons, List.not_mem_nil, or_false] at hb
    rcases hb with rfl
    · have e : (word_Add.A n).loop (key word_Add.b0) = some (.mk' word_Add.l4_0.pat (word_Add.l4_0.m n n) word_Add.l4_0.resK) := by rw [show key word_Add.b0 = 4 by kernel_rfl]; rfl
      rw [e] at hm
      cases hm
      exact (LoopS.of (res := word_Add.l4_0.res) (fun R u K => rfl) word_Add.l4_0.pat_shape fun t => word_Add.l4_0.loop n n t)
  · intro a ha m hm
    cases (show none = some m from hm)
  · rw [show runF (word_Add.C n) (word_Add.A n) n Tryd.f85 (word_Add.shape t).1 (word_Add.shape t).2 (fun v o => some (v, o)) = _ from word_Add.run n t.1 t.2]
    have e := word_Add.gmap word_Add.res (fun a0 a1 => (a0, a1)) n t.1 t.2
    unfold word_Add.m at h
    rw [h] at e
    exact e
theorem word_Add.s (hmix : Tryd.prog.follows .mixedOrders = true) (n : Nat) : CalleeS Tryd.prog abiG 85 (word_Add.c n) :=
  CalleeS.of (res := word_Add.res) (shape := word_Add.shape) (fun R u K => rfl) (fun args lent t h => by
    unfold word_Add.pat at h
    split at h
    · cases h; rfl
    · cases h) fun t u h => (word_Add.call hmix n t u h).ok Tryd.func85 (by decide) (by kernel_rfl)
end
section
noncomputable section
noncomputable def q01_Add.C (n : Nat) : Ctx := ⟨Tryd.prog, abiG, fun f => match f with
 | _ => none, fun _ => false⟩
def q01_Add.live : Nat → List Nat × List Nat := fun k => match k with
 | 4 => ([8, 2, 3, 7, 6, 4], [6, 7, 4])
 | _ => ([], [])
def q01_Add.jlive : Nat → List Nat × List Nat := fun k => match k with
 | _ => ([], [])
def q01_Add.l4_0.r {α : Type} (mk0 : Int → (List Int) → (List Int) → α) (n : Nat) (rc : Int → Int → (List Int) → (List Int) → (List Int) → (List Int) → Option α)  (x0 : Int) (x1 : Int) (x2 : (List Int)) (x3 : (List Int)) (x4 : (List Int)) (x5 : (List Int)) : Option α :=
  if (decide (x0 < 4)) = true then
   if 0 ≤ x0 then
    if x0 < 4 then
     if 0 ≤ x0 then
      if x0 < 4 then
       if 0 ≤ x0 then
        if x0 < 4 then
         if (decide ((IntKind.wrap .u64 ((List.getD x2 (Int.toNat x0) 0) + (List.getD x3 (Int.toNat x0) 0))) < (List.getD x2 (Int.toNat x0) 0))) = true then
          if (decide ((IntKind.wrap .u64 ((IntKind.wrap .u64 ((List.getD x2 (Int.toNat x0) 0) + (List.getD x3 (Int.toNat x0) 0))) + x1)) < (IntKind.wrap .u64 ((List.getD x2 (Int.toNat x0) 0) + (List.getD x3 (Int.toNat x0) 0))))) = true then
           if 0 ≤ x0 then
            if x0 < 4 then
             rc (IntKind.wrap .i64 (x0 + 1)) 1 x2 x3 (List.set x4 (Int.toNat x0) (IntKind.wrap .u64 ((IntKind.wrap .u64 ((List.getD x2 (Int.toNat x0) 0) + (List.getD x3 (Int.toNat x0) 0))) + x1))) x5
            else
             none
           else
            none
          else
           if 0 ≤ x0 then
            if x0 < 4 then
             rc (IntKind.wrap .i64 (x0 + 1)) 1 x2 x3 (List.set x4 (Int.toNat x0) (IntKind.wrap .u64 ((IntKind.wrap .u64 ((List.getD x2 (Int.toNat x0) 0) + (List.getD x3 (Int.toNat x0) 0))) + x1))) x5
            else
             none
           else
            none
         else
          if (decide ((IntKind.wrap .u64 ((IntKind.wrap .u64 ((List.getD x2 (Int.toNat x0) 0) + (List.getD x3 (Int.toNat x0) 0))) + x1)) < (IntKind.wrap .u64 ((List.getD x2 (Int.toNat x0) 0) + (List.getD x3 (Int.toNat x0) 0))))) = true then
           if 0 ≤ x0 then
            if x0 < 4 then
             rc (IntKind.wrap .i64 (x0 + 1)) 1 x2 x3 (List.set x4 (Int.toNat x0) (IntKind.wrap .u64 ((IntKind.wrap .u64 ((List.getD x2 (Int.toNat x0) 0) + (List.getD x3 (Int.toNat x0) 0))) + x1))) x5
            else
             none
           else
            none
          else
           if 0 ≤ x0 then
            if x0 < 4 then
             rc (IntKind.wrap .i64 (x0 + 1)) 0 x2 x3 (List.set x4 (Int.toNat x0) (IntKind.wrap .u64 ((IntKind.wrap .u64 ((List.getD x2 (Int.toNat x0) 0) + (List.getD x3 (Int.toNat x0) 0))) + x1))) x5
            else
             none
           else
            none
        else
         none
       else
        none
      else
       none
     else
      none
    else
     none
   else
    none
  else
   some (mk0 x1 x4 x5)
def q01_Add.l4_0.g {α : Type} (mk0 : Int → (List Int) → (List Int) → α) (n : Nat) : Nat → Int → Int → (List Int) → (List Int) → (List Int) → (List Int) → Option α
 | 0, _, _, _, _, _, _ => none
 | m + 1, x0, x1, x2, x3, x4, x5 => q01_Add.l4_0.r mk0 n (fun y0 y1 y2 y3 y4 y5 => q01_Add.l4_0.g mk0 n m y0 y1 y2 y3 y4 y5)  x0 x1 x2 x3 x4 x5
def q01_Add.l4_0.m (n m : Nat) (t : (Int × (Int × ((List Int) × ((List Int) × ((List Int) × (List Int))))))) : Option (Int × ((List Int) × (List Int))) := q01_Add.l4_0.g (fun a0 a1 a2 => (a0, a1, a2)) n m t.1 t.2.1 t.2.2.1 t.2.2.2.1 t.2.2.2.2.1 t.2.2.2.2.2
def q01_Add.l4_0.pat : St → Option (Int × (Int × ((List Int) × ((List Int) × ((List Int) × (List Int))))))
 | (St.mk [(.int .i64 x0), (.ptr 0 []), (.ptr 1 []), (.int .u64 x1), (.ptr 2 []), (.ptr 3 [])] [(some (.var (.ints .u64 4 x2))), (some (.var (.ints .u64 4 x3))), (some (.var (.ints .u64 4 x4))), (some (.var (.ints .u64 4 x5)))]) => some (x0, x1, x2, x3, x4, x5)
 | _ => none
def q01_Add.l4_0.shape (t : (Int × (Int × ((List Int) × ((List Int) × ((List Int) × (List Int))))))) : St := (St.mk [(.int .i64 t.1), (.ptr 0 []), (.ptr 1 []), (.int .u64 t.2.1), (.ptr 2 []), (.ptr 3 [])] [(some (.var (.ints .u64 4 t.2.2.1))), (some (.var (.ints .u64 4 t.2.2.2.1))), (some (.var (.ints .u64 4 t.2.2.2.2.1))), (some (.var (.ints .u64 4 t.2.2.2.2.2)))])
def q01_Add.l4_0.res : (Int × ((List Int) × (List Int))) → Ex × St
 | u => (Prod.mk (.exit 0) (St.mk [(.ptr 0 []), (.int .u64 u.1), (.ptr 1 [])] [(some (.var (.ints .u64 4 u.2.1))), (some (.var (.ints .u64 4 u.2.2)))]))
def q01_Add.l4_0.resK {R : Type} (u : (Int × ((List Int) × (List Int)))) (K : Ex → St → Option R) : Option R := (fun p : Ex × St => K p.1 p.2) (Prod.mk (.exit 0) (St.mk [(.ptr 0 []), (.int .u64 u.1), (.ptr 1 [])] [(some (.var (.ints .u64 4 u.2.1))), (some (.var (.ints .u64 4 u.2.2)))]))
noncomputable def q01_Add.A (n : Nat) : Ann := ⟨Tryd.f87.ntmps, 0, q01_Add.live, [], [none, none], fun k => match k with
 | 4 => some (.mk' q01_Add.l4_0.pat (q01_Add.l4_0.m n n) q01_Add.l4_0.resK)
 | _ => none, q01_Add.jlive, lookJ []⟩
noncomputable def q01_Add.b0 : Code := (loopsIn (Tryd.f87.body.getD .skip)).getD 0 .skip
def q01_Add.g {α : Type} (mk0 : (List Int) → Bool → α) (n : Nat) (a0 : (List Int)) (a1 : (List Int)) : Option α :=
 bindO (q01_Add.l4_0.m n n (0, 0, a0, a1, [0, 0, 0, 0], [0, 0, 0, 0])) fun r2 =>
  some (mk0 (Prod.fst r2.2) ((Prod.fst r2) == 1))
def q01_Add.m (n : Nat) (t : ((List Int) × (List Int))) : Option ((List Int) × Bool) := q01_Add.g (fun a0 a1 => (a0, a1)) n t.1 t.2
def q01_Add.pat : List AV → Blks → Option ((List Int) × (List Int))
 | [(.ints .u64 4 a0), (.ints .u64 4 a1)], [] => some (a0, a1)
 | _, _ => none
def q01_Add.shape (t : ((List Int) × (List Int))) : List AV × Blks := ([(.ints .u64 4 t.1), (.ints .u64 4 t.2)], [])
def q01_Add.res : ((List Int) × Bool) → AV × Blks
 | u => (Prod.mk (.tup [(.ints .u64 4 u.1), (.bool u.2)]) [])
def q01_Add.resK {R : Type} (u : ((List Int) × Bool)) (K : AV → Blks → Option R) : Option R := (fun p : AV × Blks => K p.1 p.2) (Prod.mk (.tup [(.ints .u64 4 u.1), (.bool u.2)]) [])
def q01_Add.c (n : Nat) : Abs.Callee := .mk' [] [none, none] q01_Add.pat (q01_Add.m n) q01_Add.resK
end
end
section
theorem q01_Add.l4_0.rmap {α β : Type} (h : β → α) (mk0 : Int → (List Int) → (List Int) → β) (n : Nat) (f : Int → Int → (List Int) → (List Int) → (List Int) → (List Int) → Option β)  (x0 : Int) (x1 : Int) (x2 : (List Int)) (x3 : (List Int)) (x4 : (List Int)) (x5 : (List Int)) : q01_Add.l4_0.r (fun a0 a1 a2 => (h (mk0 a0 a1 a2))) n (fun y0 y1 y2 y3 y4 y5 => (f y0 y1 y2 y3 y4 y5).map h) x0 x1 x2 x3 x4 x5 = (q01_Add.l4_0.r mk0 n f x0 x1 x2 x3 x4 x5).map h := by
  unfold q01_Add.l4_0.r
  exact (ite_map (ite_map (ite_map (ite_map (ite_map (ite_map (ite_map (ite_map (ite_map (ite_map (ite_map rfl rfl) rfl) (ite_map (ite_map rfl rfl) rfl)) (ite_map (ite_map (ite_map rfl rfl) rfl) (ite_map (ite_map rfl rfl) rfl))) rfl) rfl) rfl) rfl) rfl) rfl) rfl)
theorem q01_Add.l4_0.gmap {α β : Type} (h : β → α) (mk0 : Int → (List Int) → (List Int) → β) (n : Nat) : ∀ (m : Nat) (x0 : Int) (x1 : Int) (x2 : (List Int)) (x3 : (List Int)) (x4 : (List Int)) (x5 : (List Int)), q01_Add.l4_0.g (fun a0 a1 a2 => (h (mk0 a0 a1 a2))) n m x0 x1 x2 x3 x4 x5 = (q01_Add.l4_0.g mk0 n m x0 x1 x2 x3 x4 x5).map h
  | 0, _, _, _, _, _, _ => rfl
  | m + 1, x0, x1, x2, x3, x4, x5 => by
    unfold q01_Add.l4_0.g
    rw [← q01_Add.l4_0.rmap]
    congr
    · funext y0 y1 y2 y3 y4 y5; exact q01_Add.l4_0.gmap h mk0 n m y0 y1 y2 y3 y4 y5
theorem q01_Add.l4_0.pat_shape : ∀ st t, q01_Add.l4_0.pat st = some t → st = q01_Add.l4_0.shape t := by
  intro st t h
  unfold q01_Add.l4_0.pat at h
  split at h
  · cases h; rfl
  · cases h
theorem q01_Add.l4_0.round (n : Nat) (rc : St → Option (Ex × St)) (x0 : Int) (x1 : Int) (x2 : (List Int)) (x3 : (List Int)) (x4 : (List Int)) (x5 : (List Int)) : roundOf (q01_Add.C n) (q01_Add.A n) n q01_Add.b0 rc ((St.mk [(.int .i64 x0), (.ptr 0 []), (.ptr 1 []), (.int .u64 x1), (.ptr 2 []), (.ptr 3 [])] [(some (.var (.ints .u64 4 x2))), (some (.var (.ints .u64 4 x3))), (some (.var (.ints .u64 4 x4))), (some (.var (.ints .u64 4 x5)))])) = q01_Add.l4_0.r (fun a0 a1 a2 => ((Prod.mk (.exit 0) (St.mk [(.ptr 0 []), (.int .u64 a0), (.ptr 1 [])] [(some (.var (.ints .u64 4 a1))), (some (.var (.ints .u64 4 a2)))])) : Ex × St)) n (fun y0 y1 y2 y3 y4 y5 => rc ((St.mk [(.int .i64 y0), (.ptr 0 []), (.ptr 1 []), (.int .u64 y1), (.ptr 2 []), (.ptr 3 [])] [(some (.var (.ints .u64 4 y2))), (some (.var (.ints .u64 4 y3))), (some (.var (.ints .u64 4 y4))), (some (.var (.ints .u64 4 y5)))]))) x0 x1 x2 x3 x4 x5 := by kernel_rfl
theorem q01_Add.l4_0.loop' (n : Nat) : ∀ (m : Nat) (t : (Int × (Int × ((List Int) × ((List Int) × ((List Int) × (List Int))))))), loopOf (roundOf (q01_Add.C n) (q01_Add.A n) n q01_Add.b0) m (q01_Add.l4_0.shape t) = q01_Add.l4_0.g (fun a0 a1 a2 => ((Prod.mk (.exit 0) (St.mk [(.ptr 0 []), (.int .u64 a0), (.ptr 1 [])] [(some (.var (.ints .u64 4 a1))), (some (.var (.ints .u64 4 a2)))])) : Ex × St)) n m t.1 t.2.1 t.2.2.1 t.2.2.2.1 t.2.2.2.2.1 t.2.2.2.2.2 :=
  loop_of_round (shape := q01_Add.l4_0.shape) (body := roundOf (q01_Add.C n) (q01_Add.A n) n q01_Add.b0) (g := fun m t => q01_Add.l4_0.g (fun a0 a1 a2 => ((Prod.mk (.exit 0) (St.mk [(.ptr 0 []), (.int .u64 a0), (.ptr 1 [])] [(some (.var (.ints .u64 4 a1))), (some (.var (.ints .u64 4 a2)))])) : Ex × St)) n m t.1 t.2.1 t.2.2.1 t.2.2.2.1 t.2.2.2.2.1 t.2.2.2.2.2) (fun t => rfl)
    fun m t ih => (q01_Add.l4_0.round n (loopOf (roundOf (q01_Add.C n) (q01_Add.A n) n q01_Add.b0) m) t.1 t.2.1 t.2.2.1 t.2.2.2.1 t.2.2.2.2.1 t.2.2.2.2.2).trans (congrFun (congrFun (congrFun (congrFun (congrFun (congrFun (congrArg (q01_Add.l4_0.r (fun a0 a1 a2 => ((Prod.mk (.exit 0) (St.mk [(.ptr 0 []), (.int .u64 a0), (.ptr 1 [])] [(some (.var (.ints .u64 4 a1))), (some (.var (.ints .u64 4 a2)))])) : Ex × St)) n) (funext fun y0 => funext fun y1 => funext fun y2 => funext fun y3 => funext fun y4 => funext fun y5 => ih (y0, y1, y2, y3, y4, y5))) t.1) t.2.1) t.2.2.1) t.2.2.2.1) t.2.2.2.2.1) t.2.2.2.2.2)
theorem q01_Add.l4_0.loop (n m : Nat) (t : (Int × (Int × ((List Int) × ((List Int) × ((List Int) × (List Int))))))) : loopOf (roundOf (q01_Add.C n) (q01_Add.A n) n q01_Add.b0) m (q01_Add.l4_0.shape t) = (q01_Add.l4_0.m n m t).map q01_Add.l4_0.res :=
  (q01_Add.l4_0.loop' n m t).trans (q01_Add.l4_0.gmap q01_Add.l4_0.res (fun a0 a1 a2 => (a0, a1, a2)) n m t.1 t.2.1 t.2.2.1 t.2.2.2.1 t.2.2.2.2.1 t.2.2.2.2.2)
theorem q01_Add.gmap {α β : Type} (h : β → α) (mk0 : (List Int) → Bool → β) (n : Nat) (a0 : (List Int)) (a1 : (List Int)) : q01_Add.g (fun a0 a1 => (h (mk0 a0 a1))) n a0 a1 = (q01_Add.g mk0 n a0 a1).map h := by
  unfold q01_Add.g
  exact (bindO_map fun r2 => rfl)
theorem q01_Add.run (n : Nat) (a0 : (List Int)) (a1 : (List Int)) : runF (q01_Add.C n) (q01_Add.A n) n Tryd.f87 [(.ints .u64 4 a0), (.ints .u64 4 a1)] [] (fun v o => some (v, o)) = q01_Add.g (fun a0 a1 => ((Prod.mk (.tup [(.ints .u64 4 a0), (.bool a1)]) []) : AV × Blks)) n a0 a1 := by kernel_rfl
theorem q01_Add.call (hmix : Tryd.prog.follows .mixedOrders = true) (n : Nat) (t : ((List Int) × (List Int))) (u) (h : q01_Add.m n t = some u) : FnC Tryd.prog abiG 87 (q01_Add.shape t).1 (q01_Add.shape t).2 (q01_Add.res u).1 (q01_Add.res u).2 := by
  have hg : ∀ f m, (q01_Add.C n).Γ f = some m → CalleeS Tryd.prog abiG f m := by
    intro f m hm
    unfold q01_Add.C at hm
    simp only at hm
    first
    | (cases hm; done)
    | (split at hm <;> first
    | (cases hm; done))
  have hb : Tryd.f87.body = some (Tryd.f87.body.getD .skip) := by kernel_rfl
  refine runF_calls (C := q01_Add.C n) (A := q01_Add.A n) (n := n) (fn := Tryd.f87) hg hmix Tryd.func87 hb ?_ ?_ (by decide) rfl rfl (by show 2 ≤ Tryd.f87.ntmps; decide) ?_
  · rw [show loopsIn (Tryd.f87.body.getD .skip) = [q01_Add.b0] by kernel_rfl]
    intro b hb m hm
    simp only [List.mem_cons, List.not_mem_nil, or_false] at hb
    rcases hb with rfl
    · have e : (q01_Add.A n).loop (key q01_Add.b0) = some (.mk' q01_Add.l4_0.pat (q01_Add.l4_0.m n n) q01_Add.l4_0.resK) := by rw [show key q01_Add.b0 = 4 by kernel_rfl]; rfl
      rw [e] at hm
      cases hm
      exact (LoopS.of (res := q01_Add.l4_0.res) (fun R u K => rfl) q01_Add.l4_0.pat_shape fun t => q01_Add.l4_0.loop n n t)
  · intro a ha m hm
    cases (show none = some m from hm)
  · rw [show runF (q01_Add.C n) (q01_Add.A n) n Tryd.f87 (q01_Add.shape t).1 (q01_Add.shape t).2 (fun v o => some (v, o)) = _ from q01_Add.run n t.1 t.2]
    have e := q01_Add.gmap q01_Add.res (fun a0 a1 => (a0, a1)) n t.1 t.2
    unfold q01_Add.m at h
    rw [h] at e
    exact e
theorem q01_Add.s (hmix : Tryd.prog.follows .mixedOrders = true) (n : Nat) : CalleeS Tryd.prog abiG 87 (q01_Add.c n) :=
  CalleeS.of (res := q01_Add.res) (shape := q01_Add.shape) (fun R u K => rfl) (fun args lent t h => by
    unfold q01_Add.pat at h
    split at h
    · cases h; rfl
    · cases h) fun t u h => (q01_Add.call hmix n t u h).ok Tryd.func87 (by decide) (by kernel_rfl)
end
section
noncomputable section
noncomputable def q01_Cmp.C (n : Nat) : Ctx := ⟨Tryd.prog, abiG, fun f => match f with
 | _ => none, fun _ => false⟩
def q01_Cmp.live : Nat → List Nat × List Nat := fun k => match k with
 | 2 => ([5, 2, 3], [4])
 | _ => ([], [])
def q01_Cmp.jlive : Nat → List Nat × List Nat := fun k => match k with
 | _ => ([], [])
def q01_Cmp.l2_0.r {α : Type} (mk0 : Int → α) (mk1 : α) (n : Nat) (rc : Int → (List Int) → (List Int) → Option α)  (x0 : Int) (x1 : (List Int)) (x2 : (List Int)) : Option α :=
  if (decide (x0 ≥ 0)) = true then
   if 0 ≤ x0 then
    if x0 < 4 then
     if 0 ≤ x0 then
      if x0 < 4 then
       if (decide ((List.getD x1 (Int.toNat x0) 0) < (List.getD x2 (Int.toNat x0) 0))) = true then
        some (mk0 (-1))
       else
        if 0 ≤ x0 then
         if x0 < 4 then
          if 0 ≤ x0 then
           if x0 < 4 then
            if (decide ((List.getD x1 (Int.toNat x0) 0) > (List.getD x2 (Int.toNat x0) 0))) = true then
             some (mk0 1)
            else
             rc (IntKind.wrap .i64 (x0 - 1)) x1 x2
           else
            none
          else
           none
         else
          none
        else
         none
      else
       none
     else
      none
    else
     none
   else
    none
  else
   some (mk1)
def q01_Cmp.l2_0.g {α : Type} (mk0 : Int → α) (mk1 : α) (n : Nat) : Nat → Int → (List Int) → (List Int) → Option α
 | 0, _, _, _ => none
 | m + 1, x0, x1, x2 => q01_Cmp.l2_0.r mk0 mk1 n (fun y0 y1 y2 => q01_Cmp.l2_0.g mk0 mk1 n m y0 y1 y2)  x0 x1 x2
def q01_Cmp.l2_0.m (n m : Nat) (t : (Int × ((List Int) × (List Int)))) : Option (Int ⊕ Unit) := q01_Cmp.l2_0.g (fun a0 => (.inl a0)) (.inr ()) n m t.1 t.2.1 t.2.2
def q01_Cmp.l2_0.pat : St → Option (Int × ((List Int) × (List Int)))
 | (St.mk [(.int .i64 x0), (.ptr 0 []), (.ptr 1 [])] [(some (.var (.ints .u64 4 x1))), (some (.var (.ints .u64 4 x2)))]) => some (x0, x1, x2)
 | _ => none
def q01_Cmp.l2_0.shape (t : (Int × ((List Int) × (List Int)))) : St := (St.mk [(.int .i64 t.1), (.ptr 0 []), (.ptr 1 [])] [(some (.var (.ints .u64 4 t.2.1))), (some (.var (.ints .u64 4 t.2.2)))])
def q01_Cmp.l2_0.res : (Int ⊕ Unit) → Ex × St
 | (.inl u) => (Prod.mk .ret (St.mk [(.int .i64 u)] []))
 | (.inr u) => (Prod.mk (.exit 0) (St.mk [.any] []))
def q01_Cmp.l2_0.resK {R : Type} (u : (Int ⊕ Unit)) (K : Ex → St → Option R) : Option R := match u with
 | (.inl u) => (fun p : Ex × St => K p.1 p.2) (Prod.mk .ret (St.mk [(.int .i64 u)] []))
 | (.inr u) => (fun p : Ex × St => K p.1 p.2) (Prod.mk (.exit 0) (St.mk [.any] []))
noncomputable def q01_Cmp.A (n : Nat) : Ann := ⟨Tryd.f49.ntmps, 0, q01_Cmp.live, [], [none], fun k => match k with
 | 2 => some (.mk' q01_Cmp.l2_0.pat (q01_Cmp.l2_0.m n n) q01_Cmp.l2_0.resK)
 | _ => none, q01_Cmp.jlive, lookJ []⟩
noncomputable def q01_Cmp.b0 : Code := (loopsIn (Tryd.f49.body.getD .skip)).getD 0 .skip
def q01_Cmp.g {α : Type} (mk0 : Int → α) (n : Nat) (a0 : (List Int)) (a1 : (List Int)) : Option α :=
 bindO (q01_Cmp.l2_0.m n n (3, a0, a1)) fun r2 => match r2 with
  | (.inl r2) =>
   some (mk0 r2)
  | (.inr r2) =>
   some (mk0 0)
def q01_Cmp.m (n : Nat) (t : ((List Int) × (List Int))) : Option Int := q01_Cmp.g (fun a0 => a0) n t.1 t.2
def q01_Cmp.pat : List AV → Blks → Option ((List Int) × (List Int))
 | [(.ints .u64 4 a0), (.ints .u64 4 a1)], [] => some (a0, a1)
 | _, _ => none
def q01_Cmp.shape (t : ((List Int) × (List Int))) : List AV × Blks := ([(.ints .u64 4 t.1), (.ints .u64 4 t.2)], [])
def q01_Cmp.res : Int → AV × Blks
 | u => (Prod.mk (.int .i64 u) [])
def q01_Cmp.resK {R : Type} (u : Int) (K : AV → Blks → Option R) : Option R := (fun p : AV × Blks => K p.1 p.2) (Prod.mk (.int .i64 u) [])
def q01_Cmp.c (n : Nat) : Abs.Callee := .mk' [] [none, none] q01_Cmp.pat (q01_Cmp.m n) q01_Cmp.resK
end
end
section
theorem q01_Cmp.l2_0.rmap {α β : Type} (h : β → α) (mk0 : Int → β) (mk1 : β) (n : Nat) (f : Int → (List Int) → (List Int) → Option β)  (x0 : Int) (x1 : (List Int)) (x2 : (List Int)) : q01_Cmp.l2_0.r (fun a0 => (h (mk0 a0))) (h mk1) n (fun y0 y1 y2 => (f y0 y1 y2).map h) x0 x1 x2 = (q01_Cmp.l2_0.r mk0 mk1 n f x0 x1 x2).map h := by
  unfold q01_Cmp.l2_0.r
  exact (ite_map (ite_map (ite_map (ite_map (ite_map (ite_map rfl (ite_map (ite_map (ite_map (ite_map (ite_map rfl rfl) rfl) rfl) rfl) rfl)) rfl) rfl) rfl) rfl) rfl)
theorem q01_Cmp.l2_0.gmap {α β : Type} (h : β → α) (mk0 : Int → β) (mk1 : β) (n : Nat) : ∀ (m : Nat) (x0 : Int) (x1 : (List Int)) (x2 : (List Int)), q01_Cmp.l2_0.g (fun a0 => (h (mk0 a0))) (h mk1) n m x0 x1 x2 = (q01_Cmp.l2_0.g mk0 mk1 n m x0 x1 x2).map h
  | 0, _, _, _ => rfl
  | m + 1, x0, x1, x2 => by
    unfold q01_Cmp.l2_0.g
    rw [← q01_Cmp.l2_0.rmap]
    congr
    · funext y0 y1 y2; exact q01_Cmp.l2_0.gmap h mk0 mk1 n m y0 y1 y2
theorem q01_Cmp.l2_0.pat_shape : ∀ st t, q01_Cmp.l2_0.pat st = some t → st = q01_Cmp.l2_0.shape t := by
  intro st t h
  unfold q01_Cmp.l2_0.pat at h
  split at h
  · cases h; rfl
  · cases h
theorem q01_Cmp.l2_0.round (n : Nat) (rc : St → Option (Ex × St)) (x0 : Int) (x1 : (List Int)) (x2 : (List Int)) : roundOf (q01_Cmp.C n) (q01_Cmp.A n) n q01_Cmp.b0 rc ((St.mk [(.int .i64 x0), (.ptr 0 []), (.ptr 1 [])] [(some (.var (.ints .u64 4 x1))), (some (.var (.ints .u64 4 x2)))])) = q01_Cmp.l2_0.r (fun a0 => ((Prod.mk .ret (St.mk [(.int .i64 a0)] [])) : Ex × St)) ((Prod.mk (.exit 0) (St.mk [.any] [])) : Ex × St) n (fun y0 y1 y2 => rc ((St.mk [(.int .i64 y0), (.ptr 0 []), (.ptr 1 [])] [(some (.var (.ints .u64 4 y1))), (some (.var (.ints .u64 4 y2)))]))) x0 x1 x2 := by kernel_rfl
theorem q01_Cmp.l2_0.loop' (n : Nat) : ∀ (m : Nat) (t : (Int × ((List Int) × (List Int)))), loopOf (roundOf (q01_Cmp.C n) (q01_Cmp.A n) n q01_Cmp.b0) m (q01_Cmp.l2_0.shape t) = q01_Cmp.l2_0.g (fun a0 => ((Prod.mk .ret (St.mk [(.int .i64 a0)] [])) : Ex × St)) ((Prod.mk (.exit 0) (St.mk [.any] [])) : Ex × St) n m t.1 t.2.1 t.2.2 :=
  loop_of_round (shape := q01_Cmp.l2_0.shape) (body := roundOf (q01_Cmp.C n) (q01_Cmp.A n) n q01_Cmp.b0) (g := fun m t => q01_Cmp.l2_0.g (fun a0 => ((Prod.mk .ret (St.mk [(.int .i64 a0)] [])) : Ex × St)) ((Prod.mk (.exit 0) (St.mk [.any] [])) : Ex × St) n m t.1 t.2.1 t.2.2) (fun t => rfl)
    fun m t ih => (q01_Cmp.l2_0.round n (loopOf (roundOf (q01_Cmp.C n) (q01_Cmp.A n) n q01_Cmp.b0) m) t.1 t.2.1 t.2.2).trans (congrFun (congrFun (congrFun (congrArg (q01_Cmp.l2_0.r (fun a0 => ((Prod.mk .ret (St.mk [(.int .i64 a0)] [])) : Ex × St)) ((Prod.mk (.exit 0) (St.mk [.any] [])) : Ex × St) n) (funext fun y0 => funext fun y1 => funext fun y2 => ih (y0, y1, y2))) t.1) t.2.1) t.2.2)
theorem q01_Cmp.l2_0.loop (n m : Nat) (t : (Int × ((List Int) × (List Int)))) : loopOf (roundOf (q01_Cmp.C n) (q01_Cmp.A n) n q01_Cmp.b0) m (q01_Cmp.l2_0.shape t) = (q01_Cmp.l2_0.m n m t).map q01_Cmp.l2_0.res :=
  (q01_Cmp.l2_0.loop' n m t).trans (q01_Cmp.l2_0.gmap q01_Cmp.l2_0.res (fun a0 => (.inl a0)) (.inr ()) n m t.1 t.2.1 t.2.2)
theorem q01_Cmp.gmap {α β : Type} (h : β → α) (mk0 : Int → β) (n : Nat) (a0 : (List Int)) (a1 : (List Int)) : q01_Cmp.g (fun a0 => (h (mk0 a0))) n a0 a1 = (q01_Cmp.g mk0 n a0 a1).map h := by
  unfold q01_Cmp.g
  exact (bindO_map fun r2 => match r2 with | (.inl r2) => rfl | (.inr r2) => rfl)
theorem q01_Cmp.run (n : Nat) (a0 : (List Int)) (a1 : (List Int)) : runF (q01_Cmp.C n) (q01_Cmp.A n) n Tryd.f49 [(.ints .u64 4 a0), (.ints .u64 4 a1)] [] (fun v o => some (v, o)) = q01_Cmp.g (fun a0 => ((Prod.mk (.int .i64 a0) []) : AV × Blks)) n a0 a1 := by kernel_rfl
theorem q01_Cmp.call (hmix : Tryd.prog.follows .mixedOrders = true) (n : Nat) (t : ((List Int) × (List Int))) (u) (h : q01_Cmp.m n t = some u) : FnC Tryd.prog abiG 49 (q01_Cmp.shape t).1 (q01_Cmp.shape t).2 (q01_Cmp.res u).1 (q01_Cmp.res u).2 := by
  have hg : ∀ f m, (q01_Cmp.C n).Γ f = some m → CalleeS Tryd.prog abiG f m := by
    intro f m hm
    unfold q01_Cmp.C at hm
    simp only at hm
    first
    | (cases hm; done)
    | (split at hm <;> first
    | (cases hm; done))
  have hb : Tryd.f49.body = some (Tryd.f49.body.getD .skip) := by kernel_rfl
  refine runF_calls (C := q01_Cmp.C n) (A := q01_Cmp.A n) (n := n) (fn := Tryd.f49) hg hmix Tryd.func49 hb ?_ ?_ (by decide) rfl rfl (by show 2 ≤ Tryd.f49.ntmps; decide) ?_
  · rw [show loopsIn (Tryd.f49.body.getD .skip) = [q01_Cmp.b0] by kernel_rfl]
    intro b hb m hm
    simp only [List.mem_cons, List.not_mem_nil, or_false] at hb
    rcases hb with rfl
    · have e : (q01_Cmp.A n).loop (key q01_Cmp.b0) = some (.mk' q01_Cmp.l2_0.pat (q01_Cmp.l2_0.m n n) q01_Cmp.l2_0.resK) := by rw [show key q01_Cmp.b0 = 2 by kernel_rfl]; rfl
      rw [e] at hm
      cases hm
      exact (LoopS.of (res := q01_Cmp.l2_0.res) (fun R u K => by rcases u with u | u <;> rfl) q01_Cmp.l2_0.pat_shape fun t => q01_Cmp.l2_0.loop n n t)
  · intro a ha m hm
    cases (show none = some m from hm)
  · rw [show runF (q01_Cmp.C n) (q01_Cmp.A n) n Tryd.f49 (q01_Cmp.shape t).1 (q01_Cmp.shape t).2 (fun v o => some (v, o)) = _ from q01_Cmp.run n t.1 t.2]
    have e := q01_Cmp.gmap q01_Cmp.res (fun a0 => a0) n t.1 t.2
    unfold q01_Cmp.m at h
    rw [h] at e
    exact e
theorem q01_Cmp.s (hmix : Tryd.prog.follows .mixedOrders = true) (n : Nat) : CalleeS Tryd.prog abiG 49 (q01_Cmp.c n) :=
  CalleeS.of (res := q01_Cmp.res) (shape := q01_Cmp.shape) (fun R u K => rfl) (fun args lent t h => by
    unfold q01_Cmp.pat at h
    split at h
    · cases h; rfl
    · cases h) fun t u h => (q01_Cmp.call hmix n t u h).ok Tryd.func49 (by decide) (by kernel_rfl)
end
section
noncomputable section
noncomputable def bits_Mul64.C (n : Nat) : Ctx := ⟨Tryd.prog, abiG, fun f => match f with
 | _ => none, fun _ => false⟩
def bits_Mul64.live : Nat → List Nat × List Nat := fun k => match k with
 | _ => ([], [])
def bits_Mul64.jlive : Nat → List Nat × List Nat := fun k => match k with
 | _ => ([], [])
noncomputable def bits_Mul64.A (n : Nat) : Ann := ⟨Tryd.f118.ntmps, 0, bits_Mul64.live, [], [none, none], fun k => match k with
 | _ => none, bits_Mul64.jlive, lookJ []⟩
def bits_Mul64.g {α : Type} (mk0 : Int → Int → α) (n : Nat) (a0 : Int) (a1 : Int) : Option α :=
 some (mk0 (IntKind.wrap .u64 ((IntKind.wrap .u64 ((IntKind.wrap .u64 ((ishr .u64 a0 32) * (ishr .u64 a1 32))) + (ishr .u64 (IntKind.wrap .u64 ((IntKind.wrap .u64 ((ishr .u64 a0 32) * (ibits BinOp.and .u64 a1 4294967295))) + (ishr .u64 (IntKind.wrap .u64 ((ibits BinOp.and .u64 a0 4294967295) * (ibits BinOp.and .u64 a1 4294967295))) 32))) 32))) + (ishr .u64 (IntKind.wrap .u64 ((ibits BinOp.and .u64 (IntKind.wrap .u64 ((IntKind.wrap .u64 ((ishr .u64 a0 32) * (ibits BinOp.and .u64 a1 4294967295))) + (ishr .u64 (IntKind.wrap .u64 ((ibits BinOp.and .u64 a0 4294967295) * (ibits BinOp.and .u64 a1 4294967295))) 32))) 4294967295) + (IntKind.wrap .u64 ((ibits BinOp.and .u64 a0 4294967295) * (ishr .u64 a1 32))))) 32))) (IntKind.wrap .u64 (a0 * a1)))
def bits_Mul64.m (n : Nat) (t : (Int × Int)) : Option (Int × Int) := bits_Mul64.g (fun a0 a1 => (a0, a1)) n t.1 t.2
def bits_Mul64.pat : List AV → Blks → Option (Int × Int)
 | [(.int .u64 a0), (.int .u64 a1)], [] => some (a0, a1)
 | _, _ => none
def bits_Mul64.shape (t : (Int × Int)) : List AV × Blks := ([(.int .u64 t.1), (.int .u64 t.2)], [])
def bits_Mul64.res : (Int × Int) → AV × Blks
 | u => (Prod.mk (.tup [(.int .u64 u.1), (.int .u64 u.2)]) [])
def bits_Mul64.resK {R : Type} (u : (Int × Int)) (K : AV → Blks → Option R) : Option R := (fun p : AV × Blks => K p.1 p.2) (Prod.mk (.tup [(.int .u64 u.1), (.int .u64 u.2)]) [])
def bits_Mul64.c (n : Nat) : Abs.Callee := .mk' [] [none, none] bits_Mul64.pat (bits_Mul64.m n) bits_Mul64.resK
end
end
section
theorem bits_Mul64.gmap {α β : Type} (h : β → α) (mk0 : Int → Int → β) (n : Nat) (a0 : Int) (a1 : Int) : bits_Mul64.g (fun a0 a1 => (h (mk0 a0 a1))) n a0 a1 = (bits_Mul64.g mk0 n a0 a1).map h := by
  unfold bits_Mul64.g
  exact rfl
theorem bits_Mul64.run (n : Nat) (a0 : Int) (a1 : Int) : runF (bits_Mul64.C n) (bits_Mul64.A n) n Tryd.f118 [(.int .u64 a0), (.int .u64 a1)] [] (fun v o => some (v, o)) = bits_Mul64.g (fun a0 a1 => ((Prod.mk (.tup [(.int .u64 a0), (.int .u64 a1)]) []) : AV × Blks)) n a0 a1 := by kernel_rfl
theorem bits_Mul64.call (hmix : Tryd.prog.follows .mixedOrders = true) (n : Nat) (t : (Int × Int)) (u) (h : bits_Mul64.m n t = some u) : FnC Tryd.prog abiG 118 (bits_Mul64.shape t).1 (bits_Mul64.shape t).2 (bits_Mul64.res u).1 (bits_Mul64.res u).2 := by
  have hg : ∀ f m, (bits_Mul64.C n).Γ f = some m → CalleeS Tryd.prog abiG f m := by
    intro f m hm
    unfold bits_Mul64.C at hm
    simp only at hm
    first
    | (cases hm; done)
    | (split at hm <;> first
    | (cases hm; done))
  have hb : Tryd.f118.body = some (Tryd.f118.body.getD .skip) := by kernel_rfl
  refine runF_calls (C := bits_Mul64.C n) (A := bits_Mul64.A n) (n := n) (fn := Tryd.f118) hg hmix Tryd.func118 hb ?_ ?_ (by decide) rfl rfl (by show 2 ≤ Tryd.f118.ntmps; decide) ?_
  · rw [show loopsIn (Tryd.f118.body.getD .skip) = [] by kernel_rfl]
    intro b hb
    cases hb
  · intro a ha m hm
    cases (show none = some m from hm)
  · rw [show runF (bits_Mul64.C n) (bits_Mul64.A n) n Tryd.f118 (bits_Mul64.shape t).1 (bits_Mul64.shape t).2 (fun v o => some (v, o)) = _ from bits_Mul64.run n t.1 t.2]
    have e := bits_Mul64.gmap bits_Mul64.res (fun a0 a1 => (a0, a1)) n t.1 t.2
    unfold bits_Mul64.m at h
    rw [h] at e
    exact e
theorem bits_Mul64.s (hmix : Tryd.prog.follows .mixedOrders = true) (n : Nat) : CalleeS Tryd.prog abiG 118 (bits_Mul64.c n) :=
  CalleeS.of (res := bits_Mul64.res) (shape := bits_Mul64.shape) (fun R u K => rfl) (fun args lent t h => by
    unfold bits_Mul64.pat at h
    split at h
    · cases h; rfl
    · cases h) fun t u h => (bits_Mul64.call hmix n t u h).ok Tryd.func118 (by decide) (by kernel_rfl)
end
section
noncomputable section
noncomputable def word_product.C (n : Nat) : Ctx := ⟨Tryd.prog, abiG, fun f => match f with
 | 118 => some (bits_Mul64.c n)
 | 103 => some (bits_Add64.c n)
 | _ => none, fun _ => false⟩
def word_product.live : Nat → List Nat × List Nat := fun k => match k with
 | 3 => ([12, 2, 3, 5, 4], [5, 4])
 | 7 => ([15, 6, 2, 3, 7, 5, 12, 4], [6, 7, 5, 12, 2, 3, 4])
 | _ => ([], [])
def word_product.jlive : Nat → List Nat × List Nat := fun k => match k with
 | _ => ([], [])
def word_product.l7_0.r {α : Type} (mk0 : Int → Int → Int → (List Int) → (List Int) → (List Int) → (List Int) → α) (n : Nat) (rc : Int → Int → Int → Int → (List Int) → (List Int) → (List Int) → (List Int) → Option α)  (x0 : Int) (x1 : Int) (x2 : Int) (x3 : Int) (x4 : (List Int)) (x5 : (List Int)) (x6 : (List Int)) (x7 : (List Int)) : Option α :=
  if (decide (x0 < 4)) = true then
   if 0 ≤ x1 then
    if x1 < 4 then
     if 0 ≤ x0 then
      if x0 < 4 then
       bindO (bits_Mul64.m n (Prod.mk (List.getD x4 (Int.toNat x1) 0) (List.getD x5 (Int.toNat x0) 0))) fun r14 =>
        bindO (bits_Add64.m n (Prod.mk (Prod.snd r14) (Prod.mk x2 0))) fun r16 =>
         if 0 ≤ (IntKind.wrap .i64 (x1 + x0)) then
          if (IntKind.wrap .i64 (x1 + x0)) < 8 then
           bindO (bits_Add64.m n (Prod.mk (List.getD x6 (Int.toNat (IntKind.wrap .i64 (x1 + x0))) 0) (Prod.mk (Prod.fst r16) 0))) fun r22 =>
            if 0 ≤ (IntKind.wrap .i64 (x1 + x0)) then
             if (IntKind.wrap .i64 (x1 + x0)) < 8 then
              rc (IntKind.wrap .i64 (x0 + 1)) x1 (IntKind.wrap .u64 ((IntKind.wrap .u64 ((Prod.fst r14) + (Prod.snd r16))) + (Prod.snd r22))) x3 x4 x5 (List.set x6 (Int.toNat (IntKind.wrap .i64 (x1 + x0))) (Prod.fst r22)) x7
             else
              none
            else
             none
          else
           none
         else
          none
      else
       none
     else
      none
    else
     none
   else
    none
  else
   some (mk0 x1 x2 x3 x6 x4 x5 x7)
def word_product.l7_0.g {α : Type} (mk0 : Int → Int → Int → (List Int) → (List Int) → (List Int) → (List Int) → α) (n : Nat) : Nat → Int → Int → Int → Int → (List Int) → (List Int) → (List Int) → (List Int) → Option α
 | 0, _, _, _, _, _, _, _, _ => none
 | m + 1, x0, x1, x2, x3, x4, x5, x6, x7 => word_product.l7_0.r mk0 n (fun y0 y1 y2 y3 y4 y5 y6 y7 => word_product.l7_0.g mk0 n m y0 y1 y2 y3 y4 y5 y6 y7)  x0 x1 x2 x3 x4 x5 x6 x7
def word_product.l7_0.m (n m : Nat) (t : (Int × (Int × (Int × (Int × ((List Int) × ((List Int) × ((List Int) × (List Int))))))))) : Option (Int × (Int × (Int × ((List Int) × ((List Int) × ((List Int) × (List Int))))))) := word_product.l7_0.g (fun a0 a1 a2 a3 a4 a5 a6 => (a0, a1, a2, a3, a4, a5, a6)) n m t.1 t.2.1 t.2.2.1 t.2.2.2.1 t.2.2.2.2.1 t.2.2.2.2.2.1 t.2.2.2.2.2.2.1 t.2.2.2.2.2.2.2
def word_product.l7_0.pat : St → Option (Int × (Int × (Int × (Int × ((List Int) × ((List Int) × ((List Int) × (List Int))))))))
 | (St.mk [(.int .i64 x0), (.int .i64 x1), (.ptr 0 []), (.ptr 1 []), (.int .u64 x2), (.ptr 2 []), (.int .i64 x3), (.ptr 3 [])] [(some (.var (.ints .u64 4 x4))), (some (.var (.ints .u64 4 x5))), (some (.var (.ints .u64 8 x6))), (some (.var (.ints .u64 8 x7)))]) => some (x0, x1, x2, x3, x4, x5, x6, x7)
 | _ => none
def word_product.l7_0.shape (t : (Int × (Int × (Int × (Int × ((List Int) × ((List Int) × ((List Int) × (List Int))))))))) : St := (St.mk [(.int .i64 t.1), (.int .i64 t.2.1), (.ptr 0 []), (.ptr 1 []), (.int .u64 t.2.2.1), (.ptr 2 []), (.int .i64 t.2.2.2.1), (.ptr 3 [])] [(some (.var (.ints .u64 4 t.2.2.2.2.1))), (some (.var (.ints .u64 4 t.2.2.2.2.2.1))), (some (.var (.ints .u64 8 t.2.2.2.2.2.2.1))), (some (.var (.ints .u64 8 t.2.2.2.2.2.2.2)))])
def word_product.l7_0.res : (Int × (Int × (Int × ((List Int) × ((List Int) × ((List Int) × (List Int))))))) → Ex × St
 | u => (Prod.mk (.exit 2) (St.mk [(.int .i64 u.1), (.int .u64 u.2.1), (.ptr 0 []), (.int .i64 u.2.2.1), (.ptr 1 []), (.ptr 2 []), (.ptr 3 [])] [(some (.var (.ints .u64 8 u.2.2.2.1))), (some (.var (.ints .u64 4 u.2.2.2.2.1))), (some (.var (.ints .u64 4 u.2.2.2.2.2.1))), (some (.var (.ints .u64 8 u.2.2.2.2.2.2)))]))
def word_product.l7_0.resK {R : Type} (u : (Int × (Int × (Int × ((List Int) × ((List Int) × ((List Int) × (List Int)))))))) (K : Ex → St → Option R) : Option R := (fun p : Ex × St => K p.1 p.2) (Prod.mk (.exit 2) (St.mk [(.int .i64 u.1), (.int .u64 u.2.1), (.ptr 0 []), (.int .i64 u.2.2.1), (.ptr 1 []), (.ptr 2 []), (.ptr 3 [])] [(some (.var (.ints .u64 8 u.2.2.2.1))), (some (.var (.ints .u64 4 u.2.2.2.2.1))), (some (.var (.ints .u64 4 u.2.2.2.2.2.1))), (some (.var (.ints .u64 8 u.2.2.2.2.2.2)))]))
def word_product.l3_0.r {α : Type} (mk0 : (List Int) → (List Int) → α) (n : Nat) (rc : Int → (List Int) → (List Int) → (List Int) → (List Int) → Option α)  (x0 : Int) (x1 : (List Int)) (x2 : (List Int)) (x3 : (List Int)) (x4 : (List Int)) : Option α :=
  if (decide (x0 < 4)) = true then
   bindO (word_product.l7_0.m n n (0, x0, 0, x0, x1, x2, x3, x4)) fun r6 =>
    if 0 ≤ (IntKind.wrap .i64 ((Prod.fst r6) + 4)) then
     if (IntKind.wrap .i64 ((Prod.fst r6) + 4)) < 8 then
      rc (IntKind.wrap .i64 ((Prod.fst (Prod.snd r6).2) + 1)) (Prod.fst (Prod.snd (Prod.snd r6).2).2) (Prod.fst (Prod.snd (Prod.snd r6.2).2).2) (List.set (Prod.fst (Prod.snd r6.2).2) (Int.toNat (IntKind.wrap .i64 ((Prod.fst r6) + 4))) (Prod.fst r6.2)) (Prod.snd (Prod.snd (Prod.snd r6.2).2).2)
     else
      none
    else
     none
  else
   some (mk0 x3 x4)
def word_product.l3_0.g {α : Type} (mk0 : (List Int) → (List Int) → α) (n : Nat) : Nat → Int → (List Int) → (List Int) → (List Int) → (List Int) → Option α
 | 0, _, _, _, _, _ => none
 | m + 1, x0, x1, x2, x3, x4 => word_product.l3_0.r mk0 n (fun y0 y1 y2 y3 y4 => word_product.l3_0.g mk0 n m y0 y1 y2 y3 y4)  x0 x1 x2 x3 x4
def word_product.l3_0.m (n m : Nat) (t : (Int × ((List Int) × ((List Int) × ((List Int) × (List Int)))))) : Option ((List Int) × (List Int)) := word_product.l3_0.g (fun a0 a1 => (a0, a1)) n m t.1 t.2.1 t.2.2.1 t.2.2.2.1 t.2.2.2.2
def word_product.l3_0.pat : St → Option (Int × ((List Int) × ((List Int) × ((List Int) × (List Int)))))
 | (St.mk [(.int .i64 x0), (.ptr 0 []), (.ptr 1 []), (.ptr 2 []), (.ptr 3 [])] [(some (.var (.ints .u64 4 x1))), (some (.var (.ints .u64 4 x2))), (some (.var (.ints .u64 8 x3))), (some (.var (.ints .u64 8 x4)))]) => some (x0, x1, x2, x3, x4)
 | _ => none
def word_product.l3_0.shape (t : (Int × ((List Int) × ((List Int) × ((List Int) × (List Int)))))) : St := (St.mk [(.int .i64 t.1), (.ptr 0 []), (.ptr 1 []), (.ptr 2 []), (.ptr 3 [])] [(some (.var (.ints .u64 4 t.2.1))), (some (.var (.ints .u64 4 t.2.2.1))), (some (.var (.ints .u64 8 t.2.2.2.1))), (some (.var (.ints .u64 8 t.2.2.2.2)))])
def word_product.l3_0.res : ((List Int) × (List Int)) → Ex × St
 | u => (Prod.mk (.exit 0) (St.mk [(.ptr 0 []), (.ptr 1 [])] [(some (.var (.ints .u64 8 u.1))), (some (.var (.ints .u64 8 u.2)))]))
def word_product.l3_0.resK {R : Type} (u : ((List Int) × (List Int))) (K : Ex → St → Option R) : Option R := (fun p : Ex × St => K p.1 p.2) (Prod.mk (.exit 0) (St.mk [(.ptr 0 []), (.ptr 1 [])] [(some (.var (.ints .u64 8 u.1))), (some (.var (.ints .u64 8 u.2)))]))
noncomputable def word_product.A (n : Nat) : Ann := ⟨Tryd.f102.ntmps, 0, word_product.live, [], [none], fun k => match k with
 | 7 => some (.mk' word_product.l7_0.pat (word_product.l7_0.m n n) word_product.l7_0.resK)
 | 3 => some (.mk' word_product.l3_0.pat (word_product.l3_0.m n n) word_product.l3_0.resK)
 | _ => none, word_product.jlive, lookJ []⟩
noncomputable def word_product.b0 : Code := (loopsIn (Tryd.f102.body.getD .skip)).getD 0 .skip
noncomputable def word_product.b1 : Code := (loopsIn (Tryd.f102.body.getD .skip)).getD 1 .skip
def word_product.g {α : Type} (mk0 : (List Int) → α) (n : Nat) (a0 : (List Int)) (a1 : (List Int)) : Option α :=
 bindO (word_product.l3_0.m n n (0, a0, a1, ([0, 0, 0, 0, 0, 0, 0, 0] : List Int), ([0, 0, 0, 0, 0, 0, 0, 0] : List Int))) fun r2 =>
  some (mk0 (Prod.fst r2))
def word_product.m (n : Nat) (t : ((List Int) × (List Int))) : Option (List Int) := word_product.g (fun a0 => a0) n t.1 t.2
def word_product.pat : List AV → Blks → Option ((List Int) × (List Int))
 | [(.ints .u64 4 a0), (.ints .u64 4 a1)], [] => some (a0, a1)
 | _, _ => none
def word_product.shape (t : ((List Int) × (List Int))) : List AV × Blks := ([(.ints .u64 4 t.1), (.ints .u64 4 t.2)], [])
def word_product.res : (List Int) → AV × Blks
 | u => (Prod.mk (.ints .u64 8 u) [])
def word_product.resK {R : Type} (u : (List Int)) (K : AV → Blks → Option R) : Option R := (fun p : AV × Blks => K p.1 p.2) (Prod.mk (.ints .u64 8 u) [])
def word_product.c (n : Nat) : Abs.Callee := .mk' [] [none, none] word_product.pat (word_product.m n) word_product.resK
end
end
section
theorem word_product.l7_0.rmap {α β : Type} (h : β → α) (mk0 : Int → Int → Int → (List Int) → (List Int) → (List Int) → (List Int) → β) (n : Nat) (f : Int → Int → Int → Int → (List Int) → (List Int) → (List Int) → (List Int) → Option β)  (x0 : Int) (x1 : Int) (x2 : Int) (x3 : Int) (x4 : (List Int)) (x5 : (List Int)) (x6 : (List Int)) (x7 : (List Int)) : word_product.l7_0.r (fun a0 a1 a2 a3 a4 a5 a6 => (h (mk0 a0 a1 a2 a3 a4 a5 a6))) n (fun y0 y1 y2 y3 y4 y5 y6 y7 => (f y0 y1 y2 y3 y4 y5 y6 y7).map h) x0 x1 x2 x3 x4 x5 x6 x7 = (word_product.l7_0.r mk0 n f x0 x1 x2 x3 x4 x5 x6 x7).map h := by
  unfold word_product.l7_0.r
  exact (ite_map (ite_map (ite_map (ite_map (ite_map (bindO_map fun r14 => (bindO_map fun r16 => (ite_map (ite_map (bindO_map fun r22 => (ite_map (ite_map rfl rfl) rfl)) rfl) rfl))) rfl) rfl) rfl) rfl) rfl)
theorem word_product.l7_0.gmap {α β : Type} (h : β → α) (mk0 : Int → Int → Int → (List Int) → (List Int) → (List Int) → (List Int) → β) (n : Nat) : ∀ (m : Nat) (x0 : Int) (x1 : Int) (x2 : Int) (x3 : Int) (x4 : (List Int)) (x5 : (List Int)) (x6 : (List Int)) (x7 : (List Int)), word_product.l7_0.g (fun a0 a1 a2 a3 a4 a5 a6 => (h (mk0 a0 a1 a2 a3 a4 a5 a6))) n m x0 x1 x2 x3 x4 x5 x6 x7 = (word_product.l7_0.g mk0 n m x0 x1 x2 x3 x4 x5 x6 x7).map h
  | 0, _, _, _, _, _, _, _, _ => rfl
  | m + 1, x0, x1, x2, x3, x4, x5, x6, x7 => by
    unfold word_product.l7_0.g
    rw [← word_product.l7_0.rmap]
    congr
    · funext y0 y1 y2 y3 y4 y5 y6 y7; exact word_product.l7_0.gmap h mk0 n m y0 y1 y2 y3 y4 y5 y6 y7
theorem word_product.l7_0.pat_shape : ∀ st t, word_product.l7_0.pat st = some t → st = word_product.l7_0.shape t := by
  intro st t h
  unfold word_product.l7_0.pat at h
  split at h
  · cases h; rfl
  · cases h
theorem word_product.l7_0.round (n : Nat) (rc : St → Option (Ex × St)) (x0 : Int) (x1 : Int) (x2 : Int) (x3 : Int) (x4 : (List Int)) (x5 : (List Int)) (x6 : (List Int)) (x7 : (List Int)) : roundOf (word_product.C n) (word_product.A n) n word_product.b1 rc ((St.mk [(.int .i64 x0), (.int .i64 x1), (.ptr 0 []), (.ptr 1 []), (.int .u64 x2), (.ptr 2 []), (.int .i64 x3), (.ptr 3 [])] [(some (.var (.ints .u64 4 x4))), (some (.var (.ints .u64 4 x5))), (some (.var (.ints .u64 8 x6))), (some (.var (.ints .u64 8 x7)))])) = word_product.l7_0.r (fun a0 a1 a2 a3 a4 a5 a6 => ((Prod.mk (.exit 2) (St.mk [(.int .i64 a0), (.int .u64 a1), (.ptr 0 []), (.int .i64 a2), (.ptr 1 []), (.ptr 2 []), (.ptr 3 [])] [(some (.var (.ints .u64 8 a3))), (some (.var (.ints .u64 4 a4))), (some (.var (.ints .u64 4 a5))), (some (.var (.ints .u64 8 a6)))])) : Ex × St)) n (fun y0 y1 y2 y3 y4 y5 y6 y7 => rc ((St.mk [(.int .i64 y0), (.int .i64 y1), (.ptr 0 []), (.ptr 1 []), (.int .u64 y2), (.ptr 2 []), (.int .i64 y3), (.ptr 3 [])] [(some (.var (.ints .u64 4 y4))), (some (.var (.ints .u64 4 y5))), (some (.var (.ints .u64 8 y6))), (some (.var (.ints .u64 8 y7)))]))) x0 x1 x2 x3 x4 x5 x6 x7 := by kernel_rfl
theorem word_product.l7_0.loop' (n : Nat) : ∀ (m : Nat) (t : (Int × (Int × (Int × (Int × ((List Int) × ((List Int) × ((List Int) × (List Int))))))))), loopOf (roundOf (word_product.C n) (word_product.A n) n word_product.b1) m (word_product.l7_0.shape t) = word_product.l7_0.g (fun a0 a1 a2 a3 a4 a5 a6 => ((Prod.mk (.exit 2) (St.mk [(.int .i64 a0), (.int .u64 a1), (.ptr 0 []), (.int .i64 a2), (.ptr 1 []), (.ptr 2 []), (.ptr 3 [])] [(some (.var (.ints .u64 8 a3))), (some (.var (.ints .u64 4 a4))), (some (.var (.ints .u64 4 a5))), (some (.var (.ints .u64 8 a6)))])) : Ex × St)) n m t.1 t.2.1 t.2.2.1 t.2.2.2.1 t.2.2.2.2.1 t.2.2.2.2.2.1 t.2.2.2.2.2.2.1 t.2.2.2.2.2.2.2 :=
  loop_of_round (shape := word_product.l7_0.shape) (body := roundOf (word_product.C n) (word_product.A n) n word_product.b1) (g := fun m t => word_product.l7_0.g (fun a0 a1 a2 a3 a4 a5 a6 => ((Prod.mk (.exit 2) (St.mk [(.int .i64 a0), (.int .u64 a1), (.ptr 0 []), (.int .i64 a2), (.ptr 1 []), (.ptr 2 []), (.ptr 3 [])] [(some (.var (.ints .u64 8 a3))), (some (.var (.ints .u64 4 a4))), (some (.var (.ints .u64 4 a5))), (some (.var (.ints .u64 8 a6)))])) : Ex × St)) n m t.1 t.2.1 t.2.2.1 t.2.2.2.1 t.2.2.2.2.1 t.2.2.2.2.2.1 t.2.2.2.2.2.2.1 t.2.2.2.2.2.2.2) (fun t => rfl)
    fun m t ih => (word_product.l7_0.round n (loopOf (roundOf (word_product.C n) (word_product.A n) n word_product.b1) m) t.1 t.2.1 t.2.2.1 t.2.2.2.1 t.2.2.2.2.1 t.2.2.2.2.2.1 t.2.2.2.2.2.2.1 t.2.2.2.2.2.2.2).trans (congrFun (congrFun (congrFun (congrFun (congrFun (congrFun (congrFun (congrFun (congrArg (word_product.l7_0.r (fun a0 a1 a2 a3 a4 a5 a6 => ((Prod.mk (.exit 2) (St.mk [(.int .i64 a0), (.int .u64 a1), (.ptr 0 []), (.int .i64 a2), (.ptr 1 []), (.ptr 2 []), (.ptr 3 [])] [(some (.var (.ints .u64 8 a3))), (some (.var (.ints .u64 4 a4))), (some (.var (.ints .u64 4 a5))), (some (.var (.ints .u64 8 a6)))])) : Ex × St)) n) (funext fun y0 => funext fun y1 => funext fun y2 => funext fun y3 => funext fun y4 => funext fun y5 => funext fun y6 => funext fun y7 => ih (y0, y1, y2, y3, y4, y5, y6, y7))) t.1) t.2.1) t.2.2.1) t.2.2.2.1) t.2.2.2.2.1) t.2.2.2.2.2.1) t.2.2.2.2.2.2.1) t.2.2.2.2.2.2.2)
theorem word_product.l7_0.loop (n m : Nat) (t : (Int × (Int × (Int × (Int × ((List Int) × ((List Int) × ((List Int) × (List Int))))))))) : loopOf (roundOf (word_product.C n) (word_product.A n) n word_product.b1) m (word_product.l7_0.shape t) = (word_product.l7_0.m n m t).map word_product.l7_0.res :=
  (word_product.l7_0.loop' n m t).trans (word_product.l7_0.gmap word_product.l7_0.res (fun a0 a1 a2 a3 a4 a5 a6 => (a0, a1, a2, a3, a4, a5, a6)) n m t.1 t.2.1 t.2.2.1 t.2.2.2.1 t.2.2.2.2.1 t.2.2.2.2.2.1 t.2.2.2.2.2.2.1 t.2.2.2.2.2.2.2)
theorem word_product.l3_0.rmap {α β : Type} (h : β → α) (mk0 : (List Int) → (List Int) → β) (n : Nat) (f : Int → (List Int) → (List Int) → (List Int) → (List Int) → Option β)  (x0 : Int) (x1 : (List Int)) (x2 : (List Int)) (x3 : (List Int)) (x4 : (List Int)) : word_product.l3_0.r (fun a0 a1 => (h (mk0 a0 a1))) n (fun y0 y1 y2 y3 y4 => (f y0 y1 y2 y3 y4).map h) x0 x1 x2 x3 x4 = (word_product.l3_0.r mk0 n f x0 x1 x2 x3 x4).map h := by
  unfold word_product.l3_0.r
  exact (ite_map (bindO_map fun r6 => (ite_map (ite_map rfl rfl) rfl)) rfl)
theorem word_product.l3_0.gmap {α β : Type} (h : β → α) (mk0 : (List Int) → (List Int) → β) (n : Nat) : ∀ (m : Nat) (x0 : Int) (x1 : (List Int)) (x2 : (List Int)) (x3 : (List Int)) (x4 : (List Int)), word_product.l3_0.g (fun a0 a1 => (h (mk0 a0 a1))) n m x0 x1 x2 x3 x4 = (word_product.l3_0.g mk0 n m x0 x1 x2 x3 x4).map h
  | 0, _, _, _, _, _ => rfl
  | m + 1, x0, x1, x2, x3, x4 => by
    unfold word_product.l3_0.g
    rw [← word_product.l3_0.rmap]
    congr
    · funext y0 y1 y2 y3 y4; exact word_product.l3_0.gmap h mk0 n m y0 y1 y2 y3 y4
theorem word_product.l3_0.pat_shape : ∀ st t, word_product.l3_0.pat st = some t → st = word_product.l3_0.shape t := by
  intro st t h
  unfold word_product.l3_0.pat at h
  split at h
  · cases h; rfl
  · cases h
theorem word_product.l3_0.round (n : Nat) (rc : St → Option (Ex × St)) (x0 : Int) (x1 : (List Int)) (x2 : (List Int)) (x3 : (List Int)) (x4 : (List Int)) : roundOf (word_product.C n) (word_product.A n) n word_product.b0 rc ((St.mk [(.int .i64 x0), (.ptr 0 []), (.ptr 1 []), (.ptr 2 []), (.ptr 3 [])] [(some (.var (.ints .u64 4 x1))), (some (.var (.ints .u64 4 x2))), (some (.var (.ints .u64 8 x3))), (some (.var (.ints .u64 8 x4)))])) = word_product.l3_0.r (fun a0 a1 => ((Prod.mk (.exit 0) (St.mk [(.ptr 0 []), (.ptr 1 [])] [(some (.var (.ints .u64 8 a0))), (some (.var (.ints .u64 8 a1)))])) : Ex × St)) n (fun y0 y1 y2 y3 y4 => rc ((St.mk [(.int .i64 y0), (.ptr 0 []), (.ptr 1 []), (.ptr 2 []), (.ptr 3 [])] [(some (.var (.ints .u64 4 y1))), (some (.var (.ints .u64 4 y2))), (some (.var (.ints .u64 8 y3))), (some (.var (.ints .u64 8 y4)))]))) x0 x1 x2 x3 x4 := by kernel_rfl
theorem word_product.l3_0.loop' (n : Nat) : ∀ (m : Nat) (t : (Int × ((List Int) × ((List Int) × ((List Int) × (List Int)))))), loopOf (roundOf (word_product.C n) (word_product.A n) n word_product.b0) m (word_product.l3_0.shape t) = word_product.l3_0.g (fun a0 a1 => ((Prod.mk (.exit 0) (St.mk [(.ptr 0 []), (.ptr 1 [])] [(some (.var (.ints .u64 8 a0))), (some (.var (.ints .u64 8 a1)))])) : Ex × St)) n m t.1 t.2.1 t.2.2.1 t.2.2.2.1 t.2.2.2.2 :=
  loop_of_round (shape := word_product.l3_0.shape) (body := roundOf (word_product.C n) (word_product.A n) n word_product.b0) (g := fun m t => word_product.l3_0.g (fun a0 a1 => ((Prod.mk (.exit 0) (St.mk [(.ptr 0 []), (.ptr 1 [])] [(some (.var (.ints .u64 8 a0))), (some (.var (.ints .u64 8 a1)))])) : Ex × St)) n m t.1 t.2.1 t.2.2.1 t.2.2.2.1 t.2.2.2.2) (fun t => rfl)
    fun m t ih => (word_product.l3_0.round n (loopOf (roundOf (word_product.C n) (word_product.A n) n word_product.b0) m) t.1 t.2.1 t.2.2.1 t.2.2.2.1 t.2.2.2.2).trans (congrFun (congrFun (congrFun (congrFun (congrFun (congrArg (word_product.l3_0.r (fun a0 a1 => ((Prod.mk (.exit 0) (St.mk [(.ptr 0 []), (.ptr 1 [])] [(some (.var (.ints .u64 8 a0))), (some (.var (.ints .u64 8 a1)))])) : Ex × St)) n) (funext fun y0 => funext fun y1 => funext fun y2 => funext fun y3 => funext fun y4 => ih (y0, y1, y2, y3, y4))) t.1) t.2.1) t.2.2.1) t.2.2.2.1) t.2.2.2.2)
theorem word_product.l3_0.loop (n m : Nat) (t : (Int × ((List Int) × ((List Int) × ((List Int) × (List Int)))))) : loopOf (roundOf (word_product.C n) (word_product.A n) n word_product.b0) m (word_product.l3_0.shape t) = (word_product.l3_0.m n m t).map word_product.l3_0.res :=
  (word_product.l3_0.loop' n m t).trans (word_product.l3_0.gmap word_product.l3_0.res (fun a0 a1 => (a0, a1)) n m t.1 t.2.1 t.2.2.1 t.2.2.2.1 t.2.2.2.2)
theorem word_product.gmap {α β : Type} (h : β → α) (mk0 : (List Int) → β) (n : Nat) (a0 : (List Int)) (a1 : (List Int)) : word_product.g (fun a0 => (h (mk0 a0))) n a0 a1 = (word_product.g mk0 n a0 a1).map h := by
  unfold word_product.g
  exact (bindO_map fun r2 => rfl)
theorem word_product.run (n : Nat) (a0 : (List Int)) (a1 : (List Int)) : runF (word_product.C n) (word_product.A n) n Tryd.f102 [(.ints .u64 4 a0), (.ints .u64 4 a1)] [] (fun v o => some (v, o)) = word_product.g (fun a0 => ((Prod.mk (.ints .u64 8 a0) []) : AV × Blks)) n a0 a1 := by kernel_rfl
theorem word_product.call (hmix : Tryd.prog.follows .mixedOrders = true) (n : Nat) (t : ((List Int) × (List Int))) (u) (h : word_product.m n t = some u) : FnC Tryd.prog abiG 102 (word_product.shape t).1 (word_product.shape t).2 (word_product.res u).1 (word_product.res u).2 := by
  have hg : ∀ f m, (word_product.C n).Γ f = some m → CalleeS Tryd.prog abiG f m := by
    intro f m hm
    unfold word_product.C at hm
    simp only at hm
    first
    | (cases hm; done)
    | (split at hm <;> first
    | (cases hm; exact bits_Mul64.s hmix n)
    | (cases hm; exact bits_Add64.s hmix n)
    | (cases hm; done))
  have hb : Tryd.f102.body = some (Tryd.f102.body.getD .skip) := by kernel_rfl
  refine runF_calls (C := word_product.C n) (A := word_product.A n) (n := n) (fn := Tryd.f102) hg hmix Tryd.func102 hb ?_ ?_ (by decide) rfl rfl (by show 2 ≤ Tryd.f102.ntmps; decide) ?_
  · rw [show loopsIn (Tryd.f102.body.getD .skip) = [word_product.b0, word_product.b1] by kernel_rfl]
    intro b hb m hm
    simp only [List.mem_cons, List.not_mem_nil, or_false] at hb
    rcases hb with rfl | rfl
    · have e : (word_product.A n).loop (key word_product.b0) = some (.mk' word_product.l3_0.pat (word_product.l3_0.m n n) word_product.l3_0.resK) := by rw [show key word_product.b0 = 3 by kernel_rfl]; rfl
      rw [e] at hm
      cases hm
      exact (LoopS.of (res := word_product.l3_0.res) (fun R u K => rfl) word_product.l3_0.pat_shape fun t => word_product.l3_0.loop n n t)
    · have e : (word_product.A n).loop (key word_product.b1) = some (.mk' word_product.l7_0.pat (word_product.l7_0.m n n) word_product.l7_0.resK) := by rw [show key word_product.b1 = 7 by kernel_rfl]; rfl
      rw [e] at hm
      cases hm
      exact (LoopS.of (res := word_product.l7_0.res) (fun R u K => rfl) word_product.l7_0.pat_shape fun t => word_product.l7_0.loop n n t)
  · intro a ha m hm
    cases (show none = some m from hm)
  · rw [show runF (word_product.C n) (word_product.A n) n Tryd.f102 (word_product.shape t).1 (word_product.shape t).2 (fun v o => some (v, o)) = _ from word_product.run n t.1 t.2]
    have e := word_product.gmap word_product.res (fun a0 => a0) n t.1 t.2
    unfold word_product.m at h
    rw [h] at e
    exact e
theorem word_product.s (hmix : Tryd.prog.follows .mixedOrders = true) (n : Nat) : CalleeS Tryd.prog abiG 102 (word_product.c n) :=
  CalleeS.of (res := word_product.res) (shape := word_product.shape) (fun R u K => rfl) (fun args lent t h => by
    unfold word_product.pat at h
    split at h
    · cases h; rfl
    · cases h) fun t u h => (word_product.call hmix n t u h).ok Tryd.func102 (by decide) (by kernel_rfl)
end
section
noncomputable section
noncomputable def word_Mul.C (n : Nat) : Ctx := ⟨Tryd.prog, abiG, fun f => match f with
 | 102 => some (word_product.c n)
 | _ => none, fun _ => false⟩
def word_Mul.live : Nat → List Nat × List Nat := fun k => match k with
 | _ => ([], [])
def word_Mul.jlive : Nat → List Nat × List Nat := fun k => match k with
 | _ => ([], [])
noncomputable def word_Mul.A (n : Nat) : Ann := ⟨Tryd.f84.ntmps, 0, word_Mul.live, [], [none, none], fun k => match k with
 | _ => none, word_Mul.jlive, lookJ []⟩
def word_Mul.g {α : Type} (mk0 : (List Int) → Bool → α) (n : Nat) (a0 : (List Int)) (a1 : (List Int)) : Option α :=
 bindO (word_product.m n (Prod.mk a0 a1)) fun r2 =>
  some (mk0 (List.take 4 (List.drop 0 r2)) ((ibits BinOp.or .u64 (ibits BinOp.or .u64 (ibits BinOp.or .u64 (List.getD r2 4 0) (List.getD r2 5 0)) (List.getD r2 6 0)) (List.getD r2 7 0)) != 0))
def word_Mul.m (n : Nat) (t : ((List Int) × (List Int))) : Option ((List Int) × Bool) := word_Mul.g (fun a0 a1 => (a0, a1)) n t.1 t.2
def word_Mul.pat : List AV → Blks → Option ((List Int) × (List Int))
 | [(.ints .u64 4 a0), (.ints .u64 4 a1)], [] => some (a0, a1)
 | _, _ => none
def word_Mul.shape (t : ((List Int) × (List Int))) : List AV × Blks := ([(.ints .u64 4 t.1), (.ints .u64 4 t.2)], [])
def word_Mul.res : ((List Int) × Bool) → AV × Blks
 | u => (Prod.mk (.tup [(.ints .u64 4 u.1), (.bool u.2)]) [])
def word_Mul.resK {R : Type} (u : ((List Int) × Bool)) (K : AV → Blks → Option R) : Option R := (fun p : AV × Blks => K p.1 p.2) (Prod.mk (.tup [(.ints .u64 4 u.1), (.bool u.2)]) [])
def word_Mul.c (n : Nat) : Abs.Callee := .mk' [] [none, none] word_Mul.pat (word_Mul.m n) word_Mul.resK
end
end
section
theorem word_Mul.gmap {α β : Type} (h : β → α) (mk0 : (List Int) → Bool → β) (n : Nat) (a0 : (List Int)) (a1 : (List Int)) : word_Mul.g (fun a0 a1 => (h (mk0 a0 a1))) n a0 a1 = (word_Mul.g mk0 n a0 a1).map h := by
  unfold word_Mul.g
  exact (bindO_map fun r2 => rfl)
theorem word_Mul.run (n : Nat) (a0 : (List Int)) (a1 : (List Int)) : runF (word_Mul.C n) (word_Mul.A n) n Tryd.f84 [(.ints .u64 4 a0), (.ints .u64 4 a1)] [] (fun v o => some (v, o)) = word_Mul.g (fun a0 a1 => ((Prod.mk (.tup [(.ints .u64 4 a0), (.bool a1)]) []) : AV × Blks)) n a0 a1 := by kernel_rfl
theorem word_Mul.call (hmix : Tryd.prog.follows .mixedOrders = true) (n : Nat) (t : ((List Int) × (List Int))) (u) (h : word_Mul.m n t = some u) : FnC Tryd.prog abiG 84 (word_Mul.shape t).1 (word_Mul.shape t).2 (word_Mul.res u).1 (word_Mul.res u).2 := by
  have hg : ∀ f m, (word_Mul.C n).Γ f = some m → CalleeS Tryd.prog abiG f m := by
    intro f m hm
    unfold word_Mul.C at hm
    simp only at hm
    first
    | (cases hm; done)
    | (split at hm <;> first
    | (cases hm; exact word_product.s hmix n)
    | (cases hm; done))
  have hb : Tryd.f84.body = some (Tryd.f84.body.getD .skip) := by kernel_rfl
  refine runF_calls (C := word_Mul.C n) (A := word_Mul.A n) (n := n) (fn := Tryd.f84) hg hmix Tryd.func84 hb ?_ ?_ (by decide) rfl rfl (by show 2 ≤ Tryd.f84.ntmps; decide) ?_
  · rw [show loopsIn (Tryd.f84.body.getD .skip) = [] by kernel_rfl]
    intro b hb
    cases hb
  · intro a ha m hm
    cases (show none = some m from hm)
  · rw [show runF (word_Mul.C n) (word_Mul.A n) n Tryd.f84 (word_Mul.shape t).1 (word_Mul.shape t).2 (fun v o => some (v, o)) = _ from word_Mul.run n t.1 t.2]
    have e := word_Mul.gmap word_Mul.res (fun a0 a1 => (a0, a1)) n t.1 t.2
    unfold word_Mul.m at h
    rw [h] at e
    exact e
theorem word_Mul.s (hmix : Tryd.prog.follows .mixedOrders = true) (n : Nat) : CalleeS Tryd.prog abiG 84 (word_Mul.c n) :=
  CalleeS.of (res := word_Mul.res) (shape := word_Mul.shape) (fun R u K => rfl) (fun args lent t h => by
    unfold word_Mul.pat at h
    split at h
    · cases h; rfl
    · cases h) fun t u h => (word_Mul.call hmix n t u h).ok Tryd.func84 (by decide) (by kernel_rfl)
end
section
noncomputable section
noncomputable def q01_halves.C (n : Nat) : Ctx := ⟨Tryd.prog, abiG, fun f => match f with
 | _ => none, fun _ => false⟩
def q01_halves.live : Nat → List Nat × List Nat := fun k => match k with
 | 3 => ([4, 1, 3, 2], [3, 2])
 | _ => ([], [])
def q01_halves.jlive : Nat → List Nat × List Nat := fun k => match k with
 | _ => ([], [])
def q01_halves.l3_0.r {α : Type} (mk0 : (List Int) → (List Int) → α) (n : Nat) (rc : Int → (List Int) → (List Int) → (List Int) → Option α)  (x0 : Int) (x1 : (List Int)) (x2 : (List Int)) (x3 : (List Int)) : Option α :=
  if (decide (x0 < 8)) = true then
   if 0 ≤ (IntKind.wrap .i64 (Int.tdiv x0 2)) then
    if (IntKind.wrap .i64 (Int.tdiv x0 2)) < 4 then
     if 0 ≤ (IntKind.wrap .u64 (IntKind.wrap .i64 ((Int.tmod x0 2) * 32))) then
      if 0 ≤ x0 then
       if x0 < 8 then
        rc (IntKind.wrap .i64 (x0 + 1)) x1 (List.set x2 (Int.toNat x0) (ibits BinOp.and .u64 (ishr .u64 (List.getD x1 (Int.toNat (IntKind.wrap .i64 (Int.tdiv x0 2))) 0) (IntKind.wrap .u64 (IntKind.wrap .i64 ((Int.tmod x0 2) * 32)))) 4294967295)) x3
       else
        none
      else
       none
     else
      none
    else
     none
   else
    none
  else
   some (mk0 x2 x3)
def q01_halves.l3_0.g {α : Type} (mk0 : (List Int) → (List Int) → α) (n : Nat) : Nat → Int → (List Int) → (List Int) → (List Int) → Option α
 | 0, _, _, _, _ => none
 | m + 1, x0, x1, x2, x3 => q01_halves.l3_0.r mk0 n (fun y0 y1 y2 y3 => q01_halves.l3_0.g mk0 n m y0 y1 y2 y3)  x0 x1 x2 x3
def q01_halves.l3_0.m (n m : Nat) (t : (Int × ((List Int) × ((List Int) × (List Int))))) : Option ((List Int) × (List Int)) := q01_halves.l3_0.g (fun a0 a1 => (a0, a1)) n m t.1 t.2.1 t.2.2.1 t.2.2.2
def q01_halves.l3_0.pat : St → Option (Int × ((List Int) × ((List Int) × (List Int))))
 | (St.mk [(.int .i64 x0), (.ptr 0 []), (.ptr 1 []), (.ptr 2 [])] [(some (.var (.ints .u64 4 x1))), (some (.var (.ints .u64 8 x2))), (some (.var (.ints .u64 8 x3)))]) => some (x0, x1, x2, x3)
 | _ => none
def q01_halves.l3_0.shape (t : (Int × ((List Int) × ((List Int) × (List Int))))) : St := (St.mk [(.int .i64 t.1), (.ptr 0 []), (.ptr 1 []), (.ptr 2 [])] [(some (.var (.ints .u64 4 t.2.1))), (some (.var (.ints .u64 8 t.2.2.1))), (some (.var (.ints .u64 8 t.2.2.2)))])
def q01_halves.l3_0.res : ((List Int) × (List Int)) → Ex × St
 | u => (Prod.mk (.exit 0) (St.mk [(.ptr 0 []), (.ptr 1 [])] [(some (.var (.ints .u64 8 u.1))), (some (.var (.ints .u64 8 u.2)))]))
def q01_halves.l3_0.resK {R : Type} (u : ((List Int) × (List Int))) (K : Ex → St → Option R) : Option R := (fun p : Ex × St => K p.1 p.2) (Prod.mk (.exit 0) (St.mk [(.ptr 0 []), (.ptr 1 [])] [(some (.var (.ints .u64 8 u.1))), (some (.var (.ints .u64 8 u.2)))]))
noncomputable def q01_halves.A (n : Nat) : Ann := ⟨Tryd.f88.ntmps, 0, q01_halves.live, [], [none], fun k => match k with
 | 3 => some (.mk' q01_halves.l3_0.pat (q01_halves.l3_0.m n n) q01_halves.l3_0.resK)
 | _ => none, q01_halves.jlive, lookJ []⟩
noncomputable def q01_halves.b0 : Code := (loopsIn (Tryd.f88.body.getD .skip)).getD 0 .skip
def q01_halves.g {α : Type} (mk0 : (List Int) → α) (n : Nat) (a0 : (List Int)) : Option α :=
 bindO (q01_halves.l3_0.m n n (0, a0, ([0, 0, 0, 0, 0, 0, 0, 0] : List Int), ([0, 0, 0, 0, 0, 0, 0, 0] : List Int))) fun r2 =>
  some (mk0 (Prod.fst r2))
def q01_halves.m (n : Nat) (t : (List Int)) : Option (List Int) := q01_halves.g (fun a0 => a0) n t
def q01_halves.pat : List AV → Blks → Option (List Int)
 | [(.ints .u64 4 a0)], [] => some a0
 | _, _ => none
def q01_halves.shape (t : (List Int)) : List AV × Blks := ([(.ints .u64 4 t)], [])
def q01_halves.res : (List Int) → AV × Blks
 | u => (Prod.mk (.ints .u64 8 u) [])
def q01_halves.resK {R : Type} (u : (List Int)) (K : AV → Blks → Option R) : Option R := (fun p : AV × Blks => K p.1 p.2) (Prod.mk (.ints .u64 8 u) [])
def q01_halves.c (n : Nat) : Abs.Callee := .mk' [] [none] q01_halves.pat (q01_halves.m n) q01_halves.resK
end
end
section
noncomputable section
noncomputable def q01_Mul.C (n : Nat) : Ctx := ⟨Tryd.prog, abiG, fun f => match f with
 | 88 => some (q01_halves.c n)
 | _ => none, fun _ => false⟩
def q01_Mul.live : Nat → List Nat × List Nat := fun k => match k with
 | 5 => ([9, 8, 6, 7, 4], [8, 4])
 | 9 => ([11, 9, 8, 6, 7, 10, 4], [9, 10, 8, 6, 7, 4])
 | 18 => ([15, 13, 8, 14, 4], [13, 14, 4])
 | _ => ([], [])
def q01_Mul.jlive : Nat → List Nat × List Nat := fun k => match k with
 | _ => ([], [])
def q01_Mul.l9_0.r {α : Type} (mk0 : Int → Int → (List Int) → (List Int) → (List Int) → (List Int) → α) (n : Nat) (rc : Int → Int → Int → (List Int) → (List Int) → (List Int) → (List Int) → Option α)  (x0 : Int) (x1 : Int) (x2 : Int) (x3 : (List Int)) (x4 : (List Int)) (x5 : (List Int)) (x6 : (List Int)) : Option α :=
  if (decide (x0 < 8)) = true then
   if 0 ≤ (IntKind.wrap .i64 (x1 + x0)) then
    if (IntKind.wrap .i64 (x1 + x0)) < 16 then
     if 0 ≤ x1 then
      if x1 < 8 then
       if 0 ≤ x0 then
        if x0 < 8 then
         if 0 ≤ (IntKind.wrap .i64 (x1 + x0)) then
          if (IntKind.wrap .i64 (x1 + x0)) < 16 then
           rc (IntKind.wrap .i64 (x0 + 1)) x1 (ishr .u64 (IntKind.wrap .u64 ((IntKind.wrap .u64 ((List.getD x3 (Int.toNat (IntKind.wrap .i64 (x1 + x0))) 0) + (IntKind.wrap .u64 ((List.getD x4 (Int.toNat x1) 0) * (List.getD x5 (Int.toNat x0) 0))))) + x2)) 32) (List.set x3 (Int.toNat (IntKind.wrap .i64 (x1 + x0))) (ibits BinOp.and .u64 (IntKind.wrap .u64 ((IntKind.wrap .u64 ((List.getD x3 (Int.toNat (IntKind.wrap .i64 (x1 + x0))) 0) + (IntKind.wrap .u64 ((List.getD x4 (Int.toNat x1) 0) * (List.getD x5 (Int.toNat x0) 0))))) + x2)) 4294967295)) x4 x5 x6
          else
           none
         else
          none
        else
         none
       else
        none
      else
       none
     else
      none
    else
     none
   else
    none
  else
   some (mk0 x1 x2 x3 x4 x5 x6)
def q01_Mul.l9_0.g {α : Type} (mk0 : Int → Int → (List Int) → (List Int) → (List Int) → (List Int) → α) (n : Nat) : Nat → Int → Int → Int → (List Int) → (List Int) → (List Int) → (List Int) → Option α
 | 0, _, _, _, _, _, _, _ => none
 | m + 1, x0, x1, x2, x3, x4, x5, x6 => q01_Mul.l9_0.r mk0 n (fun y0 y1 y2 y3 y4 y5 y6 => q01_Mul.l9_0.g mk0 n m y0 y1 y2 y3 y4 y5 y6)  x0 x1 x2 x3 x4 x5 x6
def q01_Mul.l9_0.m (n m : Nat) (t : (Int × (Int × (Int × ((List Int) × ((List Int) × ((List Int) × (List Int)))))))) : Option (Int × (Int × ((List Int) × ((List Int) × ((List Int) × (List Int)))))) := q01_Mul.l9_0.g (fun a0 a1 a2 a3 a4 a5 => (a0, a1, a2, a3, a4, a5)) n m t.1 t.2.1 t.2.2.1 t.2.2.2.1 t.2.2.2.2.1 t.2.2.2.2.2.1 t.2.2.2.2.2.2
def q01_Mul.l9_0.pat : St → Option (Int × (Int × (Int × ((List Int) × ((List Int) × ((List Int) × (List Int)))))))
 | (St.mk [(.int .i64 x0), (.int .i64 x1), (.ptr 0 []), (.ptr 1 []), (.ptr 2 []), (.int .u64 x2), (.ptr 3 [])] [(some (.var (.ints .u64 16 x3))), (some (.var (.ints .u64 8 x4))), (some (.var (.ints .u64 8 x5))), (some (.var (.ints .u64 4 x6)))]) => some (x0, x1, x2, x3, x4, x5, x6)
 | _ => none
def q01_Mul.l9_0.shape (t : (Int × (Int × (Int × ((List Int) × ((List Int) × ((List Int) × (List Int)))))))) : St := (St.mk [(.int .i64 t.1), (.int .i64 t.2.1), (.ptr 0 []), (.ptr 1 []), (.ptr 2 []), (.int .u64 t.2.2.1), (.ptr 3 [])] [(some (.var (.ints .u64 16 t.2.2.2.1))), (some (.var (.ints .u64 8 t.2.2.2.2.1))), (some (.var (.ints .u64 8 t.2.2.2.2.2.1))), (some (.var (.ints .u64 4 t.2.2.2.2.2.2)))])
def q01_Mul.l9_0.res : (Int × (Int × ((List Int) × ((List Int) × ((List Int) × (List Int)))))) → Ex × St
 | u => (Prod.mk (.exit 2) (St.mk [(.int .i64 u.1), (.int .u64 u.2.1), (.ptr 0 []), (.ptr 1 []), (.ptr 2 []), (.ptr 3 [])] [(some (.var (.ints .u64 16 u.2.2.1))), (some (.var (.ints .u64 8 u.2.2.2.1))), (some (.var (.ints .u64 8 u.2.2.2.2.1))), (some (.var (.ints .u64 4 u.2.2.2.2.2)))]))
def q01_Mul.l9_0.resK {R : Type} (u : (Int × (Int × ((List Int) × ((List Int) × ((List Int) × (List Int))))))) (K : Ex → St → Option R) : Option R := (fun p : Ex × St => K p.1 p.2) (Prod.mk (.exit 2) (St.mk [(.int .i64 u.1), (.int .u64 u.2.1), (.ptr 0 []), (.ptr 1 []), (.ptr 2 []), (.ptr 3 [])] [(some (.var (.ints .u64 16 u.2.2.1))), (some (.var (.ints .u64 8 u.2.2.2.1))), (some (.var (.ints .u64 8 u.2.2.2.2.1))), (some (.var (.ints .u64 4 u.2.2.2.2.2)))]))
def q01_Mul.l5_0.r {α : Type} (mk0 : (List Int) → (List Int) → α) (n : Nat) (rc : Int → (List Int) → (List Int) → (List Int) → (List Int) → Option α)  (x0 : Int) (x1 : (List Int)) (x2 : (List Int)) (x3 : (List Int)) (x4 : (List Int)) : Option α :=
  if (decide (x0 < 8)) = true then
   bindO (q01_Mul.l9_0.m n n (0, x0, 0, x1, x2, x3, x4)) fun r6 =>
    if 0 ≤ (IntKind.wrap .i64 ((Prod.fst r6) + 8)) then
     if (IntKind.wrap .i64 ((Prod.fst r6) + 8)) < 16 then
      rc (IntKind.wrap .i64 ((Prod.fst r6) + 1)) (List.set (Prod.fst (Prod.snd r6).2) (Int.toNat (IntKind.wrap .i64 ((Prod.fst r6) + 8))) (Prod.fst r6.2)) (Prod.fst (Prod.snd r6.2).2) (Prod.fst (Prod.snd (Prod.snd r6).2).2) (Prod.snd (Prod.snd (Prod.snd r6).2).2)
     else
      none
    else
     none
  else
   some (mk0 x1 x4)
def q01_Mul.l5_0.g {α : Type} (mk0 : (List Int) → (List Int) → α) (n : Nat) : Nat → Int → (List Int) → (List Int) → (List Int) → (List Int) → Option α
 | 0, _, _, _, _, _ => none
 | m + 1, x0, x1, x2, x3, x4 => q01_Mul.l5_0.r mk0 n (fun y0 y1 y2 y3 y4 => q01_Mul.l5_0.g mk0 n m y0 y1 y2 y3 y4)  x0 x1 x2 x3 x4
def q01_Mul.l5_0.m (n m : Nat) (t : (Int × ((List Int) × ((List Int) × ((List Int) × (List Int)))))) : Option ((List Int) × (List Int)) := q01_Mul.l5_0.g (fun a0 a1 => (a0, a1)) n m t.1 t.2.1 t.2.2.1 t.2.2.2.1 t.2.2.2.2
def q01_Mul.l5_0.pat : St → Option (Int × ((List Int) × ((List Int) × ((List Int) × (List Int)))))
 | (St.mk [(.int .i64 x0), (.ptr 0 []), (.ptr 1 []), (.ptr 2 []), (.ptr 3 [])] [(some (.var (.ints .u64 16 x1))), (some (.var (.ints .u64 8 x2))), (some (.var (.ints .u64 8 x3))), (some (.var (.ints .u64 4 x4)))]) => some (x0, x1, x2, x3, x4)
 | _ => none
def q01_Mul.l5_0.shape (t : (Int × ((List Int) × ((List Int) × ((List Int) × (List Int)))))) : St := (St.mk [(.int .i64 t.1), (.ptr 0 []), (.ptr 1 []), (.ptr 2 []), (.ptr 3 [])] [(some (.var (.ints .u64 16 t.2.1))), (some (.var (.ints .u64 8 t.2.2.1))), (some (.var (.ints .u64 8 t.2.2.2.1))), (some (.var (.ints .u64 4 t.2.2.2.2)))])
def q01_Mul.l5_0.res : ((List Int) × (List Int)) → Ex × St
 | u => (Prod.mk (.exit 0) (St.mk [(.ptr 0 []), (.ptr 1 [])] [(some (.var (.ints .u64 16 u.1))), (some (.var (.ints .u64 4 u.2)))]))
def q01_Mul.l5_0.resK {R : Type} (u : ((List Int) × (List Int))) (K : Ex → St → Option R) : Option R := (fun p : Ex × St => K p.1 p.2) (Prod.mk (.exit 0) (St.mk [(.ptr 0 []), (.ptr 1 [])] [(some (.var (.ints .u64 16 u.1))), (some (.var (.ints .u64 4 u.2)))]))
def q01_Mul.l18_0.r {α : Type} (mk0 : Bool → (List Int) → (List Int) → α) (n : Nat) (rc : Int → Bool → (List Int) → (List Int) → (List Int) → Option α)  (x0 : Int) (x1 : Bool) (x2 : (List Int)) (x3 : (List Int)) (x4 : (List Int)) : Option α :=
  if (decide (x0 < 8)) = true then
   if 0 ≤ (IntKind.wrap .i64 (Int.tdiv x0 2)) then
    if (IntKind.wrap .i64 (Int.tdiv x0 2)) < 4 then
     if 0 ≤ x0 then
      if x0 < 16 then
       if 0 ≤ (IntKind.wrap .u64 (IntKind.wrap .i64 ((Int.tmod x0 2) * 32))) then
        if 0 ≤ (IntKind.wrap .i64 (Int.tdiv x0 2)) then
         if (IntKind.wrap .i64 (Int.tdiv x0 2)) < 4 then
          if x1 = true then
           rc (IntKind.wrap .i64 (x0 + 1)) true (List.set x2 (Int.toNat (IntKind.wrap .i64 (Int.tdiv x0 2))) (ibits BinOp.or .u64 (List.getD x2 (Int.toNat (IntKind.wrap .i64 (Int.tdiv x0 2))) 0) (ishl .u64 (List.getD x3 (Int.toNat x0) 0) (IntKind.wrap .u64 (IntKind.wrap .i64 ((Int.tmod x0 2) * 32)))))) x3 x4
          else
           if 0 ≤ (IntKind.wrap .i64 (x0 + 8)) then
            if (IntKind.wrap .i64 (x0 + 8)) < 16 then
             rc (IntKind.wrap .i64 (x0 + 1)) ((List.getD x3 (Int.toNat (IntKind.wrap .i64 (x0 + 8))) 0) != 0) (List.set x2 (Int.toNat (IntKind.wrap .i64 (Int.tdiv x0 2))) (ibits BinOp.or .u64 (List.getD x2 (Int.toNat (IntKind.wrap .i64 (Int.tdiv x0 2))) 0) (ishl .u64 (List.getD x3 (Int.toNat x0) 0) (IntKind.wrap .u64 (IntKind.wrap .i64 ((Int.tmod x0 2) * 32)))))) x3 x4
            else
             none
           else
            none
         else
          none
        else
         none
       else
        none
      else
       none
     else
      none
    else
     none
   else
    none
  else
   some (mk0 x1 x2 x4)
def q01_Mul.l18_0.g {α : Type} (mk0 : Bool → (List Int) → (List Int) → α) (n : Nat) : Nat → Int → Bool → (List Int) → (List Int) → (List Int) → Option α
 | 0, _, _, _, _, _ => none
 | m + 1, x0, x1, x2, x3, x4 => q01_Mul.l18_0.r mk0 n (fun y0 y1 y2 y3 y4 => q01_Mul.l18_0.g mk0 n m y0 y1 y2 y3 y4)  x0 x1 x2 x3 x4
def q01_Mul.l18_0.m (n m : Nat) (t : (Int × (Bool × ((List Int) × ((List Int) × (List Int)))))) : Option (Bool × ((List Int) × (List Int))) := q01_Mul.l18_0.g (fun a0 a1 a2 => (a0, a1, a2)) n m t.1 t.2.1 t.2.2.1 t.2.2.2.1 t.2.2.2.2
def q01_Mul.l18_0.pat : St → Option (Int × (Bool × ((List Int) × ((List Int) × (List Int)))))
 | (St.mk [(.int .i64 x0), (.ptr 0 []), (.ptr 1 []), (.bool x1), (.ptr 2 [])] [(some (.var (.ints .u64 4 x2))), (some (.var (.ints .u64 16 x3))), (some (.var (.ints .u64 4 x4)))]) => some (x0, x1, x2, x3, x4)
 | _ => none
def q01_Mul.l18_0.shape (t : (Int × (Bool × ((List Int) × ((List Int) × (List Int)))))) : St := (St.mk [(.int .i64 t.1), (.ptr 0 []), (.ptr 1 []), (.bool t.2.1), (.ptr 2 [])] [(some (.var (.ints .u64 4 t.2.2.1))), (some (.var (.ints .u64 16 t.2.2.2.1))), (some (.var (.ints .u64 4 t.2.2.2.2)))])
def q01_Mul.l18_0.res : (Bool × ((List Int) × (List Int))) → Ex × St
 | u => (Prod.mk (.exit 4) (St.mk [(.ptr 0 []), (.bool u.1), (.ptr 1 [])] [(some (.var (.ints .u64 4 u.2.1))), (some (.var (.ints .u64 4 u.2.2)))]))
def q01_Mul.l18_0.resK {R : Type} (u : (Bool × ((List Int) × (List Int)))) (K : Ex → St → Option R) : Option R := (fun p : Ex × St => K p.1 p.2) (Prod.mk (.exit 4) (St.mk [(.ptr 0 []), (.bool u.1), (.ptr 1 [])] [(some (.var (.ints .u64 4 u.2.1))), (some (.var (.ints .u64 4 u.2.2)))]))
noncomputable def q01_Mul.A (n : Nat) : Ann := ⟨Tryd.f50.ntmps, 0, q01_Mul.live, [], [none, none], fun k => match k with
 | 9 => some (.mk' q01_Mul.l9_0.pat (q01_Mul.l9_0.m n n) q01_Mul.l9_0.resK)
 | 5 => some (.mk' q01_Mul.l5_0.pat (q01_Mul.l5_0.m n n) q01_Mul.l5_0.resK)
 | 18 => some (.mk' q01_Mul.l18_0.pat (q01_Mul.l18_0.m n n) q01_Mul.l18_0.resK)
 | _ => none, q01_Mul.jlive, lookJ []⟩
noncomputable def q01_Mul.b0 : Code := (loopsIn (Tryd.f50.body.getD .skip)).getD 0 .skip
noncomputable def q01_Mul.b1 : Code := (loopsIn (Tryd.f50.body.getD .skip)).getD 1 .skip
noncomputable def q01_Mul.b2 : Code := (loopsIn (Tryd.f50.body.getD .skip)).getD 2 .skip
def q01_Mul.g {α : Type} (mk0 : (List Int) → Bool → α) (n : Nat) (a0 : (List Int)) (a1 : (List Int)) : Option α :=
 bindO (q01_halves.m n a0) fun r2 =>
  bindO (q01_halves.m n a1) fun r4 =>
   bindO (q01_Mul.l5_0.m n n (0, ([0, 0, 0, 0, 0, 0, 0, 0, 0, 0, 0, 0, 0, 0, 0, 0] : List Int), r2, r4, [0, 0, 0, 0])) fun r6 =>
    bindO (q01_Mul.l18_0.m n n (0, false, [0, 0, 0, 0], (Prod.fst r6), (Prod.snd r6))) fun r8 =>
     some (mk0 (Prod.fst r8.2) (Prod.fst r8))
def q01_Mul.m (n : Nat) (t : ((List Int) × (List Int))) : Option ((List Int) × Bool) := q01_Mul.g (fun a0 a1 => (a0, a1)) n t.1 t.2
def q01_Mul.pat : List AV → Blks → Option ((List Int) × (List Int))
 | [(.ints .u64 4 a0), (.ints .u64 4 a1)], [] => some (a0, a1)
 | _, _ => none
def q01_Mul.shape (t : ((List Int) × (List Int))) : List AV × Blks := ([(.ints .u64 4 t.1), (.ints .u64 4 t.2)], [])
def q01_Mul.res : ((List Int) × Bool) → AV × Blks
 | u => (Prod.mk (.tup [(.ints .u64 4 u.1), (.bool u.2)]) [])
def q01_Mul.resK {R : Type} (u : ((List Int) × Bool)) (K : AV → Blks → Option R) : Option R := (fun p : AV × Blks => K p.1 p.2) (Prod.mk (.tup [(.ints .u64 4 u.1), (.bool u.2)]) [])
def q01_Mul.c (n : Nat) : Abs.Callee := .mk' [] [none, none] q01_Mul.pat (q01_Mul.m n) q01_Mul.resK
end
end
section
theorem q01_halves.l3_0.rmap {α β : Type} (h : β → α) (mk0 : (List Int) → (List Int) → β) (n : Nat) (f : Int → (List Int) → (List Int) → (List Int) → Option β)  (x0 : Int) (x1 : (List Int)) (x2 : (List Int)) (x3 : (List Int)) : q01_halves.l3_0.r (fun a0 a1 => (h (mk0 a0 a1))) n (fun y0 y1 y2 y3 => (f y0 y1 y2 y3).map h) x0 x1 x2 x3 = (q01_halves.l3_0.r mk0 n f x0 x1 x2 x3).map h := by
  unfold q01_halves.l3_0.r
  exact (ite_map (ite_map (ite_map (ite_map (ite_map (ite_map rfl rfl) rfl) rfl) rfl) rfl) rfl)
theorem q01_halves.l3_0.gmap {α β : Type} (h : β → α) (mk0 : (List Int) → (List Int) → β) (n : Nat) : ∀ (m : Nat) (x0 : Int) (x1 : (List Int)) (x2 : (List Int)) (x3 : (List Int)), q01_halves.l3_0.g (fun a0 a1 => (h (mk0 a0 a1))) n m x0 x1 x2 x3 = (q01_halves.l3_0.g mk0 n m x0 x1 x2 x3).map h
  | 0, _, _, _, _ => rfl
  | m + 1, x0, x1, x2, x3 => by
    unfold q01_halves.l3_0.g
    rw [← q01_halves.l3_0.rmap]
    congr
    · funext y0 y1 y2 y3; exact q01_halves.l3_0.gmap h mk0 n m y0 y1 y2 y3
theorem q01_halves.l3_0.pat_shape : ∀ st t, q01_halves.l3_0.pat st = some t → st = q01_halves.l3_0.shape t := by
  intro st t h
  unfold q01_halves.l3_0.pat at h
  split at h
  · cases h; rfl
  · cases h
theorem q01_halves.l3_0.round (n : Nat) (rc : St → Option (Ex × St)) (x0 : Int) (x1 : (List Int)) (x2 : (List Int)) (x3 : (List Int)) : roundOf (q01_halves.C n) (q01_halves.A n) n q01_halves.b0 rc ((St.mk [(.int .i64 x0), (.ptr 0 []), (.ptr 1 []), (.ptr 2 [])] [(some (.var (.ints .u64 4 x1))), (some (.var (.ints .u64 8 x2))), (some (.var (.ints .u64 8 x3)))])) = q01_halves.l3_0.r (fun a0 a1 => ((Prod.mk (.exit 0) (St.mk [(.ptr 0 []), (.ptr 1 [])] [(some (.var (.ints .u64 8 a0))), (some (.var (.ints .u64 8 a1)))])) : Ex × St)) n (fun y0 y1 y2 y3 => rc ((St.mk [(.int .i64 y0), (.ptr 0 []), (.ptr 1 []), (.ptr 2 [])] [(some (.var (.ints .u64 4 y1))), (some (.var (.ints .u64 8 y2))), (some (.var (.ints .u64 8 y3)))]))) x0 x1 x2 x3 := by kernel_rfl
theorem q01_halves.l3_0.loop' (n : Nat) : ∀ (m : Nat) (t : (Int × ((List Int) × ((List Int) × (List Int))))), loopOf (roundOf (q01_halves.C n) (q01_halves.A n) n q01_halves.b0) m (q01_halves.l3_0.shape t) = q01_halves.l3_0.g (fun a0 a1 => ((Prod.mk (.exit 0) (St.mk [(.ptr 0 []), (.ptr 1 [])] [(some (.var (.ints .u64 8 a0))), (some (.var (.ints .u64 8 a1)))])) : Ex × St)) n m t.1 t.2.1 t.2.2.1 t.2.2.2 :=
  loop_of_round (shape := q01_halves.l3_0.shape) (body := roundOf (q01_halves.C n) (q01_halves.A n) n q01_halves.b0) (g := fun m t => q01_halves.l3_0.g (fun a0 a1 => ((Prod.mk (.exit 0) (St.mk [(.ptr 0 []), (.ptr 1 [])] [(some (.var (.ints .u64 8 a0))), (some (.var (.ints .u64 8 a1)))])) : Ex × St)) n m t.1 t.2.1 t.2.2.1 t.2.2.2) (fun t => rfl)
    fun m t ih => (q01_halves.l3_0.round n (loopOf (roundOf (q01_halves.C n) (q01_halves.A n) n q01_halves.b0) m) t.1 t.2.1 t.2.2.1 t.2.2.2).trans (congrFun (congrFun (congrFun (congrFun (congrArg (q01_halves.l3_0.r (fun a0 a1 => ((Prod.mk (.exit 0) (St.mk [(.ptr 0 []), (.ptr 1 [])] [(some (.var (.ints .u64 8 a0))), (some (.var (.ints .u64 8 a1)))])) : Ex × St)) n) (funext fun y0 => funext fun y1 => funext fun y2 => funext fun y3 => ih (y0, y1, y2, y3))) t.1) t.2.1) t.2.2.1) t.2.2.2)
theorem q01_halves.l3_0.loop (n m : Nat) (t : (Int × ((List Int) × ((List Int) × (List Int))))) : loopOf (roundOf (q01_halves.C n) (q01_halves.A n) n q01_halves.b0) m (q01_halves.l3_0.shape t) = (q01_halves.l3_0.m n m t).map q01_halves.l3_0.res :=
  (q01_halves.l3_0.loop' n m t).trans (q01_halves.l3_0.gmap q01_halves.l3_0.res (fun a0 a1 => (a0, a1)) n m t.1 t.2.1 t.2.2.1 t.2.2.2)
theorem q01_halves.gmap {α β : Type} (h : β → α) (mk0 : (List Int) → β) (n : Nat) (a0 : (List Int)) : q01_halves.g (fun a0 => (h (mk0 a0))) n a0 = (q01_halves.g mk0 n a0).map h := by
  unfold q01_halves.g
  exact (bindO_map fun r2 => rfl)
theorem q01_halves.run (n : Nat) (a0 : (List Int)) : runF (q01_halves.C n) (q01_halves.A n) n Tryd.f88 [(.ints .u64 4 a0)] [] (fun v o => some (v, o)) = q01_halves.g (fun a0 => ((Prod.mk (.ints .u64 8 a0) []) : AV × Blks)) n a0 := by kernel_rfl
theorem q01_halves.call (hmix : Tryd.prog.follows .mixedOrders = true) (n : Nat) (t : (List Int)) (u) (h : q01_halves.m n t = some u) : FnC Tryd.prog abiG 88 (q01_halves.shape t).1 (q01_halves.shape t).2 (q01_halves.res u).1 (q01_halves.res u).2 := by
  have hg : ∀ f m, (q01_halves.C n).Γ f = some m → CalleeS Tryd.prog abiG f m := by
    intro f m hm
    unfold q01_halves.C at hm
    simp only at hm
    first
    | (cases hm; done)
    | (split at hm <;> first
    | (cases hm; done))
  have hb : Tryd.f88.body = some (Tryd.f88.body.getD .skip) := by kernel_rfl
  refine runF_calls (C := q01_halves.C n) (A := q01_halves.A n) (n := n) (fn := Tryd.f88) hg hmix Tryd.func88 hb ?_ ?_ (by decide) rfl rfl (by show 1 ≤ Tryd.f88.ntmps; decide) ?_
  · rw [show loopsIn (Tryd.f88.body.getD .skip) = [q01_halves.b0] by kernel_rfl]
    intro b hb m hm
    simp only [List.mem_cons, List.not_mem_nil, or_false] at hb
    rcases hb with rfl
    · have e : (q01_halves.A n).loop (key q01_halves.b0) = some (.mk' q01_halves.l3_0.pat (q01_halves.l3_0.m n n) q01_halves.l3_0.resK) := by rw [show key q01_halves.b0 = 3 by kernel_rfl]; rfl
      rw [e] at hm
      cases hm
      exact (LoopS.of (res := q01_halves.l3_0.res) (fun R u K => rfl) q01_halves.l3_0.pat_shape fun t => q01_halves.l3_0.loop n n t)
  · intro a ha m hm
    cases (show none = some m from hm)
  · rw [show runF (q01_halves.C n) (q01_halves.A n) n Tryd.f88 (q01_halves.shape t).1 (q01_halves.shape t).2 (fun v o => some (v, o)) = _ from q01_halves.run n t]
    have e := q01_halves.gmap q01_halves.res (fun a0 => a0) n t
    unfold q01_halves.m at h
    rw [h] at e
    exact e
theorem q01_halves.s (hmix : Tryd.prog.follows .mixedOrders = true) (n : Nat) : CalleeS Tryd.prog abiG 88 (q01_halves.c n) :=
  CalleeS.of (res := q01_halves.res) (shape := q01_halves.shape) (fun R u K => rfl) (fun args lent t h => by
    unfold q01_halves.pat at h
    split at h
    · cases h; rfl
    · cases h) fun t u h => (q01_halves.call hmix n t u h).ok Tryd.func88 (by decide) (by kernel_rfl)
end
section
theorem q01_Mul.l9_0.rmap {α β : Type} (h : β → α) (mk0 : Int → Int → (List Int) → (List Int) → (List Int) → (List Int) → β) (n : Nat) (f : Int → Int → Int → (List Int) → (List Int) → (List Int) → (List Int) → Option β)  (x0 : Int) (x1 : Int) (x2 : Int) (x3 : (List Int)) (x4 : (List Int)) (x5 : (List Int)) (x6 : (List Int)) : q01_Mul.l9_0.r (fun a0 a1 a2 a3 a4 a5 => (h (mk0 a0 a1 a2 a3 a4 a5))) n (fun y0 y1 y2 y3 y4 y5 y6 => (f y0 y1 y2 y3 y4 y5 y6).map h) x0 x1 x2 x3 x4 x5 x6 = (q01_Mul.l9_0.r mk0 n f x0 x1 x2 x3 x4 x5 x6).map h := by
  unfold q01_Mul.l9_0.r
  exact (ite_map (ite_map (ite_map (ite_map (ite_map (ite_map (ite_map (ite_map (ite_map rfl rfl) rfl) rfl) rfl) rfl) rfl) rfl) rfl) rfl)
theorem q01_Mul.l9_0.gmap {α β : Type} (h : β → α) (mk0 : Int → Int → (List Int) → (List Int) → (List Int) → (List Int) → β) (n : Nat) : ∀ (m : Nat) (x0 : Int) (x1 : Int) (x2 : Int) (x3 : (List Int)) (x4 : (List Int)) (x5 : (List Int)) (x6 : (List Int)), q01_Mul.l9_0.g (fun a0 a1 a2 a3 a4 a5 => (h (mk0 a0 a1 a2 a3 a4 a5))) n m x0 x1 x2 x3 x4 x5 x6 = (q01_Mul.l9_0.g mk0 n m x0 x1 x2 x3 x4 x5 x6).map h
  | 0, _, _, _, _, _, _, _ => rfl
  | m + 1, x0, x1, x2, x3, x4, x5, x6 => by
    unfold q01_Mul.l9_0.g
    rw [← q01_Mul.l9_0.rmap]
    congr
    · funext y0 y1 y2 y3 y4 y5 y6; exact q01_Mul.l9_0.gmap h mk0 n m y0 y1 y2 y3 y4 y5 y6
theorem q01_Mul.l9_0.pat_shape : ∀ st t, q01_Mul.l9_0.pat st = some t → st = q01_Mul.l9_0.shape t := by
  intro st t h
  unfold q01_Mul.l9_0.pat at h
  split at h
  · cases h; rfl
  · cases h
theorem q01_Mul.l9_0.round (n : Nat) (rc : St → Option (Ex × St)) (x0 : Int) (x1 : Int) (x2 : Int) (x3 : (List Int)) (x4 : (List Int)) (x5 : (List Int)) (x6 : (List Int)) : roundOf (q01_Mul.C n) (q01_Mul.A n) n q01_Mul.b1 rc ((St.mk [(.int .i64 x0), (.int .i64 x1), (.ptr 0 []), (.ptr 1 []), (.ptr 2 []), (.int .u64 x2), (.ptr 3 [])] [(some (.var (.ints .u64 16 x3))), (some (.var (.ints .u64 8 x4))), (some (.var (.ints .u64 8 x5))), (some (.var (.ints .u64 4 x6)))])) = q01_Mul.l9_0.r (fun a0 a1 a2 a3 a4 a5 => ((Prod.mk (.exit 2) (St.mk [(.int .i64 a0), (.int .u64 a1), (.ptr 0 []), (.ptr 1 []), (.ptr 2 []), (.ptr 3 [])] [(some (.var (.ints .u64 16 a2))), (some (.var (.ints .u64 8 a3))), (some (.var (.ints .u64 8 a4))), (some (.var (.ints .u64 4 a5)))])) : Ex × St)) n (fun y0 y1 y2 y3 y4 y5 y6 => rc ((St.mk [(.int .i64 y0), (.int .i64 y1), (.ptr 0 []), (.ptr 1 []), (.ptr 2 []), (.int .u64 y2), (.ptr 3 [])] [(some (.var (.ints .u64 16 y3))), (some (.var (.ints .u64 8 y4))), (some (.var (.ints .u64 8 y5))), (some (.var (.ints .u64 4 y6)))]))) x0 x1 x2 x3 x4 x5 x6 := by kernel_rfl
theorem q01_Mul.l9_0.loop' (n : Nat) : ∀ (m : Nat) (t : (Int × (Int × (Int × ((List Int) × ((List Int) × ((List Int) × (List Int)))))))), loopOf (roundOf (q01_Mul.C n) (q01_Mul.A n) n q01_Mul.b1) m (q01_Mul.l9_0.shape t) = q01_Mul.l9_0.g (fun a0 a1 a2 a3 a4 a5 => ((Prod.mk (.exit 2) (St.mk [(.int .i64 a0), (.int .u64 a1), (.ptr 0 []), (.ptr 1 []), (.ptr 2 []), (.ptr 3 [])] [(some (.var (.ints .u64 16 a2))), (some (.var (.ints .u64 8 a3))), (some (.var (.ints .u64 8 a4))), (some (.var (.ints .u64 4 a5)))])) : Ex × St)) n m t.1 t.2.1 t.2.2.1 t.2.2.2.1 t.2.2.2.2.1 t.2.2.2.2.2.1 t.2.2.2.2.2.2 :=
  loop_of_round (shape := q01_Mul.l9_0.shape) (body := roundOf (q01_Mul.C n) (q01_Mul.A n) n q01_Mul.b1) (g := fun m t => q01_Mul.l9_0.g (fun a0 a1 a2 a3 a4 a5 => ((Prod.mk (.exit 2) (St.mk [(.int .i64 a0), (.int .u64 a1), (.ptr 0 []), (.ptr 1 []), (.ptr 2 []), (.ptr 3 [])] [(some (.var (.ints .u64 16 a2))), (some (.var (.ints .u64 8 a3))), (some (.var (.ints .u64 8 a4))), (some (.var (.ints .u64 4 a5)))])) : Ex × St)) n m t.1 t.2.1 t.2.2.1 t.2.2.2.1 t.2.2.2.2.1 t.2.2.2.2.2.1 t.2.2.2.2.2.2) (fun t => rfl)
    fun m t ih => (q01_Mul.l9_0.round n (loopOf (roundOf (q01_Mul.C n) (q01_Mul.A n) n q01_Mul.b1) m) t.1 t.2.1 t.2.2.1 t.2.2.2.1 t.2.2.2.2.1 t.2.2.2.2.2.1 t.2.2.2.2.2.2).trans (congrFun (congrFun (congrFun (congrFun (congrFun (congrFun (congrFun (congrArg (q01_Mul.l9_0.r (fun a0 a1 a2 a3 a4 a5 => ((Prod.mk (.exit 2) (St.mk [(.int .i64 a0), (.int .u64 a1), (.ptr 0 []), (.ptr 1 []), (.ptr 2 []), (.ptr 3 [])] [(some (.var (.ints .u64 16 a2))), (some (.var (.ints .u64 8 a3))), (some (.var (.ints .u64 8 a4))), (some (.var (.ints .u64 4 a5)))])) : Ex × St)) n) (funext fun y0 => funext fun y1 => funext fun y2 => funext fun y3 => funext fun y4 => funext fun y5 => funext fun y6 => ih (y0, y1, y2, y3, y4, y5, y6))) t.1) t.2.1) t.2.2.1) t.2.2.2.1) t.2.2.2.2.1) t.2.2.2.2.2.1) t.2.2.2.2.2.2)
theorem q01_Mul.l9_0.loop (n m : Nat) (t : (Int × (Int × (Int × ((List Int) × ((List Int) × ((List Int) × (List Int)))))))) : loopOf (roundOf (q01_Mul.C n) (q01_Mul.A n) n q01_Mul.b1) m (q01_Mul.l9_0.shape t) = (q01_Mul.l9_0.m n m t).map q01_Mul.l9_0.res :=
  (q01_Mul.l9_0.loop' n m t).trans (q01_Mul.l9_0.gmap q01_Mul.l9_0.res (fun a0 a1 a2 a3 a4 a5 => (a0, a1, a2, a3, a4, a5)) n m t.1 t.2.1 t.2.2.1 t.2.2.2.1 t.2.2.2.2.1 t.2.2.2.2.2.1 t.2.2.2.2.2.2)
theorem q01_Mul.l5_0.rmap {α β : Type} (h : β → α) (mk0 : (List Int) → (List Int) → β) (n : Nat) (f : Int → (List Int) → (List Int) → (List Int) → (List Int) → Option β)  (x0 : Int) (x1 : (List Int)) (x2 : (List Int)) (x3 : (List Int)) (x4 : (List Int)) : q01_Mul.l5_0.r (fun a0 a1 => (h (mk0 a0 a1))) n (fun y0 y1 y2 y3 y4 => (f y0 y1 y2 y3 y4).map h) x0 x1 x2 x3 x4 = (q01_Mul.l5_0.r mk0 n f x0 x1 x2 x3 x4).map h := by
  unfold q01_Mul.l5_0.r
  exact (ite_map (bindO_map fun r6 => (ite_map (ite_map rfl rfl) rfl)) rfl)
theorem q01_Mul.l5_0.gmap {α β : Type} (h : β → α) (mk0 : (List Int) → (List Int) → β) (n : Nat) : ∀ (m : Nat) (x0 : Int) (x1 : (List Int)) (x2 : (List Int)) (x3 : (List Int)) (x4 : (List Int)), q01_Mul.l5_0.g (fun a0 a1 => (h (mk0 a0 a1))) n m x0 x1 x2 x3 x4 = (q01_Mul.l5_0.g mk0 n m x0 x1 x2 x3 x4).map h
  | 0, _, _, _, _, _ => rfl
  | m + 1, x0, x1, x2, x3, x4 => by
    unfold q01_Mul.l5_0.g
    rw [← q01_Mul.l5_0.rmap]
    congr
    · funext y0 y1 y2 y3 y4; exact q01_Mul.l5_0.gmap h mk0 n m y0 y1 y2 y3 y4
theorem q01_Mul.l5_0.pat_shape : ∀ st t, q01_Mul.l5_0.pat st = some t → st = q01_Mul.l5_0.shape t := by
  intro st t h
  unfold q01_Mul.l5_0.pat at h
  split at h
  · cases h; rfl
  · cases h
theorem q01_Mul.l5_0.round (n : Nat) (rc : St → Option (Ex × St)) (x0 : Int) (x1 : (List Int)) (x2 : (List Int)) (x3 : (List Int)) (x4 : (List Int)) : roundOf (q01_Mul.C n) (q01_Mul.A n) n q01_Mul.b0 rc ((St.mk [(.int .i64 x0), (.ptr 0 []), (.ptr 1 []), (.ptr 2 []), (.ptr 3 [])] [(some (.var (.ints .u64 16 x1))), (some (.var (.ints .u64 8 x2))), (some (.var (.ints .u64 8 x3))), (some (.var (.ints .u64 4 x4)))])) = q01_Mul.l5_0.r (fun a0 a1 => ((Prod.mk (.exit 0) (St.mk [(.ptr 0 []), (.ptr 1 [])] [(some (.var (.ints .u64 16 a0))), (some (.var (.ints .u64 4 a1)))])) : Ex × St)) n (fun y0 y1 y2 y3 y4 => rc ((St.mk [(.int .i64 y0), (.ptr 0 []), (.ptr 1 []), (.ptr 2 []), (.ptr 3 [])] [(some (.var (.ints .u64 16 y1))), (some (.var (.ints .u64 8 y2))), (some (.var (.ints .u64 8 y3))), (some (.var (.ints .u64 4 y4)))]))) x0 x1 x2 x3 x4 := by kernel_rfl
theorem q01_Mul.l5_0.loop' (n : Nat) : ∀ (m : Nat) (t : (Int × ((List Int) × ((List Int) × ((List Int) × (List Int)))))), loopOf (roundOf (q01_Mul.C n) (q01_Mul.A n) n q01_Mul.b0) m (q01_Mul.l5_0.shape t) = q01_Mul.l5_0.g (fun a0 a1 => ((Prod.mk (.exit 0) (St.mk [(.ptr 0 []), (.ptr 1 [])] [(some (.var (.ints .u64 16 a0))), (some (.var (.ints .u64 4 a1)))])) : Ex × St)) n m t.1 t.2.1 t.2.2.1 t.2.2.2.1 t.2.2.2.2 :=
  loop_of_round (shape := q01_Mul.l5_0.shape) (body := roundOf (q01_Mul.C n) (q01_Mul.A n) n q01_Mul.b0) (g := fun m t => q01_Mul.l5_0.g (fun a0 a1 => ((Prod.mk (.exit 0) (St.mk [(.ptr 0 []), (.ptr 1 [])] [(some (.var (.ints .u64 16 a0))), (some (.var (.ints .u64 4 a1)))])) : Ex × St)) n m t.1 t.2.1 t.2.2.1 t.2.2.2.1 t.2.2.2.2) (fun t => rfl)
    fun m t ih => (q01_Mul.l5_0.round n (loopOf (roundOf (q01_Mul.C n) (q01_Mul.A n) n q01_Mul.b0) m) t.1 t.2.1 t.2.2.1 t.2.2.2.1 t.2.2.2.2).trans (congrFun (congrFun (congrFun (congrFun (congrFun (congrArg (q01_Mul.l5_0.r (fun a0 a1 => ((Prod.mk (.exit 0) (St.mk [(.ptr 0 []), (.ptr 1 [])] [(some (.var (.ints .u64 16 a0))), (some (.var (.ints .u64 4 a1)))])) : Ex × St)) n) (funext fun y0 => funext fun y1 => funext fun y2 => funext fun y3 => funext fun y4 => ih (y0, y1, y2, y3, y4))) t.1) t.2.1) t.2.2.1) t.2.2.2.1) t.2.2.2.2)
theorem q01_Mul.l5_0.loop (n m : Nat) (t : (Int × ((List Int) × ((List Int) × ((List Int) × (List Int)))))) : loopOf (roundOf (q01_Mul.C n) (q01_Mul.A n) n q01_Mul.b0) m (q01_Mul.l5_0.shape t) = (q01_Mul.l5_0.m n m t).map q01_Mul.l5_0.res :=
  (q01_Mul.l5_0.loop' n m t).trans (q01_Mul.l5_0.gmap q01_Mul.l5_0.res (fun a0 a1 => (a0, a1)) n m t.1 t.2.1 t.2.2.1 t.2.2.2.1 t.2.2.2.2)
theorem q01_Mul.l18_0.rmap {α β : Type} (h : β → α) (mk0 : Bool → (List Int) → (List Int) → β) (n : Nat) (f : Int → Bool → (List Int) → (List Int) → (List Int) → Option β)  (x0 : Int) (x1 : Bool) (x2 : (List Int)) (x3 : (List Int)) (x4 : (List Int)) : q01_Mul.l18_0.r (fun a0 a1 a2 => (h (mk0 a0 a1 a2))) n (fun y0 y1 y2 y3 y4 => (f y0 y1 y2 y3 y4).map h) x0 x1 x2 x3 x4 = (q01_Mul.l18_0.r mk0 n f x0 x1 x2 x3 x4).map h := by
  unfold q01_Mul.l18_0.r
  exact (ite_map (ite_map (ite_map (ite_map (ite_map (ite_map (ite_map (ite_map (ite_map rfl (ite_map (ite_map rfl rfl) rfl)) rfl) rfl) rfl) rfl) rfl) rfl) rfl) rfl)
theorem q01_Mul.l18_0.gmap {α β : Type} (h : β → α) (mk0 : Bool → (List Int) → (List Int) → β) (n : Nat) : ∀ (m : Nat) (x0 : Int) (x1 : Bool) (x2 : (List Int)) (x3 : (List Int)) (x4 : (List Int)), q01_Mul.l18_0.g (fun a0 a1 a2 => (h (mk0 a0 a1 a2))) n m x0 x1 x2 x3 x4 = (q01_Mul.l18_0.g mk0 n m x0 x1 x2 x3 x4).map h
  | 0, _, _, _, _, _ => rfl
  | m + 1, x0, x1, x2, x3, x4 => by
    unfold q01_Mul.l18_0.g
    rw [← q01_Mul.l18_0.rmap]
    congr
    · funext y0 y1 y2 y3 y4; exact q01_Mul.l18_0.gmap h mk0 n m y0 y1 y2 y3 y4
theorem q01_Mul.l18_0.pat_shape : ∀ st t, q01_Mul.l18_0.pat st = some t → st = q01_Mul.l18_0.shape t := by
  intro st t h
  unfold q01_Mul.l18_0.pat at h
  split at h
  · cases h; rfl
  · cases h
theorem q01_Mul.l18_0.round (n : Nat) (rc : St → Option (Ex × St)) (x0 : Int) (x1 : Bool) (x2 : (List Int)) (x3 : (List Int)) (x4 : (List Int)) : roundOf (q01_Mul.C n) (q01_Mul.A n) n q01_Mul.b2 rc ((St.mk [(.int .i64 x0), (.ptr 0 []), (.ptr 1 []), (.bool x1), (.ptr 2 [])] [(some (.var (.ints .u64 4 x2))), (some (.var (.ints .u64 16 x3))), (some (.var (.ints .u64 4 x4)))])) = q01_Mul.l18_0.r (fun a0 a1 a2 => ((Prod.mk (.exit 4) (St.mk [(.ptr 0 []), (.bool a0), (.ptr 1 [])] [(some (.var (.ints .u64 4 a1))), (some (.var (.ints .u64 4 a2)))])) : Ex × St)) n (fun y0 y1 y2 y3 y4 => rc ((St.mk [(.int .i64 y0), (.ptr 0 []), (.ptr 1 []), (.bool y1), (.ptr 2 [])] [(some (.var (.ints .u64 4 y2))), (some (.var (.ints .u64 16 y3))), (some (.var (.ints .u64 4 y4)))]))) x0 x1 x2 x3 x4 := by kernel_rfl
theorem q01_Mul.l18_0.loop' (n : Nat) : ∀ (m : Nat) (t : (Int × (Bool × ((List Int) × ((List Int) × (List Int)))))), loopOf (roundOf (q01_Mul.C n) (q01_Mul.A n) n q01_Mul.b2) m (q01_Mul.l18_0.shape t) = q01_Mul.l18_0.g (fun a0 a1 a2 => ((Prod.mk (.exit 4) (St.mk [(.ptr 0 []), (.bool a0), (.ptr 1 [])] [(some (.var (.ints .u64 4 a1))), (some (.var (.ints .u64 4 a2)))])) : Ex × St)) n m t.1 t.2.1 t.2.2.1 t.2.2.2.1 t.2.2.2.2 :=
  loop_of_round (shape := q01_Mul.l18_0.shape) (body := roundOf (q01_Mul.C n) (q01_Mul.A n) n q01_Mul.b2) (g := fun m t => q01_Mul.l18_0.g (fun a0 a1 a2 => ((Prod.mk (.exit 4) (St.mk [(.ptr 0 []), (.bool a0), (.ptr 1 [])] [(some (.var (.ints .u64 4 a1))), (some (.var (.ints .u64 4 a2)))])) : Ex × St)) n m t.1 t.2.1 t.2.2.1 t.2.2.2.1 t.2.2.2.2) (fun t => rfl)
    fun m t ih => (q01_Mul.l18_0.round n (loopOf (roundOf (q01_Mul.C n) (q01_Mul.A n) n q01_Mul.b2) m) t.1 t.2.1 t.2.2.1 t.2.2.2.1 t.2.2.2.2).trans (congrFun (congrFun (congrFun (congrFun (congrFun (congrArg (q01_Mul.l18_0.r (fun a0 a1 a2 => ((Prod.mk (.exit 4) (St.mk [(.ptr 0 []), (.bool a0), (.ptr 1 [])] [(some (.var (.ints .u64 4 a1))), (some (.var (.ints .u64 4 a2)))])) : Ex × St)) n) (funext fun y0 => funext fun y1 => funext fun y2 => funext fun y3 => funext fun y4 => ih (y0, y1, y2, y3, y4))) t.1) t.2.1) t.2.2.1) t.2.2.2.1) t.2.2.2.2)
theorem q01_Mul.l18_0.loop (n m : Nat) (t : (Int × (Bool × ((List Int) × ((List Int) × (List Int)))))) : loopOf (roundOf (q01_Mul.C n) (q01_Mul.A n) n q01_Mul.b2) m (q01_Mul.l18_0.shape t) = (q01_Mul.l18_0.m n m t).map q01_Mul.l18_0.res :=
  (q01_Mul.l18_0.loop' n m t).trans (q01_Mul.l18_0.gmap q01_Mul.l18_0.res (fun a0 a1 a2 => (a0, a1, a2)) n m t.1 t.2.1 t.2.2.1 t.2.2.2.1 t.2.2.2.2)
theorem q01_Mul.gmap {α β : Type} (h : β → α) (mk0 : (List Int) → Bool → β) (n : Nat) (a0 : (List Int)) (a1 : (List Int)) : q01_Mul.g (fun a0 a1 => (h (mk0 a0 a1))) n a0 a1 = (q01_Mul.g mk0 n a0 a1).map h := by
  unfold q01_Mul.g
  exact (bindO_map fun r2 => (bindO_map fun r4 => (bindO_map fun r6 => (bindO_map fun r8 => rfl))))
theorem q01_Mul.run (n : Nat) (a0 : (List Int)) (a1 : (List Int)) : runF (q01_Mul.C n) (q01_Mul.A n) n Tryd.f50 [(.ints .u64 4 a0), (.ints .u64 4 a1)] [] (fun v o => some (v, o)) = q01_Mul.g (fun a0 a1 => ((Prod.mk (.tup [(.ints .u64 4 a0), (.bool a1)]) []) : AV × Blks)) n a0 a1 := by kernel_rfl
theorem q01_Mul.call (hmix : Tryd.prog.follows .mixedOrders = true) (n : Nat) (t : ((List Int) × (List Int))) (u) (h : q01_Mul.m n t = some u) : FnC Tryd.prog abiG 50 (q01_Mul.shape t).1 (q01_Mul.shape t).2 (q01_Mul.res u).1 (q01_Mul.res u).2 := by
  have hg : ∀ f m, (q01_Mul.C n).Γ f = some m → CalleeS Tryd.prog abiG f m := by
    intro f m hm
    unfold q01_Mul.C at hm
    simp only at hm
    first
    | (cases hm; done)
    | (split at hm <;> first
    | (cases hm; exact q01_halves.s hmix n)
    | (cases hm; done))
  have hb : Tryd.f50.body = some (Tryd.f50.body.getD .skip) := by kernel_rfl
  refine runF_calls (C := q01_Mul.C n) (A := q01_Mul.A n) (n := n) (fn := Tryd.f50) hg hmix Tryd.func50 hb ?_ ?_ (by decide) rfl rfl (by show 2 ≤ Tryd.f50.ntmps; decide) ?_
  · rw [show loopsIn (Tryd.f50.body.getD .skip) = [q01_Mul.b0, q01_Mul.b1, q01_Mul.b2] by kernel_rfl]
    intro b hb m hm
    simp only [List.mem_cons, List.not_mem_nil, or_false] at hb
    rcases hb with rfl | rfl | rfl
    · have e : (q01_Mul.A n).loop (key q01_Mul.b0) = some (.mk' q01_Mul.l5_0.pat (q01_Mul.l5_0.m n n) q01_Mul.l5_0.resK) := by rw [show key q01_Mul.b0 = 5 by kernel_rfl]; rfl
      rw [e] at hm
      cases hm
      exact (LoopS.of (res := q01_Mul.l5_0.res) (fun R u K => rfl) q01_Mul.l5_0.pat_shape fun t => q01_Mul.l5_0.loop n n t)
    · have e : (q01_Mul.A n).loop (key q01_Mul.b1) = some (.mk' q01_Mul.l9_0.pat (q01_Mul.l9_0.m n n) q01_Mul.l9_0.resK) := by rw [show key q01_Mul.b1 = 9 by kernel_rfl]; rfl
      rw [e] at hm
      cases hm
      exact (LoopS.of (res := q01_Mul.l9_0.res) (fun R u K => rfl) q01_Mul.l9_0.pat_shape fun t => q01_Mul.l9_0.loop n n t)
    · have e : (q01_Mul.A n).loop (key q01_Mul.b2) = some (.mk' q01_Mul.l18_0.pat (q01_Mul.l18_0.m n n) q01_Mul.l18_0.resK) := by rw [show key q01_Mul.b2 = 18 by kernel_rfl]; rfl
      rw [e] at hm
      cases hm
      exact (LoopS.of (res := q01_Mul.l18_0.res) (fun R u K => rfl) q01_Mul.l18_0.pat_shape fun t => q01_Mul.l18_0.loop n n t)
  · intro a ha m hm
    cases (show none = some m from hm)
  · rw [show runF (q01_Mul.C n) (q01_Mul.A n) n Tryd.f50 (q01_Mul.shape t).1 (q01_Mul.shape t).2 (fun v o => some (v, o)) = _ from q01_Mul.run n t.1 t.2]
    have e := q01_Mul.gmap q01_Mul.res (fun a0 a1 => (a0, a1)) n t.1 t.2
    unfold q01_Mul.m at h
    rw [h] at e
    exact e
theorem q01_Mul.s (hmix : Tryd.prog.follows .mixedOrders = true) (n : Nat) : CalleeS Tryd.prog abiG 50 (q01_Mul.c n) :=
  CalleeS.of (res := q01_Mul.res) (shape := q01_Mul.shape) (fun R u K => rfl) (fun args lent t h => by
    unfold q01_Mul.pat at h
    split at h
    · cases h; rfl
    · cases h) fun t u h => (q01_Mul.call hmix n t u h).ok Tryd.func50 (by decide) (by kernel_rfl)
end
section
noncomputable section
noncomputable def q01_Small.C (n : Nat) : Ctx := ⟨Tryd.prog, abiG, fun f => match f with
 | _ => none, fun _ => false⟩
def q01_Small.live : Nat → List Nat × List Nat := fun k => match k with
 | _ => ([], [])
def q01_Small.jlive : Nat → List Nat × List Nat := fun k => match k with
 | _ => ([], [])
noncomputable def q01_Small.A (n : Nat) : Ann := ⟨Tryd.f64.ntmps, 0, q01_Small.live, [], [none, none], fun k => match k with
 | _ => none, q01_Small.jlive, lookJ []⟩
def q01_Small.g {α : Type} (mk0 : Int → Bool → α) (n : Nat) (a0 : (List Int)) : Option α :=
 if ((List.getD a0 1 0) != 0) = true then
  some (mk0 0 false)
 else
  if ((List.getD a0 2 0) != 0) = true then
   some (mk0 0 false)
  else
   if ((List.getD a0 3 0) != 0) = true then
    some (mk0 0 false)
   else
    some (mk0 (List.getD a0 0 0) true)
def q01_Small.m (n : Nat) (t : (List Int)) : Option (Int × Bool) := q01_Small.g (fun a0 a1 => (a0, a1)) n t
def q01_Small.pat : List AV → Blks → Option (List Int)
 | [(.ints .u64 4 a0)], [] => some a0
 | _, _ => none
def q01_Small.shape (t : (List Int)) : List AV × Blks := ([(.ints .u64 4 t)], [])
def q01_Small.res : (Int × Bool) → AV × Blks
 | u => (Prod.mk (.tup [(.int .u64 u.1), (.bool u.2)]) [])
def q01_Small.resK {R : Type} (u : (Int × Bool)) (K : AV → Blks → Option R) : Option R := (fun p : AV × Blks => K p.1 p.2) (Prod.mk (.tup [(.int .u64 u.1), (.bool u.2)]) [])
def q01_Small.c (n : Nat) : Abs.Callee := .mk' [] [none] q01_Small.pat (q01_Small.m n) q01_Small.resK
end
end
section
noncomputable section
noncomputable def q01_far.C (n : Nat) : Ctx := ⟨Tryd.prog, abiG, fun f => match f with
 | 64 => some (q01_Small.c n)
 | _ => none, fun _ => false⟩
def q01_far.live : Nat → List Nat × List Nat := fun k => match k with
 | _ => ([], [])
def q01_far.jlive : Nat → List Nat × List Nat := fun k => match k with
 | _ => ([], [])
noncomputable def q01_far.A (n : Nat) : Ann := ⟨Tryd.f115.ntmps, 0, q01_far.live, [], [none], fun k => match k with
 | _ => none, q01_far.jlive, lookJ []⟩
def q01_far.g {α : Type} (mk0 : Int → α) (n : Nat) (a0 : (List Int)) : Option α :=
 bindO (q01_Small.m n a0) fun r2 =>
  if (!(Prod.snd r2)) = true then
   some (mk0 256)
  else
   if (decide ((Prod.fst r2) > 256)) = true then
    some (mk0 256)
   else
    some (mk0 (IntKind.wrap .i64 (Prod.fst r2)))
def q01_far.m (n : Nat) (t : (List Int)) : Option Int := q01_far.g (fun a0 => a0) n t
def q01_far.pat : List AV → Blks → Option (List Int)
 | [(.ints .u64 4 a0)], [] => some a0
 | _, _ => none
def q01_far.shape (t : (List Int)) : List AV × Blks := ([(.ints .u64 4 t)], [])
def q01_far.res : Int → AV × Blks
 | u => (Prod.mk (.int .i64 u) [])
def q01_far.resK {R : Type} (u : Int) (K : AV → Blks → Option R) : Option R := (fun p : AV × Blks => K p.1 p.2) (Prod.mk (.int .i64 u) [])
def q01_far.c (n : Nat) : Abs.Callee := .mk' [] [none] q01_far.pat (q01_far.m n) q01_far.resK
end
end
section
noncomputable section
noncomputable def q01_with.C (n : Nat) : Ctx := ⟨Tryd.prog, abiG, fun f => match f with
 | _ => none, fun _ => false⟩
def q01_with.live : Nat → List Nat × List Nat := fun k => match k with
 | _ => ([], [])
def q01_with.jlive : Nat → List Nat × List Nat := fun k => match k with
 | _ => ([], [])
noncomputable def q01_with.A (n : Nat) : Ann := ⟨Tryd.f129.ntmps, 0, q01_with.live, [], [none], fun k => match k with
 | _ => none, q01_with.jlive, lookJ []⟩
def q01_with.g {α : Type} (mk0 : (List Int) → α) (n : Nat) (a0 : (List Int)) (a1 : Int) (a2 : Bool) : Option α :=
 if 0 ≤ (IntKind.wrap .u64 (Int.tmod a1 64)) then
  if a2 = true then
   if 0 ≤ (IntKind.wrap .i64 (Int.tdiv a1 64)) then
    if (IntKind.wrap .i64 (Int.tdiv a1 64)) < 4 then
     if 0 ≤ (IntKind.wrap .i64 (Int.tdiv a1 64)) then
      if (IntKind.wrap .i64 (Int.tdiv a1 64)) < 4 then
       some (mk0 (List.set a0 (Int.toNat (IntKind.wrap .i64 (Int.tdiv a1 64))) (ibits BinOp.or .u64 (List.getD a0 (Int.toNat (IntKind.wrap .i64 (Int.tdiv a1 64))) 0) (ishl .u64 1 (IntKind.wrap .u64 (Int.tmod a1 64))))))
      else
       none
     else
      none
    else
     none
   else
    none
  else
   if 0 ≤ (IntKind.wrap .i64 (Int.tdiv a1 64)) then
    if (IntKind.wrap .i64 (Int.tdiv a1 64)) < 4 then
     if 0 ≤ (IntKind.wrap .i64 (Int.tdiv a1 64)) then
      if (IntKind.wrap .i64 (Int.tdiv a1 64)) < 4 then
       some (mk0 (List.set a0 (Int.toNat (IntKind.wrap .i64 (Int.tdiv a1 64))) (ibits BinOp.andNot .u64 (List.getD a0 (Int.toNat (IntKind.wrap .i64 (Int.tdiv a1 64))) 0) (ishl .u64 1 (IntKind.wrap .u64 (Int.tmod a1 64))))))
      else
       none
     else
      none
    else
     none
   else
    none
 else
  none
def q01_with.m (n : Nat) (t : ((List Int) × (Int × Bool))) : Option (List Int) := q01_with.g (fun a0 => a0) n t.1 t.2.1 t.2.2
def q01_with.pat : List AV → Blks → Option ((List Int) × (Int × Bool))
 | [(.ints .u64 4 a0), (.int .i64 a1), (.bool a2)], [] => some (a0, a1, a2)
 | _, _ => none
def q01_with.shape (t : ((List Int) × (Int × Bool))) : List AV × Blks := ([(.ints .u64 4 t.1), (.int .i64 t.2.1), (.bool t.2.2)], [])
def q01_with.res : (List Int) → AV × Blks
 | u => (Prod.mk (.ints .u64 4 u) [])
def q01_with.resK {R : Type} (u : (List Int)) (K : AV → Blks → Option R) : Option R := (fun p : AV × Blks => K p.1 p.2) (Prod.mk (.ints .u64 4 u) [])
def q01_with.c (n : Nat) : Abs.Callee := .mk' [] [none, none, none] q01_with.pat (q01_with.m n) q01_with.resK
end
end
section
noncomputable section
noncomputable def q01_shift.C (n : Nat) : Ctx := ⟨Tryd.prog, abiG, fun f => match f with
 | 128 => some (q01_bit.c n)
 | 129 => some (q01_with.c n)
 | _ => none, fun _ => false⟩
def q01_shift.live : Nat → List Nat × List Nat := fun k => match k with
 | 3 => ([8, 2, 1, 3, 7, 6], [7, 6])
 | _ => ([], [])
def q01_shift.jlive : Nat → List Nat × List Nat := fun k => match k with
 | _ => ([], [])
def q01_shift.l3_0.r {α : Type} (mk0 : (List Int) → (List Int) → α) (n : Nat) (rc : Int → Bool → Int → (List Int) → (List Int) → (List Int) → Option α)  (x0 : Int) (x1 : Bool) (x2 : Int) (x3 : (List Int)) (x4 : (List Int)) (x5 : (List Int)) : Option α :=
  if (decide (x0 < 256)) = true then
   if (decide ((IntKind.wrap .i64 (x0 - x2)) ≥ 0)) = true then
    if (decide ((IntKind.wrap .i64 (x0 - x2)) < 256)) = true then
     bindO (q01_bit.m n (Prod.mk x3 (IntKind.wrap .i64 (x0 - x2)))) fun r10 =>
      bindO (q01_with.m n (Prod.mk x4 (Prod.mk x0 r10))) fun r12 =>
       rc (IntKind.wrap .i64 (x0 + 1)) x1 x2 x3 r12 x5
    else
     bindO (q01_with.m n (Prod.mk x4 (Prod.mk x0 x1))) fun r10 =>
      rc (IntKind.wrap .i64 (x0 + 1)) x1 x2 x3 r10 x5
   else
    bindO (q01_with.m n (Prod.mk x4 (Prod.mk x0 x1))) fun r8 =>
     rc (IntKind.wrap .i64 (x0 + 1)) x1 x2 x3 r8 x5
  else
   some (mk0 x4 x5)
def q01_shift.l3_0.g {α : Type} (mk0 : (List Int) → (List Int) → α) (n : Nat) : Nat → Int → Bool → Int → (List Int) → (List Int) → (List Int) → Option α
 | 0, _, _, _, _, _, _ => none
 | m + 1, x0, x1, x2, x3, x4, x5 => q01_shift.l3_0.r mk0 n (fun y0 y1 y2 y3 y4 y5 => q01_shift.l3_0.g mk0 n m y0 y1 y2 y3 y4 y5)  x0 x1 x2 x3 x4 x5
def q01_shift.l3_0.m (n m : Nat) (t : (Int × (Bool × (Int × ((List Int) × ((List Int) × (List Int))))))) : Option ((List Int) × (List Int)) := q01_shift.l3_0.g (fun a0 a1 => (a0, a1)) n m t.1 t.2.1 t.2.2.1 t.2.2.2.1 t.2.2.2.2.1 t.2.2.2.2.2
def q01_shift.l3_0.pat : St → Option (Int × (Bool × (Int × ((List Int) × ((List Int) × (List Int))))))
 | (St.mk [(.int .i64 x0), (.bool x1), (.int .i64 x2), (.ptr 0 []), (.ptr 1 []), (.ptr 2 [])] [(some (.var (.ints .u64 4 x3))), (some (.var (.ints .u64 4 x4))), (some (.var (.ints .u64 4 x5)))]) => some (x0, x1, x2, x3, x4, x5)
 | _ => none
def q01_shift.l3_0.shape (t : (Int × (Bool × (Int × ((List Int) × ((List Int) × (List Int))))))) : St := (St.mk [(.int .i64 t.1), (.bool t.2.1), (.int .i64 t.2.2.1), (.ptr 0 []), (.ptr 1 []), (.ptr 2 [])] [(some (.var (.ints .u64 4 t.2.2.2.1))), (some (.var (.ints .u64 4 t.2.2.2.2.1))), (some (.var (.ints .u64 4 t.2.2.2.2.2)))])
def q01_shift.l3_0.res : ((List Int) × (List Int)) → Ex × St
 | u => (Prod.mk (.exit 0) (St.mk [(.ptr 0 []), (.ptr 1 [])] [(some (.var (.ints .u64 4 u.1))), (some (.var (.ints .u64 4 u.2)))]))
def q01_shift.l3_0.resK {R : Type} (u : ((List Int) × (List Int))) (K : Ex → St → Option R) : Option R := (fun p : Ex × St => K p.1 p.2) (Prod.mk (.exit 0) (St.mk [(.ptr 0 []), (.ptr 1 [])] [(some (.var (.ints .u64 4 u.1))), (some (.var (.ints .u64 4 u.2)))]))
noncomputable def q01_shift.A (n : Nat) : Ann := ⟨Tryd.f114.ntmps, 0, q01_shift.live, [], [none], fun k => match k with
 | 3 => some (.mk' q01_shift.l3_0.pat (q01_shift.l3_0.m n n) q01_shift.l3_0.resK)
 | _ => none, q01_shift.jlive, lookJ []⟩
noncomputable def q01_shift.b0 : Code := (loopsIn (Tryd.f114.body.getD .skip)).getD 0 .skip
def q01_shift.g {α : Type} (mk0 : (List Int) → α) (n : Nat) (a0 : (List Int)) (a1 : Int) (a2 : Bool) : Option α :=
 bindO (q01_shift.l3_0.m n n (0, a2, a1, a0, [0, 0, 0, 0], [0, 0, 0, 0])) fun r2 =>
  some (mk0 (Prod.fst r2))
def q01_shift.m (n : Nat) (t : ((List Int) × (Int × Bool))) : Option (List Int) := q01_shift.g (fun a0 => a0) n t.1 t.2.1 t.2.2
def q01_shift.pat : List AV → Blks → Option ((List Int) × (Int × Bool))
 | [(.ints .u64 4 a0), (.int .i64 a1), (.bool a2)], [] => some (a0, a1, a2)
 | _, _ => none
def q01_shift.shape (t : ((List Int) × (Int × Bool))) : List AV × Blks := ([(.ints .u64 4 t.1), (.int .i64 t.2.1), (.bool t.2.2)], [])
def q01_shift.res : (List Int) → AV × Blks
 | u => (Prod.mk (.ints .u64 4 u) [])
def q01_shift.resK {R : Type} (u : (List Int)) (K : AV → Blks → Option R) : Option R := (fun p : AV × Blks => K p.1 p.2) (Prod.mk (.ints .u64 4 u) [])
def q01_shift.c (n : Nat) : Abs.Callee := .mk' [] [none, none, none] q01_shift.pat (q01_shift.m n) q01_shift.resK
end
end
section
noncomputable section
noncomputable def q01_Shl.C (n : Nat) : Ctx := ⟨Tryd.prog, abiG, fun f => match f with
 | 115 => some (q01_far.c n)
 | 114 => some (q01_shift.c n)
 | _ => none, fun _ => false⟩
def q01_Shl.live : Nat → List Nat × List Nat := fun k => match k with
 | _ => ([], [])
def q01_Shl.jlive : Nat → List Nat × List Nat := fun k => match k with
 | _ => ([], [])
noncomputable def q01_Shl.A (n : Nat) : Ann := ⟨Tryd.f101.ntmps, 0, q01_Shl.live, [], [none], fun k => match k with
 | _ => none, q01_Shl.jlive, lookJ []⟩
def q01_Shl.g {α : Type} (mk0 : (List Int) → α) (n : Nat) (a0 : (List Int)) (a1 : (List Int)) : Option α :=
 bindO (q01_far.m n a0) fun r2 =>
  bindO (q01_shift.m n (Prod.mk a1 (Prod.mk r2 false))) fun r4 =>
   some (mk0 r4)
def q01_Shl.m (n : Nat) (t : ((List Int) × (List Int))) : Option (List Int) := q01_Shl.g (fun a0 => a0) n t.1 t.2
def q01_Shl.pat : List AV → Blks → Option ((List Int) × (List Int))
 | [(.ints .u64 4 a0), (.ints .u64 4 a1)], [] => some (a0, a1)
 | _, _ => none
def q01_Shl.shape (t : ((List Int) × (List Int))) : List AV × Blks := ([(.ints .u64 4 t.1), (.ints .u64 4 t.2)], [])
def q01_Shl.res : (List Int) → AV × Blks
 | u => (Prod.mk (.ints .u64 4 u) [])
def q01_Shl.resK {R : Type} (u : (List Int)) (K : AV → Blks → Option R) : Option R := (fun p : AV × Blks => K p.1 p.2) (Prod.mk (.ints .u64 4 u) [])
def q01_Shl.c (n : Nat) : Abs.Callee := .mk' [] [none, none] q01_Shl.pat (q01_Shl.m n) q01_Shl.resK
end
end
section
theorem q01_Small.gmap {α β : Type} (h : β → α) (mk0 : Int → Bool → β) (n : Nat) (a0 : (List Int)) : q01_Small.g (fun a0 a1 => (h (mk0 a0 a1))) n a0 = (q01_Small.g mk0 n a0).map h := by
  unfold q01_Small.g
  exact (ite_map rfl (ite_map rfl (ite_map rfl rfl)))
theorem q01_Small.run (n : Nat) (a0 : (List Int)) : runF (q01_Small.C n) (q01_Small.A n) n Tryd.f64 [(.ints .u64 4 a0)] [] (fun v o => some (v, o)) = q01_Small.g (fun a0 a1 => ((Prod.mk (.tup [(.int .u64 a0), (.bool a1)]) []) : AV × Blks)) n a0 := by kernel_rfl
theorem q01_Small.call (hmix : Tryd.prog.follows .mixedOrders = true) (n : Nat) (t : (List Int)) (u) (h : q01_Small.m n t = some u) : FnC Tryd.prog abiG 64 (q01_Small.shape t).1 (q01_Small.shape t).2 (q01_Small.res u).1 (q01_Small.res u).2 := by
  have hg : ∀ f m, (q01_Small.C n).Γ f = some m → CalleeS Tryd.prog abiG f m := by
    intro f m hm
    unfold q01_Small.C at hm
    simp only at hm
    first
    | (cases hm; done)
    | (split at hm <;> first
    | (cases hm; done))
  have hb : Tryd.f64.body = some (Tryd.f64.body.getD .skip) := by kernel_rfl
  refine runF_calls (C := q01_Small.C n) (A := q01_Small.A n) (n := n) (fn := Tryd.f64) hg hmix Tryd.func64 hb ?_ ?_ (by decide) rfl rfl (by show 1 ≤ Tryd.f64.ntmps; decide) ?_
  · rw [show loopsIn (Tryd.f64.body.getD .skip) = [] by kernel_rfl]
    intro b hb
    cases hb
  · intro a ha m hm
    cases (show none = some m from hm)
  · rw [show runF (q01_Small.C n) (q01_Small.A n) n Tryd.f64 (q01_Small.shape t).1 (q01_Small.shape t).2 (fun v o => some (v, o)) = _ from q01_Small.run n t]
    have e := q01_Small.gmap q01_Small.res (fun a0 a1 => (a0, a1)) n t
    unfold q01_Small.m at h
    rw [h] at e
    exact e
theorem q01_Small.s (hmix : Tryd.prog.follows .mixedOrders = true) (n : Nat) : CalleeS Tryd.prog abiG 64 (q01_Small.c n) :=
  CalleeS.of (res := q01_Small.res) (shape := q01_Small.shape) (fun R u K => rfl) (fun args lent t h => by
    unfold q01_Small.pat at h
    split at h
    · cases h; rfl
    · cases h) fun t u h => (q01_Small.call hmix n t u h).ok Tryd.func64 (by decide) (by kernel_rfl)
end
section
theorem q01_far.gmap {α β : Type} (h : β → α) (mk0 : Int → β) (n : Nat) (a0 : (List Int)) : q01_far.g (fun a0 => (h (mk0 a0))) n a0 = (q01_far.g mk0 n a0).map h := by
  unfold q01_far.g
  exact (bindO_map fun r2 => (ite_map rfl (ite_map rfl rfl)))
theorem q01_far.run (n : Nat) (a0 : (List Int)) : runF (q01_far.C n) (q01_far.A n) n Tryd.f115 [(.ints .u64 4 a0)] [] (fun v o => some (v, o)) = q01_far.g (fun a0 => ((Prod.mk (.int .i64 a0) []) : AV × Blks)) n a0 := by kernel_rfl
theorem q01_far.call (hmix : Tryd.prog.follows .mixedOrders = true) (n : Nat) (t : (List Int)) (u) (h : q01_far.m n t = some u) : FnC Tryd.prog abiG 115 (q01_far.shape t).1 (q01_far.shape t).2 (q01_far.res u).1 (q01_far.res u).2 := by
  have hg : ∀ f m, (q01_far.C n).Γ f = some m → CalleeS Tryd.prog abiG f m := by
    intro f m hm
    unfold q01_far.C at hm
    simp only at hm
    first
    | (cases hm; done)
    | (split at hm <;> first
    | (cases hm; exact q01_Small.s hmix n)
    | (cases hm; done))
  have hb : Tryd.f115.body = some (Tryd.f115.body.getD .skip) := by kernel_rfl
  refine runF_calls (C := q01_far.C n) (A := q01_far.A n) (n := n) (fn := Tryd.f115) hg hmix Tryd.func115 hb ?_ ?_ (by decide) rfl rfl (by show 1 ≤ Tryd.f115.ntmps; decide) ?_
  · rw [show loopsIn (Tryd.f115.body.getD .skip) = [] by kernel_rfl]
    intro b hb
    cases hb
  · intro a ha m hm
    cases (show none = some m from hm)
  · rw [show runF (q01_far.C n) (q01_far.A n) n Tryd.f115 (q01_far.shape t).1 (q01_far.shape t).2 (fun v o => some (v, o)) = _ from q01_far.run n t]
    have e := q01_far.gmap q01_far.res (fun a0 => a0) n t
    unfold q01_far.m at h
    rw [h] at e
    exact e
theorem q01_far.s (hmix : Tryd.prog.follows .mixedOrders = true) (n : Nat) : CalleeS Tryd.prog abiG 115 (q01_far.c n) :=
  CalleeS.of (res := q01_far.res) (shape := q01_far.shape) (fun R u K => rfl) (fun args lent t h => by
    unfold q01_far.pat at h
    split at h
    · cases h; rfl
    · cases h) fun t u h => (q01_far.call hmix n t u h).ok Tryd.func115 (by decide) (by kernel_rfl)
end
section
theorem q01_with.gmap {α β : Type} (h : β → α) (mk0 : (List Int) → β) (n : Nat) (a0 : (List Int)) (a1 : Int) (a2 : Bool) : q01_with.g (fun a0 => (h (mk0 a0))) n a0 a1 a2 = (q01_with.g mk0 n a0 a1 a2).map h := by
  unfold q01_with.g
  exact (ite_map (ite_map (ite_map (ite_map (ite_map (ite_map rfl rfl) rfl) rfl) rfl) (ite_map (ite_map (ite_map (ite_map rfl rfl) rfl) rfl) rfl)) rfl)
theorem q01_with.run (n : Nat) (a0 : (List Int)) (a1 : Int) (a2 : Bool) : runF (q01_with.C n) (q01_with.A n) n Tryd.f129 [(.ints .u64 4 a0), (.int .i64 a1), (.bool a2)] [] (fun v o => some (v, o)) = q01_with.g (fun a0 => ((Prod.mk (.ints .u64 4 a0) []) : AV × Blks)) n a0 a1 a2 := by kernel_rfl
theorem q01_with.call (hmix : Tryd.prog.follows .mixedOrders = true) (n : Nat) (t : ((List Int) × (Int × Bool))) (u) (h : q01_with.m n t = some u) : FnC Tryd.prog abiG 129 (q01_with.shape t).1 (q01_with.shape t).2 (q01_with.res u).1 (q01_with.res u).2 := by
  have hg : ∀ f m, (q01_with.C n).Γ f = some m → CalleeS Tryd.prog abiG f m := by
    intro f m hm
    unfold q01_with.C at hm
    simp only at hm
    first
    | (cases hm; done)
    | (split at hm <;> first
    | (cases hm; done))
  have hb : Tryd.f129.body = some (Tryd.f129.body.getD .skip) := by kernel_rfl
  refine runF_calls (C := q01_with.C n) (A := q01_with.A n) (n := n) (fn := Tryd.f129) hg hmix Tryd.func129 hb ?_ ?_ (by decide) rfl rfl (by show 3 ≤ Tryd.f129.ntmps; decide) ?_
  · rw [show loopsIn (Tryd.f129.body.getD .skip) = [] by kernel_rfl]
    intro b hb
    cases hb
  · intro a ha m hm
    cases (show none = some m from hm)
  · rw [show runF (q01_with.C n) (q01_with.A n) n Tryd.f129 (q01_with.shape t).1 (q01_with.shape t).2 (fun v o => some (v, o)) = _ from q01_with.run n t.1 t.2.1 t.2.2]
    have e := q01_with.gmap q01_with.res (fun a0 => a0) n t.1 t.2.1 t.2.2
    unfold q01_with.m at h
    rw [h] at e
    exact e
theorem q01_with.s (hmix : Tryd.prog.follows .mixedOrders = true) (n : Nat) : CalleeS Tryd.prog abiG 129 (q01_with.c n) :=
  CalleeS.of (res := q01_with.res) (shape := q01_with.shape) (fun R u K => rfl) (fun args lent t h => by
    unfold q01_with.pat at h
    split at h
    · cases h; rfl
    · cases h) fun t u h => (q01_with.call hmix n t u h).ok Tryd.func129 (by decide) (by kernel_rfl)
end
section
theorem q01_shift.l3_0.rmap {α β : Type} (h : β → α) (mk0 : (List Int) → (List Int) → β) (n : Nat) (f : Int → Bool → Int → (List Int) → (List Int) → (List Int) → Option β)  (x0 : Int) (x1 : Bool) (x2 : Int) (x3 : (List Int)) (x4 : (List Int)) (x5 : (List Int)) : q01_shift.l3_0.r (fun a0 a1 => (h (mk0 a0 a1))) n (fun y0 y1 y2 y3 y4 y5 => (f y0 y1 y2 y3 y4 y5).map h) x0 x1 x2 x3 x4 x5 = (q01_shift.l3_0.r mk0 n f x0 x1 x2 x3 x4 x5).map h := by
  unfold q01_shift.l3_0.r
  exact (ite_map (ite_map (ite_map (bindO_map fun r10 => (bindO_map fun r12 => rfl)) (bindO_map fun r10 => rfl)) (bindO_map fun r8 => rfl)) rfl)
theorem q01_shift.l3_0.gmap {α β : Type} (h : β → α) (mk0 : (List Int) → (List Int) → β) (n : Nat) : ∀ (m : Nat) (x0 : Int) (x1 : Bool) (x2 : Int) (x3 : (List Int)) (x4 : (List Int)) (x5 : (List Int)), q01_shift.l3_0.g (fun a0 a1 => (h (mk0 a0 a1))) n m x0 x1 x2 x3 x4 x5 = (q01_shift.l3_0.g mk0 n m x0 x1 x2 x3 x4 x5).map h
  | 0, _, _, _, _, _, _ => rfl
  | m + 1, x0, x1, x2, x3, x4, x5 => by
    unfold q01_shift.l3_0.g
    rw [← q01_shift.l3_0.rmap]
    congr
    · funext y0 y1 y2 y3 y4 y5; exact q01_shift.l3_0.gmap h mk0 n m y0 y1 y2 y3 y4 y5
theorem q01_shift.l3_0.pat_shape : ∀ st t, q01_shift.l3_0.pat st = some t → st = q01_shift.l3_0.shape t := by
  intro st t h
  unfold q01_shift.l3_0.pat at h
  split at h
  · cases h; rfl
  · cases h
theorem q01_shift.l3_0.round (n : Nat) (rc : St → Option (Ex × St)) (x0 : Int) (x1 : Bool) (x2 : Int) (x3 : (List Int)) (x4 : (List Int)) (x5 : (List Int)) : roundOf (q01_shift.C n) (q01_shift.A n) n q01_shift.b0 rc ((St.mk [(.int .i64 x0), (.bool x1), (.int .i64 x2), (.ptr 0 []), (.ptr 1 []), (.ptr 2 [])] [(some (.var (.ints .u64 4 x3))), (some (.var (.ints .u64 4 x4))), (some (.var (.ints .u64 4 x5)))])) = q01_shift.l3_0.r (fun a0 a1 => ((Prod.mk (.exit 0) (St.mk [(.ptr 0 []), (.ptr 1 [])] [(some (.var (.ints .u64 4 a0))), (some (.var (.ints .u64 4 a1)))])) : Ex × St)) n (fun y0 y1 y2 y3 y4 y5 => rc ((St.mk [(.int .i64 y0), (.bool y1), (.int .i64 y2), (.ptr 0 []), (.ptr 1 []), (.ptr 2 [])] [(some (.var (.ints .u64 4 y3))), (some (.var (.ints .u64 4 y4))), (some (.var (.ints .u64 4 y5)))]))) x0 x1 x2 x3 x4 x5 := by kernel_rfl
theorem q01_shift.l3_0.loop' (n : Nat) : ∀ (m : Nat) (t : (Int × (Bool × (Int × ((List Int) × ((List Int) × (List Int))))))), loopOf (roundOf (q01_shift.C n) (q01_shift.A n) n q01_shift.b0) m (q01_shift.l3_0.shape t) = q01_shift.l3_0.g (fun a0 a1 => ((Prod.mk (.exit 0) (St.mk [(.ptr 0 []), (.ptr 1 [])] [(some (.var (.ints .u64 4 a0))), (some (.var (.ints .u64 4 a1)))])) : Ex × St)) n m t.1 t.2.1 t.2.2.1 t.2.2.2.1 t.2.2.2.2.1 t.2.2.2.2.2 :=
  loop_of_round (shape := q01_shift.l3_0.shape) (body := roundOf (q01_shift.C n) (q01_shift.A n) n q01_shift.b0) (g := fun m t => q01_shift.l3_0.g (fun a0 a1 => ((Prod.mk (.exit 0) (St.mk [(.ptr 0 []), (.ptr 1 [])] [(some (.var (.ints .u64 4 a0))), (some (.var (.ints .u64 4 a1)))])) : Ex × St)) n m t.1 t.2.1 t.2.2.1 t.2.2.2.1 t.2.2.2.2.1 t.2.2.2.2.2) (fun t => rfl)
    fun m t ih => (q01_shift.l3_0.round n (loopOf (roundOf (q01_shift.C n) (q01_shift.A n) n q01_shift.b0) m) t.1 t.2.1 t.2.2.1 t.2.2.2.1 t.2.2.2.2.1 t.2.2.2.2.2).trans (congrFun (congrFun (congrFun (congrFun (congrFun (congrFun (congrArg (q01_shift.l3_0.r (fun a0 a1 => ((Prod.mk (.exit 0) (St.mk [(.ptr 0 []), (.ptr 1 [])] [(some (.var (.ints .u64 4 a0))), (some (.var (.ints .u64 4 a1)))])) : Ex × St)) n) (funext fun y0 => funext fun y1 => funext fun y2 => funext fun y3 => funext fun y4 => funext fun y5 => ih (y0, y1, y2, y3, y4, y5))) t.1) t.2.1) t.2.2.1) t.2.2.2.1) t.2.2.2.2.1) t.2.2.2.2.2)
theorem q01_shift.l3_0.loop (n m : Nat) (t : (Int × (Bool × (Int × ((List Int) × ((List Int) × (List Int))))))) : loopOf (roundOf (q01_shift.C n) (q01_shift.A n) n q01_shift.b0) m (q01_shift.l3_0.shape t) = (q01_shift.l3_0.m n m t).map q01_shift.l3_0.res :=
  (q01_shift.l3_0.loop' n m t).trans (q01_shift.l3_0.gmap q01_shift.l3_0.res (fun a0 a1 => (a0, a1)) n m t.1 t.2.1 t.2.2.1 t.2.2.2.1 t.2.2.2.2.1 t.2.2.2.2.2)
theorem q01_shift.gmap {α β : Type} (h : β → α) (mk0 : (List Int) → β) (n : Nat) (a0 : (List Int)) (a1 : Int) (a2 : Bool) : q01_shift.g (fun a0 => (h (mk0 a0))) n a0 a1 a2 = (q01_shift.g mk0 n a0 a1 a2).map h := by
  unfold q01_shift.g
  exact (bindO_map fun r2 => rfl)
theorem q01_shift.run (n : Nat) (a0 : (List Int)) (a1 : Int) (a2 : Bool) : runF (q01_shift.C n) (q01_shift.A n) n Tryd.f114 [(.ints .u64 4 a0), (.int .i64 a1), (.bool a2)] [] (fun v o => some (v, o)) = q01_shift.g (fun a0 => ((Prod.mk (.ints .u64 4 a0) []) : AV × Blks)) n a0 a1 a2 := by kernel_rfl
theorem q01_shift.call (hmix : Tryd.prog.follows .mixedOrders = true) (n : Nat) (t : ((List Int) × (Int × Bool))) (u) (h : q01_shift.m n t = some u) : FnC Tryd.prog abiG 114 (q01_shift.shape t).1 (q01_shift.shape t).2 (q01_shift.res u).1 (q01_shift.res u).2 := by
  have hg : ∀ f m, (q01_shift.C n).Γ f = some m → CalleeS Tryd.prog abiG f m := by
    intro f m hm
    unfold q01_shift.C at hm
    simp only at hm
    first
    | (cases hm; done)
    | (split at hm <;> first
    | (cases hm; exact q01_bit.s hmix n)
    | (cases hm; exact q01_with.s hmix n)
    | (cases hm; done))
  have hb : Tryd.f114.body = some (Tryd.f114.body.getD .skip) := by kernel_rfl
  refine runF_calls (C := q01_shift.C n) (A := q01_shift.A n) (n := n) (fn := Tryd.f114) hg hmix Tryd.func114 hb ?_ ?_ (by decide) rfl rfl (by show 3 ≤ Tryd.f114.ntmps; decide) ?_
  · rw [show loopsIn (Tryd.f114.body.getD .skip) = [q01_shift.b0] by kernel_rfl]
    intro b hb m hm
    simp only [List.mem_cons, List.not_mem_nil, or_false] at hb
    rcases hb with rfl
    · have e : (q01_shift.A n).loop (key q01_shift.b0) = some (.mk' q01_shift.l3_0.pat (q01_shift.l3_0.m n n) q01_shift.l3_0.resK) := by rw [show key q01_shift.b0 = 3 by kernel_rfl]; rfl
      rw [e] at hm
      cases hm
      exact (LoopS.of (res := q01_shift.l3_0.res) (fun R u K => rfl) q01_shift.l3_0.pat_shape fun t => q01_shift.l3_0.loop n n t)
  · intro a ha m hm
    cases (show none = some m from hm)
  · rw [show runF (q01_shift.C n) (q01_shift.A n) n Tryd.f114 (q01_shift.shape t).1 (q01_shift.shape t).2 (fun v o => some (v, o)) = _ from q01_shift.run n t.1 t.2.1 t.2.2]
    have e := q01_shift.gmap q01_shift.res (fun a0 => a0) n t.1 t.2.1 t.2.2
    unfold q01_shift.m at h
    rw [h] at e
    exact e
theorem q01_shift.s (hmix : Tryd.prog.follows .mixedOrders = true) (n : Nat) : CalleeS Tryd.prog abiG 114 (q01_shift.c n) :=
  CalleeS.of (res := q01_shift.res) (shape := q01_shift.shape) (fun R u K => rfl) (fun args lent t h => by
    unfold q01_shift.pat at h
    split at h
    · cases h; rfl
    · cases h) fun t u h => (q01_shift.call hmix n t u h).ok Tryd.func114 (by decide) (by kernel_rfl)
end
section
theorem q01_Shl.gmap {α β : Type} (h : β → α) (mk0 : (List Int) → β) (n : Nat) (a0 : (List Int)) (a1 : (List Int)) : q01_Shl.g (fun a0 => (h (mk0 a0))) n a0 a1 = (q01_Shl.g mk0 n a0 a1).map h := by
  unfold q01_Shl.g
  exact (bindO_map fun r2 => (bindO_map fun r4 => rfl))
theorem q01_Shl.run (n : Nat) (a0 : (List Int)) (a1 : (List Int)) : runF (q01_Shl.C n) (q01_Shl.A n) n Tryd.f101 [(.ints .u64 4 a0), (.ints .u64 4 a1)] [] (fun v o => some (v, o)) = q01_Shl.g (fun a0 => ((Prod.mk (.ints .u64 4 a0) []) : AV × Blks)) n a0 a1 := by kernel_rfl
theorem q01_Shl.call (hmix : Tryd.prog.follows .mixedOrders = true) (n : Nat) (t : ((List Int) × (List Int))) (u) (h : q01_Shl.m n t = some u) : FnC Tryd.prog abiG 101 (q01_Shl.shape t).1 (q01_Shl.shape t).2 (q01_Shl.res u).1 (q01_Shl.res u).2 := by
  have hg : ∀ f m, (q01_Shl.C n).Γ f = some m → CalleeS Tryd.prog abiG f m := by
    intro f m hm
    unfold q01_Shl.C at hm
    simp only at hm
    first
    | (cases hm; done)
    | (split at hm <;> first
    | (cases hm; exact q01_far.s hmix n)
    | (cases hm; exact q01_shift.s hmix n)
    | (cases hm; done))
  have hb : Tryd.f101.body = some (Tryd.f101.body.getD .skip) := by kernel_rfl
  refine runF_calls (C := q01_Shl.C n) (A := q01_Shl.A n) (n := n) (fn := Tryd.f101) hg hmix Tryd.func101 hb ?_ ?_ (by decide) rfl rfl (by show 2 ≤ Tryd.f101.ntmps; decide) ?_
  · rw [show loopsIn (Tryd.f101.body.getD .skip) = [] by kernel_rfl]
    intro b hb
    cases hb
  · intro a ha m hm
    cases (show none = some m from hm)
  · rw [show runF (q01_Shl.C n) (q01_Shl.A n) n Tryd.f101 (q01_Shl.shape t).1 (q01_Shl.shape t).2 (fun v o => some (v, o)) = _ from q01_Shl.run n t.1 t.2]
    have e := q01_Shl.gmap q01_Shl.res (fun a0 => a0) n t.1 t.2
    unfold q01_Shl.m at h
    rw [h] at e
    exact e
theorem q01_Shl.s (hmix : Tryd.prog.follows .mixedOrders = true) (n : Nat) : CalleeS Tryd.prog abiG 101 (q01_Shl.c n) :=
  CalleeS.of (res := q01_Shl.res) (shape := q01_Shl.shape) (fun R u K => rfl) (fun args lent t h => by
    unfold q01_Shl.pat at h
    split at h
    · cases h; rfl
    · cases h) fun t u h => (q01_Shl.call hmix n t u h).ok Tryd.func101 (by decide) (by kernel_rfl)
end
section
noncomputable section
noncomputable def q01_Shr.C (n : Nat) : Ctx := ⟨Tryd.prog, abiG, fun f => match f with
 | 115 => some (q01_far.c n)
 | 114 => some (q01_shift.c n)
 | _ => none, fun _ => false⟩
def q01_Shr.live : Nat → List Nat × List Nat := fun k => match k with
 | _ => ([], [])
def q01_Shr.jlive : Nat → List Nat × List Nat := fun k => match k with
 | _ => ([], [])
noncomputable def q01_Shr.A (n : Nat) : Ann := ⟨Tryd.f95.ntmps, 0, q01_Shr.live, [], [none], fun k => match k with
 | _ => none, q01_Shr.jlive, lookJ []⟩
def q01_Shr.g {α : Type} (mk0 : (List Int) → α) (n : Nat) (a0 : (List Int)) (a1 : (List Int)) : Option α :=
 bindO (q01_far.m n a0) fun r2 =>
  bindO (q01_shift.m n (Prod.mk a1 (Prod.mk (IntKind.wrap .i64 (0 - r2)) false))) fun r4 =>
   some (mk0 r4)
def q01_Shr.m (n : Nat) (t : ((List Int) × (List Int))) : Option (List Int) := q01_Shr.g (fun a0 => a0) n t.1 t.2
def q01_Shr.pat : List AV → Blks → Option ((List Int) × (List Int))
 | [(.ints .u64 4 a0), (.ints .u64 4 a1)], [] => some (a0, a1)
 | _, _ => none
def q01_Shr.shape (t : ((List Int) × (List Int))) : List AV × Blks := ([(.ints .u64 4 t.1), (.ints .u64 4 t.2)], [])
def q01_Shr.res : (List Int) → AV × Blks
 | u => (Prod.mk (.ints .u64 4 u) [])
def q01_Shr.resK {R : Type} (u : (List Int)) (K : AV → Blks → Option R) : Option R := (fun p : AV × Blks => K p.1 p.2) (Prod.mk (.ints .u64 4 u) [])
def q01_Shr.c (n : Nat) : Abs.Callee := .mk' [] [none, none] q01_Shr.pat (q01_Shr.m n) q01_Shr.resK
end
end
section
theorem q01_Shr.gmap {α β : Type} (h : β → α) (mk0 : (List Int) → β) (n : Nat) (a0 : (List Int)) (a1 : (List Int)) : q01_Shr.g (fun a0 => (h (mk0 a0))) n a0 a1 = (q01_Shr.g mk0 n a0 a1).map h := by
  unfold q01_Shr.g
  exact (bindO_map fun r2 => (bindO_map fun r4 => rfl))
theorem q01_Shr.run (n : Nat) (a0 : (List Int)) (a1 : (List Int)) : runF (q01_Shr.C n) (q01_Shr.A n) n Tryd.f95 [(.ints .u64 4 a0), (.ints .u64 4 a1)] [] (fun v o => some (v, o)) = q01_Shr.g (fun a0 => ((Prod.mk (.ints .u64 4 a0) []) : AV × Blks)) n a0 a1 := by kernel_rfl
theorem q01_Shr.call (hmix : Tryd.prog.follows .mixedOrders = true) (n : Nat) (t : ((List Int) × (List Int))) (u) (h : q01_Shr.m n t = some u) : FnC Tryd.prog abiG 95 (q01_Shr.shape t).1 (q01_Shr.shape t).2 (q01_Shr.res u).1 (q01_Shr.res u).2 := by
  have hg : ∀ f m, (q01_Shr.C n).Γ f = some m → CalleeS Tryd.prog abiG f m := by
    intro f m hm
    unfold q01_Shr.C at hm
    simp only at hm
    first
    | (cases hm; done)
    | (split at hm <;> first
    | (cases hm; exact q01_far.s hmix n)
    | (cases hm; exact q01_shift.s hmix n)
    | (cases hm; done))
  have hb : Tryd.f95.body = some (Tryd.f95.body.getD .skip) := by kernel_rfl
  refine runF_calls (C := q01_Shr.C n) (A := q01_Shr.A n) (n := n) (fn := Tryd.f95) hg hmix Tryd.func95 hb ?_ ?_ (by decide) rfl rfl (by show 2 ≤ Tryd.f95.ntmps; decide) ?_
  · rw [show loopsIn (Tryd.f95.body.getD .skip) = [] by kernel_rfl]
    intro b hb
    cases hb
  · intro a ha m hm
    cases (show none = some m from hm)
  · rw [show runF (q01_Shr.C n) (q01_Shr.A n) n Tryd.f95 (q01_Shr.shape t).1 (q01_Shr.shape t).2 (fun v o => some (v, o)) = _ from q01_Shr.run n t.1 t.2]
    have e := q01_Shr.gmap q01_Shr.res (fun a0 => a0) n t.1 t.2
    unfold q01_Shr.m at h
    rw [h] at e
    exact e
theorem q01_Shr.s (hmix : Tryd.prog.follows .mixedOrders = true) (n : Nat) : CalleeS Tryd.prog abiG 95 (q01_Shr.c n) :=
  CalleeS.of (res := q01_Shr.res) (shape := q01_Shr.shape) (fun R u K => rfl) (fun args lent t h => by
    unfold q01_Shr.pat at h
    split at h
    · cases h; rfl
    · cases h) fun t u h => (q01_Shr.call hmix n t u h).ok Tryd.func95 (by decide) (by kernel_rfl)
end
section
noncomputable section
noncomputable def word_Small.C (n : Nat) : Ctx := ⟨Tryd.prog, abiG, fun f => match f with
 | _ => none, fun _ => false⟩
def word_Small.live : Nat → List Nat × List Nat := fun k => match k with
 | _ => ([], [])
def word_Small.jlive : Nat → List Nat × List Nat := fun k => match k with
 | _ => ([], [])
noncomputable def word_Small.A (n : Nat) : Ann := ⟨Tryd.f120.ntmps, 0, word_Small.live, [], [none, none], fun k => match k with
 | _ => none, word_Small.jlive, lookJ []⟩
def word_Small.g {α : Type} (mk0 : Int → Bool → α) (n : Nat) (a0 : (List Int)) : Option α :=
 if ((ibits BinOp.or .u64 (ibits BinOp.or .u64 (List.getD a0 1 0) (List.getD a0 2 0)) (List.getD a0 3 0)) != 0) = true then
  some (mk0 0 false)
 else
  some (mk0 (List.getD a0 0 0) true)
def word_Small.m (n : Nat) (t : (List Int)) : Option (Int × Bool) := word_Small.g (fun a0 a1 => (a0, a1)) n t
def word_Small.pat : List AV → Blks → Option (List Int)
 | [(.ints .u64 4 a0)], [] => some a0
 | _, _ => none
def word_Small.shape (t : (List Int)) : List AV × Blks := ([(.ints .u64 4 t)], [])
def word_Small.res : (Int × Bool) → AV × Blks
 | u => (Prod.mk (.tup [(.int .u64 u.1), (.bool u.2)]) [])
def word_Small.resK {R : Type} (u : (Int × Bool)) (K : AV → Blks → Option R) : Option R := (fun p : AV × Blks => K p.1 p.2) (Prod.mk (.tup [(.int .u64 u.1), (.bool u.2)]) [])
def word_Small.c (n : Nat) : Abs.Callee := .mk' [] [none] word_Small.pat (word_Small.m n) word_Small.resK
end
end
section
noncomputable section
noncomputable def word_far.C (n : Nat) : Ctx := ⟨Tryd.prog, abiG, fun f => match f with
 | 120 => some (word_Small.c n)
 | _ => none, fun _ => false⟩
def word_far.live : Nat → List Nat × List Nat := fun k => match k with
 | _ => ([], [])
def word_far.jlive : Nat → List Nat × List Nat := fun k => match k with
 | _ => ([], [])
noncomputable def word_far.A (n : Nat) : Ann := ⟨Tryd.f113.ntmps, 0, word_far.live, [], [none], fun k => match k with
 | _ => none, word_far.jlive, lookJ []⟩
def word_far.g {α : Type} (mk0 : Int → α) (n : Nat) (a0 : (List Int)) : Option α :=
 bindO (word_Small.m n a0) fun r2 =>
  if (!(Prod.snd r2)) = true then
   some (mk0 256)
  else
   some (mk0 (if 256 < (Prod.fst r2) then 256 else (Prod.fst r2)))
def word_far.m (n : Nat) (t : (List Int)) : Option Int := word_far.g (fun a0 => a0) n t
def word_far.pat : List AV → Blks → Option (List Int)
 | [(.ints .u64 4 a0)], [] => some a0
 | _, _ => none
def word_far.shape (t : (List Int)) : List AV × Blks := ([(.ints .u64 4 t)], [])
def word_far.res : Int → AV × Blks
 | u => (Prod.mk (.int .u64 u) [])
def word_far.resK {R : Type} (u : Int) (K : AV → Blks → Option R) : Option R := (fun p : AV × Blks => K p.1 p.2) (Prod.mk (.int .u64 u) [])
def word_far.c (n : Nat) : Abs.Callee := .mk' [] [none] word_far.pat (word_far.m n) word_far.resK
end
end
section
theorem word_Small.gmap {α β : Type} (h : β → α) (mk0 : Int → Bool → β) (n : Nat) (a0 : (List Int)) : word_Small.g (fun a0 a1 => (h (mk0 a0 a1))) n a0 = (word_Small.g mk0 n a0).map h := by
  unfold word_Small.g
  exact (ite_map rfl rfl)
theorem word_Small.run (n : Nat) (a0 : (List Int)) : runF (word_Small.C n) (word_Small.A n) n Tryd.f120 [(.ints .u64 4 a0)] [] (fun v o => some (v, o)) = word_Small.g (fun a0 a1 => ((Prod.mk (.tup [(.int .u64 a0), (.bool a1)]) []) : AV × Blks)) n a0 := by kernel_rfl
theorem word_Small.call (hmix : Tryd.prog.follows .mixedOrders = true) (n : Nat) (t : (List Int)) (u) (h : word_Small.m n t = some u) : FnC Tryd.prog abiG 120 (word_Small.shape t).1 (word_Small.shape t).2 (word_Small.res u).1 (word_Small.res u).2 := by
  have hg : ∀ f m, (word_Small.C n).Γ f = some m → CalleeS Tryd.prog abiG f m := by
    intro f m hm
    unfold word_Small.C at hm
    simp only at hm
    first
    | (cases hm; done)
    | (split at hm <;> first
    | (cases hm; done))
  have hb : Tryd.f120.body = some (Tryd.f120.body.getD .skip) := by kernel_rfl
  refine runF_calls (C := word_Small.C n) (A := word_Small.A n) (n := n) (fn := Tryd.f120) hg hmix Tryd.func120 hb ?_ ?_ (by decide) rfl rfl (by show 1 ≤ Tryd.f120.ntmps; decide) ?_
  · rw [show loopsIn (Tryd.f120.body.getD .skip) = [] by kernel_rfl]
    intro b hb
    cases hb
  · intro a ha m hm
    cases (show none = some m from hm)
  · rw [show runF (word_Small.C n) (word_Small.A n) n Tryd.f120 (word_Small.shape t).1 (word_Small.shape t).2 (fun v o => some (v, o)) = _ from word_Small.run n t]
    have e := word_Small.gmap word_Small.res (fun a0 a1 => (a0, a1)) n t
    unfold word_Small.m at h
    rw [h] at e
    exact e
theorem word_Small.s (hmix : Tryd.prog.follows .mixedOrders = true) (n : Nat) : CalleeS Tryd.prog abiG 120 (word_Small.c n) :=
  CalleeS.of (res := word_Small.res) (shape := word_Small.shape) (fun R u K => rfl) (fun args lent t h => by
    unfold word_Small.pat at h
    split at h
    · cases h; rfl
    · cases h) fun t u h => (word_Small.call hmix n t u h).ok Tryd.func120 (by decide) (by kernel_rfl)
end
section
theorem word_far.gmap {α β : Type} (h : β → α) (mk0 : Int → β) (n : Nat) (a0 : (List Int)) : word_far.g (fun a0 => (h (mk0 a0))) n a0 = (word_far.g mk0 n a0).map h := by
  unfold word_far.g
  exact (bindO_map fun r2 => (ite_map rfl rfl))
theorem word_far.run (n : Nat) (a0 : (List Int)) : runF (word_far.C n) (word_far.A n) n Tryd.f113 [(.ints .u64 4 a0)] [] (fun v o => some (v, o)) = word_far.g (fun a0 => ((Prod.mk (.int .u64 a0) []) : AV × Blks)) n a0 := by kernel_rfl
theorem word_far.call (hmix : Tryd.prog.follows .mixedOrders = true) (n : Nat) (t : (List Int)) (u) (h : word_far.m n t = some u) : FnC Tryd.prog abiG 113 (word_far.shape t).1 (word_far.shape t).2 (word_far.res u).1 (word_far.res u).2 := by
  have hg : ∀ f m, (word_far.C n).Γ f = some m → CalleeS Tryd.prog abiG f m := by
    intro f m hm
    unfold word_far.C at hm
    simp only at hm
    first
    | (cases hm; done)
    | (split at hm <;> first
    | (cases hm; exact word_Small.s hmix n)
    | (cases hm; done))
  have hb : Tryd.f113.body = some (Tryd.f113.body.getD .skip) := by kernel_rfl
  refine runF_calls (C := word_far.C n) (A := word_far.A n) (n := n) (fn := Tryd.f113) hg hmix Tryd.func113 hb ?_ ?_ (by decide) rfl rfl (by show 1 ≤ Tryd.f113.ntmps; decide) ?_
  · rw [show loopsIn (Tryd.f113.body.getD .skip) = [] by kernel_rfl]
    intro b hb
    cases hb
  · intro a ha m hm
    cases (show none = some m from hm)
  · rw [show runF (word_far.C n) (word_far.A n) n Tryd.f113 (word_far.shape t).1 (word_far.shape t).2 (fun v o => some (v, o)) = _ from word_far.run n t]
    have e := word_far.gmap word_far.res (fun a0 => a0) n t
    unfold word_far.m at h
    rw [h] at e
    exact e
theorem word_far.s (hmix : Tryd.prog.follows .mixedOrders = true) (n : Nat) : CalleeS Tryd.prog abiG 113 (word_far.c n) :=
  CalleeS.of (res := word_far.res) (shape := word_far.shape) (fun R u K => rfl) (fun args lent t h => by
    unfold word_far.pat at h
    split at h
    · cases h; rfl
    · cases h) fun t u h => (word_far.call hmix n t u h).ok Tryd.func113 (by decide) (by kernel_rfl)
end
