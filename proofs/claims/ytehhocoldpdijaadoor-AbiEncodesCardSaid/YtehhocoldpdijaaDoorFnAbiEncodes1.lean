/- What the program's functions compute, as plain functions, each with its proof: the function does just that. Condition: the plain function has an answer. -/
import Derived.Test.YtehhocoldpdijaaDoorAbsF1
import Derived.Test.YtehhocoldpdijaaDoorAbsF6
import Derived.Test.YtehhocoldpdijaaDoorProg
set_option linter.unusedVariables false
set_option linter.unusedSimpArgs false
set_option maxRecDepth 100000
open Go Go.Abs Go.Proofs
section
namespace Go.Abs
open Go
def kecKeys : List Int := [1, 32898, 9223372036854808714, 9223372039002292224, 32907, 2147483649, 9223372039002292353, 9223372036854808585, 138, 136, 2147516425, 2147483658, 2147516555, 9223372036854775947, 9223372036854808713, 9223372036854808579, 9223372036854808578, 9223372036854775936, 32778, 9223372039002259466, 9223372039002292353, 9223372036854808704, 2147483649, 9223372039002292232]
def kecTo : List Int := [10, 7, 11, 17, 18, 3, 5, 16, 8, 21, 24, 4, 15, 23, 19, 13, 12, 2, 20, 14, 22, 9, 6, 1]
def kecTurns : List Int := [1, 3, 6, 10, 15, 21, 28, 36, 45, 55, 2, 14, 27, 41, 56, 8, 25, 43, 62, 18, 39, 61, 20, 44]
def abiG : Nat → AV := fun g => match g with
  | 2 => .ints .u64 24 kecKeys
  | 3 => .ints .i64 24 kecTo
  | 4 => .ints .i64 24 kecTurns
  | _ => .any
end Go.Abs
end
section
noncomputable section
noncomputable def bits_RotateLeft64.C (n : Nat) : Ctx := ⟨Tryd.prog, abiG, fun f => match f with
 | _ => none, fun _ => false⟩
def bits_RotateLeft64.live : Nat → List Nat × List Nat := fun k => match k with
 | _ => ([], [])
def bits_RotateLeft64.jlive : Nat → List Nat × List Nat := fun k => match k with
 | _ => ([], [])
noncomputable def bits_RotateLeft64.A (n : Nat) : Ann := ⟨Tryd.f130.ntmps, 0, bits_RotateLeft64.live, [], [none], fun k => match k with
 | _ => none, bits_RotateLeft64.jlive, lookJ []⟩
def bits_RotateLeft64.g {α : Type} (mk0 : Int → α) (n : Nat) (a0 : Int) (a1 : Int) : Option α :=
 if 0 ≤ (IntKind.wrap .u64 (64 - (ibits BinOp.and .u64 (IntKind.wrap .u64 a1) 63))) then
  some (mk0 (ibits BinOp.or .u64 (ishl .u64 a0 (ibits BinOp.and .u64 (IntKind.wrap .u64 a1) 63)) (ishr .u64 a0 (IntKind.wrap .u64 (64 - (ibits BinOp.and .u64 (IntKind.wrap .u64 a1) 63))))))
 else
  none
def bits_RotateLeft64.m (n : Nat) (t : (Int × Int)) : Option Int := bits_RotateLeft64.g (fun a0 => a0) n t.1 t.2
def bits_RotateLeft64.pat : List AV → Blks → Option (Int × Int)
 | [(.int .u64 a0), (.int .i64 a1)], [] => some (a0, a1)
 | _, _ => none
def bits_RotateLeft64.shape (t : (Int × Int)) : List AV × Blks := ([(.int .u64 t.1), (.int .i64 t.2)], [])
def bits_RotateLeft64.res : Int → AV × Blks
 | u => (Prod.mk (.int .u64 u) [])
def bits_RotateLeft64.resK {R : Type} (u : Int) (K : AV → Blks → Option R) : Option R := (fun p : AV × Blks => K p.1 p.2) (Prod.mk (.int .u64 u) [])
def bits_RotateLeft64.c (n : Nat) : Abs.Callee := .mk' [] [none, none] bits_RotateLeft64.pat (bits_RotateLeft64.m n) bits_RotateLeft64.resK
end
end
section
noncomputable section
noncomputable def keccak_state_spread.C (n : Nat) : Ctx := ⟨Tryd.prog, abiG, fun f => match f with
 | 130 => some (bits_RotateLeft64.c n)
 | _ => none, fun _ => false⟩
def keccak_state_spread.live : Nat → List Nat × List Nat := fun k => match k with
 | 2 => ([7, 6, 2, 0], [0, 2])
 | 7 => ([21, 0, 2], [])
 | _ => ([], [])
def keccak_state_spread.jlive : Nat → List Nat × List Nat := fun k => match k with
 | _ => ([], [])
def keccak_state_spread.l2_0.r {α : Type} (mk0 : (List Int) → (List Int) → α) (n : Nat) (rc : Int → (List Int) → (List Int) → Option α)  (x0 : Int) (x1 : (List Int)) (x2 : (List Int)) : Option α :=
  if (decide (x0 < 25)) = true then
   if 0 ≤ x0 then
    if x0 < 25 then
     if 0 ≤ (Int.tmod x0 5) then
      if (Int.tmod x0 5) < 5 then
       if 0 ≤ (Int.tmod x0 5) then
        if (Int.tmod x0 5) < 5 then
         rc (IntKind.wrap .i64 (x0 + 1)) x1 (List.set x2 (Int.toNat (Int.tmod x0 5)) (ibits BinOp.xor .u64 (List.getD x2 (Int.toNat (Int.tmod x0 5)) 0) (List.getD x1 (Int.toNat x0) 0)))
        else
         none
       else
        none
      else
       none
     else
      none
    else
     none
   else
    none
  else
   some (mk0 x1 x2)
def keccak_state_spread.l2_0.g {α : Type} (mk0 : (List Int) → (List Int) → α) (n : Nat) : Nat → Int → (List Int) → (List Int) → Option α
 | 0, _, _, _ => none
 | m + 1, x0, x1, x2 => keccak_state_spread.l2_0.r mk0 n (fun y0 y1 y2 => keccak_state_spread.l2_0.g mk0 n m y0 y1 y2)  x0 x1 x2
def keccak_state_spread.l2_0.m (n m : Nat) (t : (Int × ((List Int) × (List Int)))) : Option ((List Int) × (List Int)) := keccak_state_spread.l2_0.g (fun a0 a1 => (a0, a1)) n m t.1 t.2.1 t.2.2
def keccak_state_spread.l2_0.pat : St → Option (Int × ((List Int) × (List Int)))
 | (St.mk [(.int .i64 x0), (.ptr 0 []), (.ptr 1 []), (.ptr 0 [])] [(some (.var (.ints .u64 25 x1))), (some (.var (.ints .u64 5 x2)))]) => some (x0, x1, x2)
 | _ => none
def keccak_state_spread.l2_0.shape (t : (Int × ((List Int) × (List Int)))) : St := (St.mk [(.int .i64 t.1), (.ptr 0 []), (.ptr 1 []), (.ptr 0 [])] [(some (.var (.ints .u64 25 t.2.1))), (some (.var (.ints .u64 5 t.2.2)))])
def keccak_state_spread.l2_0.res : ((List Int) × (List Int)) → Ex × St
 | u => (Prod.mk (.exit 0) (St.mk [(.ptr 0 []), (.ptr 1 [])] [(some (.var (.ints .u64 25 u.1))), (some (.var (.ints .u64 5 u.2)))]))
def keccak_state_spread.l2_0.resK {R : Type} (u : ((List Int) × (List Int))) (K : Ex → St → Option R) : Option R := (fun p : Ex × St => K p.1 p.2) (Prod.mk (.exit 0) (St.mk [(.ptr 0 []), (.ptr 1 [])] [(some (.var (.ints .u64 25 u.1))), (some (.var (.ints .u64 5 u.2)))]))
def keccak_state_spread.l7_0.r {α : Type} (mk0 : (List Int) → α) (n : Nat) (rc : Int → (List Int) → (List Int) → Option α)  (x0 : Int) (x1 : (List Int)) (x2 : (List Int)) : Option α :=
  if (decide (x0 < 25)) = true then
   if 0 ≤ x0 then
    if x0 < 25 then
     if 0 ≤ (Int.tmod (IntKind.wrap .i64 (x0 + 4)) 5) then
      if (Int.tmod (IntKind.wrap .i64 (x0 + 4)) 5) < 5 then
       if 0 ≤ (Int.tmod (IntKind.wrap .i64 (x0 + 1)) 5) then
        if (Int.tmod (IntKind.wrap .i64 (x0 + 1)) 5) < 5 then
         bindO (bits_RotateLeft64.m n (Prod.mk (List.getD x2 (Int.toNat (Int.tmod (IntKind.wrap .i64 (x0 + 1)) 5)) 0) 1)) fun r18 =>
          if 0 ≤ x0 then
           if x0 < 25 then
            rc (IntKind.wrap .i64 (x0 + 1)) (List.set x1 (Int.toNat x0) (ibits BinOp.xor .u64 (List.getD x1 (Int.toNat x0) 0) (ibits BinOp.xor .u64 (List.getD x2 (Int.toNat (Int.tmod (IntKind.wrap .i64 (x0 + 4)) 5)) 0) r18))) x2
           else
            none
          else
           none
        else
         none
       else
        none
      else
       none
     else
      none
    else
     none
   else
    none
  else
   some (mk0 x1)
def keccak_state_spread.l7_0.g {α : Type} (mk0 : (List Int) → α) (n : Nat) : Nat → Int → (List Int) → (List Int) → Option α
 | 0, _, _, _ => none
 | m + 1, x0, x1, x2 => keccak_state_spread.l7_0.r mk0 n (fun y0 y1 y2 => keccak_state_spread.l7_0.g mk0 n m y0 y1 y2)  x0 x1 x2
def keccak_state_spread.l7_0.m (n m : Nat) (t : (Int × ((List Int) × (List Int)))) : Option (List Int) := keccak_state_spread.l7_0.g (fun a0 => a0) n m t.1 t.2.1 t.2.2
def keccak_state_spread.l7_0.pat : St → Option (Int × ((List Int) × (List Int)))
 | (St.mk [(.int .i64 x0), (.ptr 0 []), (.ptr 1 [])] [(some (.var (.ints .u64 25 x1))), (some (.var (.ints .u64 5 x2)))]) => some (x0, x1, x2)
 | _ => none
def keccak_state_spread.l7_0.shape (t : (Int × ((List Int) × (List Int)))) : St := (St.mk [(.int .i64 t.1), (.ptr 0 []), (.ptr 1 [])] [(some (.var (.ints .u64 25 t.2.1))), (some (.var (.ints .u64 5 t.2.2)))])
def keccak_state_spread.l7_0.res : (List Int) → Ex × St
 | u => (Prod.mk (.exit 2) (St.mk [] [(some (.var (.ints .u64 25 u)))]))
def keccak_state_spread.l7_0.resK {R : Type} (u : (List Int)) (K : Ex → St → Option R) : Option R := (fun p : Ex × St => K p.1 p.2) (Prod.mk (.exit 2) (St.mk [] [(some (.var (.ints .u64 25 u)))]))
noncomputable def keccak_state_spread.A (n : Nat) : Ann := ⟨Tryd.f124.ntmps, 1, keccak_state_spread.live, [], [], fun k => match k with
 | 2 => some (.mk' keccak_state_spread.l2_0.pat (keccak_state_spread.l2_0.m n n) keccak_state_spread.l2_0.resK)
 | 7 => some (.mk' keccak_state_spread.l7_0.pat (keccak_state_spread.l7_0.m n n) keccak_state_spread.l7_0.resK)
 | _ => none, keccak_state_spread.jlive, lookJ []⟩
noncomputable def keccak_state_spread.b0 : Code := (loopsIn (Tryd.f124.body.getD .skip)).getD 0 .skip
noncomputable def keccak_state_spread.b1 : Code := (loopsIn (Tryd.f124.body.getD .skip)).getD 1 .skip
def keccak_state_spread.g {α : Type} (mk0 : (List Int) → α) (n : Nat) (s : (List Int)) : Option α :=
 bindO (keccak_state_spread.l2_0.m n n (0, s, [0, 0, 0, 0, 0])) fun r2 =>
  bindO (keccak_state_spread.l7_0.m n n (0, (Prod.fst r2), (Prod.snd r2))) fun r4 =>
   some (mk0 r4)
def keccak_state_spread.m (n : Nat) (t : (List Int)) : Option (List Int) := keccak_state_spread.g (fun a0 => a0) n t
def keccak_state_spread.pat : List AV → Blks → Option (List Int)
 | [(.ptr 0 [])], [(some (.var (.ints .u64 25 s)))] => some s
 | _, _ => none
def keccak_state_spread.shape (t : (List Int)) : List AV × Blks := ([(.ptr 0 [])], [(some (.var (.ints .u64 25 t)))])
def keccak_state_spread.res : (List Int) → AV × Blks
 | u => (Prod.mk (.tup []) [(some (.var (.ints .u64 25 u)))])
def keccak_state_spread.resK {R : Type} (u : (List Int)) (K : AV → Blks → Option R) : Option R := (fun p : AV × Blks => K p.1 p.2) (Prod.mk (.tup []) [(some (.var (.ints .u64 25 u)))])
def keccak_state_spread.c (n : Nat) : Abs.Callee := .mk' [true] [none] keccak_state_spread.pat (keccak_state_spread.m n) keccak_state_spread.resK
end
end
section
theorem bits_RotateLeft64.gmap {α β : Type} (h : β → α) (mk0 : Int → β) (n : Nat) (a0 : Int) (a1 : Int) : bits_RotateLeft64.g (fun a0 => (h (mk0 a0))) n a0 a1 = (bits_RotateLeft64.g mk0 n a0 a1).map h := by
  unfold bits_RotateLeft64.g
  exact (ite_map rfl rfl)
theorem bits_RotateLeft64.run (n : Nat) (a0 : Int) (a1 : Int) : runF (bits_RotateLeft64.C n) (bits_RotateLeft64.A n) n Tryd.f130 [(.int .u64 a0), (.int .i64 a1)] [] (fun v o => some (v, o)) = bits_RotateLeft64.g (fun a0 => ((Prod.mk (.int .u64 a0) []) : AV × Blks)) n a0 a1 := by kernel_rfl
theorem bits_RotateLeft64.call (hmix : Tryd.prog.follows .mixedOrders = true) (n : Nat) (t : (Int × Int)) (u) (h : bits_RotateLeft64.m n t = some u) : FnC Tryd.prog abiG 130 (bits_RotateLeft64.shape t).1 (bits_RotateLeft64.shape t).2 (bits_RotateLeft64.res u).1 (bits_RotateLeft64.res u).2 := by
  have hg : ∀ f m, (bits_RotateLeft64.C n).Γ f = some m → CalleeS Tryd.prog abiG f m := by
    intro f m hm
    unfold bits_RotateLeft64.C at hm
    simp only at hm
    first
    | (cases hm; done)
    | (split at hm <;> first
    | (cases hm; done))
  have hb : Tryd.f130.body = some (Tryd.f130.body.getD .skip) := by kernel_rfl
  refine runF_calls (C := bits_RotateLeft64.C n) (A := bits_RotateLeft64.A n) (n := n) (fn := Tryd.f130) hg hmix Tryd.func130 hb ?_ ?_ (by decide) rfl rfl (by show 2 ≤ Tryd.f130.ntmps; decide) ?_
  · rw [show loopsIn (Tryd.f130.body.getD .skip) = [] by kernel_rfl]
    intro b hb
    cases hb
  · intro a ha m hm
    cases (show none = some m from hm)
  · rw [show runF (bits_RotateLeft64.C n) (bits_RotateLeft64.A n) n Tryd.f130 (bits_RotateLeft64.shape t).1 (bits_RotateLeft64.shape t).2 (fun v o => some (v, o)) = _ from bits_RotateLeft64.run n t.1 t.2]
    have e := bits_RotateLeft64.gmap bits_RotateLeft64.res (fun a0 => a0) n t.1 t.2
    unfold bits_RotateLeft64.m at h
    rw [h] at e
    exact e
theorem bits_RotateLeft64.s (hmix : Tryd.prog.follows .mixedOrders = true) (n : Nat) : CalleeS Tryd.prog abiG 130 (bits_RotateLeft64.c n) :=
  CalleeS.of (res := bits_RotateLeft64.res) (shape := bits_RotateLeft64.shape) (fun R u K => rfl) (fun args lent t h => by
    unfold bits_RotateLeft64.pat at h
    split at h
    · cases h; rfl
    · cases h) fun t u h => (bits_RotateLeft64.call hmix n t u h).ok Tryd.func130 (by decide) (by kernel_rfl)
end
section
theorem keccak_state_spread.l2_0.rmap {α β : Type} (h : β → α) (mk0 : (List Int) → (List Int) → β) (n : Nat) (f : Int → (List Int) → (List Int) → Option β)  (x0 : Int) (x1 : (List Int)) (x2 : (List Int)) : keccak_state_spread.l2_0.r (fun a0 a1 => (h (mk0 a0 a1))) n (fun y0 y1 y2 => (f y0 y1 y2).map h) x0 x1 x2 = (keccak_state_spread.l2_0.r mk0 n f x0 x1 x2).map h := by
  unfold keccak_state_spread.l2_0.r
  exact (ite_map (ite_map (ite_map (ite_map (ite_map (ite_map (ite_map rfl rfl) rfl) rfl) rfl) rfl) rfl) rfl)
theorem keccak_state_spread.l2_0.gmap {α β : Type} (h : β → α) (mk0 : (List Int) → (List Int) → β) (n : Nat) : ∀ (m : Nat) (x0 : Int) (x1 : (List Int)) (x2 : (List Int)), keccak_state_spread.l2_0.g (fun a0 a1 => (h (mk0 a0 a1))) n m x0 x1 x2 = (keccak_state_spread.l2_0.g mk0 n m x0 x1 x2).map h
  | 0, _, _, _ => rfl
  | m + 1, x0, x1, x2 => by
    unfold keccak_state_spread.l2_0.g
    rw [← keccak_state_spread.l2_0.rmap]
    congr
    · funext y0 y1 y2; exact keccak_state_spread.l2_0.gmap h mk0 n m y0 y1 y2
theorem keccak_state_spread.l2_0.pat_shape : ∀ st t, keccak_state_spread.l2_0.pat st = some t → st = keccak_state_spread.l2_0.shape t := by
  intro st t h
  unfold keccak_state_spread.l2_0.pat at h
  split at h
  · cases h; rfl
  · cases h
theorem keccak_state_spread.l2_0.round (n : Nat) (rc : St → Option (Ex × St)) (x0 : Int) (x1 : (List Int)) (x2 : (List Int)) : roundOf (keccak_state_spread.C n) (keccak_state_spread.A n) n keccak_state_spread.b0 rc ((St.mk [(.int .i64 x0), (.ptr 0 []), (.ptr 1 []), (.ptr 0 [])] [(some (.var (.ints .u64 25 x1))), (some (.var (.ints .u64 5 x2)))])) = keccak_state_spread.l2_0.r (fun a0 a1 => ((Prod.mk (.exit 0) (St.mk [(.ptr 0 []), (.ptr 1 [])] [(some (.var (.ints .u64 25 a0))), (some (.var (.ints .u64 5 a1)))])) : Ex × St)) n (fun y0 y1 y2 => rc ((St.mk [(.int .i64 y0), (.ptr 0 []), (.ptr 1 []), (.ptr 0 [])] [(some (.var (.ints .u64 25 y1))), (some (.var (.ints .u64 5 y2)))]))) x0 x1 x2 := by kernel_rfl
theorem keccak_state_spread.l2_0.loop' (n : Nat) : ∀ (m : Nat) (t : (Int × ((List Int) × (List Int)))), loopOf (roundOf (keccak_state_spread.C n) (keccak_state_spread.A n) n keccak_state_spread.b0) m (keccak_state_spread.l2_0.shape t) = keccak_state_spread.l2_0.g (fun a0 a1 => ((Prod.mk (.exit 0) (St.mk [(.ptr 0 []), (.ptr 1 [])] [(some (.var (.ints .u64 25 a0))), (some (.var (.ints .u64 5 a1)))])) : Ex × St)) n m t.1 t.2.1 t.2.2 :=
  loop_of_round (shape := keccak_state_spread.l2_0.shape) (body := roundOf (keccak_state_spread.C n) (keccak_state_spread.A n) n keccak_state_spread.b0) (g := fun m t => keccak_state_spread.l2_0.g (fun a0 a1 => ((Prod.mk (.exit 0) (St.mk [(.ptr 0 []), (.ptr 1 [])] [(some (.var (.ints .u64 25 a0))), (some (.var (.ints .u64 5 a1)))])) : Ex × St)) n m t.1 t.2.1 t.2.2) (fun t => rfl)
    fun m t ih => (keccak_state_spread.l2_0.round n (loopOf (roundOf (keccak_state_spread.C n) (keccak_state_spread.A n) n keccak_state_spread.b0) m) t.1 t.2.1 t.2.2).trans (congrFun (congrFun (congrFun (congrArg (keccak_state_spread.l2_0.r (fun a0 a1 => ((Prod.mk (.exit 0) (St.mk [(.ptr 0 []), (.ptr 1 [])] [(some (.var (.ints .u64 25 a0))), (some (.var (.ints .u64 5 a1)))])) : Ex × St)) n) (funext fun y0 => funext fun y1 => funext fun y2 => ih (y0, y1, y2))) t.1) t.2.1) t.2.2)
theorem keccak_state_spread.l2_0.loop (n m : Nat) (t : (Int × ((List Int) × (List Int)))) : loopOf (roundOf (keccak_state_spread.C n) (keccak_state_spread.A n) n keccak_state_spread.b0) m (keccak_state_spread.l2_0.shape t) = (keccak_state_spread.l2_0.m n m t).map keccak_state_spread.l2_0.res :=
  (keccak_state_spread.l2_0.loop' n m t).trans (keccak_state_spread.l2_0.gmap keccak_state_spread.l2_0.res (fun a0 a1 => (a0, a1)) n m t.1 t.2.1 t.2.2)
theorem keccak_state_spread.l7_0.rmap {α β : Type} (h : β → α) (mk0 : (List Int) → β) (n : Nat) (f : Int → (List Int) → (List Int) → Option β)  (x0 : Int) (x1 : (List Int)) (x2 : (List Int)) : keccak_state_spread.l7_0.r (fun a0 => (h (mk0 a0))) n (fun y0 y1 y2 => (f y0 y1 y2).map h) x0 x1 x2 = (keccak_state_spread.l7_0.r mk0 n f x0 x1 x2).map h := by
  unfold keccak_state_spread.l7_0.r
  exact (ite_map (ite_map (ite_map (ite_map (ite_map (ite_map (ite_map (bindO_map fun r18 => (ite_map (ite_map rfl rfl) rfl)) rfl) rfl) rfl) rfl) rfl) rfl) rfl)
theorem keccak_state_spread.l7_0.gmap {α β : Type} (h : β → α) (mk0 : (List Int) → β) (n : Nat) : ∀ (m : Nat) (x0 : Int) (x1 : (List Int)) (x2 : (List Int)), keccak_state_spread.l7_0.g (fun a0 => (h (mk0 a0))) n m x0 x1 x2 = (keccak_state_spread.l7_0.g mk0 n m x0 x1 x2).map h
  | 0, _, _, _ => rfl
  | m + 1, x0, x1, x2 => by
    unfold keccak_state_spread.l7_0.g
    rw [← keccak_state_spread.l7_0.rmap]
    congr
    · funext y0 y1 y2; exact keccak_state_spread.l7_0.gmap h mk0 n m y0 y1 y2
theorem keccak_state_spread.l7_0.pat_shape : ∀ st t, keccak_state_spread.l7_0.pat st = some t → st = keccak_state_spread.l7_0.shape t := by
  intro st t h
  unfold keccak_state_spread.l7_0.pat at h
  split at h
  · cases h; rfl
  · cases h
theorem keccak_state_spread.l7_0.round (n : Nat) (rc : St → Option (Ex × St)) (x0 : Int) (x1 : (List Int)) (x2 : (List Int)) : roundOf (keccak_state_spread.C n) (keccak_state_spread.A n) n keccak_state_spread.b1 rc ((St.mk [(.int .i64 x0), (.ptr 0 []), (.ptr 1 [])] [(some (.var (.ints .u64 25 x1))), (some (.var (.ints .u64 5 x2)))])) = keccak_state_spread.l7_0.r (fun a0 => ((Prod.mk (.exit 2) (St.mk [] [(some (.var (.ints .u64 25 a0)))])) : Ex × St)) n (fun y0 y1 y2 => rc ((St.mk [(.int .i64 y0), (.ptr 0 []), (.ptr 1 [])] [(some (.var (.ints .u64 25 y1))), (some (.var (.ints .u64 5 y2)))]))) x0 x1 x2 := by kernel_rfl
theorem keccak_state_spread.l7_0.loop' (n : Nat) : ∀ (m : Nat) (t : (Int × ((List Int) × (List Int)))), loopOf (roundOf (keccak_state_spread.C n) (keccak_state_spread.A n) n keccak_state_spread.b1) m (keccak_state_spread.l7_0.shape t) = keccak_state_spread.l7_0.g (fun a0 => ((Prod.mk (.exit 2) (St.mk [] [(some (.var (.ints .u64 25 a0)))])) : Ex × St)) n m t.1 t.2.1 t.2.2 :=
  loop_of_round (shape := keccak_state_spread.l7_0.shape) (body := roundOf (keccak_state_spread.C n) (keccak_state_spread.A n) n keccak_state_spread.b1) (g := fun m t => keccak_state_spread.l7_0.g (fun a0 => ((Prod.mk (.exit 2) (St.mk [] [(some (.var (.ints .u64 25 a0)))])) : Ex × St)) n m t.1 t.2.1 t.2.2) (fun t => rfl)
    fun m t ih => (keccak_state_spread.l7_0.round n (loopOf (roundOf (keccak_state_spread.C n) (keccak_state_spread.A n) n keccak_state_spread.b1) m) t.1 t.2.1 t.2.2).trans (congrFun (congrFun (congrFun (congrArg (keccak_state_spread.l7_0.r (fun a0 => ((Prod.mk (.exit 2) (St.mk [] [(some (.var (.ints .u64 25 a0)))])) : Ex × St)) n) (funext fun y0 => funext fun y1 => funext fun y2 => ih (y0, y1, y2))) t.1) t.2.1) t.2.2)
theorem keccak_state_spread.l7_0.loop (n m : Nat) (t : (Int × ((List Int) × (List Int)))) : loopOf (roundOf (keccak_state_spread.C n) (keccak_state_spread.A n) n keccak_state_spread.b1) m (keccak_state_spread.l7_0.shape t) = (keccak_state_spread.l7_0.m n m t).map keccak_state_spread.l7_0.res :=
  (keccak_state_spread.l7_0.loop' n m t).trans (keccak_state_spread.l7_0.gmap keccak_state_spread.l7_0.res (fun a0 => a0) n m t.1 t.2.1 t.2.2)
theorem keccak_state_spread.gmap {α β : Type} (h : β → α) (mk0 : (List Int) → β) (n : Nat) (s : (List Int)) : keccak_state_spread.g (fun a0 => (h (mk0 a0))) n s = (keccak_state_spread.g mk0 n s).map h := by
  unfold keccak_state_spread.g
  exact (bindO_map fun r2 => (bindO_map fun r4 => rfl))
theorem keccak_state_spread.run (n : Nat) (s : (List Int)) : runF (keccak_state_spread.C n) (keccak_state_spread.A n) n Tryd.f124 [(.ptr 0 [])] [(some (.var (.ints .u64 25 s)))] (fun v o => some (v, o)) = keccak_state_spread.g (fun a0 => ((Prod.mk (.tup []) [(some (.var (.ints .u64 25 a0)))]) : AV × Blks)) n s := by kernel_rfl
theorem keccak_state_spread.call (hmix : Tryd.prog.follows .mixedOrders = true) (n : Nat) (t : (List Int)) (u) (h : keccak_state_spread.m n t = some u) : FnC Tryd.prog abiG 124 (keccak_state_spread.shape t).1 (keccak_state_spread.shape t).2 (keccak_state_spread.res u).1 (keccak_state_spread.res u).2 := by
  have hg : ∀ f m, (keccak_state_spread.C n).Γ f = some m → CalleeS Tryd.prog abiG f m := by
    intro f m hm
    unfold keccak_state_spread.C at hm
    simp only at hm
    first
    | (cases hm; done)
    | (split at hm <;> first
    | (cases hm; exact bits_RotateLeft64.s hmix n)
    | (cases hm; done))
  have hb : Tryd.f124.body = some (Tryd.f124.body.getD .skip) := by kernel_rfl
  refine runF_calls (C := keccak_state_spread.C n) (A := keccak_state_spread.A n) (n := n) (fn := Tryd.f124) hg hmix Tryd.func124 hb ?_ ?_ (by decide) rfl rfl (by show 1 ≤ Tryd.f124.ntmps; decide) ?_
  · rw [show loopsIn (Tryd.f124.body.getD .skip) = [keccak_state_spread.b0, keccak_state_spread.b1] by kernel_rfl]
    intro b hb m hm
    simp only [List.mem_cons, List.not_mem_nil, or_false] at hb
    rcases hb with rfl | rfl
    · have e : (keccak_state_spread.A n).loop (key keccak_state_spread.b0) = some (.mk' keccak_state_spread.l2_0.pat (keccak_state_spread.l2_0.m n n) keccak_state_spread.l2_0.resK) := by rw [show key keccak_state_spread.b0 = 2 by kernel_rfl]; rfl
      rw [e] at hm
      cases hm
      exact (LoopS.of (res := keccak_state_spread.l2_0.res) (fun R u K => rfl) keccak_state_spread.l2_0.pat_shape fun t => keccak_state_spread.l2_0.loop n n t)
    · have e : (keccak_state_spread.A n).loop (key keccak_state_spread.b1) = some (.mk' keccak_state_spread.l7_0.pat (keccak_state_spread.l7_0.m n n) keccak_state_spread.l7_0.resK) := by rw [show key keccak_state_spread.b1 = 7 by kernel_rfl]; rfl
      rw [e] at hm
      cases hm
      exact (LoopS.of (res := keccak_state_spread.l7_0.res) (fun R u K => rfl) keccak_state_spread.l7_0.pat_shape fun t => keccak_state_spread.l7_0.loop n n t)
  · intro a ha m hm
    cases (show none = some m from hm)
  · rw [show runF (keccak_state_spread.C n) (keccak_state_spread.A n) n Tryd.f124 (keccak_state_spread.shape t).1 (keccak_state_spread.shape t).2 (fun v o => some (v, o)) = _ from keccak_state_spread.run n t]
    have e := keccak_state_spread.gmap keccak_state_spread.res (fun a0 => a0) n t
    unfold keccak_state_spread.m at h
    rw [h] at e
    exact e
theorem keccak_state_spread.s (hmix : Tryd.prog.follows .mixedOrders = true) (n : Nat) : CalleeS Tryd.prog abiG 124 (keccak_state_spread.c n) :=
  CalleeS.of (res := keccak_state_spread.res) (shape := keccak_state_spread.shape) (fun R u K => rfl) (fun args lent t h => by
    unfold keccak_state_spread.pat at h
    split at h
    · cases h; rfl
    · cases h) fun t u h => (keccak_state_spread.call hmix n t u h).ok Tryd.func124 (by decide) (by kernel_rfl)
end
section
noncomputable section
noncomputable def keccak_state_turn.C (n : Nat) : Ctx := ⟨Tryd.prog, abiG, fun f => match f with
 | 130 => some (bits_RotateLeft64.c n)
 | _ => none, fun _ => false⟩
def keccak_state_turn.live : Nat → List Nat × List Nat := fun k => match k with
 | 2 => ([9, 0, 2], [])
 | _ => ([], [])
def keccak_state_turn.jlive : Nat → List Nat × List Nat := fun k => match k with
 | _ => ([], [])
def keccak_state_turn.l2_0.r {α : Type} (mk0 : (List Int) → α) (n : Nat) (rc : Int → Int → (List Int) → Option α)  (x0 : Int) (x1 : Int) (x2 : (List Int)) : Option α :=
  if (decide (x0 < 24)) = true then
   if 0 ≤ x0 then
    if x0 < 24 then
     if 0 ≤ (List.getD ([10, 7, 11, 17, 18, 3, 5, 16, 8, 21, 24, 4, 15, 23, 19, 13, 12, 2, 20, 14, 22, 9, 6, 1] : List Int) (Int.toNat x0) 0) then
      if (List.getD ([10, 7, 11, 17, 18, 3, 5, 16, 8, 21, 24, 4, 15, 23, 19, 13, 12, 2, 20, 14, 22, 9, 6, 1] : List Int) (Int.toNat x0) 0) < 25 then
       if 0 ≤ x0 then
        if x0 < 24 then
         if 0 ≤ x0 then
          if x0 < 24 then
           bindO (bits_RotateLeft64.m n (Prod.mk x1 (List.getD ([1, 3, 6, 10, 15, 21, 28, 36, 45, 55, 2, 14, 27, 41, 56, 8, 25, 43, 62, 18, 39, 61, 20, 44] : List Int) (Int.toNat x0) 0))) fun r22 =>
            if 0 ≤ (List.getD ([10, 7, 11, 17, 18, 3, 5, 16, 8, 21, 24, 4, 15, 23, 19, 13, 12, 2, 20, 14, 22, 9, 6, 1] : List Int) (Int.toNat x0) 0) then
             if (List.getD ([10, 7, 11, 17, 18, 3, 5, 16, 8, 21, 24, 4, 15, 23, 19, 13, 12, 2, 20, 14, 22, 9, 6, 1] : List Int) (Int.toNat x0) 0) < 25 then
              rc (IntKind.wrap .i64 (x0 + 1)) (List.getD x2 (Int.toNat (List.getD ([10, 7, 11, 17, 18, 3, 5, 16, 8, 21, 24, 4, 15, 23, 19, 13, 12, 2, 20, 14, 22, 9, 6, 1] : List Int) (Int.toNat x0) 0)) 0) (List.set x2 (Int.toNat (List.getD ([10, 7, 11, 17, 18, 3, 5, 16, 8, 21, 24, 4, 15, 23, 19, 13, 12, 2, 20, 14, 22, 9, 6, 1] : List Int) (Int.toNat x0) 0)) r22)
             else
              none
            else
             none
          else
           none
         else
          none
        else
         none
       else
        none
      else
       none
     else
      none
    else
     none
   else
    none
  else
   some (mk0 x2)
def keccak_state_turn.l2_0.g {α : Type} (mk0 : (List Int) → α) (n : Nat) : Nat → Int → Int → (List Int) → Option α
 | 0, _, _, _ => none
 | m + 1, x0, x1, x2 => keccak_state_turn.l2_0.r mk0 n (fun y0 y1 y2 => keccak_state_turn.l2_0.g mk0 n m y0 y1 y2)  x0 x1 x2
def keccak_state_turn.l2_0.m (n m : Nat) (t : (Int × (Int × (List Int)))) : Option (List Int) := keccak_state_turn.l2_0.g (fun a0 => a0) n m t.1 t.2.1 t.2.2
def keccak_state_turn.l2_0.pat : St → Option (Int × (Int × (List Int)))
 | (St.mk [(.int .i64 x0), (.ptr 0 []), (.int .u64 x1)] [(some (.var (.ints .u64 25 x2)))]) => some (x0, x1, x2)
 | _ => none
def keccak_state_turn.l2_0.shape (t : (Int × (Int × (List Int)))) : St := (St.mk [(.int .i64 t.1), (.ptr 0 []), (.int .u64 t.2.1)] [(some (.var (.ints .u64 25 t.2.2)))])
def keccak_state_turn.l2_0.res : (List Int) → Ex × St
 | u => (Prod.mk (.exit 0) (St.mk [] [(some (.var (.ints .u64 25 u)))]))
def keccak_state_turn.l2_0.resK {R : Type} (u : (List Int)) (K : Ex → St → Option R) : Option R := (fun p : Ex × St => K p.1 p.2) (Prod.mk (.exit 0) (St.mk [] [(some (.var (.ints .u64 25 u)))]))
noncomputable def keccak_state_turn.A (n : Nat) : Ann := ⟨Tryd.f125.ntmps, 1, keccak_state_turn.live, [], [], fun k => match k with
 | 2 => some (.mk' keccak_state_turn.l2_0.pat (keccak_state_turn.l2_0.m n n) keccak_state_turn.l2_0.resK)
 | _ => none, keccak_state_turn.jlive, lookJ []⟩
noncomputable def keccak_state_turn.b0 : Code := (loopsIn (Tryd.f125.body.getD .skip)).getD 0 .skip
def keccak_state_turn.g {α : Type} (mk0 : (List Int) → α) (n : Nat) (s : (List Int)) : Option α :=
 bindO (keccak_state_turn.l2_0.m n n (0, (List.getD s 1 0), s)) fun r2 =>
  some (mk0 r2)
def keccak_state_turn.m (n : Nat) (t : (List Int)) : Option (List Int) := keccak_state_turn.g (fun a0 => a0) n t
def keccak_state_turn.pat : List AV → Blks → Option (List Int)
 | [(.ptr 0 [])], [(some (.var (.ints .u64 25 s)))] => some s
 | _, _ => none
def keccak_state_turn.shape (t : (List Int)) : List AV × Blks := ([(.ptr 0 [])], [(some (.var (.ints .u64 25 t)))])
def keccak_state_turn.res : (List Int) → AV × Blks
 | u => (Prod.mk (.tup []) [(some (.var (.ints .u64 25 u)))])
def keccak_state_turn.resK {R : Type} (u : (List Int)) (K : AV → Blks → Option R) : Option R := (fun p : AV × Blks => K p.1 p.2) (Prod.mk (.tup []) [(some (.var (.ints .u64 25 u)))])
def keccak_state_turn.c (n : Nat) : Abs.Callee := .mk' [true] [none] keccak_state_turn.pat (keccak_state_turn.m n) keccak_state_turn.resK
end
end
section
theorem keccak_state_turn.l2_0.rmap {α β : Type} (h : β → α) (mk0 : (List Int) → β) (n : Nat) (f : Int → Int → (List Int) → Option β)  (x0 : Int) (x1 : Int) (x2 : (List Int)) : keccak_state_turn.l2_0.r (fun a0 => (h (mk0 a0))) n (fun y0 y1 y2 => (f y0 y1 y2).map h) x0 x1 x2 = (keccak_state_turn.l2_0.r mk0 n f x0 x1 x2).map h := by
  unfold keccak_state_turn.l2_0.r
  exact (ite_map (ite_map (ite_map (ite_map (ite_map (ite_map (ite_map (ite_map (ite_map (bindO_map fun r22 => (ite_map (ite_map rfl rfl) rfl)) rfl) rfl) rfl) rfl) rfl) rfl) rfl) rfl) rfl)
theorem keccak_state_turn.l2_0.gmap {α β : Type} (h : β → α) (mk0 : (List Int) → β) (n : Nat) : ∀ (m : Nat) (x0 : Int) (x1 : Int) (x2 : (List Int)), keccak_state_turn.l2_0.g (fun a0 => (h (mk0 a0))) n m x0 x1 x2 = (keccak_state_turn.l2_0.g mk0 n m x0 x1 x2).map h
  | 0, _, _, _ => rfl
  | m + 1, x0, x1, x2 => by
    unfold keccak_state_turn.l2_0.g
    rw [← keccak_state_turn.l2_0.rmap]
    congr
    · funext y0 y1 y2; exact keccak_state_turn.l2_0.gmap h mk0 n m y0 y1 y2
theorem keccak_state_turn.l2_0.pat_shape : ∀ st t, keccak_state_turn.l2_0.pat st = some t → st = keccak_state_turn.l2_0.shape t := by
  intro st t h
  unfold keccak_state_turn.l2_0.pat at h
  split at h
  · cases h; rfl
  · cases h
theorem keccak_state_turn.l2_0.round (n : Nat) (rc : St → Option (Ex × St)) (x0 : Int) (x1 : Int) (x2 : (List Int)) : roundOf (keccak_state_turn.C n) (keccak_state_turn.A n) n keccak_state_turn.b0 rc ((St.mk [(.int .i64 x0), (.ptr 0 []), (.int .u64 x1)] [(some (.var (.ints .u64 25 x2)))])) = keccak_state_turn.l2_0.r (fun a0 => ((Prod.mk (.exit 0) (St.mk [] [(some (.var (.ints .u64 25 a0)))])) : Ex × St)) n (fun y0 y1 y2 => rc ((St.mk [(.int .i64 y0), (.ptr 0 []), (.int .u64 y1)] [(some (.var (.ints .u64 25 y2)))]))) x0 x1 x2 := by kernel_rfl
theorem keccak_state_turn.l2_0.loop' (n : Nat) : ∀ (m : Nat) (t : (Int × (Int × (List Int)))), loopOf (roundOf (keccak_state_turn.C n) (keccak_state_turn.A n) n keccak_state_turn.b0) m (keccak_state_turn.l2_0.shape t) = keccak_state_turn.l2_0.g (fun a0 => ((Prod.mk (.exit 0) (St.mk [] [(some (.var (.ints .u64 25 a0)))])) : Ex × St)) n m t.1 t.2.1 t.2.2 :=
  loop_of_round (shape := keccak_state_turn.l2_0.shape) (body := roundOf (keccak_state_turn.C n) (keccak_state_turn.A n) n keccak_state_turn.b0) (g := fun m t => keccak_state_turn.l2_0.g (fun a0 => ((Prod.mk (.exit 0) (St.mk [] [(some (.var (.ints .u64 25 a0)))])) : Ex × St)) n m t.1 t.2.1 t.2.2) (fun t => rfl)
    fun m t ih => (keccak_state_turn.l2_0.round n (loopOf (roundOf (keccak_state_turn.C n) (keccak_state_turn.A n) n keccak_state_turn.b0) m) t.1 t.2.1 t.2.2).trans (congrFun (congrFun (congrFun (congrArg (keccak_state_turn.l2_0.r (fun a0 => ((Prod.mk (.exit 0) (St.mk [] [(some (.var (.ints .u64 25 a0)))])) : Ex × St)) n) (funext fun y0 => funext fun y1 => funext fun y2 => ih (y0, y1, y2))) t.1) t.2.1) t.2.2)
theorem keccak_state_turn.l2_0.loop (n m : Nat) (t : (Int × (Int × (List Int)))) : loopOf (roundOf (keccak_state_turn.C n) (keccak_state_turn.A n) n keccak_state_turn.b0) m (keccak_state_turn.l2_0.shape t) = (keccak_state_turn.l2_0.m n m t).map keccak_state_turn.l2_0.res :=
  (keccak_state_turn.l2_0.loop' n m t).trans (keccak_state_turn.l2_0.gmap keccak_state_turn.l2_0.res (fun a0 => a0) n m t.1 t.2.1 t.2.2)
theorem keccak_state_turn.gmap {α β : Type} (h : β → α) (mk0 : (List Int) → β) (n : Nat) (s : (List Int)) : keccak_state_turn.g (fun a0 => (h (mk0 a0))) n s = (keccak_state_turn.g mk0 n s).map h := by
  unfold keccak_state_turn.g
  exact (bindO_map fun r2 => rfl)
theorem keccak_state_turn.run (n : Nat) (s : (List Int)) : runF (keccak_state_turn.C n) (keccak_state_turn.A n) n Tryd.f125 [(.ptr 0 [])] [(some (.var (.ints .u64 25 s)))] (fun v o => some (v, o)) = keccak_state_turn.g (fun a0 => ((Prod.mk (.tup []) [(some (.var (.ints .u64 25 a0)))]) : AV × Blks)) n s := by kernel_rfl
theorem keccak_state_turn.call (hmix : Tryd.prog.follows .mixedOrders = true) (n : Nat) (t : (List Int)) (u) (h : keccak_state_turn.m n t = some u) : FnC Tryd.prog abiG 125 (keccak_state_turn.shape t).1 (keccak_state_turn.shape t).2 (keccak_state_turn.res u).1 (keccak_state_turn.res u).2 := by
  have hg : ∀ f m, (keccak_state_turn.C n).Γ f = some m → CalleeS Tryd.prog abiG f m := by
    intro f m hm
    unfold keccak_state_turn.C at hm
    simp only at hm
    first
    | (cases hm; done)
    | (split at hm <;> first
    | (cases hm; exact bits_RotateLeft64.s hmix n)
    | (cases hm; done))
  have hb : Tryd.f125.body = some (Tryd.f125.body.getD .skip) := by kernel_rfl
  refine runF_calls (C := keccak_state_turn.C n) (A := keccak_state_turn.A n) (n := n) (fn := Tryd.f125) hg hmix Tryd.func125 hb ?_ ?_ (by decide) rfl rfl (by show 1 ≤ Tryd.f125.ntmps; decide) ?_
  · rw [show loopsIn (Tryd.f125.body.getD .skip) = [keccak_state_turn.b0] by kernel_rfl]
    intro b hb m hm
    simp only [List.mem_cons, List.not_mem_nil, or_false] at hb
    rcases hb with rfl
    · have e : (keccak_state_turn.A n).loop (key keccak_state_turn.b0) = some (.mk' keccak_state_turn.l2_0.pat (keccak_state_turn.l2_0.m n n) keccak_state_turn.l2_0.resK) := by rw [show key keccak_state_turn.b0 = 2 by kernel_rfl]; rfl
      rw [e] at hm
      cases hm
      exact (LoopS.of (res := keccak_state_turn.l2_0.res) (fun R u K => rfl) keccak_state_turn.l2_0.pat_shape fun t => keccak_state_turn.l2_0.loop n n t)
  · intro a ha m hm
    cases (show none = some m from hm)
  · rw [show runF (keccak_state_turn.C n) (keccak_state_turn.A n) n Tryd.f125 (keccak_state_turn.shape t).1 (keccak_state_turn.shape t).2 (fun v o => some (v, o)) = _ from keccak_state_turn.run n t]
    have e := keccak_state_turn.gmap keccak_state_turn.res (fun a0 => a0) n t
    unfold keccak_state_turn.m at h
    rw [h] at e
    exact e
theorem keccak_state_turn.s (hmix : Tryd.prog.follows .mixedOrders = true) (n : Nat) : CalleeS Tryd.prog abiG 125 (keccak_state_turn.c n) :=
  CalleeS.of (res := keccak_state_turn.res) (shape := keccak_state_turn.shape) (fun R u K => rfl) (fun args lent t h => by
    unfold keccak_state_turn.pat at h
    split at h
    · cases h; rfl
    · cases h) fun t u h => (keccak_state_turn.call hmix n t u h).ok Tryd.func125 (by decide) (by kernel_rfl)
end
section
noncomputable section
noncomputable def keccak_state_row.C (n : Nat) : Ctx := ⟨Tryd.prog, abiG, fun f => match f with
 | _ => none, fun _ => false⟩
def keccak_state_row.live : Nat → List Nat × List Nat := fun k => match k with
 | 1 => ([2, 0], [])
 | 5 => ([17, 0, 2, 3], [2, 0])
 | _ => ([], [])
def keccak_state_row.jlive : Nat → List Nat × List Nat := fun k => match k with
 | _ => ([], [])
def keccak_state_row.l5_0.r {α : Type} (mk0 : Int → (List Int) → α) (n : Nat) (rc : Int → Int → (List Int) → (List Int) → Option α)  (x0 : Int) (x1 : Int) (x2 : (List Int)) (x3 : (List Int)) : Option α :=
  if (decide (x0 < 5)) = true then
   if 0 ≤ x0 then
    if x0 < 5 then
     if 0 ≤ (Int.tmod (IntKind.wrap .i64 (x0 + 1)) 5) then
      if (Int.tmod (IntKind.wrap .i64 (x0 + 1)) 5) < 5 then
       if 0 ≤ (Int.tmod (IntKind.wrap .i64 (x0 + 2)) 5) then
        if (Int.tmod (IntKind.wrap .i64 (x0 + 2)) 5) < 5 then
         if 0 ≤ (IntKind.wrap .i64 (x1 + x0)) then
          if (IntKind.wrap .i64 (x1 + x0)) < 25 then
           rc (IntKind.wrap .i64 (x0 + 1)) x1 (List.set x2 (Int.toNat (IntKind.wrap .i64 (x1 + x0))) (ibits BinOp.xor .u64 (List.getD x3 (Int.toNat x0) 0) (ibits BinOp.and .u64 (ibits BinOp.xor .u64 (if false = true then (-1) else 18446744073709551615) (List.getD x3 (Int.toNat (Int.tmod (IntKind.wrap .i64 (x0 + 1)) 5)) 0)) (List.getD x3 (Int.toNat (Int.tmod (IntKind.wrap .i64 (x0 + 2)) 5)) 0)))) x3
          else
           none
         else
          none
        else
         none
       else
        none
      else
       none
     else
      none
    else
     none
   else
    none
  else
   some (mk0 x1 x2)
def keccak_state_row.l5_0.g {α : Type} (mk0 : Int → (List Int) → α) (n : Nat) : Nat → Int → Int → (List Int) → (List Int) → Option α
 | 0, _, _, _, _ => none
 | m + 1, x0, x1, x2, x3 => keccak_state_row.l5_0.r mk0 n (fun y0 y1 y2 y3 => keccak_state_row.l5_0.g mk0 n m y0 y1 y2 y3)  x0 x1 x2 x3
def keccak_state_row.l5_0.m (n m : Nat) (t : (Int × (Int × ((List Int) × (List Int))))) : Option (Int × (List Int)) := keccak_state_row.l5_0.g (fun a0 a1 => (a0, a1)) n m t.1 t.2.1 t.2.2.1 t.2.2.2
def keccak_state_row.l5_0.pat : St → Option (Int × (Int × ((List Int) × (List Int))))
 | (St.mk [(.int .i64 x0), (.ptr 0 []), (.int .i64 x1), (.ptr 1 [])] [(some (.var (.ints .u64 25 x2))), (some (.var (.ints .u64 5 x3)))]) => some (x0, x1, x2, x3)
 | _ => none
def keccak_state_row.l5_0.shape (t : (Int × (Int × ((List Int) × (List Int))))) : St := (St.mk [(.int .i64 t.1), (.ptr 0 []), (.int .i64 t.2.1), (.ptr 1 [])] [(some (.var (.ints .u64 25 t.2.2.1))), (some (.var (.ints .u64 5 t.2.2.2)))])
def keccak_state_row.l5_0.res : (Int × (List Int)) → Ex × St
 | u => (Prod.mk (.exit 2) (St.mk [(.int .i64 u.1), (.ptr 0 [])] [(some (.var (.ints .u64 25 u.2)))]))
def keccak_state_row.l5_0.resK {R : Type} (u : (Int × (List Int))) (K : Ex → St → Option R) : Option R := (fun p : Ex × St => K p.1 p.2) (Prod.mk (.exit 2) (St.mk [(.int .i64 u.1), (.ptr 0 [])] [(some (.var (.ints .u64 25 u.2)))]))
def keccak_state_row.l1_0.r {α : Type} (mk0 : (List Int) → α) (n : Nat) (rc : Int → (List Int) → Option α)  (x0 : Int) (x1 : (List Int)) : Option α :=
  if (decide (x0 < 25)) = true then
   if 0 ≤ (IntKind.wrap .i64 (x0 + 5)) then
    if (IntKind.wrap .i64 (x0 + 5)) ≤ 25 then
     if 0 ≤ x0 then
      if x0 ≤ (IntKind.wrap .i64 (x0 + 5)) then
       if 5 ≤ (Go.Abs.span 25 (Int.toNat x0) (Option.some (Int.toNat (IntKind.wrap .i64 (x0 + 5))))) then
        bindO (keccak_state_row.l5_0.m n n (0, x0, x1, (List.take 5 (List.drop (Int.toNat x0) x1)))) fun r16 =>
         rc (IntKind.wrap .i64 ((Prod.fst r16) + 5)) (Prod.snd r16)
       else
        none
      else
       none
     else
      none
    else
     none
   else
    none
  else
   some (mk0 x1)
def keccak_state_row.l1_0.g {α : Type} (mk0 : (List Int) → α) (n : Nat) : Nat → Int → (List Int) → Option α
 | 0, _, _ => none
 | m + 1, x0, x1 => keccak_state_row.l1_0.r mk0 n (fun y0 y1 => keccak_state_row.l1_0.g mk0 n m y0 y1)  x0 x1
def keccak_state_row.l1_0.m (n m : Nat) (t : (Int × (List Int))) : Option (List Int) := keccak_state_row.l1_0.g (fun a0 => a0) n m t.1 t.2
def keccak_state_row.l1_0.pat : St → Option (Int × (List Int))
 | (St.mk [(.int .i64 x0), (.ptr 0 [])] [(some (.var (.ints .u64 25 x1)))]) => some (x0, x1)
 | _ => none
def keccak_state_row.l1_0.shape (t : (Int × (List Int))) : St := (St.mk [(.int .i64 t.1), (.ptr 0 [])] [(some (.var (.ints .u64 25 t.2)))])
def keccak_state_row.l1_0.res : (List Int) → Ex × St
 | u => (Prod.mk (.exit 0) (St.mk [] [(some (.var (.ints .u64 25 u)))]))
def keccak_state_row.l1_0.resK {R : Type} (u : (List Int)) (K : Ex → St → Option R) : Option R := (fun p : Ex × St => K p.1 p.2) (Prod.mk (.exit 0) (St.mk [] [(some (.var (.ints .u64 25 u)))]))
noncomputable def keccak_state_row.A (n : Nat) : Ann := ⟨Tryd.f126.ntmps, 1, keccak_state_row.live, [], [], fun k => match k with
 | 5 => some (.mk' keccak_state_row.l5_0.pat (keccak_state_row.l5_0.m n n) keccak_state_row.l5_0.resK)
 | 1 => some (.mk' keccak_state_row.l1_0.pat (keccak_state_row.l1_0.m n n) keccak_state_row.l1_0.resK)
 | _ => none, keccak_state_row.jlive, lookJ []⟩
noncomputable def keccak_state_row.b0 : Code := (loopsIn (Tryd.f126.body.getD .skip)).getD 0 .skip
noncomputable def keccak_state_row.b1 : Code := (loopsIn (Tryd.f126.body.getD .skip)).getD 1 .skip
def keccak_state_row.g {α : Type} (mk0 : (List Int) → α) (n : Nat) (s : (List Int)) : Option α :=
 bindO (keccak_state_row.l1_0.m n n (0, s)) fun r2 =>
  some (mk0 r2)
def keccak_state_row.m (n : Nat) (t : (List Int)) : Option (List Int) := keccak_state_row.g (fun a0 => a0) n t
def keccak_state_row.pat : List AV → Blks → Option (List Int)
 | [(.ptr 0 [])], [(some (.var (.ints .u64 25 s)))] => some s
 | _, _ => none
def keccak_state_row.shape (t : (List Int)) : List AV × Blks := ([(.ptr 0 [])], [(some (.var (.ints .u64 25 t)))])
def keccak_state_row.res : (List Int) → AV × Blks
 | u => (Prod.mk (.tup []) [(some (.var (.ints .u64 25 u)))])
def keccak_state_row.resK {R : Type} (u : (List Int)) (K : AV → Blks → Option R) : Option R := (fun p : AV × Blks => K p.1 p.2) (Prod.mk (.tup []) [(some (.var (.ints .u64 25 u)))])
def keccak_state_row.c (n : Nat) : Abs.Callee := .mk' [true] [none] keccak_state_row.pat (keccak_state_row.m n) keccak_state_row.resK
end
end
section
theorem keccak_state_row.l5_0.rmap {α β : Type} (h : β → α) (mk0 : Int → (List Int) → β) (n : Nat) (f : Int → Int → (List Int) → (List Int) → Option β)  (x0 : Int) (x1 : Int) (x2 : (List Int)) (x3 : (List Int)) : keccak_state_row.l5_0.r (fun a0 a1 => (h (mk0 a0 a1))) n (fun y0 y1 y2 y3 => (f y0 y1 y2 y3).map h) x0 x1 x2 x3 = (keccak_state_row.l5_0.r mk0 n f x0 x1 x2 x3).map h := by
  unfold keccak_state_row.l5_0.r
  exact (ite_map (ite_map (ite_map (ite_map (ite_map (ite_map (ite_map (ite_map (ite_map rfl rfl) rfl) rfl) rfl) rfl) rfl) rfl) rfl) rfl)
theorem keccak_state_row.l5_0.gmap {α β : Type} (h : β → α) (mk0 : Int → (List Int) → β) (n : Nat) : ∀ (m : Nat) (x0 : Int) (x1 : Int) (x2 : (List Int)) (x3 : (List Int)), keccak_state_row.l5_0.g (fun a0 a1 => (h (mk0 a0 a1))) n m x0 x1 x2 x3 = (keccak_state_row.l5_0.g mk0 n m x0 x1 x2 x3).map h
  | 0, _, _, _, _ => rfl
  | m + 1, x0, x1, x2, x3 => by
    unfold keccak_state_row.l5_0.g
    rw [← keccak_state_row.l5_0.rmap]
    congr
    · funext y0 y1 y2 y3; exact keccak_state_row.l5_0.gmap h mk0 n m y0 y1 y2 y3
theorem keccak_state_row.l5_0.pat_shape : ∀ st t, keccak_state_row.l5_0.pat st = some t → st = keccak_state_row.l5_0.shape t := by
  intro st t h
  unfold keccak_state_row.l5_0.pat at h
  split at h
  · cases h; rfl
  · cases h
theorem keccak_state_row.l5_0.round (n : Nat) (rc : St → Option (Ex × St)) (x0 : Int) (x1 : Int) (x2 : (List Int)) (x3 : (List Int)) : roundOf (keccak_state_row.C n) (keccak_state_row.A n) n keccak_state_row.b1 rc ((St.mk [(.int .i64 x0), (.ptr 0 []), (.int .i64 x1), (.ptr 1 [])] [(some (.var (.ints .u64 25 x2))), (some (.var (.ints .u64 5 x3)))])) = keccak_state_row.l5_0.r (fun a0 a1 => ((Prod.mk (.exit 2) (St.mk [(.int .i64 a0), (.ptr 0 [])] [(some (.var (.ints .u64 25 a1)))])) : Ex × St)) n (fun y0 y1 y2 y3 => rc ((St.mk [(.int .i64 y0), (.ptr 0 []), (.int .i64 y1), (.ptr 1 [])] [(some (.var (.ints .u64 25 y2))), (some (.var (.ints .u64 5 y3)))]))) x0 x1 x2 x3 := by kernel_rfl
theorem keccak_state_row.l5_0.loop' (n : Nat) : ∀ (m : Nat) (t : (Int × (Int × ((List Int) × (List Int))))), loopOf (roundOf (keccak_state_row.C n) (keccak_state_row.A n) n keccak_state_row.b1) m (keccak_state_row.l5_0.shape t) = keccak_state_row.l5_0.g (fun a0 a1 => ((Prod.mk (.exit 2) (St.mk [(.int .i64 a0), (.ptr 0 [])] [(some (.var (.ints .u64 25 a1)))])) : Ex × St)) n m t.1 t.2.1 t.2.2.1 t.2.2.2 :=
  loop_of_round (shape := keccak_state_row.l5_0.shape) (body := roundOf (keccak_state_row.C n) (keccak_state_row.A n) n keccak_state_row.b1) (g := fun m t => keccak_state_row.l5_0.g (fun a0 a1 => ((Prod.mk (.exit 2) (St.mk [(.int .i64 a0), (.ptr 0 [])] [(some (.var (.ints .u64 25 a1)))])) : Ex × St)) n m t.1 t.2.1 t.2.2.1 t.2.2.2) (fun t => rfl)
    fun m t ih => (keccak_state_row.l5_0.round n (loopOf (roundOf (keccak_state_row.C n) (keccak_state_row.A n) n keccak_state_row.b1) m) t.1 t.2.1 t.2.2.1 t.2.2.2).trans (congrFun (congrFun (congrFun (congrFun (congrArg (keccak_state_row.l5_0.r (fun a0 a1 => ((Prod.mk (.exit 2) (St.mk [(.int .i64 a0), (.ptr 0 [])] [(some (.var (.ints .u64 25 a1)))])) : Ex × St)) n) (funext fun y0 => funext fun y1 => funext fun y2 => funext fun y3 => ih (y0, y1, y2, y3))) t.1) t.2.1) t.2.2.1) t.2.2.2)
theorem keccak_state_row.l5_0.loop (n m : Nat) (t : (Int × (Int × ((List Int) × (List Int))))) : loopOf (roundOf (keccak_state_row.C n) (keccak_state_row.A n) n keccak_state_row.b1) m (keccak_state_row.l5_0.shape t) = (keccak_state_row.l5_0.m n m t).map keccak_state_row.l5_0.res :=
  (keccak_state_row.l5_0.loop' n m t).trans (keccak_state_row.l5_0.gmap keccak_state_row.l5_0.res (fun a0 a1 => (a0, a1)) n m t.1 t.2.1 t.2.2.1 t.2.2.2)
theorem keccak_state_row.l1_0.rmap {α β : Type} (h : β → α) (mk0 : (List Int) → β) (n : Nat) (f : Int → (List Int) → Option β)  (x0 : Int) (x1 : (List Int)) : keccak_state_row.l1_0.r (fun a0 => (h (mk0 a0))) n (fun y0 y1 => (f y0 y1).map h) x0 x1 = (keccak_state_row.l1_0.r mk0 n f x0 x1).map h := by
  unfold keccak_state_row.l1_0.r
  exact (ite_map (ite_map (ite_map (ite_map (ite_map (ite_map (bindO_map fun r16 => rfl) rfl) rfl) rfl) rfl) rfl) rfl)
theorem keccak_state_row.l1_0.gmap {α β : Type} (h : β → α) (mk0 : (List Int) → β) (n : Nat) : ∀ (m : Nat) (x0 : Int) (x1 : (List Int)), keccak_state_row.l1_0.g (fun a0 => (h (mk0 a0))) n m x0 x1 = (keccak_state_row.l1_0.g mk0 n m x0 x1).map h
  | 0, _, _ => rfl
  | m + 1, x0, x1 => by
    unfold keccak_state_row.l1_0.g
    rw [← keccak_state_row.l1_0.rmap]
    congr
    · funext y0 y1; exact keccak_state_row.l1_0.gmap h mk0 n m y0 y1
theorem keccak_state_row.l1_0.pat_shape : ∀ st t, keccak_state_row.l1_0.pat st = some t → st = keccak_state_row.l1_0.shape t := by
  intro st t h
  unfold keccak_state_row.l1_0.pat at h
  split at h
  · cases h; rfl
  · cases h
theorem keccak_state_row.l1_0.round (n : Nat) (rc : St → Option (Ex × St)) (x0 : Int) (x1 : (List Int)) : roundOf (keccak_state_row.C n) (keccak_state_row.A n) n keccak_state_row.b0 rc ((St.mk [(.int .i64 x0), (.ptr 0 [])] [(some (.var (.ints .u64 25 x1)))])) = keccak_state_row.l1_0.r (fun a0 => ((Prod.mk (.exit 0) (St.mk [] [(some (.var (.ints .u64 25 a0)))])) : Ex × St)) n (fun y0 y1 => rc ((St.mk [(.int .i64 y0), (.ptr 0 [])] [(some (.var (.ints .u64 25 y1)))]))) x0 x1 := by kernel_rfl
theorem keccak_state_row.l1_0.loop' (n : Nat) : ∀ (m : Nat) (t : (Int × (List Int))), loopOf (roundOf (keccak_state_row.C n) (keccak_state_row.A n) n keccak_state_row.b0) m (keccak_state_row.l1_0.shape t) = keccak_state_row.l1_0.g (fun a0 => ((Prod.mk (.exit 0) (St.mk [] [(some (.var (.ints .u64 25 a0)))])) : Ex × St)) n m t.1 t.2 :=
  loop_of_round (shape := keccak_state_row.l1_0.shape) (body := roundOf (keccak_state_row.C n) (keccak_state_row.A n) n keccak_state_row.b0) (g := fun m t => keccak_state_row.l1_0.g (fun a0 => ((Prod.mk (.exit 0) (St.mk [] [(some (.var (.ints .u64 25 a0)))])) : Ex × St)) n m t.1 t.2) (fun t => rfl)
    fun m t ih => (keccak_state_row.l1_0.round n (loopOf (roundOf (keccak_state_row.C n) (keccak_state_row.A n) n keccak_state_row.b0) m) t.1 t.2).trans (congrFun (congrFun (congrArg (keccak_state_row.l1_0.r (fun a0 => ((Prod.mk (.exit 0) (St.mk [] [(some (.var (.ints .u64 25 a0)))])) : Ex × St)) n) (funext fun y0 => funext fun y1 => ih (y0, y1))) t.1) t.2)
theorem keccak_state_row.l1_0.loop (n m : Nat) (t : (Int × (List Int))) : loopOf (roundOf (keccak_state_row.C n) (keccak_state_row.A n) n keccak_state_row.b0) m (keccak_state_row.l1_0.shape t) = (keccak_state_row.l1_0.m n m t).map keccak_state_row.l1_0.res :=
  (keccak_state_row.l1_0.loop' n m t).trans (keccak_state_row.l1_0.gmap keccak_state_row.l1_0.res (fun a0 => a0) n m t.1 t.2)
theorem keccak_state_row.gmap {α β : Type} (h : β → α) (mk0 : (List Int) → β) (n : Nat) (s : (List Int)) : keccak_state_row.g (fun a0 => (h (mk0 a0))) n s = (keccak_state_row.g mk0 n s).map h := by
  unfold keccak_state_row.g
  exact (bindO_map fun r2 => rfl)
theorem keccak_state_row.run (n : Nat) (s : (List Int)) : runF (keccak_state_row.C n) (keccak_state_row.A n) n Tryd.f126 [(.ptr 0 [])] [(some (.var (.ints .u64 25 s)))] (fun v o => some (v, o)) = keccak_state_row.g (fun a0 => ((Prod.mk (.tup []) [(some (.var (.ints .u64 25 a0)))]) : AV × Blks)) n s := by kernel_rfl
theorem keccak_state_row.call (hmix : Tryd.prog.follows .mixedOrders = true) (n : Nat) (t : (List Int)) (u) (h : keccak_state_row.m n t = some u) : FnC Tryd.prog abiG 126 (keccak_state_row.shape t).1 (keccak_state_row.shape t).2 (keccak_state_row.res u).1 (keccak_state_row.res u).2 := by
  have hg : ∀ f m, (keccak_state_row.C n).Γ f = some m → CalleeS Tryd.prog abiG f m := by
    intro f m hm
    unfold keccak_state_row.C at hm
    simp only at hm
    first
    | (cases hm; done)
    | (split at hm <;> first
    | (cases hm; done))
  have hb : Tryd.f126.body = some (Tryd.f126.body.getD .skip) := by kernel_rfl
  refine runF_calls (C := keccak_state_row.C n) (A := keccak_state_row.A n) (n := n) (fn := Tryd.f126) hg hmix Tryd.func126 hb ?_ ?_ (by decide) rfl rfl (by show 1 ≤ Tryd.f126.ntmps; decide) ?_
  · rw [show loopsIn (Tryd.f126.body.getD .skip) = [keccak_state_row.b0, keccak_state_row.b1] by kernel_rfl]
    intro b hb m hm
    simp only [List.mem_cons, List.not_mem_nil, or_false] at hb
    rcases hb with rfl | rfl
    · have e : (keccak_state_row.A n).loop (key keccak_state_row.b0) = some (.mk' keccak_state_row.l1_0.pat (keccak_state_row.l1_0.m n n) keccak_state_row.l1_0.resK) := by rw [show key keccak_state_row.b0 = 1 by kernel_rfl]; rfl
      rw [e] at hm
      cases hm
      exact (LoopS.of (res := keccak_state_row.l1_0.res) (fun R u K => rfl) keccak_state_row.l1_0.pat_shape fun t => keccak_state_row.l1_0.loop n n t)
    · have e : (keccak_state_row.A n).loop (key keccak_state_row.b1) = some (.mk' keccak_state_row.l5_0.pat (keccak_state_row.l5_0.m n n) keccak_state_row.l5_0.resK) := by rw [show key keccak_state_row.b1 = 5 by kernel_rfl]; rfl
      rw [e] at hm
      cases hm
      exact (LoopS.of (res := keccak_state_row.l5_0.res) (fun R u K => rfl) keccak_state_row.l5_0.pat_shape fun t => keccak_state_row.l5_0.loop n n t)
  · intro a ha m hm
    cases (show none = some m from hm)
  · rw [show runF (keccak_state_row.C n) (keccak_state_row.A n) n Tryd.f126 (keccak_state_row.shape t).1 (keccak_state_row.shape t).2 (fun v o => some (v, o)) = _ from keccak_state_row.run n t]
    have e := keccak_state_row.gmap keccak_state_row.res (fun a0 => a0) n t
    unfold keccak_state_row.m at h
    rw [h] at e
    exact e
theorem keccak_state_row.s (hmix : Tryd.prog.follows .mixedOrders = true) (n : Nat) : CalleeS Tryd.prog abiG 126 (keccak_state_row.c n) :=
  CalleeS.of (res := keccak_state_row.res) (shape := keccak_state_row.shape) (fun R u K => rfl) (fun args lent t h => by
    unfold keccak_state_row.pat at h
    split at h
    · cases h; rfl
    · cases h) fun t u h => (keccak_state_row.call hmix n t u h).ok Tryd.func126 (by decide) (by kernel_rfl)
end
section
noncomputable section
noncomputable def keccak_state_mix.C (n : Nat) : Ctx := ⟨Tryd.prog, abiG, fun f => match f with
 | 124 => some (keccak_state_spread.c n)
 | 125 => some (keccak_state_turn.c n)
 | 126 => some (keccak_state_row.c n)
 | _ => none, fun _ => false⟩
def keccak_state_mix.live : Nat → List Nat × List Nat := fun k => match k with
 | 1 => ([3, 0], [])
 | _ => ([], [])
def keccak_state_mix.jlive : Nat → List Nat × List Nat := fun k => match k with
 | _ => ([], [])
def keccak_state_mix.l1_0.r {α : Type} (mk0 : (List Int) → α) (n : Nat) (rc : Int → (List Int) → Option α)  (x0 : Int) (x1 : (List Int)) : Option α :=
  if (decide (x0 < 24)) = true then
   bindO (keccak_state_spread.m n x1) fun r6 =>
    bindO (keccak_state_turn.m n r6) fun r8 =>
     bindO (keccak_state_row.m n r8) fun r10 =>
      if 0 ≤ x0 then
       if x0 < 24 then
        rc (IntKind.wrap .i64 (x0 + 1)) (List.set r10 0 (ibits BinOp.xor .u64 (List.getD r10 0 0) (List.getD ([1, 32898, 9223372036854808714, 9223372039002292224, 32907, 2147483649, 9223372039002292353, 9223372036854808585, 138, 136, 2147516425, 2147483658, 2147516555, 9223372036854775947, 9223372036854808713, 9223372036854808579, 9223372036854808578, 9223372036854775936, 32778, 9223372039002259466, 9223372039002292353, 9223372036854808704, 2147483649, 9223372039002292232] : List Int) (Int.toNat x0) 0)))
       else
        none
      else
       none
  else
   some (mk0 x1)
def keccak_state_mix.l1_0.g {α : Type} (mk0 : (List Int) → α) (n : Nat) : Nat → Int → (List Int) → Option α
 | 0, _, _ => none
 | m + 1, x0, x1 => keccak_state_mix.l1_0.r mk0 n (fun y0 y1 => keccak_state_mix.l1_0.g mk0 n m y0 y1)  x0 x1
def keccak_state_mix.l1_0.m (n m : Nat) (t : (Int × (List Int))) : Option (List Int) := keccak_state_mix.l1_0.g (fun a0 => a0) n m t.1 t.2
def keccak_state_mix.l1_0.pat : St → Option (Int × (List Int))
 | (St.mk [(.int .i64 x0), (.ptr 0 [])] [(some (.var (.ints .u64 25 x1)))]) => some (x0, x1)
 | _ => none
def keccak_state_mix.l1_0.shape (t : (Int × (List Int))) : St := (St.mk [(.int .i64 t.1), (.ptr 0 [])] [(some (.var (.ints .u64 25 t.2)))])
def keccak_state_mix.l1_0.res : (List Int) → Ex × St
 | u => (Prod.mk (.exit 0) (St.mk [] [(some (.var (.ints .u64 25 u)))]))
def keccak_state_mix.l1_0.resK {R : Type} (u : (List Int)) (K : Ex → St → Option R) : Option R := (fun p : Ex × St => K p.1 p.2) (Prod.mk (.exit 0) (St.mk [] [(some (.var (.ints .u64 25 u)))]))
noncomputable def keccak_state_mix.A (n : Nat) : Ann := ⟨Tryd.f111.ntmps, 1, keccak_state_mix.live, [], [], fun k => match k with
 | 1 => some (.mk' keccak_state_mix.l1_0.pat (keccak_state_mix.l1_0.m n n) keccak_state_mix.l1_0.resK)
 | _ => none, keccak_state_mix.jlive, lookJ []⟩
noncomputable def keccak_state_mix.b0 : Code := (loopsIn (Tryd.f111.body.getD .skip)).getD 0 .skip
def keccak_state_mix.g {α : Type} (mk0 : (List Int) → α) (n : Nat) (s : (List Int)) : Option α :=
 bindO (keccak_state_mix.l1_0.m n n (0, s)) fun r2 =>
  some (mk0 r2)
def keccak_state_mix.m (n : Nat) (t : (List Int)) : Option (List Int) := keccak_state_mix.g (fun a0 => a0) n t
def keccak_state_mix.pat : List AV → Blks → Option (List Int)
 | [(.ptr 0 [])], [(some (.var (.ints .u64 25 s)))] => some s
 | _, _ => none
def keccak_state_mix.shape (t : (List Int)) : List AV × Blks := ([(.ptr 0 [])], [(some (.var (.ints .u64 25 t)))])
def keccak_state_mix.res : (List Int) → AV × Blks
 | u => (Prod.mk (.tup []) [(some (.var (.ints .u64 25 u)))])
def keccak_state_mix.resK {R : Type} (u : (List Int)) (K : AV → Blks → Option R) : Option R := (fun p : AV × Blks => K p.1 p.2) (Prod.mk (.tup []) [(some (.var (.ints .u64 25 u)))])
def keccak_state_mix.c (n : Nat) : Abs.Callee := .mk' [true] [none] keccak_state_mix.pat (keccak_state_mix.m n) keccak_state_mix.resK
end
end
section
theorem keccak_state_mix.l1_0.rmap {α β : Type} (h : β → α) (mk0 : (List Int) → β) (n : Nat) (f : Int → (List Int) → Option β)  (x0 : Int) (x1 : (List Int)) : keccak_state_mix.l1_0.r (fun a0 => (h (mk0 a0))) n (fun y0 y1 => (f y0 y1).map h) x0 x1 = (keccak_state_mix.l1_0.r mk0 n f x0 x1).map h := by
  unfold keccak_state_mix.l1_0.r
  exact (ite_map (bindO_map fun r6 => (bindO_map fun r8 => (bindO_map fun r10 => (ite_map (ite_map rfl rfl) rfl)))) rfl)
theorem keccak_state_mix.l1_0.gmap {α β : Type} (h : β → α) (mk0 : (List Int) → β) (n : Nat) : ∀ (m : Nat) (x0 : Int) (x1 : (List Int)), keccak_state_mix.l1_0.g (fun a0 => (h (mk0 a0))) n m x0 x1 = (keccak_state_mix.l1_0.g mk0 n m x0 x1).map h
  | 0, _, _ => rfl
  | m + 1, x0, x1 => by
    unfold keccak_state_mix.l1_0.g
    rw [← keccak_state_mix.l1_0.rmap]
    congr
    · funext y0 y1; exact keccak_state_mix.l1_0.gmap h mk0 n m y0 y1
theorem keccak_state_mix.l1_0.pat_shape : ∀ st t, keccak_state_mix.l1_0.pat st = some t → st = keccak_state_mix.l1_0.shape t := by
  intro st t h
  unfold keccak_state_mix.l1_0.pat at h
  split at h
  · cases h; rfl
  · cases h
theorem keccak_state_mix.l1_0.round (n : Nat) (rc : St → Option (Ex × St)) (x0 : Int) (x1 : (List Int)) : roundOf (keccak_state_mix.C n) (keccak_state_mix.A n) n keccak_state_mix.b0 rc ((St.mk [(.int .i64 x0), (.ptr 0 [])] [(some (.var (.ints .u64 25 x1)))])) = keccak_state_mix.l1_0.r (fun a0 => ((Prod.mk (.exit 0) (St.mk [] [(some (.var (.ints .u64 25 a0)))])) : Ex × St)) n (fun y0 y1 => rc ((St.mk [(.int .i64 y0), (.ptr 0 [])] [(some (.var (.ints .u64 25 y1)))]))) x0 x1 := by kernel_rfl
theorem keccak_state_mix.l1_0.loop' (n : Nat) : ∀ (m : Nat) (t : (Int × (List Int))), loopOf (roundOf (keccak_state_mix.C n) (keccak_state_mix.A n) n keccak_state_mix.b0) m (keccak_state_mix.l1_0.shape t) = keccak_state_mix.l1_0.g (fun a0 => ((Prod.mk (.exit 0) (St.mk [] [(some (.var (.ints .u64 25 a0)))])) : Ex × St)) n m t.1 t.2 :=
  loop_of_round (shape := keccak_state_mix.l1_0.shape) (body := roundOf (keccak_state_mix.C n) (keccak_state_mix.A n) n keccak_state_mix.b0) (g := fun m t => keccak_state_mix.l1_0.g (fun a0 => ((Prod.mk (.exit 0) (St.mk [] [(some (.var (.ints .u64 25 a0)))])) : Ex × St)) n m t.1 t.2) (fun t => rfl)
    fun m t ih => (keccak_state_mix.l1_0.round n (loopOf (roundOf (keccak_state_mix.C n) (keccak_state_mix.A n) n keccak_state_mix.b0) m) t.1 t.2).trans (congrFun (congrFun (congrArg (keccak_state_mix.l1_0.r (fun a0 => ((Prod.mk (.exit 0) (St.mk [] [(some (.var (.ints .u64 25 a0)))])) : Ex × St)) n) (funext fun y0 => funext fun y1 => ih (y0, y1))) t.1) t.2)
theorem keccak_state_mix.l1_0.loop (n m : Nat) (t : (Int × (List Int))) : loopOf (roundOf (keccak_state_mix.C n) (keccak_state_mix.A n) n keccak_state_mix.b0) m (keccak_state_mix.l1_0.shape t) = (keccak_state_mix.l1_0.m n m t).map keccak_state_mix.l1_0.res :=
  (keccak_state_mix.l1_0.loop' n m t).trans (keccak_state_mix.l1_0.gmap keccak_state_mix.l1_0.res (fun a0 => a0) n m t.1 t.2)
theorem keccak_state_mix.gmap {α β : Type} (h : β → α) (mk0 : (List Int) → β) (n : Nat) (s : (List Int)) : keccak_state_mix.g (fun a0 => (h (mk0 a0))) n s = (keccak_state_mix.g mk0 n s).map h := by
  unfold keccak_state_mix.g
  exact (bindO_map fun r2 => rfl)
theorem keccak_state_mix.run (n : Nat) (s : (List Int)) : runF (keccak_state_mix.C n) (keccak_state_mix.A n) n Tryd.f111 [(.ptr 0 [])] [(some (.var (.ints .u64 25 s)))] (fun v o => some (v, o)) = keccak_state_mix.g (fun a0 => ((Prod.mk (.tup []) [(some (.var (.ints .u64 25 a0)))]) : AV × Blks)) n s := by kernel_rfl
theorem keccak_state_mix.call (hmix : Tryd.prog.follows .mixedOrders = true) (n : Nat) (t : (List Int)) (u) (h : keccak_state_mix.m n t = some u) : FnC Tryd.prog abiG 111 (keccak_state_mix.shape t).1 (keccak_state_mix.shape t).2 (keccak_state_mix.res u).1 (keccak_state_mix.res u).2 := by
  have hg : ∀ f m, (keccak_state_mix.C n).Γ f = some m → CalleeS Tryd.prog abiG f m := by
    intro f m hm
    unfold keccak_state_mix.C at hm
    simp only at hm
    first
    | (cases hm; done)
    | (split at hm <;> first
    | (cases hm; exact keccak_state_spread.s hmix n)
    | (cases hm; exact keccak_state_turn.s hmix n)
    | (cases hm; exact keccak_state_row.s hmix n)
    | (cases hm; done))
  have hb : Tryd.f111.body = some (Tryd.f111.body.getD .skip) := by kernel_rfl
  refine runF_calls (C := keccak_state_mix.C n) (A := keccak_state_mix.A n) (n := n) (fn := Tryd.f111) hg hmix Tryd.func111 hb ?_ ?_ (by decide) rfl rfl (by show 1 ≤ Tryd.f111.ntmps; decide) ?_
  · rw [show loopsIn (Tryd.f111.body.getD .skip) = [keccak_state_mix.b0] by kernel_rfl]
    intro b hb m hm
    simp only [List.mem_cons, List.not_mem_nil, or_false] at hb
    rcases hb with rfl
    · have e : (keccak_state_mix.A n).loop (key keccak_state_mix.b0) = some (.mk' keccak_state_mix.l1_0.pat (keccak_state_mix.l1_0.m n n) keccak_state_mix.l1_0.resK) := by rw [show key keccak_state_mix.b0 = 1 by kernel_rfl]; rfl
      rw [e] at hm
      cases hm
      exact (LoopS.of (res := keccak_state_mix.l1_0.res) (fun R u K => rfl) keccak_state_mix.l1_0.pat_shape fun t => keccak_state_mix.l1_0.loop n n t)
  · intro a ha m hm
    cases (show none = some m from hm)
  · rw [show runF (keccak_state_mix.C n) (keccak_state_mix.A n) n Tryd.f111 (keccak_state_mix.shape t).1 (keccak_state_mix.shape t).2 (fun v o => some (v, o)) = _ from keccak_state_mix.run n t]
    have e := keccak_state_mix.gmap keccak_state_mix.res (fun a0 => a0) n t
    unfold keccak_state_mix.m at h
    rw [h] at e
    exact e
theorem keccak_state_mix.s (hmix : Tryd.prog.follows .mixedOrders = true) (n : Nat) : CalleeS Tryd.prog abiG 111 (keccak_state_mix.c n) :=
  CalleeS.of (res := keccak_state_mix.res) (shape := keccak_state_mix.shape) (fun R u K => rfl) (fun args lent t h => by
    unfold keccak_state_mix.pat at h
    split at h
    · cases h; rfl
    · cases h) fun t u h => (keccak_state_mix.call hmix n t u h).ok Tryd.func111 (by decide) (by kernel_rfl)
end
section
noncomputable section
noncomputable def q02_rot.C (n : Nat) : Ctx := ⟨Tryd.prog, abiG, fun f => match f with
 | _ => none, fun _ => false⟩
def q02_rot.live : Nat → List Nat × List Nat := fun k => match k with
 | _ => ([], [])
def q02_rot.jlive : Nat → List Nat × List Nat := fun k => match k with
 | _ => ([], [])
noncomputable def q02_rot.A (n : Nat) : Ann := ⟨Tryd.f116.ntmps, 0, q02_rot.live, [], [none], fun k => match k with
 | _ => none, q02_rot.jlive, lookJ []⟩
def q02_rot.g {α : Type} (mk0 : Int → α) (n : Nat) (a0 : Int) (a1 : Int) : Option α :=
 if (a1 == 0) = true then
  some (mk0 a0)
 else
  if 0 ≤ (IntKind.wrap .u64 a1) then
   if 0 ≤ (IntKind.wrap .u64 (IntKind.wrap .i64 (64 - a1))) then
    some (mk0 (ibits BinOp.or .u64 (ishl .u64 a0 (IntKind.wrap .u64 a1)) (ishr .u64 a0 (IntKind.wrap .u64 (IntKind.wrap .i64 (64 - a1))))))
   else
    none
  else
   none
def q02_rot.m (n : Nat) (t : (Int × Int)) : Option Int := q02_rot.g (fun a0 => a0) n t.1 t.2
def q02_rot.pat : List AV → Blks → Option (Int × Int)
 | [(.int .u64 a0), (.int .i64 a1)], [] => some (a0, a1)
 | _, _ => none
def q02_rot.shape (t : (Int × Int)) : List AV × Blks := ([(.int .u64 t.1), (.int .i64 t.2)], [])
def q02_rot.res : Int → AV × Blks
 | u => (Prod.mk (.int .u64 u) [])
def q02_rot.resK {R : Type} (u : Int) (K : AV → Blks → Option R) : Option R := (fun p : AV × Blks => K p.1 p.2) (Prod.mk (.int .u64 u) [])
def q02_rot.c (n : Nat) : Abs.Callee := .mk' [] [none, none] q02_rot.pat (q02_rot.m n) q02_rot.resK
end
end
section
noncomputable section
noncomputable def q02_mix.C (n : Nat) : Ctx := ⟨Tryd.prog, abiG, fun f => match f with
 | 116 => some (q02_rot.c n)
 | _ => none, fun _ => false⟩
def q02_mix.live : Nat → List Nat × List Nat := fun k => match k with
 | 2 => ([7, 0, 1, 2], [0])
 | 6 => ([9, 8, 0, 1, 2, 7], [8, 0, 1, 2, 7])
 | 11 => ([11, 8, 10, 0, 1, 2, 7], [10, 2, 7, 1])
 | 15 => ([13, 10, 11, 0, 12, 1, 8, 2, 7], [11, 8, 10, 0, 1, 2, 7])
 | 20 => ([15, 14, 10, 2, 7, 1], [14, 2, 7, 1])
 | 23 => ([16, 14, 10, 15, 2, 7, 1], [15, 14, 10, 2, 7, 1])
 | _ => ([], [])
def q02_mix.jlive : Nat → List Nat × List Nat := fun k => match k with
 | _ => ([], [])
def q02_mix.l6_0.r {α : Type} (mk0 : (List Int) → (List Int) → (List Int) → Int → (List Int) → α) (n : Nat) (rc : Int → (List Int) → (List Int) → (List Int) → Int → (List Int) → Option α)  (x0 : Int) (x1 : (List Int)) (x2 : (List Int)) (x3 : (List Int)) (x4 : Int) (x5 : (List Int)) : Option α :=
  if (decide (x0 < 5)) = true then
   if 0 ≤ x0 then
    if x0 < (((List.length x1) : Nat) : Int) then
     if 0 ≤ (IntKind.wrap .i64 (5 + x0)) then
      if (IntKind.wrap .i64 (5 + x0)) < (((List.length x1) : Nat) : Int) then
       if 0 ≤ (IntKind.wrap .i64 (10 + x0)) then
        if (IntKind.wrap .i64 (10 + x0)) < (((List.length x1) : Nat) : Int) then
         if 0 ≤ (IntKind.wrap .i64 (15 + x0)) then
          if (IntKind.wrap .i64 (15 + x0)) < (((List.length x1) : Nat) : Int) then
           if 0 ≤ (IntKind.wrap .i64 (20 + x0)) then
            if (IntKind.wrap .i64 (20 + x0)) < (((List.length x1) : Nat) : Int) then
             if ((((List.length x5) + 1) * 8) ≤ 70368744177664 ∧ ((List.length x5) + 1) ≤ 9223372036854775807) then
              rc (IntKind.wrap .i64 (x0 + 1)) x1 x2 x3 x4 (x5 ++ [(ibits BinOp.xor .u64 (ibits BinOp.xor .u64 (ibits BinOp.xor .u64 (ibits BinOp.xor .u64 (List.getD x1 (Int.toNat x0) 0) (List.getD x1 (Int.toNat (IntKind.wrap .i64 (5 + x0))) 0)) (List.getD x1 (Int.toNat (IntKind.wrap .i64 (10 + x0))) 0)) (List.getD x1 (Int.toNat (IntKind.wrap .i64 (15 + x0))) 0)) (List.getD x1 (Int.toNat (IntKind.wrap .i64 (20 + x0))) 0))])
             else
              none
            else
             none
           else
            none
          else
           none
         else
          none
        else
         none
       else
        none
      else
       none
     else
      none
    else
     none
   else
    none
  else
   some (mk0 x1 x2 x3 x4 x5)
def q02_mix.l6_0.g {α : Type} (mk0 : (List Int) → (List Int) → (List Int) → Int → (List Int) → α) (n : Nat) : Nat → Int → (List Int) → (List Int) → (List Int) → Int → (List Int) → Option α
 | 0, _, _, _, _, _, _ => none
 | m + 1, x0, x1, x2, x3, x4, x5 => q02_mix.l6_0.r mk0 n (fun y0 y1 y2 y3 y4 y5 => q02_mix.l6_0.g mk0 n m y0 y1 y2 y3 y4 y5)  x0 x1 x2 x3 x4 x5
def q02_mix.l6_0.m (n m : Nat) (t : (Int × ((List Int) × ((List Int) × ((List Int) × (Int × (List Int))))))) : Option ((List Int) × ((List Int) × ((List Int) × (Int × (List Int))))) := q02_mix.l6_0.g (fun a0 a1 a2 a3 a4 => (a0, a1, a2, a3, a4)) n m t.1 t.2.1 t.2.2.1 t.2.2.2.1 t.2.2.2.2.1 t.2.2.2.2.2
def q02_mix.l6_0.pat : St → Option (Int × ((List Int) × ((List Int) × ((List Int) × (Int × (List Int))))))
 | (St.mk [(.int .i64 x0), (.own 0 1), (.rints .u64 x1), (.rints .i64 x2), (.rints .u64 x3), (.int .i64 x4)] [(some (.ints .u64 x5))]) => some (x0, x1, x2, x3, x4, x5)
 | _ => none
def q02_mix.l6_0.shape (t : (Int × ((List Int) × ((List Int) × ((List Int) × (Int × (List Int))))))) : St := (St.mk [(.int .i64 t.1), (.own 0 1), (.rints .u64 t.2.1), (.rints .i64 t.2.2.1), (.rints .u64 t.2.2.2.1), (.int .i64 t.2.2.2.2.1)] [(some (.ints .u64 t.2.2.2.2.2))])
def q02_mix.l6_0.res : ((List Int) × ((List Int) × ((List Int) × (Int × (List Int))))) → Ex × St
 | u => (Prod.mk (.exit 2) (St.mk [(.own 0 1), (.rints .u64 u.1), (.rints .i64 u.2.1), (.rints .u64 u.2.2.1), (.int .i64 u.2.2.2.1)] [(some (.ints .u64 u.2.2.2.2))]))
def q02_mix.l6_0.resK {R : Type} (u : ((List Int) × ((List Int) × ((List Int) × (Int × (List Int)))))) (K : Ex → St → Option R) : Option R := (fun p : Ex × St => K p.1 p.2) (Prod.mk (.exit 2) (St.mk [(.own 0 1), (.rints .u64 u.1), (.rints .i64 u.2.1), (.rints .u64 u.2.2.1), (.int .i64 u.2.2.2.1)] [(some (.ints .u64 u.2.2.2.2))]))
def q02_mix.l15_0.r {α : Type} (mk0 : Int → (List Int) → (List Int) → (List Int) → Int → (List Int) → (List Int) → α) (n : Nat) (rc : Int → Int → (List Int) → Int → (List Int) → (List Int) → Int → (List Int) → (List Int) → Option α)  (x0 : Int) (x1 : Int) (x2 : (List Int)) (x3 : Int) (x4 : (List Int)) (x5 : (List Int)) (x6 : Int) (x7 : (List Int)) (x8 : (List Int)) : Option α :=
  if (decide (x0 < 5)) = true then
   if 0 ≤ (IntKind.wrap .i64 ((IntKind.wrap .i64 (5 * x0)) + x1)) then
    if (IntKind.wrap .i64 ((IntKind.wrap .i64 (5 * x0)) + x1)) < (((List.length x2) : Nat) : Int) then
     if 0 ≤ (IntKind.wrap .i64 ((IntKind.wrap .i64 (5 * x0)) + x1)) then
      if (IntKind.wrap .i64 ((IntKind.wrap .i64 (5 * x0)) + x1)) < (((List.length x4) : Nat) : Int) then
       bindO (q02_rot.m n (Prod.mk (ibits BinOp.xor .u64 (List.getD x2 (Int.toNat (IntKind.wrap .i64 ((IntKind.wrap .i64 (5 * x0)) + x1))) 0) x3) (List.getD x4 (Int.toNat (IntKind.wrap .i64 ((IntKind.wrap .i64 (5 * x0)) + x1))) 0))) fun r14 =>
        if 0 ≤ (IntKind.wrap .i64 ((IntKind.wrap .i64 (5 * (Int.tmod (IntKind.wrap .i64 ((IntKind.wrap .i64 (2 * x1)) + (IntKind.wrap .i64 (3 * x0)))) 5))) + x0)) then
         if (IntKind.wrap .i64 ((IntKind.wrap .i64 (5 * (Int.tmod (IntKind.wrap .i64 ((IntKind.wrap .i64 (2 * x1)) + (IntKind.wrap .i64 (3 * x0)))) 5))) + x0)) < (((List.length x7) : Nat) : Int) then
          rc (IntKind.wrap .i64 (x0 + 1)) x1 x2 x3 x4 x5 x6 (List.set x7 (Int.toNat (IntKind.wrap .i64 ((IntKind.wrap .i64 (5 * (Int.tmod (IntKind.wrap .i64 ((IntKind.wrap .i64 (2 * x1)) + (IntKind.wrap .i64 (3 * x0)))) 5))) + x0))) r14) x8
         else
          none
        else
         none
      else
       none
     else
      none
    else
     none
   else
    none
  else
   some (mk0 x1 x2 x4 x5 x6 x8 x7)
def q02_mix.l15_0.g {α : Type} (mk0 : Int → (List Int) → (List Int) → (List Int) → Int → (List Int) → (List Int) → α) (n : Nat) : Nat → Int → Int → (List Int) → Int → (List Int) → (List Int) → Int → (List Int) → (List Int) → Option α
 | 0, _, _, _, _, _, _, _, _, _ => none
 | m + 1, x0, x1, x2, x3, x4, x5, x6, x7, x8 => q02_mix.l15_0.r mk0 n (fun y0 y1 y2 y3 y4 y5 y6 y7 y8 => q02_mix.l15_0.g mk0 n m y0 y1 y2 y3 y4 y5 y6 y7 y8)  x0 x1 x2 x3 x4 x5 x6 x7 x8
def q02_mix.l15_0.m (n m : Nat) (t : (Int × (Int × ((List Int) × (Int × ((List Int) × ((List Int) × (Int × ((List Int) × (List Int)))))))))) : Option (Int × ((List Int) × ((List Int) × ((List Int) × (Int × ((List Int) × (List Int))))))) := q02_mix.l15_0.g (fun a0 a1 a2 a3 a4 a5 a6 => (a0, a1, a2, a3, a4, a5, a6)) n m t.1 t.2.1 t.2.2.1 t.2.2.2.1 t.2.2.2.2.1 t.2.2.2.2.2.1 t.2.2.2.2.2.2.1 t.2.2.2.2.2.2.2.1 t.2.2.2.2.2.2.2.2
def q02_mix.l15_0.pat : St → Option (Int × (Int × ((List Int) × (Int × ((List Int) × ((List Int) × (Int × ((List Int) × (List Int)))))))))
 | (St.mk [(.int .i64 x0), (.own 0 1), (.int .i64 x1), (.rints .u64 x2), (.int .u64 x3), (.rints .i64 x4), (.own 1 1), (.rints .u64 x5), (.int .i64 x6)] [(some (.ints .u64 x7)), (some (.ints .u64 x8))]) => some (x0, x1, x2, x3, x4, x5, x6, x7, x8)
 | _ => none
def q02_mix.l15_0.shape (t : (Int × (Int × ((List Int) × (Int × ((List Int) × ((List Int) × (Int × ((List Int) × (List Int)))))))))) : St := (St.mk [(.int .i64 t.1), (.own 0 1), (.int .i64 t.2.1), (.rints .u64 t.2.2.1), (.int .u64 t.2.2.2.1), (.rints .i64 t.2.2.2.2.1), (.own 1 1), (.rints .u64 t.2.2.2.2.2.1), (.int .i64 t.2.2.2.2.2.2.1)] [(some (.ints .u64 t.2.2.2.2.2.2.2.1)), (some (.ints .u64 t.2.2.2.2.2.2.2.2))])
def q02_mix.l15_0.res : (Int × ((List Int) × ((List Int) × ((List Int) × (Int × ((List Int) × (List Int))))))) → Ex × St
 | u => (Prod.mk (.exit 6) (St.mk [(.int .i64 u.1), (.own 0 1), (.own 1 1), (.rints .u64 u.2.1), (.rints .i64 u.2.2.1), (.rints .u64 u.2.2.2.1), (.int .i64 u.2.2.2.2.1)] [(some (.ints .u64 u.2.2.2.2.2.1)), (some (.ints .u64 u.2.2.2.2.2.2))]))
def q02_mix.l15_0.resK {R : Type} (u : (Int × ((List Int) × ((List Int) × ((List Int) × (Int × ((List Int) × (List Int)))))))) (K : Ex → St → Option R) : Option R := (fun p : Ex × St => K p.1 p.2) (Prod.mk (.exit 6) (St.mk [(.int .i64 u.1), (.own 0 1), (.own 1 1), (.rints .u64 u.2.1), (.rints .i64 u.2.2.1), (.rints .u64 u.2.2.2.1), (.int .i64 u.2.2.2.2.1)] [(some (.ints .u64 u.2.2.2.2.2.1)), (some (.ints .u64 u.2.2.2.2.2.2))]))
def q02_mix.l11_0.r {α : Type} (mk0 : (List Int) → Int → (List Int) → (List Int) → α) (n : Nat) (rc : Int → (List Int) → (List Int) → (List Int) → Int → (List Int) → (List Int) → Option α)  (x0 : Int) (x1 : (List Int)) (x2 : (List Int)) (x3 : (List Int)) (x4 : Int) (x5 : (List Int)) (x6 : (List Int)) : Option α :=
  if (decide (x0 < 5)) = true then
   if 0 ≤ (Int.tmod (IntKind.wrap .i64 (x0 + 4)) 5) then
    if (Int.tmod (IntKind.wrap .i64 (x0 + 4)) 5) < (((List.length x5) : Nat) : Int) then
     if 0 ≤ (Int.tmod (IntKind.wrap .i64 (x0 + 1)) 5) then
      if (Int.tmod (IntKind.wrap .i64 (x0 + 1)) 5) < (((List.length x5) : Nat) : Int) then
       bindO (q02_rot.m n (Prod.mk (List.getD x5 (Int.toNat (Int.tmod (IntKind.wrap .i64 (x0 + 1)) 5)) 0) 1)) fun r14 =>
        bindO (q02_mix.l15_0.m n n (0, x0, x1, (ibits BinOp.xor .u64 (List.getD x5 (Int.toNat (Int.tmod (IntKind.wrap .i64 (x0 + 4)) 5)) 0) r14), x2, x3, x4, x6, x5)) fun r16 =>
         rc (IntKind.wrap .i64 ((Prod.fst r16) + 1)) (Prod.fst r16.2) (Prod.fst (Prod.snd r16).2) (Prod.fst (Prod.snd r16.2).2) (Prod.fst (Prod.snd (Prod.snd r16).2).2) (Prod.fst (Prod.snd (Prod.snd r16.2).2).2) (Prod.snd (Prod.snd (Prod.snd r16.2).2).2)
      else
       none
     else
      none
    else
     none
   else
    none
  else
   some (mk0 x3 x4 x2 x6)
def q02_mix.l11_0.g {α : Type} (mk0 : (List Int) → Int → (List Int) → (List Int) → α) (n : Nat) : Nat → Int → (List Int) → (List Int) → (List Int) → Int → (List Int) → (List Int) → Option α
 | 0, _, _, _, _, _, _, _ => none
 | m + 1, x0, x1, x2, x3, x4, x5, x6 => q02_mix.l11_0.r mk0 n (fun y0 y1 y2 y3 y4 y5 y6 => q02_mix.l11_0.g mk0 n m y0 y1 y2 y3 y4 y5 y6)  x0 x1 x2 x3 x4 x5 x6
def q02_mix.l11_0.m (n m : Nat) (t : (Int × ((List Int) × ((List Int) × ((List Int) × (Int × ((List Int) × (List Int)))))))) : Option ((List Int) × (Int × ((List Int) × (List Int)))) := q02_mix.l11_0.g (fun a0 a1 a2 a3 => (a0, a1, a2, a3)) n m t.1 t.2.1 t.2.2.1 t.2.2.2.1 t.2.2.2.2.1 t.2.2.2.2.2.1 t.2.2.2.2.2.2
def q02_mix.l11_0.pat : St → Option (Int × ((List Int) × ((List Int) × ((List Int) × (Int × ((List Int) × (List Int)))))))
 | (St.mk [(.int .i64 x0), (.own 0 1), (.own 1 1), (.rints .u64 x1), (.rints .i64 x2), (.rints .u64 x3), (.int .i64 x4)] [(some (.ints .u64 x5)), (some (.ints .u64 x6))]) => some (x0, x1, x2, x3, x4, x5, x6)
 | _ => none
def q02_mix.l11_0.shape (t : (Int × ((List Int) × ((List Int) × ((List Int) × (Int × ((List Int) × (List Int)))))))) : St := (St.mk [(.int .i64 t.1), (.own 0 1), (.own 1 1), (.rints .u64 t.2.1), (.rints .i64 t.2.2.1), (.rints .u64 t.2.2.2.1), (.int .i64 t.2.2.2.2.1)] [(some (.ints .u64 t.2.2.2.2.2.1)), (some (.ints .u64 t.2.2.2.2.2.2))])
def q02_mix.l11_0.res : ((List Int) × (Int × ((List Int) × (List Int)))) → Ex × St
 | u => (Prod.mk (.exit 4) (St.mk [(.own 0 1), (.rints .u64 u.1), (.int .i64 u.2.1), (.rints .i64 u.2.2.1)] [(some (.ints .u64 u.2.2.2))]))
def q02_mix.l11_0.resK {R : Type} (u : ((List Int) × (Int × ((List Int) × (List Int))))) (K : Ex → St → Option R) : Option R := (fun p : Ex × St => K p.1 p.2) (Prod.mk (.exit 4) (St.mk [(.own 0 1), (.rints .u64 u.1), (.int .i64 u.2.1), (.rints .i64 u.2.2.1)] [(some (.ints .u64 u.2.2.2))]))
def q02_mix.l23_0.r {α : Type} (mk0 : Int → (List Int) → Int → (List Int) → (List Int) → (List Int) → α) (n : Nat) (rc : Int → Int → (List Int) → Int → (List Int) → (List Int) → (List Int) → Option α)  (x0 : Int) (x1 : Int) (x2 : (List Int)) (x3 : Int) (x4 : (List Int)) (x5 : (List Int)) (x6 : (List Int)) : Option α :=
  if (decide (x0 < 5)) = true then
   if 0 ≤ (IntKind.wrap .i64 ((IntKind.wrap .i64 (5 * x1)) + x0)) then
    if (IntKind.wrap .i64 ((IntKind.wrap .i64 (5 * x1)) + x0)) < (((List.length x6) : Nat) : Int) then
     if 0 ≤ (IntKind.wrap .i64 ((IntKind.wrap .i64 (5 * x1)) + (Int.tmod (IntKind.wrap .i64 (x0 + 1)) 5))) then
      if (IntKind.wrap .i64 ((IntKind.wrap .i64 (5 * x1)) + (Int.tmod (IntKind.wrap .i64 (x0 + 1)) 5))) < (((List.length x6) : Nat) : Int) then
       if 0 ≤ (IntKind.wrap .i64 ((IntKind.wrap .i64 (5 * x1)) + (Int.tmod (IntKind.wrap .i64 (x0 + 2)) 5))) then
        if (IntKind.wrap .i64 ((IntKind.wrap .i64 (5 * x1)) + (Int.tmod (IntKind.wrap .i64 (x0 + 2)) 5))) < (((List.length x6) : Nat) : Int) then
         if ((((List.length x5) + 1) * 8) ≤ 70368744177664 ∧ ((List.length x5) + 1) ≤ 9223372036854775807) then
          rc (IntKind.wrap .i64 (x0 + 1)) x1 x2 x3 x4 (x5 ++ [(ibits BinOp.xor .u64 (List.getD x6 (Int.toNat (IntKind.wrap .i64 ((IntKind.wrap .i64 (5 * x1)) + x0))) 0) (ibits BinOp.and .u64 (ibits BinOp.xor .u64 (if false = true then (-1) else 18446744073709551615) (List.getD x6 (Int.toNat (IntKind.wrap .i64 ((IntKind.wrap .i64 (5 * x1)) + (Int.tmod (IntKind.wrap .i64 (x0 + 1)) 5)))) 0)) (List.getD x6 (Int.toNat (IntKind.wrap .i64 ((IntKind.wrap .i64 (5 * x1)) + (Int.tmod (IntKind.wrap .i64 (x0 + 2)) 5)))) 0)))]) x6
         else
          none
        else
         none
       else
        none
      else
       none
     else
      none
    else
     none
   else
    none
  else
   some (mk0 x1 x2 x3 x4 x5 x6)
def q02_mix.l23_0.g {α : Type} (mk0 : Int → (List Int) → Int → (List Int) → (List Int) → (List Int) → α) (n : Nat) : Nat → Int → Int → (List Int) → Int → (List Int) → (List Int) → (List Int) → Option α
 | 0, _, _, _, _, _, _, _ => none
 | m + 1, x0, x1, x2, x3, x4, x5, x6 => q02_mix.l23_0.r mk0 n (fun y0 y1 y2 y3 y4 y5 y6 => q02_mix.l23_0.g mk0 n m y0 y1 y2 y3 y4 y5 y6)  x0 x1 x2 x3 x4 x5 x6
def q02_mix.l23_0.m (n m : Nat) (t : (Int × (Int × ((List Int) × (Int × ((List Int) × ((List Int) × (List Int)))))))) : Option (Int × ((List Int) × (Int × ((List Int) × ((List Int) × (List Int)))))) := q02_mix.l23_0.g (fun a0 a1 a2 a3 a4 a5 => (a0, a1, a2, a3, a4, a5)) n m t.1 t.2.1 t.2.2.1 t.2.2.2.1 t.2.2.2.2.1 t.2.2.2.2.2.1 t.2.2.2.2.2.2
def q02_mix.l23_0.pat : St → Option (Int × (Int × ((List Int) × (Int × ((List Int) × ((List Int) × (List Int)))))))
 | (St.mk [(.int .i64 x0), (.own 0 1), (.own 1 1), (.int .i64 x1), (.rints .u64 x2), (.int .i64 x3), (.rints .i64 x4)] [(some (.ints .u64 x5)), (some (.ints .u64 x6))]) => some (x0, x1, x2, x3, x4, x5, x6)
 | _ => none
def q02_mix.l23_0.shape (t : (Int × (Int × ((List Int) × (Int × ((List Int) × ((List Int) × (List Int)))))))) : St := (St.mk [(.int .i64 t.1), (.own 0 1), (.own 1 1), (.int .i64 t.2.1), (.rints .u64 t.2.2.1), (.int .i64 t.2.2.2.1), (.rints .i64 t.2.2.2.2.1)] [(some (.ints .u64 t.2.2.2.2.2.1)), (some (.ints .u64 t.2.2.2.2.2.2))])
def q02_mix.l23_0.res : (Int × ((List Int) × (Int × ((List Int) × ((List Int) × (List Int)))))) → Ex × St
 | u => (Prod.mk (.exit 10) (St.mk [(.int .i64 u.1), (.own 0 1), (.own 1 1), (.rints .u64 u.2.1), (.int .i64 u.2.2.1), (.rints .i64 u.2.2.2.1)] [(some (.ints .u64 u.2.2.2.2.1)), (some (.ints .u64 u.2.2.2.2.2))]))
def q02_mix.l23_0.resK {R : Type} (u : (Int × ((List Int) × (Int × ((List Int) × ((List Int) × (List Int))))))) (K : Ex → St → Option R) : Option R := (fun p : Ex × St => K p.1 p.2) (Prod.mk (.exit 10) (St.mk [(.int .i64 u.1), (.own 0 1), (.own 1 1), (.rints .u64 u.2.1), (.int .i64 u.2.2.1), (.rints .i64 u.2.2.2.1)] [(some (.ints .u64 u.2.2.2.2.1)), (some (.ints .u64 u.2.2.2.2.2))]))
def q02_mix.l20_0.r {α : Type} (mk0 : (List Int) → Int → (List Int) → (List Int) → α) (n : Nat) (rc : Int → (List Int) → Int → (List Int) → (List Int) → (List Int) → Option α)  (x0 : Int) (x1 : (List Int)) (x2 : Int) (x3 : (List Int)) (x4 : (List Int)) (x5 : (List Int)) : Option α :=
  if (decide (x0 < 5)) = true then
   bindO (q02_mix.l23_0.m n n (0, x0, x1, x2, x3, x4, x5)) fun r6 =>
    rc (IntKind.wrap .i64 ((Prod.fst r6) + 1)) (Prod.fst r6.2) (Prod.fst (Prod.snd r6).2) (Prod.fst (Prod.snd r6.2).2) (Prod.fst (Prod.snd (Prod.snd r6).2).2) (Prod.snd (Prod.snd (Prod.snd r6).2).2)
  else
   some (mk0 x1 x2 x3 x4)
def q02_mix.l20_0.g {α : Type} (mk0 : (List Int) → Int → (List Int) → (List Int) → α) (n : Nat) : Nat → Int → (List Int) → Int → (List Int) → (List Int) → (List Int) → Option α
 | 0, _, _, _, _, _, _ => none
 | m + 1, x0, x1, x2, x3, x4, x5 => q02_mix.l20_0.r mk0 n (fun y0 y1 y2 y3 y4 y5 => q02_mix.l20_0.g mk0 n m y0 y1 y2 y3 y4 y5)  x0 x1 x2 x3 x4 x5
def q02_mix.l20_0.m (n m : Nat) (t : (Int × ((List Int) × (Int × ((List Int) × ((List Int) × (List Int))))))) : Option ((List Int) × (Int × ((List Int) × (List Int)))) := q02_mix.l20_0.g (fun a0 a1 a2 a3 => (a0, a1, a2, a3)) n m t.1 t.2.1 t.2.2.1 t.2.2.2.1 t.2.2.2.2.1 t.2.2.2.2.2
def q02_mix.l20_0.pat : St → Option (Int × ((List Int) × (Int × ((List Int) × ((List Int) × (List Int))))))
 | (St.mk [(.int .i64 x0), (.own 0 1), (.own 1 1), (.rints .u64 x1), (.int .i64 x2), (.rints .i64 x3)] [(some (.ints .u64 x4)), (some (.ints .u64 x5))]) => some (x0, x1, x2, x3, x4, x5)
 | _ => none
def q02_mix.l20_0.shape (t : (Int × ((List Int) × (Int × ((List Int) × ((List Int) × (List Int))))))) : St := (St.mk [(.int .i64 t.1), (.own 0 1), (.own 1 1), (.rints .u64 t.2.1), (.int .i64 t.2.2.1), (.rints .i64 t.2.2.2.1)] [(some (.ints .u64 t.2.2.2.2.1)), (some (.ints .u64 t.2.2.2.2.2))])
def q02_mix.l20_0.res : ((List Int) × (Int × ((List Int) × (List Int)))) → Ex × St
 | u => (Prod.mk (.exit 8) (St.mk [(.own 0 1), (.rints .u64 u.1), (.int .i64 u.2.1), (.rints .i64 u.2.2.1)] [(some (.ints .u64 u.2.2.2))]))
def q02_mix.l20_0.resK {R : Type} (u : ((List Int) × (Int × ((List Int) × (List Int))))) (K : Ex → St → Option R) : Option R := (fun p : Ex × St => K p.1 p.2) (Prod.mk (.exit 8) (St.mk [(.own 0 1), (.rints .u64 u.1), (.int .i64 u.2.1), (.rints .i64 u.2.2.1)] [(some (.ints .u64 u.2.2.2))]))
def q02_mix.l6v1_0.r {α : Type} (mk0 : (List Int) → (List Int) → Int → (List Int) → (List Int) → α) (n : Nat) (rc : Int → (List Int) → (List Int) → Int → (List Int) → (List Int) → Option α)  (x0 : Int) (x1 : (List Int)) (x2 : (List Int)) (x3 : Int) (x4 : (List Int)) (x5 : (List Int)) : Option α :=
  if (decide (x0 < 5)) = true then
   if 0 ≤ x0 then
    if x0 < (((List.length x5) : Nat) : Int) then
     if 0 ≤ (IntKind.wrap .i64 (5 + x0)) then
      if (IntKind.wrap .i64 (5 + x0)) < (((List.length x5) : Nat) : Int) then
       if 0 ≤ (IntKind.wrap .i64 (10 + x0)) then
        if (IntKind.wrap .i64 (10 + x0)) < (((List.length x5) : Nat) : Int) then
         if 0 ≤ (IntKind.wrap .i64 (15 + x0)) then
          if (IntKind.wrap .i64 (15 + x0)) < (((List.length x5) : Nat) : Int) then
           if 0 ≤ (IntKind.wrap .i64 (20 + x0)) then
            if (IntKind.wrap .i64 (20 + x0)) < (((List.length x5) : Nat) : Int) then
             if ((((List.length x4) + 1) * 8) ≤ 70368744177664 ∧ ((List.length x4) + 1) ≤ 9223372036854775807) then
              rc (IntKind.wrap .i64 (x0 + 1)) x1 x2 x3 (x4 ++ [(ibits BinOp.xor .u64 (ibits BinOp.xor .u64 (ibits BinOp.xor .u64 (ibits BinOp.xor .u64 (List.getD x5 (Int.toNat x0) 0) (List.getD x5 (Int.toNat (IntKind.wrap .i64 (5 + x0))) 0)) (List.getD x5 (Int.toNat (IntKind.wrap .i64 (10 + x0))) 0)) (List.getD x5 (Int.toNat (IntKind.wrap .i64 (15 + x0))) 0)) (List.getD x5 (Int.toNat (IntKind.wrap .i64 (20 + x0))) 0))]) x5
             else
              none
            else
             none
           else
            none
          else
           none
         else
          none
        else
         none
       else
        none
      else
       none
     else
      none
    else
     none
   else
    none
  else
   some (mk0 x1 x2 x3 x4 x5)
def q02_mix.l6v1_0.g {α : Type} (mk0 : (List Int) → (List Int) → Int → (List Int) → (List Int) → α) (n : Nat) : Nat → Int → (List Int) → (List Int) → Int → (List Int) → (List Int) → Option α
 | 0, _, _, _, _, _, _ => none
 | m + 1, x0, x1, x2, x3, x4, x5 => q02_mix.l6v1_0.r mk0 n (fun y0 y1 y2 y3 y4 y5 => q02_mix.l6v1_0.g mk0 n m y0 y1 y2 y3 y4 y5)  x0 x1 x2 x3 x4 x5
def q02_mix.l6v1_0.m (n m : Nat) (t : (Int × ((List Int) × ((List Int) × (Int × ((List Int) × (List Int))))))) : Option ((List Int) × ((List Int) × (Int × ((List Int) × (List Int))))) := q02_mix.l6v1_0.g (fun a0 a1 a2 a3 a4 => (a0, a1, a2, a3, a4)) n m t.1 t.2.1 t.2.2.1 t.2.2.2.1 t.2.2.2.2.1 t.2.2.2.2.2
def q02_mix.l6v1_0.pat : St → Option (Int × ((List Int) × ((List Int) × (Int × ((List Int) × (List Int))))))
 | (St.mk [(.int .i64 x0), (.own 0 1), (.own 1 1), (.rints .i64 x1), (.rints .u64 x2), (.int .i64 x3)] [(some (.ints .u64 x4)), (some (.ints .u64 x5))]) => some (x0, x1, x2, x3, x4, x5)
 | _ => none
def q02_mix.l6v1_0.shape (t : (Int × ((List Int) × ((List Int) × (Int × ((List Int) × (List Int))))))) : St := (St.mk [(.int .i64 t.1), (.own 0 1), (.own 1 1), (.rints .i64 t.2.1), (.rints .u64 t.2.2.1), (.int .i64 t.2.2.2.1)] [(some (.ints .u64 t.2.2.2.2.1)), (some (.ints .u64 t.2.2.2.2.2))])
def q02_mix.l6v1_0.res : ((List Int) × ((List Int) × (Int × ((List Int) × (List Int))))) → Ex × St
 | u => (Prod.mk (.exit 2) (St.mk [(.own 0 1), (.own 1 1), (.rints .i64 u.1), (.rints .u64 u.2.1), (.int .i64 u.2.2.1)] [(some (.ints .u64 u.2.2.2.1)), (some (.ints .u64 u.2.2.2.2))]))
def q02_mix.l6v1_0.resK {R : Type} (u : ((List Int) × ((List Int) × (Int × ((List Int) × (List Int)))))) (K : Ex → St → Option R) : Option R := (fun p : Ex × St => K p.1 p.2) (Prod.mk (.exit 2) (St.mk [(.own 0 1), (.own 1 1), (.rints .i64 u.1), (.rints .u64 u.2.1), (.int .i64 u.2.2.1)] [(some (.ints .u64 u.2.2.2.1)), (some (.ints .u64 u.2.2.2.2))]))
def q02_mix.l15v1_0.r {α : Type} (mk0 : Int → (List Int) → (List Int) → Int → (List Int) → (List Int) → (List Int) → α) (n : Nat) (rc : Int → Int → Int → (List Int) → (List Int) → Int → (List Int) → (List Int) → (List Int) → Option α)  (x0 : Int) (x1 : Int) (x2 : Int) (x3 : (List Int)) (x4 : (List Int)) (x5 : Int) (x6 : (List Int)) (x7 : (List Int)) (x8 : (List Int)) : Option α :=
  if (decide (x0 < 5)) = true then
   if 0 ≤ (IntKind.wrap .i64 ((IntKind.wrap .i64 (5 * x0)) + x1)) then
    if (IntKind.wrap .i64 ((IntKind.wrap .i64 (5 * x0)) + x1)) < (((List.length x7) : Nat) : Int) then
     if 0 ≤ (IntKind.wrap .i64 ((IntKind.wrap .i64 (5 * x0)) + x1)) then
      if (IntKind.wrap .i64 ((IntKind.wrap .i64 (5 * x0)) + x1)) < (((List.length x3) : Nat) : Int) then
       bindO (q02_rot.m n (Prod.mk (ibits BinOp.xor .u64 (List.getD x7 (Int.toNat (IntKind.wrap .i64 ((IntKind.wrap .i64 (5 * x0)) + x1))) 0) x2) (List.getD x3 (Int.toNat (IntKind.wrap .i64 ((IntKind.wrap .i64 (5 * x0)) + x1))) 0))) fun r14 =>
        if 0 ≤ (IntKind.wrap .i64 ((IntKind.wrap .i64 (5 * (Int.tmod (IntKind.wrap .i64 ((IntKind.wrap .i64 (2 * x1)) + (IntKind.wrap .i64 (3 * x0)))) 5))) + x0)) then
         if (IntKind.wrap .i64 ((IntKind.wrap .i64 (5 * (Int.tmod (IntKind.wrap .i64 ((IntKind.wrap .i64 (2 * x1)) + (IntKind.wrap .i64 (3 * x0)))) 5))) + x0)) < (((List.length x6) : Nat) : Int) then
          rc (IntKind.wrap .i64 (x0 + 1)) x1 x2 x3 x4 x5 (List.set x6 (Int.toNat (IntKind.wrap .i64 ((IntKind.wrap .i64 (5 * (Int.tmod (IntKind.wrap .i64 ((IntKind.wrap .i64 (2 * x1)) + (IntKind.wrap .i64 (3 * x0)))) 5))) + x0))) r14) x7 x8
         else
          none
        else
         none
      else
       none
     else
      none
    else
     none
   else
    none
  else
   some (mk0 x1 x3 x4 x5 x8 x6 x7)
def q02_mix.l15v1_0.g {α : Type} (mk0 : Int → (List Int) → (List Int) → Int → (List Int) → (List Int) → (List Int) → α) (n : Nat) : Nat → Int → Int → Int → (List Int) → (List Int) → Int → (List Int) → (List Int) → (List Int) → Option α
 | 0, _, _, _, _, _, _, _, _, _ => none
 | m + 1, x0, x1, x2, x3, x4, x5, x6, x7, x8 => q02_mix.l15v1_0.r mk0 n (fun y0 y1 y2 y3 y4 y5 y6 y7 y8 => q02_mix.l15v1_0.g mk0 n m y0 y1 y2 y3 y4 y5 y6 y7 y8)  x0 x1 x2 x3 x4 x5 x6 x7 x8
def q02_mix.l15v1_0.m (n m : Nat) (t : (Int × (Int × (Int × ((List Int) × ((List Int) × (Int × ((List Int) × ((List Int) × (List Int)))))))))) : Option (Int × ((List Int) × ((List Int) × (Int × ((List Int) × ((List Int) × (List Int))))))) := q02_mix.l15v1_0.g (fun a0 a1 a2 a3 a4 a5 a6 => (a0, a1, a2, a3, a4, a5, a6)) n m t.1 t.2.1 t.2.2.1 t.2.2.2.1 t.2.2.2.2.1 t.2.2.2.2.2.1 t.2.2.2.2.2.2.1 t.2.2.2.2.2.2.2.1 t.2.2.2.2.2.2.2.2
def q02_mix.l15v1_0.pat : St → Option (Int × (Int × (Int × ((List Int) × ((List Int) × (Int × ((List Int) × ((List Int) × (List Int)))))))))
 | (St.mk [(.int .i64 x0), (.own 0 1), (.int .i64 x1), (.own 1 1), (.int .u64 x2), (.rints .i64 x3), (.own 2 1), (.rints .u64 x4), (.int .i64 x5)] [(some (.ints .u64 x6)), (some (.ints .u64 x7)), (some (.ints .u64 x8))]) => some (x0, x1, x2, x3, x4, x5, x6, x7, x8)
 | _ => none
def q02_mix.l15v1_0.shape (t : (Int × (Int × (Int × ((List Int) × ((List Int) × (Int × ((List Int) × ((List Int) × (List Int)))))))))) : St := (St.mk [(.int .i64 t.1), (.own 0 1), (.int .i64 t.2.1), (.own 1 1), (.int .u64 t.2.2.1), (.rints .i64 t.2.2.2.1), (.own 2 1), (.rints .u64 t.2.2.2.2.1), (.int .i64 t.2.2.2.2.2.1)] [(some (.ints .u64 t.2.2.2.2.2.2.1)), (some (.ints .u64 t.2.2.2.2.2.2.2.1)), (some (.ints .u64 t.2.2.2.2.2.2.2.2))])
def q02_mix.l15v1_0.res : (Int × ((List Int) × ((List Int) × (Int × ((List Int) × ((List Int) × (List Int))))))) → Ex × St
 | u => (Prod.mk (.exit 6) (St.mk [(.int .i64 u.1), (.own 0 1), (.own 1 1), (.own 2 1), (.rints .i64 u.2.1), (.rints .u64 u.2.2.1), (.int .i64 u.2.2.2.1)] [(some (.ints .u64 u.2.2.2.2.1)), (some (.ints .u64 u.2.2.2.2.2.1)), (some (.ints .u64 u.2.2.2.2.2.2))]))
def q02_mix.l15v1_0.resK {R : Type} (u : (Int × ((List Int) × ((List Int) × (Int × ((List Int) × ((List Int) × (List Int)))))))) (K : Ex → St → Option R) : Option R := (fun p : Ex × St => K p.1 p.2) (Prod.mk (.exit 6) (St.mk [(.int .i64 u.1), (.own 0 1), (.own 1 1), (.own 2 1), (.rints .i64 u.2.1), (.rints .u64 u.2.2.1), (.int .i64 u.2.2.2.1)] [(some (.ints .u64 u.2.2.2.2.1)), (some (.ints .u64 u.2.2.2.2.2.1)), (some (.ints .u64 u.2.2.2.2.2.2))]))
def q02_mix.l11v1_0.r {α : Type} (mk0 : (List Int) → Int → (List Int) → (List Int) → α) (n : Nat) (rc : Int → (List Int) → (List Int) → Int → (List Int) → (List Int) → (List Int) → Option α)  (x0 : Int) (x1 : (List Int)) (x2 : (List Int)) (x3 : Int) (x4 : (List Int)) (x5 : (List Int)) (x6 : (List Int)) : Option α :=
  if (decide (x0 < 5)) = true then
   if 0 ≤ (Int.tmod (IntKind.wrap .i64 (x0 + 4)) 5) then
    if (Int.tmod (IntKind.wrap .i64 (x0 + 4)) 5) < (((List.length x4) : Nat) : Int) then
     if 0 ≤ (Int.tmod (IntKind.wrap .i64 (x0 + 1)) 5) then
      if (Int.tmod (IntKind.wrap .i64 (x0 + 1)) 5) < (((List.length x4) : Nat) : Int) then
       bindO (q02_rot.m n (Prod.mk (List.getD x4 (Int.toNat (Int.tmod (IntKind.wrap .i64 (x0 + 1)) 5)) 0) 1)) fun r14 =>
        bindO (q02_mix.l15v1_0.m n n (0, x0, (ibits BinOp.xor .u64 (List.getD x4 (Int.toNat (Int.tmod (IntKind.wrap .i64 (x0 + 4)) 5)) 0) r14), x1, x2, x3, x5, x6, x4)) fun r16 =>
         rc (IntKind.wrap .i64 ((Prod.fst r16) + 1)) (Prod.fst r16.2) (Prod.fst (Prod.snd r16).2) (Prod.fst (Prod.snd r16.2).2) (Prod.fst (Prod.snd (Prod.snd r16).2).2) (Prod.fst (Prod.snd (Prod.snd r16.2).2).2) (Prod.snd (Prod.snd (Prod.snd r16.2).2).2)
      else
       none
     else
      none
    else
     none
   else
    none
  else
   some (mk0 x2 x3 x1 x5)
def q02_mix.l11v1_0.g {α : Type} (mk0 : (List Int) → Int → (List Int) → (List Int) → α) (n : Nat) : Nat → Int → (List Int) → (List Int) → Int → (List Int) → (List Int) → (List Int) → Option α
 | 0, _, _, _, _, _, _, _ => none
 | m + 1, x0, x1, x2, x3, x4, x5, x6 => q02_mix.l11v1_0.r mk0 n (fun y0 y1 y2 y3 y4 y5 y6 => q02_mix.l11v1_0.g mk0 n m y0 y1 y2 y3 y4 y5 y6)  x0 x1 x2 x3 x4 x5 x6
def q02_mix.l11v1_0.m (n m : Nat) (t : (Int × ((List Int) × ((List Int) × (Int × ((List Int) × ((List Int) × (List Int)))))))) : Option ((List Int) × (Int × ((List Int) × (List Int)))) := q02_mix.l11v1_0.g (fun a0 a1 a2 a3 => (a0, a1, a2, a3)) n m t.1 t.2.1 t.2.2.1 t.2.2.2.1 t.2.2.2.2.1 t.2.2.2.2.2.1 t.2.2.2.2.2.2
def q02_mix.l11v1_0.pat : St → Option (Int × ((List Int) × ((List Int) × (Int × ((List Int) × ((List Int) × (List Int)))))))
 | (St.mk [(.int .i64 x0), (.own 0 1), (.own 1 1), (.own 2 1), (.rints .i64 x1), (.rints .u64 x2), (.int .i64 x3)] [(some (.ints .u64 x4)), (some (.ints .u64 x5)), (some (.ints .u64 x6))]) => some (x0, x1, x2, x3, x4, x5, x6)
 | _ => none
def q02_mix.l11v1_0.shape (t : (Int × ((List Int) × ((List Int) × (Int × ((List Int) × ((List Int) × (List Int)))))))) : St := (St.mk [(.int .i64 t.1), (.own 0 1), (.own 1 1), (.own 2 1), (.rints .i64 t.2.1), (.rints .u64 t.2.2.1), (.int .i64 t.2.2.2.1)] [(some (.ints .u64 t.2.2.2.2.1)), (some (.ints .u64 t.2.2.2.2.2.1)), (some (.ints .u64 t.2.2.2.2.2.2))])
def q02_mix.l11v1_0.res : ((List Int) × (Int × ((List Int) × (List Int)))) → Ex × St
 | u => (Prod.mk (.exit 4) (St.mk [(.own 0 1), (.rints .u64 u.1), (.int .i64 u.2.1), (.rints .i64 u.2.2.1)] [(some (.ints .u64 u.2.2.2))]))
def q02_mix.l11v1_0.resK {R : Type} (u : ((List Int) × (Int × ((List Int) × (List Int))))) (K : Ex → St → Option R) : Option R := (fun p : Ex × St => K p.1 p.2) (Prod.mk (.exit 4) (St.mk [(.own 0 1), (.rints .u64 u.1), (.int .i64 u.2.1), (.rints .i64 u.2.2.1)] [(some (.ints .u64 u.2.2.2))]))
def q02_mix.l2_1.r {α : Type} (mk0 : (List Int) → α) (mk1 : (List Int) → α) (n : Nat) (rc : Int → (List Int) → (List Int) → (List Int) → Option α)  (x0 : Int) (x1 : (List Int)) (x2 : (List Int)) (x3 : (List Int)) : Option α :=
  if (decide (x0 < 24)) = true then
   bindO (q02_mix.l6v1_0.m n n (0, x1, x2, x0, [], x3)) fun r6 =>
    bindO (q02_mix.l11v1_0.m n n (0, (Prod.fst r6), (Prod.fst r6.2), (Prod.fst (Prod.snd r6).2), (Prod.fst (Prod.snd r6.2).2), ([0, 0, 0, 0, 0, 0, 0, 0, 0, 0, 0, 0, 0, 0, 0, 0, 0, 0, 0, 0, 0, 0, 0, 0, 0] : List Int), (Prod.snd (Prod.snd r6.2).2))) fun r8 =>
     bindO (q02_mix.l20_0.m n n (0, (Prod.fst r8), (Prod.fst r8.2), (Prod.fst (Prod.snd r8).2), [], (Prod.snd (Prod.snd r8).2))) fun r10 =>
      if 0 < (((List.length (Prod.snd (Prod.snd r10).2)) : Nat) : Int) then
       if 0 ≤ (Prod.fst r10.2) then
        if (Prod.fst r10.2) < (((List.length (Prod.fst r10)) : Nat) : Int) then
         if 0 < (((List.length (Prod.snd (Prod.snd r10).2)) : Nat) : Int) then
          rc (IntKind.wrap .i64 ((Prod.fst r10.2) + 1)) (Prod.fst (Prod.snd r10).2) (Prod.fst r10) (List.set (Prod.snd (Prod.snd r10).2) 0 (ibits BinOp.xor .u64 (List.getD (Prod.snd (Prod.snd r10).2) 0 0) (List.getD (Prod.fst r10) (Int.toNat (Prod.fst r10.2)) 0)))
         else
          none
        else
         none
       else
        none
      else
       none
  else
   some (mk0 x3)
def q02_mix.l2_1.g {α : Type} (mk0 : (List Int) → α) (mk1 : (List Int) → α) (n : Nat) : Nat → Int → (List Int) → (List Int) → (List Int) → Option α
 | 0, _, _, _, _ => none
 | m + 1, x0, x1, x2, x3 => q02_mix.l2_1.r mk0 mk1 n (fun y0 y1 y2 y3 => q02_mix.l2_1.g mk0 mk1 n m y0 y1 y2 y3)  x0 x1 x2 x3
def q02_mix.l2_1.m (n m : Nat) (t : (Int × ((List Int) × ((List Int) × (List Int))))) : Option ((List Int) ⊕ (List Int)) := q02_mix.l2_1.g (fun a0 => (.inl a0)) (fun a0 => (.inr a0)) n m t.1 t.2.1 t.2.2.1 t.2.2.2
def q02_mix.l2_1.pat : St → Option (Int × ((List Int) × ((List Int) × (List Int))))
 | (St.mk [(.int .i64 x0), (.own 0 1), (.rints .i64 x1), (.rints .u64 x2)] [(some (.ints .u64 x3))]) => some (x0, x1, x2, x3)
 | _ => none
def q02_mix.l2_1.shape (t : (Int × ((List Int) × ((List Int) × (List Int))))) : St := (St.mk [(.int .i64 t.1), (.own 0 1), (.rints .i64 t.2.1), (.rints .u64 t.2.2.1)] [(some (.ints .u64 t.2.2.2))])
def q02_mix.l2_1.res : ((List Int) ⊕ (List Int)) → Ex × St
 | (.inl u) => (Prod.mk (.exit 0) (St.mk [(.own 0 1)] [(some (.ints .u64 u))]))
 | (.inr u) => (Prod.mk (.exit 0) (St.mk [(.rints .u64 u)] []))
def q02_mix.l2_1.resK {R : Type} (u : ((List Int) ⊕ (List Int))) (K : Ex → St → Option R) : Option R := match u with
 | (.inl u) => (fun p : Ex × St => K p.1 p.2) (Prod.mk (.exit 0) (St.mk [(.own 0 1)] [(some (.ints .u64 u))]))
 | (.inr u) => (fun p : Ex × St => K p.1 p.2) (Prod.mk (.exit 0) (St.mk [(.rints .u64 u)] []))
def q02_mix.l2_0.r {α : Type} (mk0 : (List Int) → α) (mk1 : (List Int) → α) (n : Nat) (rc : Int → (List Int) → (List Int) → (List Int) → Option α) (rc0 : Int → (List Int) → (List Int) → (List Int) → Option α) (x0 : Int) (x1 : (List Int)) (x2 : (List Int)) (x3 : (List Int)) : Option α :=
  if (decide (x0 < 24)) = true then
   bindO (q02_mix.l6_0.m n n (0, x1, x2, x3, x0, [])) fun r6 =>
    bindO (q02_mix.l11_0.m n n (0, (Prod.fst r6), (Prod.fst r6.2), (Prod.fst (Prod.snd r6).2), (Prod.fst (Prod.snd r6.2).2), (Prod.snd (Prod.snd r6.2).2), ([0, 0, 0, 0, 0, 0, 0, 0, 0, 0, 0, 0, 0, 0, 0, 0, 0, 0, 0, 0, 0, 0, 0, 0, 0] : List Int))) fun r8 =>
     bindO (q02_mix.l20_0.m n n (0, (Prod.fst r8), (Prod.fst r8.2), (Prod.fst (Prod.snd r8).2), [], (Prod.snd (Prod.snd r8).2))) fun r10 =>
      if 0 < (((List.length (Prod.snd (Prod.snd r10).2)) : Nat) : Int) then
       if 0 ≤ (Prod.fst r10.2) then
        if (Prod.fst r10.2) < (((List.length (Prod.fst r10)) : Nat) : Int) then
         if 0 < (((List.length (Prod.snd (Prod.snd r10).2)) : Nat) : Int) then
          rc0 (IntKind.wrap .i64 ((Prod.fst r10.2) + 1)) (Prod.fst (Prod.snd r10).2) (Prod.fst r10) (List.set (Prod.snd (Prod.snd r10).2) 0 (ibits BinOp.xor .u64 (List.getD (Prod.snd (Prod.snd r10).2) 0 0) (List.getD (Prod.fst r10) (Int.toNat (Prod.fst r10.2)) 0)))
         else
          none
        else
         none
       else
        none
      else
       none
  else
   some (mk1 x1)
def q02_mix.l2_0.g {α : Type} (mk0 : (List Int) → α) (mk1 : (List Int) → α) (n : Nat) : Nat → Int → (List Int) → (List Int) → (List Int) → Option α
 | 0, _, _, _, _ => none
 | m + 1, x0, x1, x2, x3 => q02_mix.l2_0.r mk0 mk1 n (fun y0 y1 y2 y3 => q02_mix.l2_0.g mk0 mk1 n m y0 y1 y2 y3) (fun y0 y1 y2 y3 => q02_mix.l2_1.g mk0 mk1 n m y0 y1 y2 y3) x0 x1 x2 x3
def q02_mix.l2_0.m (n m : Nat) (t : (Int × ((List Int) × ((List Int) × (List Int))))) : Option ((List Int) ⊕ (List Int)) := q02_mix.l2_0.g (fun a0 => (.inl a0)) (fun a0 => (.inr a0)) n m t.1 t.2.1 t.2.2.1 t.2.2.2
def q02_mix.l2_0.pat : St → Option (Int × ((List Int) × ((List Int) × (List Int))))
 | (St.mk [(.int .i64 x0), (.rints .u64 x1), (.rints .i64 x2), (.rints .u64 x3)] []) => some (x0, x1, x2, x3)
 | _ => none
def q02_mix.l2_0.shape (t : (Int × ((List Int) × ((List Int) × (List Int))))) : St := (St.mk [(.int .i64 t.1), (.rints .u64 t.2.1), (.rints .i64 t.2.2.1), (.rints .u64 t.2.2.2)] [])
def q02_mix.l2_0.res : ((List Int) ⊕ (List Int)) → Ex × St
 | (.inl u) => (Prod.mk (.exit 0) (St.mk [(.own 0 1)] [(some (.ints .u64 u))]))
 | (.inr u) => (Prod.mk (.exit 0) (St.mk [(.rints .u64 u)] []))
def q02_mix.l2_0.resK {R : Type} (u : ((List Int) ⊕ (List Int))) (K : Ex → St → Option R) : Option R := match u with
 | (.inl u) => (fun p : Ex × St => K p.1 p.2) (Prod.mk (.exit 0) (St.mk [(.own 0 1)] [(some (.ints .u64 u))]))
 | (.inr u) => (fun p : Ex × St => K p.1 p.2) (Prod.mk (.exit 0) (St.mk [(.rints .u64 u)] []))
noncomputable def q02_mix.A (n : Nat) : Ann := ⟨Tryd.f98.ntmps, 0, q02_mix.live, [(0, (.ints .u64)), (1, (.ints .i64)), (2, (.ints .u64)), (8, (.ints .u64)), (10, (.ints .u64)), (14, (.ints .u64))], [(some (.ints .u64))], fun k => match k with
 | 6 => some (.alt q02_mix.l6_0.pat (.mk' q02_mix.l6_0.pat (q02_mix.l6_0.m n n) q02_mix.l6_0.resK) (.mk' q02_mix.l6v1_0.pat (q02_mix.l6v1_0.m n n) q02_mix.l6v1_0.resK))
 | 15 => some (.alt q02_mix.l15_0.pat (.mk' q02_mix.l15_0.pat (q02_mix.l15_0.m n n) q02_mix.l15_0.resK) (.mk' q02_mix.l15v1_0.pat (q02_mix.l15v1_0.m n n) q02_mix.l15v1_0.resK))
 | 11 => some (.alt q02_mix.l11_0.pat (.mk' q02_mix.l11_0.pat (q02_mix.l11_0.m n n) q02_mix.l11_0.resK) (.mk' q02_mix.l11v1_0.pat (q02_mix.l11v1_0.m n n) q02_mix.l11v1_0.resK))
 | 23 => some (.mk' q02_mix.l23_0.pat (q02_mix.l23_0.m n n) q02_mix.l23_0.resK)
 | 20 => some (.mk' q02_mix.l20_0.pat (q02_mix.l20_0.m n n) q02_mix.l20_0.resK)
 | 2 => some (.mk' q02_mix.l2_0.pat (q02_mix.l2_0.m n n) q02_mix.l2_0.resK)
 | _ => none, q02_mix.jlive, lookJ []⟩
noncomputable def q02_mix.b0 : Code := (loopsIn (Tryd.f98.body.getD .skip)).getD 0 .skip
noncomputable def q02_mix.b1 : Code := (loopsIn (Tryd.f98.body.getD .skip)).getD 1 .skip
noncomputable def q02_mix.b2 : Code := (loopsIn (Tryd.f98.body.getD .skip)).getD 2 .skip
noncomputable def q02_mix.b3 : Code := (loopsIn (Tryd.f98.body.getD .skip)).getD 3 .skip
noncomputable def q02_mix.b4 : Code := (loopsIn (Tryd.f98.body.getD .skip)).getD 4 .skip
noncomputable def q02_mix.b5 : Code := (loopsIn (Tryd.f98.body.getD .skip)).getD 5 .skip
def q02_mix.g {α : Type} (mk0 : (List Int) → α) (mk1 : (List Int) → α) (n : Nat) (a0 : (List Int)) (a1 : (List Int)) (a2 : (List Int)) : Option α :=
 bindO (q02_mix.l2_0.m n n (0, a0, a1, a2)) fun r2 => match r2 with
  | (.inl r2) =>
   some (mk0 r2)
  | (.inr r2) =>
   some (mk1 r2)
def q02_mix.m (n : Nat) (t : ((List Int) × ((List Int) × (List Int)))) : Option ((List Int) ⊕ (List Int)) := q02_mix.g (fun a0 => (.inl a0)) (fun a0 => (.inr a0)) n t.1 t.2.1 t.2.2
def q02_mix.pat : List AV → Blks → Option ((List Int) × ((List Int) × (List Int)))
 | [(.rints .u64 a0), (.rints .i64 a1), (.rints .u64 a2)], [] => some (a0, a1, a2)
 | _, _ => none
def q02_mix.shape (t : ((List Int) × ((List Int) × (List Int)))) : List AV × Blks := ([(.rints .u64 t.1), (.rints .i64 t.2.1), (.rints .u64 t.2.2)], [])
def q02_mix.res : ((List Int) ⊕ (List Int)) → AV × Blks
 | (.inl u) => (Prod.mk (.own 0 1) [(some (.ints .u64 u))])
 | (.inr u) => (Prod.mk (.rints .u64 u) [])
def q02_mix.resK {R : Type} (u : ((List Int) ⊕ (List Int))) (K : AV → Blks → Option R) : Option R := match u with
 | (.inl u) => (fun p : AV × Blks => K p.1 p.2) (Prod.mk (.own 0 1) [(some (.ints .u64 u))])
 | (.inr u) => (fun p : AV × Blks => K p.1 p.2) (Prod.mk (.rints .u64 u) [])
def q02_mix.c (n : Nat) : Abs.Callee := .mk' [] [(some (.ints .u64)), (some (.ints .i64)), (some (.ints .u64))] q02_mix.pat (q02_mix.m n) q02_mix.resK
end
end
section
theorem q02_rot.gmap {α β : Type} (h : β → α) (mk0 : Int → β) (n : Nat) (a0 : Int) (a1 : Int) : q02_rot.g (fun a0 => (h (mk0 a0))) n a0 a1 = (q02_rot.g mk0 n a0 a1).map h := by
  unfold q02_rot.g
  exact (ite_map rfl (ite_map (ite_map rfl rfl) rfl))
theorem q02_rot.run (n : Nat) (a0 : Int) (a1 : Int) : runF (q02_rot.C n) (q02_rot.A n) n Tryd.f116 [(.int .u64 a0), (.int .i64 a1)] [] (fun v o => some (v, o)) = q02_rot.g (fun a0 => ((Prod.mk (.int .u64 a0) []) : AV × Blks)) n a0 a1 := by kernel_rfl
theorem q02_rot.call (hmix : Tryd.prog.follows .mixedOrders = true) (n : Nat) (t : (Int × Int)) (u) (h : q02_rot.m n t = some u) : FnC Tryd.prog abiG 116 (q02_rot.shape t).1 (q02_rot.shape t).2 (q02_rot.res u).1 (q02_rot.res u).2 := by
  have hg : ∀ f m, (q02_rot.C n).Γ f = some m → CalleeS Tryd.prog abiG f m := by
    intro f m hm
    unfold q02_rot.C at hm
    simp only at hm
    first
    | (cases hm; done)
    | (split at hm <;> first
    | (cases hm; done))
  have hb : Tryd.f116.body = some (Tryd.f116.body.getD .skip) := by kernel_rfl
  refine runF_calls (C := q02_rot.C n) (A := q02_rot.A n) (n := n) (fn := Tryd.f116) hg hmix Tryd.func116 hb ?_ ?_ (by decide) rfl rfl (by show 2 ≤ Tryd.f116.ntmps; decide) ?_
  · rw [show loopsIn (Tryd.f116.body.getD .skip) = [] by kernel_rfl]
    intro b hb
    cases hb
  · intro a ha m hm
    cases (show none = some m from hm)
  · rw [show runF (q02_rot.C n) (q02_rot.A n) n Tryd.f116 (q02_rot.shape t).1 (q02_rot.shape t).2 (fun v o => some (v, o)) = _ from q02_rot.run n t.1 t.2]
    have e := q02_rot.gmap q02_rot.res (fun a0 => a0) n t.1 t.2
    unfold q02_rot.m at h
    rw [h] at e
    exact e
theorem q02_rot.s (hmix : Tryd.prog.follows .mixedOrders = true) (n : Nat) : CalleeS Tryd.prog abiG 116 (q02_rot.c n) :=
  CalleeS.of (res := q02_rot.res) (shape := q02_rot.shape) (fun R u K => rfl) (fun args lent t h => by
    unfold q02_rot.pat at h
    split at h
    · cases h; rfl
    · cases h) fun t u h => (q02_rot.call hmix n t u h).ok Tryd.func116 (by decide) (by kernel_rfl)
end
section
theorem q02_mix.l6_0.rmap {α β : Type} (h : β → α) (mk0 : (List Int) → (List Int) → (List Int) → Int → (List Int) → β) (n : Nat) (f : Int → (List Int) → (List Int) → (List Int) → Int → (List Int) → Option β)  (x0 : Int) (x1 : (List Int)) (x2 : (List Int)) (x3 : (List Int)) (x4 : Int) (x5 : (List Int)) : q02_mix.l6_0.r (fun a0 a1 a2 a3 a4 => (h (mk0 a0 a1 a2 a3 a4))) n (fun y0 y1 y2 y3 y4 y5 => (f y0 y1 y2 y3 y4 y5).map h) x0 x1 x2 x3 x4 x5 = (q02_mix.l6_0.r mk0 n f x0 x1 x2 x3 x4 x5).map h := by
  unfold q02_mix.l6_0.r
  exact (ite_map (ite_map (ite_map (ite_map (ite_map (ite_map (ite_map (ite_map (ite_map (ite_map (ite_map (ite_map rfl rfl) rfl) rfl) rfl) rfl) rfl) rfl) rfl) rfl) rfl) rfl) rfl)
theorem q02_mix.l6_0.gmap {α β : Type} (h : β → α) (mk0 : (List Int) → (List Int) → (List Int) → Int → (List Int) → β) (n : Nat) : ∀ (m : Nat) (x0 : Int) (x1 : (List Int)) (x2 : (List Int)) (x3 : (List Int)) (x4 : Int) (x5 : (List Int)), q02_mix.l6_0.g (fun a0 a1 a2 a3 a4 => (h (mk0 a0 a1 a2 a3 a4))) n m x0 x1 x2 x3 x4 x5 = (q02_mix.l6_0.g mk0 n m x0 x1 x2 x3 x4 x5).map h
  | 0, _, _, _, _, _, _ => rfl
  | m + 1, x0, x1, x2, x3, x4, x5 => by
    unfold q02_mix.l6_0.g
    rw [← q02_mix.l6_0.rmap]
    congr
    · funext y0 y1 y2 y3 y4 y5; exact q02_mix.l6_0.gmap h mk0 n m y0 y1 y2 y3 y4 y5
theorem q02_mix.l6_0.pat_shape : ∀ st t, q02_mix.l6_0.pat st = some t → st = q02_mix.l6_0.shape t := by
  intro st t h
  unfold q02_mix.l6_0.pat at h
  split at h
  · cases h; rfl
  · cases h
theorem q02_mix.l6_0.round (n : Nat) (rc : St → Option (Ex × St)) (x0 : Int) (x1 : (List Int)) (x2 : (List Int)) (x3 : (List Int)) (x4 : Int) (x5 : (List Int)) : roundOf (q02_mix.C n) (q02_mix.A n) n q02_mix.b1 rc ((St.mk [(.int .i64 x0), (.own 0 1), (.rints .u64 x1), (.rints .i64 x2), (.rints .u64 x3), (.int .i64 x4)] [(some (.ints .u64 x5))])) = q02_mix.l6_0.r (fun a0 a1 a2 a3 a4 => ((Prod.mk (.exit 2) (St.mk [(.own 0 1), (.rints .u64 a0), (.rints .i64 a1), (.rints .u64 a2), (.int .i64 a3)] [(some (.ints .u64 a4))])) : Ex × St)) n (fun y0 y1 y2 y3 y4 y5 => rc ((St.mk [(.int .i64 y0), (.own 0 1), (.rints .u64 y1), (.rints .i64 y2), (.rints .u64 y3), (.int .i64 y4)] [(some (.ints .u64 y5))]))) x0 x1 x2 x3 x4 x5 := by kernel_rfl
theorem q02_mix.l6_0.loop' (n : Nat) : ∀ (m : Nat) (t : (Int × ((List Int) × ((List Int) × ((List Int) × (Int × (List Int))))))), loopOf (roundOf (q02_mix.C n) (q02_mix.A n) n q02_mix.b1) m (q02_mix.l6_0.shape t) = q02_mix.l6_0.g (fun a0 a1 a2 a3 a4 => ((Prod.mk (.exit 2) (St.mk [(.own 0 1), (.rints .u64 a0), (.rints .i64 a1), (.rints .u64 a2), (.int .i64 a3)] [(some (.ints .u64 a4))])) : Ex × St)) n m t.1 t.2.1 t.2.2.1 t.2.2.2.1 t.2.2.2.2.1 t.2.2.2.2.2 :=
  loop_of_round (shape := q02_mix.l6_0.shape) (body := roundOf (q02_mix.C n) (q02_mix.A n) n q02_mix.b1) (g := fun m t => q02_mix.l6_0.g (fun a0 a1 a2 a3 a4 => ((Prod.mk (.exit 2) (St.mk [(.own 0 1), (.rints .u64 a0), (.rints .i64 a1), (.rints .u64 a2), (.int .i64 a3)] [(some (.ints .u64 a4))])) : Ex × St)) n m t.1 t.2.1 t.2.2.1 t.2.2.2.1 t.2.2.2.2.1 t.2.2.2.2.2) (fun t => rfl)
    fun m t ih => (q02_mix.l6_0.round n (loopOf (roundOf (q02_mix.C n) (q02_mix.A n) n q02_mix.b1) m) t.1 t.2.1 t.2.2.1 t.2.2.2.1 t.2.2.2.2.1 t.2.2.2.2.2).trans (congrFun (congrFun (congrFun (congrFun (congrFun (congrFun (congrArg (q02_mix.l6_0.r (fun a0 a1 a2 a3 a4 => ((Prod.mk (.exit 2) (St.mk [(.own 0 1), (.rints .u64 a0), (.rints .i64 a1), (.rints .u64 a2), (.int .i64 a3)] [(some (.ints .u64 a4))])) : Ex × St)) n) (funext fun y0 => funext fun y1 => funext fun y2 => funext fun y3 => funext fun y4 => funext fun y5 => ih (y0, y1, y2, y3, y4, y5))) t.1) t.2.1) t.2.2.1) t.2.2.2.1) t.2.2.2.2.1) t.2.2.2.2.2)
theorem q02_mix.l6_0.loop (n m : Nat) (t : (Int × ((List Int) × ((List Int) × ((List Int) × (Int × (List Int))))))) : loopOf (roundOf (q02_mix.C n) (q02_mix.A n) n q02_mix.b1) m (q02_mix.l6_0.shape t) = (q02_mix.l6_0.m n m t).map q02_mix.l6_0.res :=
  (q02_mix.l6_0.loop' n m t).trans (q02_mix.l6_0.gmap q02_mix.l6_0.res (fun a0 a1 a2 a3 a4 => (a0, a1, a2, a3, a4)) n m t.1 t.2.1 t.2.2.1 t.2.2.2.1 t.2.2.2.2.1 t.2.2.2.2.2)
theorem q02_mix.l15_0.rmap {α β : Type} (h : β → α) (mk0 : Int → (List Int) → (List Int) → (List Int) → Int → (List Int) → (List Int) → β) (n : Nat) (f : Int → Int → (List Int) → Int → (List Int) → (List Int) → Int → (List Int) → (List Int) → Option β)  (x0 : Int) (x1 : Int) (x2 : (List Int)) (x3 : Int) (x4 : (List Int)) (x5 : (List Int)) (x6 : Int) (x7 : (List Int)) (x8 : (List Int)) : q02_mix.l15_0.r (fun a0 a1 a2 a3 a4 a5 a6 => (h (mk0 a0 a1 a2 a3 a4 a5 a6))) n (fun y0 y1 y2 y3 y4 y5 y6 y7 y8 => (f y0 y1 y2 y3 y4 y5 y6 y7 y8).map h) x0 x1 x2 x3 x4 x5 x6 x7 x8 = (q02_mix.l15_0.r mk0 n f x0 x1 x2 x3 x4 x5 x6 x7 x8).map h := by
  unfold q02_mix.l15_0.r
  exact (ite_map (ite_map (ite_map (ite_map (ite_map (bindO_map fun r14 => (ite_map (ite_map rfl rfl) rfl)) rfl) rfl) rfl) rfl) rfl)
theorem q02_mix.l15_0.gmap {α β : Type} (h : β → α) (mk0 : Int → (List Int) → (List Int) → (List Int) → Int → (List Int) → (List Int) → β) (n : Nat) : ∀ (m : Nat) (x0 : Int) (x1 : Int) (x2 : (List Int)) (x3 : Int) (x4 : (List Int)) (x5 : (List Int)) (x6 : Int) (x7 : (List Int)) (x8 : (List Int)), q02_mix.l15_0.g (fun a0 a1 a2 a3 a4 a5 a6 => (h (mk0 a0 a1 a2 a3 a4 a5 a6))) n m x0 x1 x2 x3 x4 x5 x6 x7 x8 = (q02_mix.l15_0.g mk0 n m x0 x1 x2 x3 x4 x5 x6 x7 x8).map h
  | 0, _, _, _, _, _, _, _, _, _ => rfl
  | m + 1, x0, x1, x2, x3, x4, x5, x6, x7, x8 => by
    unfold q02_mix.l15_0.g
    rw [← q02_mix.l15_0.rmap]
    congr
    · funext y0 y1 y2 y3 y4 y5 y6 y7 y8; exact q02_mix.l15_0.gmap h mk0 n m y0 y1 y2 y3 y4 y5 y6 y7 y8
theorem q02_mix.l15_0.pat_shape : ∀ st t, q02_mix.l15_0.pat st = some t → st = q02_mix.l15_0.shape t := by
  intro st t h
  unfold q02_mix.l15_0.pat at h
  split at h
  · cases h; rfl
  · cases h
theorem q02_mix.l15_0.round (n : Nat) (rc : St → Option (Ex × St)) (x0 : Int) (x1 : Int) (x2 : (List Int)) (x3 : Int) (x4 : (List Int)) (x5 : (List Int)) (x6 : Int) (x7 : (List Int)) (x8 : (List Int)) : roundOf (q02_mix.C n) (q02_mix.A n) n q02_mix.b3 rc ((St.mk [(.int .i64 x0), (.own 0 1), (.int .i64 x1), (.rints .u64 x2), (.int .u64 x3), (.rints .i64 x4), (.own 1 1), (.rints .u64 x5), (.int .i64 x6)] [(some (.ints .u64 x7)), (some (.ints .u64 x8))])) = q02_mix.l15_0.r (fun a0 a1 a2 a3 a4 a5 a6 => ((Prod.mk (.exit 6) (St.mk [(.int .i64 a0), (.own 0 1), (.own 1 1), (.rints .u64 a1), (.rints .i64 a2), (.rints .u64 a3), (.int .i64 a4)] [(some (.ints .u64 a5)), (some (.ints .u64 a6))])) : Ex × St)) n (fun y0 y1 y2 y3 y4 y5 y6 y7 y8 => rc ((St.mk [(.int .i64 y0), (.own 0 1), (.int .i64 y1), (.rints .u64 y2), (.int .u64 y3), (.rints .i64 y4), (.own 1 1), (.rints .u64 y5), (.int .i64 y6)] [(some (.ints .u64 y7)), (some (.ints .u64 y8))]))) x0 x1 x2 x3 x4 x5 x6 x7 x8 := by kernel_rfl
theorem q02_mix.l15_0.loop' (n : Nat) : ∀ (m : Nat) (t : (Int × (Int × ((List Int) × (Int × ((List Int) × ((List Int) × (Int × ((List Int) × (List Int)))))))))), loopOf (roundOf (q02_mix.C n) (q02_mix.A n) n q02_mix.b3) m (q02_mix.l15_0.shape t) = q02_mix.l15_0.g (fun a0 a1 a2 a3 a4 a5 a6 => ((Prod.mk (.exit 6) (St.mk [(.int .i64 a0), (.own 0 1), (.own 1 1), (.rints .u64 a1), (.rints .i64 a2), (.rints .u64 a3), (.int .i64 a4)] [(some (.ints .u64 a5)), (some (.ints .u64 a6))])) : Ex × St)) n m t.1 t.2.1 t.2.2.1 t.2.2.2.1 t.2.2.2.2.1 t.2.2.2.2.2.1 t.2.2.2.2.2.2.1 t.2.2.2.2.2.2.2.1 t.2.2.2.2.2.2.2.2 :=
  loop_of_round (shape := q02_mix.l15_0.shape) (body := roundOf (q02_mix.C n) (q02_mix.A n) n q02_mix.b3) (g := fun m t => q02_mix.l15_0.g (fun a0 a1 a2 a3 a4 a5 a6 => ((Prod.mk (.exit 6) (St.mk [(.int .i64 a0), (.own 0 1), (.own 1 1), (.rints .u64 a1), (.rints .i64 a2), (.rints .u64 a3), (.int .i64 a4)] [(some (.ints .u64 a5)), (some (.ints .u64 a6))])) : Ex × St)) n m t.1 t.2.1 t.2.2.1 t.2.2.2.1 t.2.2.2.2.1 t.2.2.2.2.2.1 t.2.2.2.2.2.2.1 t.2.2.2.2.2.2.2.1 t.2.2.2.2.2.2.2.2) (fun t => rfl)
    fun m t ih => (q02_mix.l15_0.round n (loopOf (roundOf (q02_mix.C n) (q02_mix.A n) n q02_mix.b3) m) t.1 t.2.1 t.2.2.1 t.2.2.2.1 t.2.2.2.2.1 t.2.2.2.2.2.1 t.2.2.2.2.2.2.1 t.2.2.2.2.2.2.2.1 t.2.2.2.2.2.2.2.2).trans (congrFun (congrFun (congrFun (congrFun (congrFun (congrFun (congrFun (congrFun (congrFun (congrArg (q02_mix.l15_0.r (fun a0 a1 a2 a3 a4 a5 a6 => ((Prod.mk (.exit 6) (St.mk [(.int .i64 a0), (.own 0 1), (.own 1 1), (.rints .u64 a1), (.rints .i64 a2), (.rints .u64 a3), (.int .i64 a4)] [(some (.ints .u64 a5)), (some (.ints .u64 a6))])) : Ex × St)) n) (funext fun y0 => funext fun y1 => funext fun y2 => funext fun y3 => funext fun y4 => funext fun y5 => funext fun y6 => funext fun y7 => funext fun y8 => ih (y0, y1, y2, y3, y4, y5, y6, y7, y8))) t.1) t.2.1) t.2.2.1) t.2.2.2.1) t.2.2.2.2.1) t.2.2.2.2.2.1) t.2.2.2.2.2.2.1) t.2.2.2.2.2.2.2.1) t.2.2.2.2.2.2.2.2)
theorem q02_mix.l15_0.loop (n m : Nat) (t : (Int × (Int × ((List Int) × (Int × ((List Int) × ((List Int) × (Int × ((List Int) × (List Int)))))))))) : loopOf (roundOf (q02_mix.C n) (q02_mix.A n) n q02_mix.b3) m (q02_mix.l15_0.shape t) = (q02_mix.l15_0.m n m t).map q02_mix.l15_0.res :=
  (q02_mix.l15_0.loop' n m t).trans (q02_mix.l15_0.gmap q02_mix.l15_0.res (fun a0 a1 a2 a3 a4 a5 a6 => (a0, a1, a2, a3, a4, a5, a6)) n m t.1 t.2.1 t.2.2.1 t.2.2.2.1 t.2.2.2.2.1 t.2.2.2.2.2.1 t.2.2.2.2.2.2.1 t.2.2.2.2.2.2.2.1 t.2.2.2.2.2.2.2.2)
theorem q02_mix.l11_0.rmap {α β : Type} (h : β → α) (mk0 : (List Int) → Int → (List Int) → (List Int) → β) (n : Nat) (f : Int → (List Int) → (List Int) → (List Int) → Int → (List Int) → (List Int) → Option β)  (x0 : Int) (x1 : (List Int)) (x2 : (List Int)) (x3 : (List Int)) (x4 : Int) (x5 : (List Int)) (x6 : (List Int)) : q02_mix.l11_0.r (fun a0 a1 a2 a3 => (h (mk0 a0 a1 a2 a3))) n (fun y0 y1 y2 y3 y4 y5 y6 => (f y0 y1 y2 y3 y4 y5 y6).map h) x0 x1 x2 x3 x4 x5 x6 = (q02_mix.l11_0.r mk0 n f x0 x1 x2 x3 x4 x5 x6).map h := by
  unfold q02_mix.l11_0.r
  exact (ite_map (ite_map (ite_map (ite_map (ite_map (bindO_map fun r14 => (bindO_map fun r16 => rfl)) rfl) rfl) rfl) rfl) rfl)
theorem q02_mix.l11_0.gmap {α β : Type} (h : β → α) (mk0 : (List Int) → Int → (List Int) → (List Int) → β) (n : Nat) : ∀ (m : Nat) (x0 : Int) (x1 : (List Int)) (x2 : (List Int)) (x3 : (List Int)) (x4 : Int) (x5 : (List Int)) (x6 : (List Int)), q02_mix.l11_0.g (fun a0 a1 a2 a3 => (h (mk0 a0 a1 a2 a3))) n m x0 x1 x2 x3 x4 x5 x6 = (q02_mix.l11_0.g mk0 n m x0 x1 x2 x3 x4 x5 x6).map h
  | 0, _, _, _, _, _, _, _ => rfl
  | m + 1, x0, x1, x2, x3, x4, x5, x6 => by
    unfold q02_mix.l11_0.g
    rw [← q02_mix.l11_0.rmap]
    congr
    · funext y0 y1 y2 y3 y4 y5 y6; exact q02_mix.l11_0.gmap h mk0 n m y0 y1 y2 y3 y4 y5 y6
theorem q02_mix.l11_0.pat_shape : ∀ st t, q02_mix.l11_0.pat st = some t → st = q02_mix.l11_0.shape t := by
  intro st t h
  unfold q02_mix.l11_0.pat at h
  split at h
  · cases h; rfl
  · cases h
theorem q02_mix.l11_0.round (n : Nat) (rc : St → Option (Ex × St)) (x0 : Int) (x1 : (List Int)) (x2 : (List Int)) (x3 : (List Int)) (x4 : Int) (x5 : (List Int)) (x6 : (List Int)) : roundOf (q02_mix.C n) (q02_mix.A n) n q02_mix.b2 rc ((St.mk [(.int .i64 x0), (.own 0 1), (.own 1 1), (.rints .u64 x1), (.rints .i64 x2), (.rints .u64 x3), (.int .i64 x4)] [(some (.ints .u64 x5)), (some (.ints .u64 x6))])) = q02_mix.l11_0.r (fun a0 a1 a2 a3 => ((Prod.mk (.exit 4) (St.mk [(.own 0 1), (.rints .u64 a0), (.int .i64 a1), (.rints .i64 a2)] [(some (.ints .u64 a3))])) : Ex × St)) n (fun y0 y1 y2 y3 y4 y5 y6 => rc ((St.mk [(.int .i64 y0), (.own 0 1), (.own 1 1), (.rints .u64 y1), (.rints .i64 y2), (.rints .u64 y3), (.int .i64 y4)] [(some (.ints .u64 y5)), (some (.ints .u64 y6))]))) x0 x1 x2 x3 x4 x5 x6 := by kernel_rfl
theorem q02_mix.l11_0.loop' (n : Nat) : ∀ (m : Nat) (t : (Int × ((List Int) × ((List Int) × ((List Int) × (Int × ((List Int) × (List Int)))))))), loopOf (roundOf (q02_mix.C n) (q02_mix.A n) n q02_mix.b2) m (q02_mix.l11_0.shape t) = q02_mix.l11_0.g (fun a0 a1 a2 a3 => ((Prod.mk (.exit 4) (St.mk [(.own 0 1), (.rints .u64 a0), (.int .i64 a1), (.rints .i64 a2)] [(some (.ints .u64 a3))])) : Ex × St)) n m t.1 t.2.1 t.2.2.1 t.2.2.2.1 t.2.2.2.2.1 t.2.2.2.2.2.1 t.2.2.2.2.2.2 :=
  loop_of_round (shape := q02_mix.l11_0.shape) (body := roundOf (q02_mix.C n) (q02_mix.A n) n q02_mix.b2) (g := fun m t => q02_mix.l11_0.g (fun a0 a1 a2 a3 => ((Prod.mk (.exit 4) (St.mk [(.own 0 1), (.rints .u64 a0), (.int .i64 a1), (.rints .i64 a2)] [(some (.ints .u64 a3))])) : Ex × St)) n m t.1 t.2.1 t.2.2.1 t.2.2.2.1 t.2.2.2.2.1 t.2.2.2.2.2.1 t.2.2.2.2.2.2) (fun t => rfl)
    fun m t ih => (q02_mix.l11_0.round n (loopOf (roundOf (q02_mix.C n) (q02_mix.A n) n q02_mix.b2) m) t.1 t.2.1 t.2.2.1 t.2.2.2.1 t.2.2.2.2.1 t.2.2.2.2.2.1 t.2.2.2.2.2.2).trans (congrFun (congrFun (congrFun (congrFun (congrFun (congrFun (congrFun (congrArg (q02_mix.l11_0.r (fun a0 a1 a2 a3 => ((Prod.mk (.exit 4) (St.mk [(.own 0 1), (.rints .u64 a0), (.int .i64 a1), (.rints .i64 a2)] [(some (.ints .u64 a3))])) : Ex × St)) n) (funext fun y0 => funext fun y1 => funext fun y2 => funext fun y3 => funext fun y4 => funext fun y5 => funext fun y6 => ih (y0, y1, y2, y3, y4, y5, y6))) t.1) t.2.1) t.2.2.1) t.2.2.2.1) t.2.2.2.2.1) t.2.2.2.2.2.1) t.2.2.2.2.2.2)
theorem q02_mix.l11_0.loop (n m : Nat) (t : (Int × ((List Int) × ((List Int) × ((List Int) × (Int × ((List Int) × (List Int)))))))) : loopOf (roundOf (q02_mix.C n) (q02_mix.A n) n q02_mix.b2) m (q02_mix.l11_0.shape t) = (q02_mix.l11_0.m n m t).map q02_mix.l11_0.res :=
  (q02_mix.l11_0.loop' n m t).trans (q02_mix.l11_0.gmap q02_mix.l11_0.res (fun a0 a1 a2 a3 => (a0, a1, a2, a3)) n m t.1 t.2.1 t.2.2.1 t.2.2.2.1 t.2.2.2.2.1 t.2.2.2.2.2.1 t.2.2.2.2.2.2)
theorem q02_mix.l23_0.rmap {α β : Type} (h : β → α) (mk0 : Int → (List Int) → Int → (List Int) → (List Int) → (List Int) → β) (n : Nat) (f : Int → Int → (List Int) → Int → (List Int) → (List Int) → (List Int) → Option β)  (x0 : Int) (x1 : Int) (x2 : (List Int)) (x3 : Int) (x4 : (List Int)) (x5 : (List Int)) (x6 : (List Int)) : q02_mix.l23_0.r (fun a0 a1 a2 a3 a4 a5 => (h (mk0 a0 a1 a2 a3 a4 a5))) n (fun y0 y1 y2 y3 y4 y5 y6 => (f y0 y1 y2 y3 y4 y5 y6).map h) x0 x1 x2 x3 x4 x5 x6 = (q02_mix.l23_0.r mk0 n f x0 x1 x2 x3 x4 x5 x6).map h := by
  unfold q02_mix.l23_0.r
  exact (ite_map (ite_map (ite_map (ite_map (ite_map (ite_map (ite_map (ite_map rfl rfl) rfl) rfl) rfl) rfl) rfl) rfl) rfl)
theorem q02_mix.l23_0.gmap {α β : Type} (h : β → α) (mk0 : Int → (List Int) → Int → (List Int) → (List Int) → (List Int) → β) (n : Nat) : ∀ (m : Nat) (x0 : Int) (x1 : Int) (x2 : (List Int)) (x3 : Int) (x4 : (List Int)) (x5 : (List Int)) (x6 : (List Int)), q02_mix.l23_0.g (fun a0 a1 a2 a3 a4 a5 => (h (mk0 a0 a1 a2 a3 a4 a5))) n m x0 x1 x2 x3 x4 x5 x6 = (q02_mix.l23_0.g mk0 n m x0 x1 x2 x3 x4 x5 x6).map h
  | 0, _, _, _, _, _, _, _ => rfl
  | m + 1, x0, x1, x2, x3, x4, x5, x6 => by
    unfold q02_mix.l23_0.g
    rw [← q02_mix.l23_0.rmap]
    congr
    · funext y0 y1 y2 y3 y4 y5 y6; exact q02_mix.l23_0.gmap h mk0 n m y0 y1 y2 y3 y4 y5 y6
theorem q02_mix.l23_0.pat_shape : ∀ st t, q02_mix.l23_0.pat st = some t → st = q02_mix.l23_0.shape t := by
  intro st t h
  unfold q02_mix.l23_0.pat at h
  split at h
  · cases h; rfl
  · cases h
theorem q02_mix.l23_0.round (n : Nat) (rc : St → Option (Ex × St)) (x0 : Int) (x1 : Int) (x2 : (List Int)) (x3 : Int) (x4 : (List Int)) (x5 : (List Int)) (x6 : (List Int)) : roundOf (q02_mix.C n) (q02_mix.A n) n q02_mix.b5 rc ((St.mk [(.int .i64 x0), (.own 0 1), (.own 1 1), (.int .i64 x1), (.rints .u64 x2), (.int .i64 x3), (.rints .i64 x4)] [(some (.ints .u64 x5)), (some (.ints .u64 x6))])) = q02_mix.l23_0.r (fun a0 a1 a2 a3 a4 a5 => ((Prod.mk (.exit 10) (St.mk [(.int .i64 a0), (.own 0 1), (.own 1 1), (.rints .u64 a1), (.int .i64 a2), (.rints .i64 a3)] [(some (.ints .u64 a4)), (some (.ints .u64 a5))])) : Ex × St)) n (fun y0 y1 y2 y3 y4 y5 y6 => rc ((St.mk [(.int .i64 y0), (.own 0 1), (.own 1 1), (.int .i64 y1), (.rints .u64 y2), (.int .i64 y3), (.rints .i64 y4)] [(some (.ints .u64 y5)), (some (.ints .u64 y6))]))) x0 x1 x2 x3 x4 x5 x6 := by kernel_rfl
theorem q02_mix.l23_0.loop' (n : Nat) : ∀ (m : Nat) (t : (Int × (Int × ((List Int) × (Int × ((List Int) × ((List Int) × (List Int)))))))), loopOf (roundOf (q02_mix.C n) (q02_mix.A n) n q02_mix.b5) m (q02_mix.l23_0.shape t) = q02_mix.l23_0.g (fun a0 a1 a2 a3 a4 a5 => ((Prod.mk (.exit 10) (St.mk [(.int .i64 a0), (.own 0 1), (.own 1 1), (.rints .u64 a1), (.int .i64 a2), (.rints .i64 a3)] [(some (.ints .u64 a4)), (some (.ints .u64 a5))])) : Ex × St)) n m t.1 t.2.1 t.2.2.1 t.2.2.2.1 t.2.2.2.2.1 t.2.2.2.2.2.1 t.2.2.2.2.2.2 :=
  loop_of_round (shape := q02_mix.l23_0.shape) (body := roundOf (q02_mix.C n) (q02_mix.A n) n q02_mix.b5) (g := fun m t => q02_mix.l23_0.g (fun a0 a1 a2 a3 a4 a5 => ((Prod.mk (.exit 10) (St.mk [(.int .i64 a0), (.own 0 1), (.own 1 1), (.rints .u64 a1), (.int .i64 a2), (.rints .i64 a3)] [(some (.ints .u64 a4)), (some (.ints .u64 a5))])) : Ex × St)) n m t.1 t.2.1 t.2.2.1 t.2.2.2.1 t.2.2.2.2.1 t.2.2.2.2.2.1 t.2.2.2.2.2.2) (fun t => rfl)
    fun m t ih => (q02_mix.l23_0.round n (loopOf (roundOf (q02_mix.C n) (q02_mix.A n) n q02_mix.b5) m) t.1 t.2.1 t.2.2.1 t.2.2.2.1 t.2.2.2.2.1 t.2.2.2.2.2.1 t.2.2.2.2.2.2).trans (congrFun (congrFun (congrFun (congrFun (congrFun (congrFun (congrFun (congrArg (q02_mix.l23_0.r (fun a0 a1 a2 a3 a4 a5 => ((Prod.mk (.exit 10) (St.mk [(.int .i64 a0), (.own 0 1), (.own 1 1), (.rints .u64 a1), (.int .i64 a2), (.rints .i64 a3)] [(some (.ints .u64 a4)), (some (.ints .u64 a5))])) : Ex × St)) n) (funext fun y0 => funext fun y1 => funext fun y2 => funext fun y3 => funext fun y4 => funext fun y5 => funext fun y6 => ih (y0, y1, y2, y3, y4, y5, y6))) t.1) t.2.1) t.2.2.1) t.2.2.2.1) t.2.2.2.2.1) t.2.2.2.2.2.1) t.2.2.2.2.2.2)
theorem q02_mix.l23_0.loop (n m : Nat) (t : (Int × (Int × ((List Int) × (Int × ((List Int) × ((List Int) × (List Int)))))))) : loopOf (roundOf (q02_mix.C n) (q02_mix.A n) n q02_mix.b5) m (q02_mix.l23_0.shape t) = (q02_mix.l23_0.m n m t).map q02_mix.l23_0.res :=
  (q02_mix.l23_0.loop' n m t).trans (q02_mix.l23_0.gmap q02_mix.l23_0.res (fun a0 a1 a2 a3 a4 a5 => (a0, a1, a2, a3, a4, a5)) n m t.1 t.2.1 t.2.2.1 t.2.2.2.1 t.2.2.2.2.1 t.2.2.2.2.2.1 t.2.2.2.2.2.2)
theorem q02_mix.l20_0.rmap {α β : Type} (h : β → α) (mk0 : (List Int) → Int → (List Int) → (List Int) → β) (n : Nat) (f : Int → (List Int) → Int → (List Int) → (List Int) → (List Int) → Option β)  (x0 : Int) (x1 : (List Int)) (x2 : Int) (x3 : (List Int)) (x4 : (List Int)) (x5 : (List Int)) : q02_mix.l20_0.r (fun a0 a1 a2 a3 => (h (mk0 a0 a1 a2 a3))) n (fun y0 y1 y2 y3 y4 y5 => (f y0 y1 y2 y3 y4 y5).map h) x0 x1 x2 x3 x4 x5 = (q02_mix.l20_0.r mk0 n f x0 x1 x2 x3 x4 x5).map h := by
  unfold q02_mix.l20_0.r
  exact (ite_map (bindO_map fun r6 => rfl) rfl)
theorem q02_mix.l20_0.gmap {α β : Type} (h : β → α) (mk0 : (List Int) → Int → (List Int) → (List Int) → β) (n : Nat) : ∀ (m : Nat) (x0 : Int) (x1 : (List Int)) (x2 : Int) (x3 : (List Int)) (x4 : (List Int)) (x5 : (List Int)), q02_mix.l20_0.g (fun a0 a1 a2 a3 => (h (mk0 a0 a1 a2 a3))) n m x0 x1 x2 x3 x4 x5 = (q02_mix.l20_0.g mk0 n m x0 x1 x2 x3 x4 x5).map h
  | 0, _, _, _, _, _, _ => rfl
  | m + 1, x0, x1, x2, x3, x4, x5 => by
    unfold q02_mix.l20_0.g
    rw [← q02_mix.l20_0.rmap]
    congr
    · funext y0 y1 y2 y3 y4 y5; exact q02_mix.l20_0.gmap h mk0 n m y0 y1 y2 y3 y4 y5
theorem q02_mix.l20_0.pat_shape : ∀ st t, q02_mix.l20_0.pat st = some t → st = q02_mix.l20_0.shape t := by
  intro st t h
  unfold q02_mix.l20_0.pat at h
  split at h
  · cases h; rfl
  · cases h
theorem q02_mix.l20_0.round (n : Nat) (rc : St → Option (Ex × St)) (x0 : Int) (x1 : (List Int)) (x2 : Int) (x3 : (List Int)) (x4 : (List Int)) (x5 : (List Int)) : roundOf (q02_mix.C n) (q02_mix.A n) n q02_mix.b4 rc ((St.mk [(.int .i64 x0), (.own 0 1), (.own 1 1), (.rints .u64 x1), (.int .i64 x2), (.rints .i64 x3)] [(some (.ints .u64 x4)), (some (.ints .u64 x5))])) = q02_mix.l20_0.r (fun a0 a1 a2 a3 => ((Prod.mk (.exit 8) (St.mk [(.own 0 1), (.rints .u64 a0), (.int .i64 a1), (.rints .i64 a2)] [(some (.ints .u64 a3))])) : Ex × St)) n (fun y0 y1 y2 y3 y4 y5 => rc ((St.mk [(.int .i64 y0), (.own 0 1), (.own 1 1), (.rints .u64 y1), (.int .i64 y2), (.rints .i64 y3)] [(some (.ints .u64 y4)), (some (.ints .u64 y5))]))) x0 x1 x2 x3 x4 x5 := by kernel_rfl
theorem q02_mix.l20_0.loop' (n : Nat) : ∀ (m : Nat) (t : (Int × ((List Int) × (Int × ((List Int) × ((List Int) × (List Int))))))), loopOf (roundOf (q02_mix.C n) (q02_mix.A n) n q02_mix.b4) m (q02_mix.l20_0.shape t) = q02_mix.l20_0.g (fun a0 a1 a2 a3 => ((Prod.mk (.exit 8) (St.mk [(.own 0 1), (.rints .u64 a0), (.int .i64 a1), (.rints .i64 a2)] [(some (.ints .u64 a3))])) : Ex × St)) n m t.1 t.2.1 t.2.2.1 t.2.2.2.1 t.2.2.2.2.1 t.2.2.2.2.2 :=
  loop_of_round (shape := q02_mix.l20_0.shape) (body := roundOf (q02_mix.C n) (q02_mix.A n) n q02_mix.b4) (g := fun m t => q02_mix.l20_0.g (fun a0 a1 a2 a3 => ((Prod.mk (.exit 8) (St.mk [(.own 0 1), (.rints .u64 a0), (.int .i64 a1), (.rints .i64 a2)] [(some (.ints .u64 a3))])) : Ex × St)) n m t.1 t.2.1 t.2.2.1 t.2.2.2.1 t.2.2.2.2.1 t.2.2.2.2.2) (fun t => rfl)
    fun m t ih => (q02_mix.l20_0.round n (loopOf (roundOf (q02_mix.C n) (q02_mix.A n) n q02_mix.b4) m) t.1 t.2.1 t.2.2.1 t.2.2.2.1 t.2.2.2.2.1 t.2.2.2.2.2).trans (congrFun (congrFun (congrFun (congrFun (congrFun (congrFun (congrArg (q02_mix.l20_0.r (fun a0 a1 a2 a3 => ((Prod.mk (.exit 8) (St.mk [(.own 0 1), (.rints .u64 a0), (.int .i64 a1), (.rints .i64 a2)] [(some (.ints .u64 a3))])) : Ex × St)) n) (funext fun y0 => funext fun y1 => funext fun y2 => funext fun y3 => funext fun y4 => funext fun y5 => ih (y0, y1, y2, y3, y4, y5))) t.1) t.2.1) t.2.2.1) t.2.2.2.1) t.2.2.2.2.1) t.2.2.2.2.2)
theorem q02_mix.l20_0.loop (n m : Nat) (t : (Int × ((List Int) × (Int × ((List Int) × ((List Int) × (List Int))))))) : loopOf (roundOf (q02_mix.C n) (q02_mix.A n) n q02_mix.b4) m (q02_mix.l20_0.shape t) = (q02_mix.l20_0.m n m t).map q02_mix.l20_0.res :=
  (q02_mix.l20_0.loop' n m t).trans (q02_mix.l20_0.gmap q02_mix.l20_0.res (fun a0 a1 a2 a3 => (a0, a1, a2, a3)) n m t.1 t.2.1 t.2.2.1 t.2.2.2.1 t.2.2.2.2.1 t.2.2.2.2.2)
theorem q02_mix.l6v1_0.rmap {α β : Type} (h : β → α) (mk0 : (List Int) → (List Int) → Int → (List Int) → (List Int) → β) (n : Nat) (f : Int → (List Int) → (List Int) → Int → (List Int) → (List Int) → Option β)  (x0 : Int) (x1 : (List Int)) (x2 : (List Int)) (x3 : Int) (x4 : (List Int)) (x5 : (List Int)) : q02_mix.l6v1_0.r (fun a0 a1 a2 a3 a4 => (h (mk0 a0 a1 a2 a3 a4))) n (fun y0 y1 y2 y3 y4 y5 => (f y0 y1 y2 y3 y4 y5).map h) x0 x1 x2 x3 x4 x5 = (q02_mix.l6v1_0.r mk0 n f x0 x1 x2 x3 x4 x5).map h := by
  unfold q02_mix.l6v1_0.r
  exact (ite_map (ite_map (ite_map (ite_map (ite_map (ite_map (ite_map (ite_map (ite_map (ite_map (ite_map (ite_map rfl rfl) rfl) rfl) rfl) rfl) rfl) rfl) rfl) rfl) rfl) rfl) rfl)
theorem q02_mix.l6v1_0.gmap {α β : Type} (h : β → α) (mk0 : (List Int) → (List Int) → Int → (List Int) → (List Int) → β) (n : Nat) : ∀ (m : Nat) (x0 : Int) (x1 : (List Int)) (x2 : (List Int)) (x3 : Int) (x4 : (List Int)) (x5 : (List Int)), q02_mix.l6v1_0.g (fun a0 a1 a2 a3 a4 => (h (mk0 a0 a1 a2 a3 a4))) n m x0 x1 x2 x3 x4 x5 = (q02_mix.l6v1_0.g mk0 n m x0 x1 x2 x3 x4 x5).map h
  | 0, _, _, _, _, _, _ => rfl
  | m + 1, x0, x1, x2, x3, x4, x5 => by
    unfold q02_mix.l6v1_0.g
    rw [← q02_mix.l6v1_0.rmap]
    congr
    · funext y0 y1 y2 y3 y4 y5; exact q02_mix.l6v1_0.gmap h mk0 n m y0 y1 y2 y3 y4 y5
theorem q02_mix.l6v1_0.pat_shape : ∀ st t, q02_mix.l6v1_0.pat st = some t → st = q02_mix.l6v1_0.shape t := by
  intro st t h
  unfold q02_mix.l6v1_0.pat at h
  split at h
  · cases h; rfl
  · cases h
theorem q02_mix.l6v1_0.round (n : Nat) (rc : St → Option (Ex × St)) (x0 : Int) (x1 : (List Int)) (x2 : (List Int)) (x3 : Int) (x4 : (List Int)) (x5 : (List Int)) : roundOf (q02_mix.C n) (q02_mix.A n) n q02_mix.b1 rc ((St.mk [(.int .i64 x0), (.own 0 1), (.own 1 1), (.rints .i64 x1), (.rints .u64 x2), (.int .i64 x3)] [(some (.ints .u64 x4)), (some (.ints .u64 x5))])) = q02_mix.l6v1_0.r (fun a0 a1 a2 a3 a4 => ((Prod.mk (.exit 2) (St.mk [(.own 0 1), (.own 1 1), (.rints .i64 a0), (.rints .u64 a1), (.int .i64 a2)] [(some (.ints .u64 a3)), (some (.ints .u64 a4))])) : Ex × St)) n (fun y0 y1 y2 y3 y4 y5 => rc ((St.mk [(.int .i64 y0), (.own 0 1), (.own 1 1), (.rints .i64 y1), (.rints .u64 y2), (.int .i64 y3)] [(some (.ints .u64 y4)), (some (.ints .u64 y5))]))) x0 x1 x2 x3 x4 x5 := by kernel_rfl
theorem q02_mix.l6v1_0.loop' (n : Nat) : ∀ (m : Nat) (t : (Int × ((List Int) × ((List Int) × (Int × ((List Int) × (List Int))))))), loopOf (roundOf (q02_mix.C n) (q02_mix.A n) n q02_mix.b1) m (q02_mix.l6v1_0.shape t) = q02_mix.l6v1_0.g (fun a0 a1 a2 a3 a4 => ((Prod.mk (.exit 2) (St.mk [(.own 0 1), (.own 1 1), (.rints .i64 a0), (.rints .u64 a1), (.int .i64 a2)] [(some (.ints .u64 a3)), (some (.ints .u64 a4))])) : Ex × St)) n m t.1 t.2.1 t.2.2.1 t.2.2.2.1 t.2.2.2.2.1 t.2.2.2.2.2 :=
  loop_of_round (shape := q02_mix.l6v1_0.shape) (body := roundOf (q02_mix.C n) (q02_mix.A n) n q02_mix.b1) (g := fun m t => q02_mix.l6v1_0.g (fun a0 a1 a2 a3 a4 => ((Prod.mk (.exit 2) (St.mk [(.own 0 1), (.own 1 1), (.rints .i64 a0), (.rints .u64 a1), (.int .i64 a2)] [(some (.ints .u64 a3)), (some (.ints .u64 a4))])) : Ex × St)) n m t.1 t.2.1 t.2.2.1 t.2.2.2.1 t.2.2.2.2.1 t.2.2.2.2.2) (fun t => rfl)
    fun m t ih => (q02_mix.l6v1_0.round n (loopOf (roundOf (q02_mix.C n) (q02_mix.A n) n q02_mix.b1) m) t.1 t.2.1 t.2.2.1 t.2.2.2.1 t.2.2.2.2.1 t.2.2.2.2.2).trans (congrFun (congrFun (congrFun (congrFun (congrFun (congrFun (congrArg (q02_mix.l6v1_0.r (fun a0 a1 a2 a3 a4 => ((Prod.mk (.exit 2) (St.mk [(.own 0 1), (.own 1 1), (.rints .i64 a0), (.rints .u64 a1), (.int .i64 a2)] [(some (.ints .u64 a3)), (some (.ints .u64 a4))])) : Ex × St)) n) (funext fun y0 => funext fun y1 => funext fun y2 => funext fun y3 => funext fun y4 => funext fun y5 => ih (y0, y1, y2, y3, y4, y5))) t.1) t.2.1) t.2.2.1) t.2.2.2.1) t.2.2.2.2.1) t.2.2.2.2.2)
theorem q02_mix.l6v1_0.loop (n m : Nat) (t : (Int × ((List Int) × ((List Int) × (Int × ((List Int) × (List Int))))))) : loopOf (roundOf (q02_mix.C n) (q02_mix.A n) n q02_mix.b1) m (q02_mix.l6v1_0.shape t) = (q02_mix.l6v1_0.m n m t).map q02_mix.l6v1_0.res :=
  (q02_mix.l6v1_0.loop' n m t).trans (q02_mix.l6v1_0.gmap q02_mix.l6v1_0.res (fun a0 a1 a2 a3 a4 => (a0, a1, a2, a3, a4)) n m t.1 t.2.1 t.2.2.1 t.2.2.2.1 t.2.2.2.2.1 t.2.2.2.2.2)
theorem q02_mix.l15v1_0.rmap {α β : Type} (h : β → α) (mk0 : Int → (List Int) → (List Int) → Int → (List Int) → (List Int) → (List Int) → β) (n : Nat) (f : Int → Int → Int → (List Int) → (List Int) → Int → (List Int) → (List Int) → (List Int) → Option β)  (x0 : Int) (x1 : Int) (x2 : Int) (x3 : (List Int)) (x4 : (List Int)) (x5 : Int) (x6 : (List Int)) (x7 : (List Int)) (x8 : (List Int)) : q02_mix.l15v1_0.r (fun a0 a1 a2 a3 a4 a5 a6 => (h (mk0 a0 a1 a2 a3 a4 a5 a6))) n (fun y0 y1 y2 y3 y4 y5 y6 y7 y8 => (f y0 y1 y2 y3 y4 y5 y6 y7 y8).map h) x0 x1 x2 x3 x4 x5 x6 x7 x8 = (q02_mix.l15v1_0.r mk0 n f x0 x1 x2 x3 x4 x5 x6 x7 x8).map h := by
  unfold q02_mix.l15v1_0.r
  exact (ite_map (ite_map (ite_map (ite_map (ite_map (bindO_map fun r14 => (ite_map (ite_map rfl rfl) rfl)) rfl) rfl) rfl) rfl) rfl)
theorem q02_mix.l15v1_0.gmap {α β : Type} (h : β → α) (mk0 : Int → (List Int) → (List Int) → Int → (List Int) → (List Int) → (List Int) → β) (n : Nat) : ∀ (m : Nat) (x0 : Int) (x1 : Int) (x2 : Int) (x3 : (List Int)) (x4 : (List Int)) (x5 : Int) (x6 : (List Int)) (x7 : (List Int)) (x8 : (List Int)), q02_mix.l15v1_0.g (fun a0 a1 a2 a3 a4 a5 a6 => (h (mk0 a0 a1 a2 a3 a4 a5 a6))) n m x0 x1 x2 x3 x4 x5 x6 x7 x8 = (q02_mix.l15v1_0.g mk0 n m x0 x1 x2 x3 x4 x5 x6 x7 x8).map h
  | 0, _, _, _, _, _, _, _, _, _ => rfl
  | m + 1, x0, x1, x2, x3, x4, x5, x6, x7, x8 => by
    unfold q02_mix.l15v1_0.g
    rw [← q02_mix.l15v1_0.rmap]
    congr
    · funext y0 y1 y2 y3 y4 y5 y6 y7 y8; exact q02_mix.l15v1_0.gmap h mk0 n m y0 y1 y2 y3 y4 y5 y6 y7 y8
theorem q02_mix.l15v1_0.pat_shape : ∀ st t, q02_mix.l15v1_0.pat st = some t → st = q02_mix.l15v1_0.shape t := by
  intro st t h
  unfold q02_mix.l15v1_0.pat at h
  split at h
  · cases h; rfl
  · cases h
theorem q02_mix.l15v1_0.round (n : Nat) (rc : St → Option (Ex × St)) (x0 : Int) (x1 : Int) (x2 : Int) (x3 : (List Int)) (x4 : (List Int)) (x5 : Int) (x6 : (List Int)) (x7 : (List Int)) (x8 : (List Int)) : roundOf (q02_mix.C n) (q02_mix.A n) n q02_mix.b3 rc ((St.mk [(.int .i64 x0), (.own 0 1), (.int .i64 x1), (.own 1 1), (.int .u64 x2), (.rints .i64 x3), (.own 2 1), (.rints .u64 x4), (.int .i64 x5)] [(some (.ints .u64 x6)), (some (.ints .u64 x7)), (some (.ints .u64 x8))])) = q02_mix.l15v1_0.r (fun a0 a1 a2 a3 a4 a5 a6 => ((Prod.mk (.exit 6) (St.mk [(.int .i64 a0), (.own 0 1), (.own 1 1), (.own 2 1), (.rints .i64 a1), (.rints .u64 a2), (.int .i64 a3)] [(some (.ints .u64 a4)), (some (.ints .u64 a5)), (some (.ints .u64 a6))])) : Ex × St)) n (fun y0 y1 y2 y3 y4 y5 y6 y7 y8 => rc ((St.mk [(.int .i64 y0), (.own 0 1), (.int .i64 y1), (.own 1 1), (.int .u64 y2), (.rints .i64 y3), (.own 2 1), (.rints .u64 y4), (.int .i64 y5)] [(some (.ints .u64 y6)), (some (.ints .u64 y7)), (some (.ints .u64 y8))]))) x0 x1 x2 x3 x4 x5 x6 x7 x8 := by kernel_rfl
theorem q02_mix.l15v1_0.loop' (n : Nat) : ∀ (m : Nat) (t : (Int × (Int × (Int × ((List Int) × ((List Int) × (Int × ((List Int) × ((List Int) × (List Int)))))))))), loopOf (roundOf (q02_mix.C n) (q02_mix.A n) n q02_mix.b3) m (q02_mix.l15v1_0.shape t) = q02_mix.l15v1_0.g (fun a0 a1 a2 a3 a4 a5 a6 => ((Prod.mk (.exit 6) (St.mk [(.int .i64 a0), (.own 0 1), (.own 1 1), (.own 2 1), (.rints .i64 a1), (.rints .u64 a2), (.int .i64 a3)] [(some (.ints .u64 a4)), (some (.ints .u64 a5)), (some (.ints .u64 a6))])) : Ex × St)) n m t.1 t.2.1 t.2.2.1 t.2.2.2.1 t.2.2.2.2.1 t.2.2.2.2.2.1 t.2.2.2.2.2.2.1 t.2.2.2.2.2.2.2.1 t.2.2.2.2.2.2.2.2 :=
  loop_of_round (shape := q02_mix.l15v1_0.shape) (body := roundOf (q02_mix.C n) (q02_mix.A n) n q02_mix.b3) (g := fun m t => q02_mix.l15v1_0.g (fun a0 a1 a2 a3 a4 a5 a6 => ((Prod.mk (.exit 6) (St.mk [(.int .i64 a0), (.own 0 1), (.own 1 1), (.own 2 1), (.rints .i64 a1), (.rints .u64 a2), (.int .i64 a3)] [(some (.ints .u64 a4)), (some (.ints .u64 a5)), (some (.ints .u64 a6))])) : Ex × St)) n m t.1 t.2.1 t.2.2.1 t.2.2.2.1 t.2.2.2.2.1 t.2.2.2.2.2.1 t.2.2.2.2.2.2.1 t.2.2.2.2.2.2.2.1 t.2.2.2.2.2.2.2.2) (fun t => rfl)
    fun m t ih => (q02_mix.l15v1_0.round n (loopOf (roundOf (q02_mix.C n) (q02_mix.A n) n q02_mix.b3) m) t.1 t.2.1 t.2.2.1 t.2.2.2.1 t.2.2.2.2.1 t.2.2.2.2.2.1 t.2.2.2.2.2.2.1 t.2.2.2.2.2.2.2.1 t.2.2.2.2.2.2.2.2).trans (congrFun (congrFun (congrFun (congrFun (congrFun (congrFun (congrFun (congrFun (congrFun (congrArg (q02_mix.l15v1_0.r (fun a0 a1 a2 a3 a4 a5 a6 => ((Prod.mk (.exit 6) (St.mk [(.int .i64 a0), (.own 0 1), (.own 1 1), (.own 2 1), (.rints .i64 a1), (.rints .u64 a2), (.int .i64 a3)] [(some (.ints .u64 a4)), (some (.ints .u64 a5)), (some (.ints .u64 a6))])) : Ex × St)) n) (funext fun y0 => funext fun y1 => funext fun y2 => funext fun y3 => funext fun y4 => funext fun y5 => funext fun y6 => funext fun y7 => funext fun y8 => ih (y0, y1, y2, y3, y4, y5, y6, y7, y8))) t.1) t.2.1) t.2.2.1) t.2.2.2.1) t.2.2.2.2.1) t.2.2.2.2.2.1) t.2.2.2.2.2.2.1) t.2.2.2.2.2.2.2.1) t.2.2.2.2.2.2.2.2)
theorem q02_mix.l15v1_0.loop (n m : Nat) (t : (Int × (Int × (Int × ((List Int) × ((List Int) × (Int × ((List Int) × ((List Int) × (List Int)))))))))) : loopOf (roundOf (q02_mix.C n) (q02_mix.A n) n q02_mix.b3) m (q02_mix.l15v1_0.shape t) = (q02_mix.l15v1_0.m n m t).map q02_mix.l15v1_0.res :=
  (q02_mix.l15v1_0.loop' n m t).trans (q02_mix.l15v1_0.gmap q02_mix.l15v1_0.res (fun a0 a1 a2 a3 a4 a5 a6 => (a0, a1, a2, a3, a4, a5, a6)) n m t.1 t.2.1 t.2.2.1 t.2.2.2.1 t.2.2.2.2.1 t.2.2.2.2.2.1 t.2.2.2.2.2.2.1 t.2.2.2.2.2.2.2.1 t.2.2.2.2.2.2.2.2)
theorem q02_mix.l11v1_0.rmap {α β : Type} (h : β → α) (mk0 : (List Int) → Int → (List Int) → (List Int) → β) (n : Nat) (f : Int → (List Int) → (List Int) → Int → (List Int) → (List Int) → (List Int) → Option β)  (x0 : Int) (x1 : (List Int)) (x2 : (List Int)) (x3 : Int) (x4 : (List Int)) (x5 : (List Int)) (x6 : (List Int)) : q02_mix.l11v1_0.r (fun a0 a1 a2 a3 => (h (mk0 a0 a1 a2 a3))) n (fun y0 y1 y2 y3 y4 y5 y6 => (f y0 y1 y2 y3 y4 y5 y6).map h) x0 x1 x2 x3 x4 x5 x6 = (q02_mix.l11v1_0.r mk0 n f x0 x1 x2 x3 x4 x5 x6).map h := by
  unfold q02_mix.l11v1_0.r
  exact (ite_map (ite_map (ite_map (ite_map (ite_map (bindO_map fun r14 => (bindO_map fun r16 => rfl)) rfl) rfl) rfl) rfl) rfl)
theorem q02_mix.l11v1_0.gmap {α β : Type} (h : β → α) (mk0 : (List Int) → Int → (List Int) → (List Int) → β) (n : Nat) : ∀ (m : Nat) (x0 : Int) (x1 : (List Int)) (x2 : (List Int)) (x3 : Int) (x4 : (List Int)) (x5 : (List Int)) (x6 : (List Int)), q02_mix.l11v1_0.g (fun a0 a1 a2 a3 => (h (mk0 a0 a1 a2 a3))) n m x0 x1 x2 x3 x4 x5 x6 = (q02_mix.l11v1_0.g mk0 n m x0 x1 x2 x3 x4 x5 x6).map h
  | 0, _, _, _, _, _, _, _ => rfl
  | m + 1, x0, x1, x2, x3, x4, x5, x6 => by
    unfold q02_mix.l11v1_0.g
    rw [← q02_mix.l11v1_0.rmap]
    congr
    · funext y0 y1 y2 y3 y4 y5 y6; exact q02_mix.l11v1_0.gmap h mk0 n m y0 y1 y2 y3 y4 y5 y6
theorem q02_mix.l11v1_0.pat_shape : ∀ st t, q02_mix.l11v1_0.pat st = some t → st = q02_mix.l11v1_0.shape t := by
  intro st t h
  unfold q02_mix.l11v1_0.pat at h
  split at h
  · cases h; rfl
  · cases h
theorem q02_mix.l11v1_0.round (n : Nat) (rc : St → Option (Ex × St)) (x0 : Int) (x1 : (List Int)) (x2 : (List Int)) (x3 : Int) (x4 : (List Int)) (x5 : (List Int)) (x6 : (List Int)) : roundOf (q02_mix.C n) (q02_mix.A n) n q02_mix.b2 rc ((St.mk [(.int .i64 x0), (.own 0 1), (.own 1 1), (.own 2 1), (.rints .i64 x1), (.rints .u64 x2), (.int .i64 x3)] [(some (.ints .u64 x4)), (some (.ints .u64 x5)), (some (.ints .u64 x6))])) = q02_mix.l11v1_0.r (fun a0 a1 a2 a3 => ((Prod.mk (.exit 4) (St.mk [(.own 0 1), (.rints .u64 a0), (.int .i64 a1), (.rints .i64 a2)] [(some (.ints .u64 a3))])) : Ex × St)) n (fun y0 y1 y2 y3 y4 y5 y6 => rc ((St.mk [(.int .i64 y0), (.own 0 1), (.own 1 1), (.own 2 1), (.rints .i64 y1), (.rints .u64 y2), (.int .i64 y3)] [(some (.ints .u64 y4)), (some (.ints .u64 y5)), (some (.ints .u64 y6))]))) x0 x1 x2 x3 x4 x5 x6 := by kernel_rfl
theorem q02_mix.l11v1_0.loop' (n : Nat) : ∀ (m : Nat) (t : (Int × ((List Int) × ((List Int) × (Int × ((List Int) × ((List Int) × (List Int)))))))), loopOf (roundOf (q02_mix.C n) (q02_mix.A n) n q02_mix.b2) m (q02_mix.l11v1_0.shape t) = q02_mix.l11v1_0.g (fun a0 a1 a2 a3 => ((Prod.mk (.exit 4) (St.mk [(.own 0 1), (.rints .u64 a0), (.int .i64 a1), (.rints .i64 a2)] [(some (.ints .u64 a3))])) : Ex × St)) n m t.1 t.2.1 t.2.2.1 t.2.2.2.1 t.2.2.2.2.1 t.2.2.2.2.2.1 t.2.2.2.2.2.2 :=
  loop_of_round (shape := q02_mix.l11v1_0.shape) (body := roundOf (q02_mix.C n) (q02_mix.A n) n q02_mix.b2) (g := fun m t => q02_mix.l11v1_0.g (fun a0 a1 a2 a3 => ((Prod.mk (.exit 4) (St.mk [(.own 0 1), (.rints .u64 a0), (.int .i64 a1), (.rints .i64 a2)] [(some (.ints .u64 a3))])) : Ex × St)) n m t.1 t.2.1 t.2.2.1 t.2.2.2.1 t.2.2.2.2.1 t.2.2.2.2.2.1 t.2.2.2.2.2.2) (fun t => rfl)
    fun m t ih => (q02_mix.l11v1_0.round n (loopOf (roundOf (q02_mix.C n) (q02_mix.A n) n q02_mix.b2) m) t.1 t.2.1 t.2.2.1 t.2.2.2.1 t.2.2.2.2.1 t.2.2.2.2.2.1 t.2.2.2.2.2.2).trans (congrFun (congrFun (congrFun (congrFun (congrFun (congrFun (congrFun (congrArg (q02_mix.l11v1_0.r (fun a0 a1 a2 a3 => ((Prod.mk (.exit 4) (St.mk [(.own 0 1), (.rints .u64 a0), (.int .i64 a1), (.rints .i64 a2)] [(some (.ints .u64 a3))])) : Ex × St)) n) (funext fun y0 => funext fun y1 => funext fun y2 => funext fun y3 => funext fun y4 => funext fun y5 => funext fun y6 => ih (y0, y1, y2, y3, y4, y5, y6))) t.1) t.2.1) t.2.2.1) t.2.2.2.1) t.2.2.2.2.1) t.2.2.2.2.2.1) t.2.2.2.2.2.2)
theorem q02_mix.l11v1_0.loop (n m : Nat) (t : (Int × ((List Int) × ((List Int) × (Int × ((List Int) × ((List Int) × (List Int)))))))) : loopOf (roundOf (q02_mix.C n) (q02_mix.A n) n q02_mix.b2) m (q02_mix.l11v1_0.shape t) = (q02_mix.l11v1_0.m n m t).map q02_mix.l11v1_0.res :=
  (q02_mix.l11v1_0.loop' n m t).trans (q02_mix.l11v1_0.gmap q02_mix.l11v1_0.res (fun a0 a1 a2 a3 => (a0, a1, a2, a3)) n m t.1 t.2.1 t.2.2.1 t.2.2.2.1 t.2.2.2.2.1 t.2.2.2.2.2.1 t.2.2.2.2.2.2)
theorem q02_mix.l2_1.rmap {α β : Type} (h : β → α) (mk0 : (List Int) → β) (mk1 : (List Int) → β) (n : Nat) (f : Int → (List Int) → (List Int) → (List Int) → Option β)  (x0 : Int) (x1 : (List Int)) (x2 : (List Int)) (x3 : (List Int)) : q02_mix.l2_1.r (fun a0 => (h (mk0 a0))) (fun a0 => (h (mk1 a0))) n (fun y0 y1 y2 y3 => (f y0 y1 y2 y3).map h) x0 x1 x2 x3 = (q02_mix.l2_1.r mk0 mk1 n f x0 x1 x2 x3).map h := by
  unfold q02_mix.l2_1.r
  exact (ite_map (bindO_map fun r6 => (bindO_map fun r8 => (bindO_map fun r10 => (ite_map (ite_map (ite_map (ite_map rfl rfl) rfl) rfl) rfl)))) rfl)
theorem q02_mix.l2_1.gmap {α β : Type} (h : β → α) (mk0 : (List Int) → β) (mk1 : (List Int) → β) (n : Nat) : ∀ (m : Nat) (x0 : Int) (x1 : (List Int)) (x2 : (List Int)) (x3 : (List Int)), q02_mix.l2_1.g (fun a0 => (h (mk0 a0))) (fun a0 => (h (mk1 a0))) n m x0 x1 x2 x3 = (q02_mix.l2_1.g mk0 mk1 n m x0 x1 x2 x3).map h
  | 0, _, _, _, _ => rfl
  | m + 1, x0, x1, x2, x3 => by
    unfold q02_mix.l2_1.g
    rw [← q02_mix.l2_1.rmap]
    congr
    · funext y0 y1 y2 y3; exact q02_mix.l2_1.gmap h mk0 mk1 n m y0 y1 y2 y3
theorem q02_mix.l2_1.pat_shape : ∀ st t, q02_mix.l2_1.pat st = some t → st = q02_mix.l2_1.shape t := by
  intro st t h
  unfold q02_mix.l2_1.pat at h
  split at h
  · cases h; rfl
  · cases h
theorem q02_mix.l2_1.round (n : Nat) (rc : St → Option (Ex × St)) (x0 : Int) (x1 : (List Int)) (x2 : (List Int)) (x3 : (List Int)) : roundOf (q02_mix.C n) (q02_mix.A n) n q02_mix.b0 rc ((St.mk [(.int .i64 x0), (.own 0 1), (.rints .i64 x1), (.rints .u64 x2)] [(some (.ints .u64 x3))])) = q02_mix.l2_1.r (fun a0 => ((Prod.mk (.exit 0) (St.mk [(.own 0 1)] [(some (.ints .u64 a0))])) : Ex × St)) (fun a0 => ((Prod.mk (.exit 0) (St.mk [(.rints .u64 a0)] [])) : Ex × St)) n (fun y0 y1 y2 y3 => rc ((St.mk [(.int .i64 y0), (.own 0 1), (.rints .i64 y1), (.rints .u64 y2)] [(some (.ints .u64 y3))]))) x0 x1 x2 x3 := by kernel_rfl
theorem q02_mix.l2_1.loop' (n : Nat) : ∀ (m : Nat) (t : (Int × ((List Int) × ((List Int) × (List Int))))), loopOf (roundOf (q02_mix.C n) (q02_mix.A n) n q02_mix.b0) m (q02_mix.l2_1.shape t) = q02_mix.l2_1.g (fun a0 => ((Prod.mk (.exit 0) (St.mk [(.own 0 1)] [(some (.ints .u64 a0))])) : Ex × St)) (fun a0 => ((Prod.mk (.exit 0) (St.mk [(.rints .u64 a0)] [])) : Ex × St)) n m t.1 t.2.1 t.2.2.1 t.2.2.2 :=
  loop_of_round (shape := q02_mix.l2_1.shape) (body := roundOf (q02_mix.C n) (q02_mix.A n) n q02_mix.b0) (g := fun m t => q02_mix.l2_1.g (fun a0 => ((Prod.mk (.exit 0) (St.mk [(.own 0 1)] [(some (.ints .u64 a0))])) : Ex × St)) (fun a0 => ((Prod.mk (.exit 0) (St.mk [(.rints .u64 a0)] [])) : Ex × St)) n m t.1 t.2.1 t.2.2.1 t.2.2.2) (fun t => rfl)
    fun m t ih => (q02_mix.l2_1.round n (loopOf (roundOf (q02_mix.C n) (q02_mix.A n) n q02_mix.b0) m) t.1 t.2.1 t.2.2.1 t.2.2.2).trans (congrFun (congrFun (congrFun (congrFun (congrArg (q02_mix.l2_1.r (fun a0 => ((Prod.mk (.exit 0) (St.mk [(.own 0 1)] [(some (.ints .u64 a0))])) : Ex × St)) (fun a0 => ((Prod.mk (.exit 0) (St.mk [(.rints .u64 a0)] [])) : Ex × St)) n) (funext fun y0 => funext fun y1 => funext fun y2 => funext fun y3 => ih (y0, y1, y2, y3))) t.1) t.2.1) t.2.2.1) t.2.2.2)
theorem q02_mix.l2_1.loop (n m : Nat) (t : (Int × ((List Int) × ((List Int) × (List Int))))) : loopOf (roundOf (q02_mix.C n) (q02_mix.A n) n q02_mix.b0) m (q02_mix.l2_1.shape t) = (q02_mix.l2_1.m n m t).map q02_mix.l2_1.res :=
  (q02_mix.l2_1.loop' n m t).trans (q02_mix.l2_1.gmap q02_mix.l2_1.res (fun a0 => (.inl a0)) (fun a0 => (.inr a0)) n m t.1 t.2.1 t.2.2.1 t.2.2.2)
theorem q02_mix.l2_0.rmap {α β : Type} (h : β → α) (mk0 : (List Int) → β) (mk1 : (List Int) → β) (n : Nat) (f : Int → (List Int) → (List Int) → (List Int) → Option β) (f0 : Int → (List Int) → (List Int) → (List Int) → Option β) (x0 : Int) (x1 : (List Int)) (x2 : (List Int)) (x3 : (List Int)) : q02_mix.l2_0.r (fun a0 => (h (mk0 a0))) (fun a0 => (h (mk1 a0))) n (fun y0 y1 y2 y3 => (f y0 y1 y2 y3).map h) (fun y0 y1 y2 y3 => (f0 y0 y1 y2 y3).map h) x0 x1 x2 x3 = (q02_mix.l2_0.r mk0 mk1 n f f0 x0 x1 x2 x3).map h := by
  unfold q02_mix.l2_0.r
  exact (ite_map (bindO_map fun r6 => (bindO_map fun r8 => (bindO_map fun r10 => (ite_map (ite_map (ite_map (ite_map rfl rfl) rfl) rfl) rfl)))) rfl)
theorem q02_mix.l2_0.gmap {α β : Type} (h : β → α) (mk0 : (List Int) → β) (mk1 : (List Int) → β) (n : Nat) : ∀ (m : Nat) (x0 : Int) (x1 : (List Int)) (x2 : (List Int)) (x3 : (List Int)), q02_mix.l2_0.g (fun a0 => (h (mk0 a0))) (fun a0 => (h (mk1 a0))) n m x0 x1 x2 x3 = (q02_mix.l2_0.g mk0 mk1 n m x0 x1 x2 x3).map h
  | 0, _, _, _, _ => rfl
  | m + 1, x0, x1, x2, x3 => by
    unfold q02_mix.l2_0.g
    rw [← q02_mix.l2_0.rmap]
    congr
    · funext y0 y1 y2 y3; exact q02_mix.l2_0.gmap h mk0 mk1 n m y0 y1 y2 y3
    · funext y0 y1 y2 y3; exact q02_mix.l2_1.gmap h mk0 mk1 n m y0 y1 y2 y3
theorem q02_mix.l2_0.pat_shape : ∀ st t, q02_mix.l2_0.pat st = some t → st = q02_mix.l2_0.shape t := by
  intro st t h
  unfold q02_mix.l2_0.pat at h
  split at h
  · cases h; rfl
  · cases h
theorem q02_mix.l2_0.round (n : Nat) (rc : St → Option (Ex × St)) (x0 : Int) (x1 : (List Int)) (x2 : (List Int)) (x3 : (List Int)) : roundOf (q02_mix.C n) (q02_mix.A n) n q02_mix.b0 rc ((St.mk [(.int .i64 x0), (.rints .u64 x1), (.rints .i64 x2), (.rints .u64 x3)] [])) = q02_mix.l2_0.r (fun a0 => ((Prod.mk (.exit 0) (St.mk [(.own 0 1)] [(some (.ints .u64 a0))])) : Ex × St)) (fun a0 => ((Prod.mk (.exit 0) (St.mk [(.rints .u64 a0)] [])) : Ex × St)) n (fun y0 y1 y2 y3 => rc ((St.mk [(.int .i64 y0), (.rints .u64 y1), (.rints .i64 y2), (.rints .u64 y3)] []))) (fun y0 y1 y2 y3 => rc ((St.mk [(.int .i64 y0), (.own 0 1), (.rints .i64 y1), (.rints .u64 y2)] [(some (.ints .u64 y3))]))) x0 x1 x2 x3 := by kernel_rfl
theorem q02_mix.l2_0.loop' (n : Nat) : ∀ (m : Nat) (t : (Int × ((List Int) × ((List Int) × (List Int))))), loopOf (roundOf (q02_mix.C n) (q02_mix.A n) n q02_mix.b0) m (q02_mix.l2_0.shape t) = q02_mix.l2_0.g (fun a0 => ((Prod.mk (.exit 0) (St.mk [(.own 0 1)] [(some (.ints .u64 a0))])) : Ex × St)) (fun a0 => ((Prod.mk (.exit 0) (St.mk [(.rints .u64 a0)] [])) : Ex × St)) n m t.1 t.2.1 t.2.2.1 t.2.2.2 :=
  loop_of_round (shape := q02_mix.l2_0.shape) (body := roundOf (q02_mix.C n) (q02_mix.A n) n q02_mix.b0) (g := fun m t => q02_mix.l2_0.g (fun a0 => ((Prod.mk (.exit 0) (St.mk [(.own 0 1)] [(some (.ints .u64 a0))])) : Ex × St)) (fun a0 => ((Prod.mk (.exit 0) (St.mk [(.rints .u64 a0)] [])) : Ex × St)) n m t.1 t.2.1 t.2.2.1 t.2.2.2) (fun t => rfl)
    fun m t ih => (q02_mix.l2_0.round n (loopOf (roundOf (q02_mix.C n) (q02_mix.A n) n q02_mix.b0) m) t.1 t.2.1 t.2.2.1 t.2.2.2).trans (congrFun (congrFun (congrFun (congrFun (congr (congrArg (q02_mix.l2_0.r (fun a0 => ((Prod.mk (.exit 0) (St.mk [(.own 0 1)] [(some (.ints .u64 a0))])) : Ex × St)) (fun a0 => ((Prod.mk (.exit 0) (St.mk [(.rints .u64 a0)] [])) : Ex × St)) n) (funext fun y0 => funext fun y1 => funext fun y2 => funext fun y3 => ih (y0, y1, y2, y3))) (funext fun y0 => funext fun y1 => funext fun y2 => funext fun y3 => q02_mix.l2_1.loop' n m (y0, y1, y2, y3))) t.1) t.2.1) t.2.2.1) t.2.2.2)
theorem q02_mix.l2_0.loop (n m : Nat) (t : (Int × ((List Int) × ((List Int) × (List Int))))) : loopOf (roundOf (q02_mix.C n) (q02_mix.A n) n q02_mix.b0) m (q02_mix.l2_0.shape t) = (q02_mix.l2_0.m n m t).map q02_mix.l2_0.res :=
  (q02_mix.l2_0.loop' n m t).trans (q02_mix.l2_0.gmap q02_mix.l2_0.res (fun a0 => (.inl a0)) (fun a0 => (.inr a0)) n m t.1 t.2.1 t.2.2.1 t.2.2.2)
theorem q02_mix.gmap {α β : Type} (h : β → α) (mk0 : (List Int) → β) (mk1 : (List Int) → β) (n : Nat) (a0 : (List Int)) (a1 : (List Int)) (a2 : (List Int)) : q02_mix.g (fun a0 => (h (mk0 a0))) (fun a0 => (h (mk1 a0))) n a0 a1 a2 = (q02_mix.g mk0 mk1 n a0 a1 a2).map h := by
  unfold q02_mix.g
  exact (bindO_map fun r2 => match r2 with | (.inl r2) => rfl | (.inr r2) => rfl)
theorem q02_mix.run (n : Nat) (a0 : (List Int)) (a1 : (List Int)) (a2 : (List Int)) : runF (q02_mix.C n) (q02_mix.A n) n Tryd.f98 [(.rints .u64 a0), (.rints .i64 a1), (.rints .u64 a2)] [] (fun v o => some (v, o)) = q02_mix.g (fun a0 => ((Prod.mk (.own 0 1) [(some (.ints .u64 a0))]) : AV × Blks)) (fun a0 => ((Prod.mk (.rints .u64 a0) []) : AV × Blks)) n a0 a1 a2 := by kernel_rfl
theorem q02_mix.call (hmix : Tryd.prog.follows .mixedOrders = true) (n : Nat) (t : ((List Int) × ((List Int) × (List Int)))) (u) (h : q02_mix.m n t = some u) : FnC Tryd.prog abiG 98 (q02_mix.shape t).1 (q02_mix.shape t).2 (q02_mix.res u).1 (q02_mix.res u).2 := by
  have hg : ∀ f m, (q02_mix.C n).Γ f = some m → CalleeS Tryd.prog abiG f m := by
    intro f m hm
    unfold q02_mix.C at hm
    simp only at hm
    first
    | (cases hm; done)
    | (split at hm <;> first
    | (cases hm; exact q02_rot.s hmix n)
    | (cases hm; done))
  have hb : Tryd.f98.body = some (Tryd.f98.body.getD .skip) := by kernel_rfl
  refine runF_calls (C := q02_mix.C n) (A := q02_mix.A n) (n := n) (fn := Tryd.f98) hg hmix Tryd.func98 hb ?_ ?_ (by decide) rfl rfl (by show 3 ≤ Tryd.f98.ntmps; decide) ?_
  · rw [show loopsIn (Tryd.f98.body.getD .skip) = [q02_mix.b0, q02_mix.b1, q02_mix.b2, q02_mix.b3, q02_mix.b4, q02_mix.b5] by kernel_rfl]
    intro b hb m hm
    simp only [List.mem_cons, List.not_mem_nil, or_false] at hb
    rcases hb with rfl | rfl | rfl | rfl | rfl | rfl
    · have e : (q02_mix.A n).loop (key q02_mix.b0) = some (.mk' q02_mix.l2_0.pat (q02_mix.l2_0.m n n) q02_mix.l2_0.resK) := by rw [show key q02_mix.b0 = 2 by kernel_rfl]; rfl
      rw [e] at hm
      cases hm
      exact (LoopS.of (res := q02_mix.l2_0.res) (fun R u K => by rcases u with u | u <;> rfl) q02_mix.l2_0.pat_shape fun t => q02_mix.l2_0.loop n n t)
    · have e : (q02_mix.A n).loop (key q02_mix.b1) = some (.alt q02_mix.l6_0.pat (.mk' q02_mix.l6_0.pat (q02_mix.l6_0.m n n) q02_mix.l6_0.resK) (.mk' q02_mix.l6v1_0.pat (q02_mix.l6v1_0.m n n) q02_mix.l6v1_0.resK)) := by rw [show key q02_mix.b1 = 6 by kernel_rfl]; rfl
      rw [e] at hm
      cases hm
      exact (LoopS.alt (LoopS.of (res := q02_mix.l6_0.res) (fun R u K => rfl) q02_mix.l6_0.pat_shape fun t => q02_mix.l6_0.loop n n t) (LoopS.of (res := q02_mix.l6v1_0.res) (fun R u K => rfl) q02_mix.l6v1_0.pat_shape fun t => q02_mix.l6v1_0.loop n n t))
    · have e : (q02_mix.A n).loop (key q02_mix.b2) = some (.alt q02_mix.l11_0.pat (.mk' q02_mix.l11_0.pat (q02_mix.l11_0.m n n) q02_mix.l11_0.resK) (.mk' q02_mix.l11v1_0.pat (q02_mix.l11v1_0.m n n) q02_mix.l11v1_0.resK)) := by rw [show key q02_mix.b2 = 11 by kernel_rfl]; rfl
      rw [e] at hm
      cases hm
      exact (LoopS.alt (LoopS.of (res := q02_mix.l11_0.res) (fun R u K => rfl) q02_mix.l11_0.pat_shape fun t => q02_mix.l11_0.loop n n t) (LoopS.of (res := q02_mix.l11v1_0.res) (fun R u K => rfl) q02_mix.l11v1_0.pat_shape fun t => q02_mix.l11v1_0.loop n n t))
    · have e : (q02_mix.A n).loop (key q02_mix.b3) = some (.alt q02_mix.l15_0.pat (.mk' q02_mix.l15_0.pat (q02_mix.l15_0.m n n) q02_mix.l15_0.resK) (.mk' q02_mix.l15v1_0.pat (q02_mix.l15v1_0.m n n) q02_mix.l15v1_0.resK)) := by rw [show key q02_mix.b3 = 15 by kernel_rfl]; rfl
      rw [e] at hm
      cases hm
      exact (LoopS.alt (LoopS.of (res := q02_mix.l15_0.res) (fun R u K => rfl) q02_mix.l15_0.pat_shape fun t => q02_mix.l15_0.loop n n t) (LoopS.of (res := q02_mix.l15v1_0.res) (fun R u K => rfl) q02_mix.l15v1_0.pat_shape fun t => q02_mix.l15v1_0.loop n n t))
    · have e : (q02_mix.A n).loop (key q02_mix.b4) = some (.mk' q02_mix.l20_0.pat (q02_mix.l20_0.m n n) q02_mix.l20_0.resK) := by rw [show key q02_mix.b4 = 20 by kernel_rfl]; rfl
      rw [e] at hm
      cases hm
      exact (LoopS.of (res := q02_mix.l20_0.res) (fun R u K => rfl) q02_mix.l20_0.pat_shape fun t => q02_mix.l20_0.loop n n t)
    · have e : (q02_mix.A n).loop (key q02_mix.b5) = some (.mk' q02_mix.l23_0.pat (q02_mix.l23_0.m n n) q02_mix.l23_0.resK) := by rw [show key q02_mix.b5 = 23 by kernel_rfl]; rfl
      rw [e] at hm
      cases hm
      exact (LoopS.of (res := q02_mix.l23_0.res) (fun R u K => rfl) q02_mix.l23_0.pat_shape fun t => q02_mix.l23_0.loop n n t)
  · intro a ha m hm
    cases (show none = some m from hm)
  · rw [show runF (q02_mix.C n) (q02_mix.A n) n Tryd.f98 (q02_mix.shape t).1 (q02_mix.shape t).2 (fun v o => some (v, o)) = _ from q02_mix.run n t.1 t.2.1 t.2.2]
    have e := q02_mix.gmap q02_mix.res (fun a0 => (.inl a0)) (fun a0 => (.inr a0)) n t.1 t.2.1 t.2.2
    unfold q02_mix.m at h
    rw [h] at e
    exact e
theorem q02_mix.s (hmix : Tryd.prog.follows .mixedOrders = true) (n : Nat) : CalleeS Tryd.prog abiG 98 (q02_mix.c n) :=
  CalleeS.of (res := q02_mix.res) (shape := q02_mix.shape) (fun R u K => by rcases u with u | u <;> rfl) (fun args lent t h => by
    unfold q02_mix.pat at h
    split at h
    · cases h; rfl
    · cases h) fun t u h => (q02_mix.call hmix n t u h).ok Tryd.func98 (by decide) (by kernel_rfl)
end
section
noncomputable section
noncomputable def q02_turns.C (n : Nat) : Ctx := ⟨Tryd.prog, abiG, fun f => match f with
 | _ => none, fun _ => false⟩
def q02_turns.live : Nat → List Nat × List Nat := fun k => match k with
 | 2 => ([1], [1])
 | 7 => ([4, 1, 3, 2], [1])
 | _ => ([], [])
def q02_turns.jlive : Nat → List Nat × List Nat := fun k => match k with
 | _ => ([], [])
def q02_turns.l2_0.r {α : Type} (mk0 : (List Int) → α) (n : Nat) (rc : (List Int) → Option α)  (x0 : (List Int)) : Option α :=
  if (decide ((((List.length x0) : Nat) : Int) < 25)) = true then
   if ((((List.length x0) + 1) * 8) ≤ 70368744177664 ∧ ((List.length x0) + 1) ≤ 9223372036854775807) then
    rc (x0 ++ [0])
   else
    none
  else
   some (mk0 x0)
def q02_turns.l2_0.g {α : Type} (mk0 : (List Int) → α) (n : Nat) : Nat → (List Int) → Option α
 | 0, _ => none
 | m + 1, x0 => q02_turns.l2_0.r mk0 n (fun y0 => q02_turns.l2_0.g mk0 n m y0)  x0
def q02_turns.l2_0.m (n m : Nat) (t : (List Int)) : Option (List Int) := q02_turns.l2_0.g (fun a0 => a0) n m t
def q02_turns.l2_0.pat : St → Option (List Int)
 | (St.mk [(.own 0 1)] [(some (.ints .i64 x0))]) => some x0
 | _ => none
def q02_turns.l2_0.shape (t : (List Int)) : St := (St.mk [(.own 0 1)] [(some (.ints .i64 t))])
def q02_turns.l2_0.res : (List Int) → Ex × St
 | u => (Prod.mk (.exit 0) (St.mk [(.own 0 1)] [(some (.ints .i64 u))]))
def q02_turns.l2_0.resK {R : Type} (u : (List Int)) (K : Ex → St → Option R) : Option R := (fun p : Ex × St => K p.1 p.2) (Prod.mk (.exit 0) (St.mk [(.own 0 1)] [(some (.ints .i64 u))]))
def q02_turns.l7_0.r {α : Type} (mk0 : (List Int) → α) (n : Nat) (rc : Int → Int → Int → (List Int) → Option α)  (x0 : Int) (x1 : Int) (x2 : Int) (x3 : (List Int)) : Option α :=
  if (decide (x0 < 24)) = true then
   if 0 ≤ (IntKind.wrap .i64 ((IntKind.wrap .i64 (5 * x1)) + x2)) then
    if (IntKind.wrap .i64 ((IntKind.wrap .i64 (5 * x1)) + x2)) < (((List.length x3) : Nat) : Int) then
     rc (IntKind.wrap .i64 (x0 + 1)) (Int.tmod (IntKind.wrap .i64 ((IntKind.wrap .i64 (2 * x2)) + (IntKind.wrap .i64 (3 * x1)))) 5) x1 (List.set x3 (Int.toNat (IntKind.wrap .i64 ((IntKind.wrap .i64 (5 * x1)) + x2))) (Int.tmod (IntKind.wrap .i64 (Int.tdiv (IntKind.wrap .i64 ((IntKind.wrap .i64 (x0 + 1)) * (IntKind.wrap .i64 (x0 + 2)))) 2)) 64))
    else
     none
   else
    none
  else
   some (mk0 x3)
def q02_turns.l7_0.g {α : Type} (mk0 : (List Int) → α) (n : Nat) : Nat → Int → Int → Int → (List Int) → Option α
 | 0, _, _, _, _ => none
 | m + 1, x0, x1, x2, x3 => q02_turns.l7_0.r mk0 n (fun y0 y1 y2 y3 => q02_turns.l7_0.g mk0 n m y0 y1 y2 y3)  x0 x1 x2 x3
def q02_turns.l7_0.m (n m : Nat) (t : (Int × (Int × (Int × (List Int))))) : Option (List Int) := q02_turns.l7_0.g (fun a0 => a0) n m t.1 t.2.1 t.2.2.1 t.2.2.2
def q02_turns.l7_0.pat : St → Option (Int × (Int × (Int × (List Int))))
 | (St.mk [(.int .i64 x0), (.own 0 1), (.int .i64 x1), (.int .i64 x2)] [(some (.ints .i64 x3))]) => some (x0, x1, x2, x3)
 | _ => none
def q02_turns.l7_0.shape (t : (Int × (Int × (Int × (List Int))))) : St := (St.mk [(.int .i64 t.1), (.own 0 1), (.int .i64 t.2.1), (.int .i64 t.2.2.1)] [(some (.ints .i64 t.2.2.2))])
def q02_turns.l7_0.res : (List Int) → Ex × St
 | u => (Prod.mk (.exit 2) (St.mk [(.own 0 1)] [(some (.ints .i64 u))]))
def q02_turns.l7_0.resK {R : Type} (u : (List Int)) (K : Ex → St → Option R) : Option R := (fun p : Ex × St => K p.1 p.2) (Prod.mk (.exit 2) (St.mk [(.own 0 1)] [(some (.ints .i64 u))]))
noncomputable def q02_turns.A (n : Nat) : Ann := ⟨Tryd.f96.ntmps, 0, q02_turns.live, [(1, (.ints .i64))], [(some (.ints .i64))], fun k => match k with
 | 2 => some (.mk' q02_turns.l2_0.pat (q02_turns.l2_0.m n n) q02_turns.l2_0.resK)
 | 7 => some (.mk' q02_turns.l7_0.pat (q02_turns.l7_0.m n n) q02_turns.l7_0.resK)
 | _ => none, q02_turns.jlive, lookJ []⟩
noncomputable def q02_turns.b0 : Code := (loopsIn (Tryd.f96.body.getD .skip)).getD 0 .skip
noncomputable def q02_turns.b1 : Code := (loopsIn (Tryd.f96.body.getD .skip)).getD 1 .skip
def q02_turns.g {α : Type} (mk0 : (List Int) → α) (n : Nat)  : Option α :=
 bindO (q02_turns.l2_0.m n n [0]) fun r2 =>
  bindO (q02_turns.l7_0.m n n (0, 0, 1, r2)) fun r4 =>
   some (mk0 r4)
def q02_turns.m (n : Nat) (t : Unit) : Option (List Int) := q02_turns.g (fun a0 => a0) n 
def q02_turns.pat : List AV → Blks → Option Unit
 | [], [] => some ()
 | _, _ => none
def q02_turns.shape (t : Unit) : List AV × Blks := ([], [])
def q02_turns.res : (List Int) → AV × Blks
 | u => (Prod.mk (.own 0 1) [(some (.ints .i64 u))])
def q02_turns.resK {R : Type} (u : (List Int)) (K : AV → Blks → Option R) : Option R := (fun p : AV × Blks => K p.1 p.2) (Prod.mk (.own 0 1) [(some (.ints .i64 u))])
def q02_turns.c (n : Nat) : Abs.Callee := .mk' [] [] q02_turns.pat (q02_turns.m n) q02_turns.resK
end
end
section
theorem q02_turns.l2_0.rmap {α β : Type} (h : β → α) (mk0 : (List Int) → β) (n : Nat) (f : (List Int) → Option β)  (x0 : (List Int)) : q02_turns.l2_0.r (fun a0 => (h (mk0 a0))) n (fun y0 => (f y0).map h) x0 = (q02_turns.l2_0.r mk0 n f x0).map h := by
  unfold q02_turns.l2_0.r
  exact (ite_map (ite_map rfl rfl) rfl)
theorem q02_turns.l2_0.gmap {α β : Type} (h : β → α) (mk0 : (List Int) → β) (n : Nat) : ∀ (m : Nat) (x0 : (List Int)), q02_turns.l2_0.g (fun a0 => (h (mk0 a0))) n m x0 = (q02_turns.l2_0.g mk0 n m x0).map h
  | 0, _ => rfl
  | m + 1, x0 => by
    unfold q02_turns.l2_0.g
    rw [← q02_turns.l2_0.rmap]
    congr
    · funext y0; exact q02_turns.l2_0.gmap h mk0 n m y0
theorem q02_turns.l2_0.pat_shape : ∀ st t, q02_turns.l2_0.pat st = some t → st = q02_turns.l2_0.shape t := by
  intro st t h
  unfold q02_turns.l2_0.pat at h
  split at h
  · cases h; rfl
  · cases h
theorem q02_turns.l2_0.round (n : Nat) (rc : St → Option (Ex × St)) (x0 : (List Int)) : roundOf (q02_turns.C n) (q02_turns.A n) n q02_turns.b0 rc ((St.mk [(.own 0 1)] [(some (.ints .i64 x0))])) = q02_turns.l2_0.r (fun a0 => ((Prod.mk (.exit 0) (St.mk [(.own 0 1)] [(some (.ints .i64 a0))])) : Ex × St)) n (fun y0 => rc ((St.mk [(.own 0 1)] [(some (.ints .i64 y0))]))) x0 := by kernel_rfl
theorem q02_turns.l2_0.loop' (n : Nat) : ∀ (m : Nat) (t : (List Int)), loopOf (roundOf (q02_turns.C n) (q02_turns.A n) n q02_turns.b0) m (q02_turns.l2_0.shape t) = q02_turns.l2_0.g (fun a0 => ((Prod.mk (.exit 0) (St.mk [(.own 0 1)] [(some (.ints .i64 a0))])) : Ex × St)) n m t :=
  loop_of_round (shape := q02_turns.l2_0.shape) (body := roundOf (q02_turns.C n) (q02_turns.A n) n q02_turns.b0) (g := fun m t => q02_turns.l2_0.g (fun a0 => ((Prod.mk (.exit 0) (St.mk [(.own 0 1)] [(some (.ints .i64 a0))])) : Ex × St)) n m t) (fun t => rfl)
    fun m t ih => (q02_turns.l2_0.round n (loopOf (roundOf (q02_turns.C n) (q02_turns.A n) n q02_turns.b0) m) t).trans (congrFun (congrArg (q02_turns.l2_0.r (fun a0 => ((Prod.mk (.exit 0) (St.mk [(.own 0 1)] [(some (.ints .i64 a0))])) : Ex × St)) n) (funext fun y0 => ih y0)) t)
theorem q02_turns.l2_0.loop (n m : Nat) (t : (List Int)) : loopOf (roundOf (q02_turns.C n) (q02_turns.A n) n q02_turns.b0) m (q02_turns.l2_0.shape t) = (q02_turns.l2_0.m n m t).map q02_turns.l2_0.res :=
  (q02_turns.l2_0.loop' n m t).trans (q02_turns.l2_0.gmap q02_turns.l2_0.res (fun a0 => a0) n m t)
theorem q02_turns.l7_0.rmap {α β : Type} (h : β → α) (mk0 : (List Int) → β) (n : Nat) (f : Int → Int → Int → (List Int) → Option β)  (x0 : Int) (x1 : Int) (x2 : Int) (x3 : (List Int)) : q02_turns.l7_0.r (fun a0 => (h (mk0 a0))) n (fun y0 y1 y2 y3 => (f y0 y1 y2 y3).map h) x0 x1 x2 x3 = (q02_turns.l7_0.r mk0 n f x0 x1 x2 x3).map h := by
  unfold q02_turns.l7_0.r
  exact (ite_map (ite_map (ite_map rfl rfl) rfl) rfl)
theorem q02_turns.l7_0.gmap {α β : Type} (h : β → α) (mk0 : (List Int) → β) (n : Nat) : ∀ (m : Nat) (x0 : Int) (x1 : Int) (x2 : Int) (x3 : (List Int)), q02_turns.l7_0.g (fun a0 => (h (mk0 a0))) n m x0 x1 x2 x3 = (q02_turns.l7_0.g mk0 n m x0 x1 x2 x3).map h
  | 0, _, _, _, _ => rfl
  | m + 1, x0, x1, x2, x3 => by
    unfold q02_turns.l7_0.g
    rw [← q02_turns.l7_0.rmap]
    congr
    · funext y0 y1 y2 y3; exact q02_turns.l7_0.gmap h mk0 n m y0 y1 y2 y3
theorem q02_turns.l7_0.pat_shape : ∀ st t, q02_turns.l7_0.pat st = some t → st = q02_turns.l7_0.shape t := by
  intro st t h
  unfold q02_turns.l7_0.pat at h
  split at h
  · cases h; rfl
  · cases h
theorem q02_turns.l7_0.round (n : Nat) (rc : St → Option (Ex × St)) (x0 : Int) (x1 : Int) (x2 : Int) (x3 : (List Int)) : roundOf (q02_turns.C n) (q02_turns.A n) n q02_turns.b1 rc ((St.mk [(.int .i64 x0), (.own 0 1), (.int .i64 x1), (.int .i64 x2)] [(some (.ints .i64 x3))])) = q02_turns.l7_0.r (fun a0 => ((Prod.mk (.exit 2) (St.mk [(.own 0 1)] [(some (.ints .i64 a0))])) : Ex × St)) n (fun y0 y1 y2 y3 => rc ((St.mk [(.int .i64 y0), (.own 0 1), (.int .i64 y1), (.int .i64 y2)] [(some (.ints .i64 y3))]))) x0 x1 x2 x3 := by kernel_rfl
theorem q02_turns.l7_0.loop' (n : Nat) : ∀ (m : Nat) (t : (Int × (Int × (Int × (List Int))))), loopOf (roundOf (q02_turns.C n) (q02_turns.A n) n q02_turns.b1) m (q02_turns.l7_0.shape t) = q02_turns.l7_0.g (fun a0 => ((Prod.mk (.exit 2) (St.mk [(.own 0 1)] [(some (.ints .i64 a0))])) : Ex × St)) n m t.1 t.2.1 t.2.2.1 t.2.2.2 :=
  loop_of_round (shape := q02_turns.l7_0.shape) (body := roundOf (q02_turns.C n) (q02_turns.A n) n q02_turns.b1) (g := fun m t => q02_turns.l7_0.g (fun a0 => ((Prod.mk (.exit 2) (St.mk [(.own 0 1)] [(some (.ints .i64 a0))])) : Ex × St)) n m t.1 t.2.1 t.2.2.1 t.2.2.2) (fun t => rfl)
    fun m t ih => (q02_turns.l7_0.round n (loopOf (roundOf (q02_turns.C n) (q02_turns.A n) n q02_turns.b1) m) t.1 t.2.1 t.2.2.1 t.2.2.2).trans (congrFun (congrFun (congrFun (congrFun (congrArg (q02_turns.l7_0.r (fun a0 => ((Prod.mk (.exit 2) (St.mk [(.own 0 1)] [(some (.ints .i64 a0))])) : Ex × St)) n) (funext fun y0 => funext fun y1 => funext fun y2 => funext fun y3 => ih (y0, y1, y2, y3))) t.1) t.2.1) t.2.2.1) t.2.2.2)
theorem q02_turns.l7_0.loop (n m : Nat) (t : (Int × (Int × (Int × (List Int))))) : loopOf (roundOf (q02_turns.C n) (q02_turns.A n) n q02_turns.b1) m (q02_turns.l7_0.shape t) = (q02_turns.l7_0.m n m t).map q02_turns.l7_0.res :=
  (q02_turns.l7_0.loop' n m t).trans (q02_turns.l7_0.gmap q02_turns.l7_0.res (fun a0 => a0) n m t.1 t.2.1 t.2.2.1 t.2.2.2)
theorem q02_turns.gmap {α β : Type} (h : β → α) (mk0 : (List Int) → β) (n : Nat)  : q02_turns.g (fun a0 => (h (mk0 a0))) n  = (q02_turns.g mk0 n ).map h := by
  unfold q02_turns.g
  exact (bindO_map fun r2 => (bindO_map fun r4 => rfl))
theorem q02_turns.run (n : Nat)  : runF (q02_turns.C n) (q02_turns.A n) n Tryd.f96 [] [] (fun v o => some (v, o)) = q02_turns.g (fun a0 => ((Prod.mk (.own 0 1) [(some (.ints .i64 a0))]) : AV × Blks)) n  := by kernel_rfl
theorem q02_turns.call (hmix : Tryd.prog.follows .mixedOrders = true) (n : Nat) (t : Unit) (u) (h : q02_turns.m n t = some u) : FnC Tryd.prog abiG 96 (q02_turns.shape t).1 (q02_turns.shape t).2 (q02_turns.res u).1 (q02_turns.res u).2 := by
  have hg : ∀ f m, (q02_turns.C n).Γ f = some m → CalleeS Tryd.prog abiG f m := by
    intro f m hm
    unfold q02_turns.C at hm
    simp only at hm
    first
    | (cases hm; done)
    | (split at hm <;> first
    | (cases hm; done))
  have hb : Tryd.f96.body = some (Tryd.f96.body.getD .skip) := by kernel_rfl
  refine runF_calls (C := q02_turns.C n) (A := q02_turns.A n) (n := n) (fn := Tryd.f96) hg hmix Tryd.func96 hb ?_ ?_ (by decide) rfl rfl (by show 0 ≤ Tryd.f96.ntmps; decide) ?_
  · rw [show loopsIn (Tryd.f96.body.getD .skip) = [q02_turns.b0, q02_turns.b1] by kernel_rfl]
    intro b hb m hm
    simp only [List.mem_cons, List.not_mem_nil, or_false] at hb
    rcases hb with rfl | rfl
    · have e : (q02_turns.A n).loop (key q02_turns.b0) = some (.mk' q02_turns.l2_0.pat (q02_turns.l2_0.m n n) q02_turns.l2_0.resK) := by rw [show key q02_turns.b0 = 2 by kernel_rfl]; rfl
      rw [e] at hm
      cases hm
      exact (LoopS.of (res := q02_turns.l2_0.res) (fun R u K => rfl) q02_turns.l2_0.pat_shape fun t => q02_turns.l2_0.loop n n t)
    · have e : (q02_turns.A n).loop (key q02_turns.b1) = some (.mk' q02_turns.l7_0.pat (q02_turns.l7_0.m n n) q02_turns.l7_0.resK) := by rw [show key q02_turns.b1 = 7 by kernel_rfl]; rfl
      rw [e] at hm
      cases hm
      exact (LoopS.of (res := q02_turns.l7_0.res) (fun R u K => rfl) q02_turns.l7_0.pat_shape fun t => q02_turns.l7_0.loop n n t)
  · intro a ha m hm
    cases (show none = some m from hm)
  · rw [show runF (q02_turns.C n) (q02_turns.A n) n Tryd.f96 (q02_turns.shape t).1 (q02_turns.shape t).2 (fun v o => some (v, o)) = _ from q02_turns.run n ]
    have e := q02_turns.gmap q02_turns.res (fun a0 => a0) n 
    unfold q02_turns.m at h
    rw [h] at e
    exact e
theorem q02_turns.s (hmix : Tryd.prog.follows .mixedOrders = true) (n : Nat) : CalleeS Tryd.prog abiG 96 (q02_turns.c n) :=
  CalleeS.of (res := q02_turns.res) (shape := q02_turns.shape) (fun R u K => rfl) (fun args lent t h => by
    unfold q02_turns.pat at h
    split at h
    · cases h; rfl
    · cases h) fun t u h => (q02_turns.call hmix n t u h).ok Tryd.func96 (by decide) (by kernel_rfl)
end
section
noncomputable section
noncomputable def q02_keys.C (n : Nat) : Ctx := ⟨Tryd.prog, abiG, fun f => match f with
 | _ => none, fun _ => false⟩
def q02_keys.live : Nat → List Nat × List Nat := fun k => match k with
 | 4 => ([3, 2, 1], [1])
 | 9 => ([6, 2, 4, 5, 1, 3], [1, 4, 3, 2])
 | _ => ([], [])
def q02_keys.jlive : Nat → List Nat × List Nat := fun k => match k with
 | _ => ([], [])
def q02_keys.l9_0.r {α : Type} (mk0 : Int → Int → Int → (List Int) → α) (n : Nat) (rc : Int → Int → Int → Int → Int → (List Int) → Option α)  (x0 : Int) (x1 : Int) (x2 : Int) (x3 : Int) (x4 : Int) (x5 : (List Int)) : Option α :=
  if (decide (x0 < 7)) = true then
   if ((Int.tmod x1 2) == 1) = true then
    if 0 ≤ (IntKind.wrap .u64 (IntKind.wrap .i64 (x3 - 1))) then
     if (decide ((IntKind.wrap .i64 (2 * x1)) ≥ 256)) = true then
      rc (IntKind.wrap .i64 (x0 + 1)) (ibits BinOp.xor .i64 (IntKind.wrap .i64 (2 * x1)) 369) (ibits BinOp.or .u64 x2 (ishl .u64 1 (IntKind.wrap .u64 (IntKind.wrap .i64 (x3 - 1))))) (IntKind.wrap .i64 (2 * x3)) x4 x5
     else
      rc (IntKind.wrap .i64 (x0 + 1)) (IntKind.wrap .i64 (2 * x1)) (ibits BinOp.or .u64 x2 (ishl .u64 1 (IntKind.wrap .u64 (IntKind.wrap .i64 (x3 - 1))))) (IntKind.wrap .i64 (2 * x3)) x4 x5
    else
     none
   else
    if (decide ((IntKind.wrap .i64 (2 * x1)) ≥ 256)) = true then
     rc (IntKind.wrap .i64 (x0 + 1)) (ibits BinOp.xor .i64 (IntKind.wrap .i64 (2 * x1)) 369) x2 (IntKind.wrap .i64 (2 * x3)) x4 x5
    else
     rc (IntKind.wrap .i64 (x0 + 1)) (IntKind.wrap .i64 (2 * x1)) x2 (IntKind.wrap .i64 (2 * x3)) x4 x5
  else
   some (mk0 x2 x4 x1 x5)
def q02_keys.l9_0.g {α : Type} (mk0 : Int → Int → Int → (List Int) → α) (n : Nat) : Nat → Int → Int → Int → Int → Int → (List Int) → Option α
 | 0, _, _, _, _, _, _ => none
 | m + 1, x0, x1, x2, x3, x4, x5 => q02_keys.l9_0.r mk0 n (fun y0 y1 y2 y3 y4 y5 => q02_keys.l9_0.g mk0 n m y0 y1 y2 y3 y4 y5)  x0 x1 x2 x3 x4 x5
def q02_keys.l9_0.m (n m : Nat) (t : (Int × (Int × (Int × (Int × (Int × (List Int))))))) : Option (Int × (Int × (Int × (List Int)))) := q02_keys.l9_0.g (fun a0 a1 a2 a3 => (a0, a1, a2, a3)) n m t.1 t.2.1 t.2.2.1 t.2.2.2.1 t.2.2.2.2.1 t.2.2.2.2.2
def q02_keys.l9_0.pat : St → Option (Int × (Int × (Int × (Int × (Int × (List Int))))))
 | (St.mk [(.int .i64 x0), (.int .i64 x1), (.int .u64 x2), (.int .i64 x3), (.own 0 1), (.int .i64 x4)] [(some (.ints .u64 x5))]) => some (x0, x1, x2, x3, x4, x5)
 | _ => none
def q02_keys.l9_0.shape (t : (Int × (Int × (Int × (Int × (Int × (List Int))))))) : St := (St.mk [(.int .i64 t.1), (.int .i64 t.2.1), (.int .u64 t.2.2.1), (.int .i64 t.2.2.2.1), (.own 0 1), (.int .i64 t.2.2.2.2.1)] [(some (.ints .u64 t.2.2.2.2.2))])
def q02_keys.l9_0.res : (Int × (Int × (Int × (List Int)))) → Ex × St
 | u => (Prod.mk (.exit 2) (St.mk [(.own 0 1), (.int .u64 u.1), (.int .i64 u.2.1), (.int .i64 u.2.2.1)] [(some (.ints .u64 u.2.2.2))]))
def q02_keys.l9_0.resK {R : Type} (u : (Int × (Int × (Int × (List Int))))) (K : Ex → St → Option R) : Option R := (fun p : Ex × St => K p.1 p.2) (Prod.mk (.exit 2) (St.mk [(.own 0 1), (.int .u64 u.1), (.int .i64 u.2.1), (.int .i64 u.2.2.1)] [(some (.ints .u64 u.2.2.2))]))
def q02_keys.l4_0.r {α : Type} (mk0 : (List Int) → α) (n : Nat) (rc : Int → Int → (List Int) → Option α)  (x0 : Int) (x1 : Int) (x2 : (List Int)) : Option α :=
  if (decide (x0 < 24)) = true then
   bindO (q02_keys.l9_0.m n n (0, x1, 0, 1, x0, x2)) fun r6 =>
    if ((((List.length (Prod.snd (Prod.snd r6).2)) + 1) * 8) ≤ 70368744177664 ∧ ((List.length (Prod.snd (Prod.snd r6).2)) + 1) ≤ 9223372036854775807) then
     rc (IntKind.wrap .i64 ((Prod.fst r6.2) + 1)) (Prod.fst (Prod.snd r6).2) ((Prod.snd (Prod.snd r6).2) ++ [(Prod.fst r6)])
    else
     none
  else
   some (mk0 x2)
def q02_keys.l4_0.g {α : Type} (mk0 : (List Int) → α) (n : Nat) : Nat → Int → Int → (List Int) → Option α
 | 0, _, _, _ => none
 | m + 1, x0, x1, x2 => q02_keys.l4_0.r mk0 n (fun y0 y1 y2 => q02_keys.l4_0.g mk0 n m y0 y1 y2)  x0 x1 x2
def q02_keys.l4_0.m (n m : Nat) (t : (Int × (Int × (List Int)))) : Option (List Int) := q02_keys.l4_0.g (fun a0 => a0) n m t.1 t.2.1 t.2.2
def q02_keys.l4_0.pat : St → Option (Int × (Int × (List Int)))
 | (St.mk [(.int .i64 x0), (.int .i64 x1), (.own 0 1)] [(some (.ints .u64 x2))]) => some (x0, x1, x2)
 | _ => none
def q02_keys.l4_0.shape (t : (Int × (Int × (List Int)))) : St := (St.mk [(.int .i64 t.1), (.int .i64 t.2.1), (.own 0 1)] [(some (.ints .u64 t.2.2))])
def q02_keys.l4_0.res : (List Int) → Ex × St
 | u => (Prod.mk (.exit 0) (St.mk [(.own 0 1)] [(some (.ints .u64 u))]))
def q02_keys.l4_0.resK {R : Type} (u : (List Int)) (K : Ex → St → Option R) : Option R := (fun p : Ex × St => K p.1 p.2) (Prod.mk (.exit 0) (St.mk [(.own 0 1)] [(some (.ints .u64 u))]))
noncomputable def q02_keys.A (n : Nat) : Ann := ⟨Tryd.f97.ntmps, 0, q02_keys.live, [(1, (.ints .u64))], [(some (.ints .u64))], fun k => match k with
 | 9 => some (.mk' q02_keys.l9_0.pat (q02_keys.l9_0.m n n) q02_keys.l9_0.resK)
 | 4 => some (.mk' q02_keys.l4_0.pat (q02_keys.l4_0.m n n) q02_keys.l4_0.resK)
 | _ => none, q02_keys.jlive, lookJ []⟩
noncomputable def q02_keys.b0 : Code := (loopsIn (Tryd.f97.body.getD .skip)).getD 0 .skip
noncomputable def q02_keys.b1 : Code := (loopsIn (Tryd.f97.body.getD .skip)).getD 1 .skip
def q02_keys.g {α : Type} (mk0 : (List Int) → α) (n : Nat)  : Option α :=
 bindO (q02_keys.l4_0.m n n (0, 1, [])) fun r2 =>
  some (mk0 r2)
def q02_keys.m (n : Nat) (t : Unit) : Option (List Int) := q02_keys.g (fun a0 => a0) n 
def q02_keys.pat : List AV → Blks → Option Unit
 | [], [] => some ()
 | _, _ => none
def q02_keys.shape (t : Unit) : List AV × Blks := ([], [])
def q02_keys.res : (List Int) → AV × Blks
 | u => (Prod.mk (.own 0 1) [(some (.ints .u64 u))])
def q02_keys.resK {R : Type} (u : (List Int)) (K : AV → Blks → Option R) : Option R := (fun p : AV × Blks => K p.1 p.2) (Prod.mk (.own 0 1) [(some (.ints .u64 u))])
def q02_keys.c (n : Nat) : Abs.Callee := .mk' [] [] q02_keys.pat (q02_keys.m n) q02_keys.resK
end
end
section
theorem q02_keys.l9_0.rmap {α β : Type} (h : β → α) (mk0 : Int → Int → Int → (List Int) → β) (n : Nat) (f : Int → Int → Int → Int → Int → (List Int) → Option β)  (x0 : Int) (x1 : Int) (x2 : Int) (x3 : Int) (x4 : Int) (x5 : (List Int)) : q02_keys.l9_0.r (fun a0 a1 a2 a3 => (h (mk0 a0 a1 a2 a3))) n (fun y0 y1 y2 y3 y4 y5 => (f y0 y1 y2 y3 y4 y5).map h) x0 x1 x2 x3 x4 x5 = (q02_keys.l9_0.r mk0 n f x0 x1 x2 x3 x4 x5).map h := by
  unfold q02_keys.l9_0.r
  exact (ite_map (ite_map (ite_map (ite_map rfl rfl) rfl) (ite_map rfl rfl)) rfl)
theorem q02_keys.l9_0.gmap {α β : Type} (h : β → α) (mk0 : Int → Int → Int → (List Int) → β) (n : Nat) : ∀ (m : Nat) (x0 : Int) (x1 : Int) (x2 : Int) (x3 : Int) (x4 : Int) (x5 : (List Int)), q02_keys.l9_0.g (fun a0 a1 a2 a3 => (h (mk0 a0 a1 a2 a3))) n m x0 x1 x2 x3 x4 x5 = (q02_keys.l9_0.g mk0 n m x0 x1 x2 x3 x4 x5).map h
  | 0, _, _, _, _, _, _ => rfl
  | m + 1, x0, x1, x2, x3, x4, x5 => by
    unfold q02_keys.l9_0.g
    rw [← q02_keys.l9_0.rmap]
    congr
    · funext y0 y1 y2 y3 y4 y5; exact q02_keys.l9_0.gmap h mk0 n m y0 y1 y2 y3 y4 y5
theorem q02_keys.l9_0.pat_shape : ∀ st t, q02_keys.l9_0.pat st = some t → st = q02_keys.l9_0.shape t := by
  intro st t h
  unfold q02_keys.l9_0.pat at h
  split at h
  · cases h; rfl
  · cases h
theorem q02_keys.l9_0.round (n : Nat) (rc : St → Option (Ex × St)) (x0 : Int) (x1 : Int) (x2 : Int) (x3 : Int) (x4 : Int) (x5 : (List Int)) : roundOf (q02_keys.C n) (q02_keys.A n) n q02_keys.b1 rc ((St.mk [(.int .i64 x0), (.int .i64 x1), (.int .u64 x2), (.int .i64 x3), (.own 0 1), (.int .i64 x4)] [(some (.ints .u64 x5))])) = q02_keys.l9_0.r (fun a0 a1 a2 a3 => ((Prod.mk (.exit 2) (St.mk [(.own 0 1), (.int .u64 a0), (.int .i64 a1), (.int .i64 a2)] [(some (.ints .u64 a3))])) : Ex × St)) n (fun y0 y1 y2 y3 y4 y5 => rc ((St.mk [(.int .i64 y0), (.int .i64 y1), (.int .u64 y2), (.int .i64 y3), (.own 0 1), (.int .i64 y4)] [(some (.ints .u64 y5))]))) x0 x1 x2 x3 x4 x5 := by kernel_rfl
theorem q02_keys.l9_0.loop' (n : Nat) : ∀ (m : Nat) (t : (Int × (Int × (Int × (Int × (Int × (List Int))))))), loopOf (roundOf (q02_keys.C n) (q02_keys.A n) n q02_keys.b1) m (q02_keys.l9_0.shape t) = q02_keys.l9_0.g (fun a0 a1 a2 a3 => ((Prod.mk (.exit 2) (St.mk [(.own 0 1), (.int .u64 a0), (.int .i64 a1), (.int .i64 a2)] [(some (.ints .u64 a3))])) : Ex × St)) n m t.1 t.2.1 t.2.2.1 t.2.2.2.1 t.2.2.2.2.1 t.2.2.2.2.2 :=
  loop_of_round (shape := q02_keys.l9_0.shape) (body := roundOf (q02_keys.C n) (q02_keys.A n) n q02_keys.b1) (g := fun m t => q02_keys.l9_0.g (fun a0 a1 a2 a3 => ((Prod.mk (.exit 2) (St.mk [(.own 0 1), (.int .u64 a0), (.int .i64 a1), (.int .i64 a2)] [(some (.ints .u64 a3))])) : Ex × St)) n m t.1 t.2.1 t.2.2.1 t.2.2.2.1 t.2.2.2.2.1 t.2.2.2.2.2) (fun t => rfl)
    fun m t ih => (q02_keys.l9_0.round n (loopOf (roundOf (q02_keys.C n) (q02_keys.A n) n q02_keys.b1) m) t.1 t.2.1 t.2.2.1 t.2.2.2.1 t.2.2.2.2.1 t.2.2.2.2.2).trans (congrFun (congrFun (congrFun (congrFun (congrFun (congrFun (congrArg (q02_keys.l9_0.r (fun a0 a1 a2 a3 => ((Prod.mk (.exit 2) (St.mk [(.own 0 1), (.int .u64 a0), (.int .i64 a1), (.int .i64 a2)] [(some (.ints .u64 a3))])) : Ex × St)) n) (funext fun y0 => funext fun y1 => funext fun y2 => funext fun y3 => funext fun y4 => funext fun y5 => ih (y0, y1, y2, y3, y4, y5))) t.1) t.2.1) t.2.2.1) t.2.2.2.1) t.2.2.2.2.1) t.2.2.2.2.2)
theorem q02_keys.l9_0.loop (n m : Nat) (t : (Int × (Int × (Int × (Int × (Int × (List Int))))))) : loopOf (roundOf (q02_keys.C n) (q02_keys.A n) n q02_keys.b1) m (q02_keys.l9_0.shape t) = (q02_keys.l9_0.m n m t).map q02_keys.l9_0.res :=
  (q02_keys.l9_0.loop' n m t).trans (q02_keys.l9_0.gmap q02_keys.l9_0.res (fun a0 a1 a2 a3 => (a0, a1, a2, a3)) n m t.1 t.2.1 t.2.2.1 t.2.2.2.1 t.2.2.2.2.1 t.2.2.2.2.2)
theorem q02_keys.l4_0.rmap {α β : Type} (h : β → α) (mk0 : (List Int) → β) (n : Nat) (f : Int → Int → (List Int) → Option β)  (x0 : Int) (x1 : Int) (x2 : (List Int)) : q02_keys.l4_0.r (fun a0 => (h (mk0 a0))) n (fun y0 y1 y2 => (f y0 y1 y2).map h) x0 x1 x2 = (q02_keys.l4_0.r mk0 n f x0 x1 x2).map h := by
  unfold q02_keys.l4_0.r
  exact (ite_map (bindO_map fun r6 => (ite_map rfl rfl)) rfl)
theorem q02_keys.l4_0.gmap {α β : Type} (h : β → α) (mk0 : (List Int) → β) (n : Nat) : ∀ (m : Nat) (x0 : Int) (x1 : Int) (x2 : (List Int)), q02_keys.l4_0.g (fun a0 => (h (mk0 a0))) n m x0 x1 x2 = (q02_keys.l4_0.g mk0 n m x0 x1 x2).map h
  | 0, _, _, _ => rfl
  | m + 1, x0, x1, x2 => by
    unfold q02_keys.l4_0.g
    rw [← q02_keys.l4_0.rmap]
    congr
    · funext y0 y1 y2; exact q02_keys.l4_0.gmap h mk0 n m y0 y1 y2
theorem q02_keys.l4_0.pat_shape : ∀ st t, q02_keys.l4_0.pat st = some t → st = q02_keys.l4_0.shape t := by
  intro st t h
  unfold q02_keys.l4_0.pat at h
  split at h
  · cases h; rfl
  · cases h
theorem q02_keys.l4_0.round (n : Nat) (rc : St → Option (Ex × St)) (x0 : Int) (x1 : Int) (x2 : (List Int)) : roundOf (q02_keys.C n) (q02_keys.A n) n q02_keys.b0 rc ((St.mk [(.int .i64 x0), (.int .i64 x1), (.own 0 1)] [(some (.ints .u64 x2))])) = q02_keys.l4_0.r (fun a0 => ((Prod.mk (.exit 0) (St.mk [(.own 0 1)] [(some (.ints .u64 a0))])) : Ex × St)) n (fun y0 y1 y2 => rc ((St.mk [(.int .i64 y0), (.int .i64 y1), (.own 0 1)] [(some (.ints .u64 y2))]))) x0 x1 x2 := by kernel_rfl
theorem q02_keys.l4_0.loop' (n : Nat) : ∀ (m : Nat) (t : (Int × (Int × (List Int)))), loopOf (roundOf (q02_keys.C n) (q02_keys.A n) n q02_keys.b0) m (q02_keys.l4_0.shape t) = q02_keys.l4_0.g (fun a0 => ((Prod.mk (.exit 0) (St.mk [(.own 0 1)] [(some (.ints .u64 a0))])) : Ex × St)) n m t.1 t.2.1 t.2.2 :=
  loop_of_round (shape := q02_keys.l4_0.shape) (body := roundOf (q02_keys.C n) (q02_keys.A n) n q02_keys.b0) (g := fun m t => q02_keys.l4_0.g (fun a0 => ((Prod.mk (.exit 0) (St.mk [(.own 0 1)] [(some (.ints .u64 a0))])) : Ex × St)) n m t.1 t.2.1 t.2.2) (fun t => rfl)
    fun m t ih => (q02_keys.l4_0.round n (loopOf (roundOf (q02_keys.C n) (q02_keys.A n) n q02_keys.b0) m) t.1 t.2.1 t.2.2).trans (congrFun (congrFun (congrFun (congrArg (q02_keys.l4_0.r (fun a0 => ((Prod.mk (.exit 0) (St.mk [(.own 0 1)] [(some (.ints .u64 a0))])) : Ex × St)) n) (funext fun y0 => funext fun y1 => funext fun y2 => ih (y0, y1, y2))) t.1) t.2.1) t.2.2)
theorem q02_keys.l4_0.loop (n m : Nat) (t : (Int × (Int × (List Int)))) : loopOf (roundOf (q02_keys.C n) (q02_keys.A n) n q02_keys.b0) m (q02_keys.l4_0.shape t) = (q02_keys.l4_0.m n m t).map q02_keys.l4_0.res :=
  (q02_keys.l4_0.loop' n m t).trans (q02_keys.l4_0.gmap q02_keys.l4_0.res (fun a0 => a0) n m t.1 t.2.1 t.2.2)
theorem q02_keys.gmap {α β : Type} (h : β → α) (mk0 : (List Int) → β) (n : Nat)  : q02_keys.g (fun a0 => (h (mk0 a0))) n  = (q02_keys.g mk0 n ).map h := by
  unfold q02_keys.g
  exact (bindO_map fun r2 => rfl)
theorem q02_keys.run (n : Nat)  : runF (q02_keys.C n) (q02_keys.A n) n Tryd.f97 [] [] (fun v o => some (v, o)) = q02_keys.g (fun a0 => ((Prod.mk (.own 0 1) [(some (.ints .u64 a0))]) : AV × Blks)) n  := by kernel_rfl
theorem q02_keys.call (hmix : Tryd.prog.follows .mixedOrders = true) (n : Nat) (t : Unit) (u) (h : q02_keys.m n t = some u) : FnC Tryd.prog abiG 97 (q02_keys.shape t).1 (q02_keys.shape t).2 (q02_keys.res u).1 (q02_keys.res u).2 := by
  have hg : ∀ f m, (q02_keys.C n).Γ f = some m → CalleeS Tryd.prog abiG f m := by
    intro f m hm
    unfold q02_keys.C at hm
    simp only at hm
    first
    | (cases hm; done)
    | (split at hm <;> first
    | (cases hm; done))
  have hb : Tryd.f97.body = some (Tryd.f97.body.getD .skip) := by kernel_rfl
  refine runF_calls (C := q02_keys.C n) (A := q02_keys.A n) (n := n) (fn := Tryd.f97) hg hmix Tryd.func97 hb ?_ ?_ (by decide) rfl rfl (by show 0 ≤ Tryd.f97.ntmps; decide) ?_
  · rw [show loopsIn (Tryd.f97.body.getD .skip) = [q02_keys.b0, q02_keys.b1] by kernel_rfl]
    intro b hb m hm
    simp only [List.mem_cons, List.not_mem_nil, or_false] at hb
    rcases hb with rfl | rfl
    · have e : (q02_keys.A n).loop (key q02_keys.b0) = some (.mk' q02_keys.l4_0.pat (q02_keys.l4_0.m n n) q02_keys.l4_0.resK) := by rw [show key q02_keys.b0 = 4 by kernel_rfl]; rfl
      rw [e] at hm
      cases hm
      exact (LoopS.of (res := q02_keys.l4_0.res) (fun R u K => rfl) q02_keys.l4_0.pat_shape fun t => q02_keys.l4_0.loop n n t)
    · have e : (q02_keys.A n).loop (key q02_keys.b1) = some (.mk' q02_keys.l9_0.pat (q02_keys.l9_0.m n n) q02_keys.l9_0.resK) := by rw [show key q02_keys.b1 = 9 by kernel_rfl]; rfl
      rw [e] at hm
      cases hm
      exact (LoopS.of (res := q02_keys.l9_0.res) (fun R u K => rfl) q02_keys.l9_0.pat_shape fun t => q02_keys.l9_0.loop n n t)
  · intro a ha m hm
    cases (show none = some m from hm)
  · rw [show runF (q02_keys.C n) (q02_keys.A n) n Tryd.f97 (q02_keys.shape t).1 (q02_keys.shape t).2 (fun v o => some (v, o)) = _ from q02_keys.run n ]
    have e := q02_keys.gmap q02_keys.res (fun a0 => a0) n 
    unfold q02_keys.m at h
    rw [h] at e
    exact e
theorem q02_keys.s (hmix : Tryd.prog.follows .mixedOrders = true) (n : Nat) : CalleeS Tryd.prog abiG 97 (q02_keys.c n) :=
  CalleeS.of (res := q02_keys.res) (shape := q02_keys.shape) (fun R u K => rfl) (fun args lent t h => by
    unfold q02_keys.pat at h
    split at h
    · cases h; rfl
    · cases h) fun t u h => (q02_keys.call hmix n t u h).ok Tryd.func97 (by decide) (by kernel_rfl)
end
section
noncomputable section
noncomputable def keccak_state_take.C (n : Nat) : Ctx := ⟨Tryd.prog, abiG, fun f => match f with
 | 111 => some (keccak_state_mix.c n)
 | _ => none, fun _ => false⟩
def keccak_state_take.live : Nat → List Nat × List Nat := fun k => match k with
 | 1 => ([8, 7, 6, 0], [0])
 | _ => ([], [])
def keccak_state_take.jlive : Nat → List Nat × List Nat := fun k => match k with
 | _ => ([], [])
def keccak_state_take.l1_0.r {α : Type} (mk0 : (List Int) → α) (n : Nat) (rc : Int → Int → (List Int) → (List Int) → Option α)  (x0 : Int) (x1 : Int) (x2 : (List Int)) (x3 : (List Int)) : Option α :=
  if (decide (x0 < x1)) = true then
   if 0 ≤ x0 then
    if x0 < (((List.length x2) : Nat) : Int) then
     if 0 ≤ (IntKind.wrap .i64 (Int.tdiv x0 8)) then
      if (IntKind.wrap .i64 (Int.tdiv x0 8)) < 25 then
       if 0 ≤ (IntKind.wrap .i64 ((Int.tmod x0 8) * 8)) then
        if 0 ≤ (IntKind.wrap .i64 (Int.tdiv x0 8)) then
         if (IntKind.wrap .i64 (Int.tdiv x0 8)) < 25 then
          rc (IntKind.wrap .i64 (x0 + 1)) x1 x2 (List.set x3 (Int.toNat (IntKind.wrap .i64 (Int.tdiv x0 8))) (ibits BinOp.xor .u64 (List.getD x3 (Int.toNat (IntKind.wrap .i64 (Int.tdiv x0 8))) 0) (ishl .u64 (IntKind.wrap .u64 (List.getD x2 (Int.toNat x0) 0)) (IntKind.wrap .i64 ((Int.tmod x0 8) * 8)))))
         else
          none
        else
         none
       else
        none
      else
       none
     else
      none
    else
     none
   else
    none
  else
   some (mk0 x3)
def keccak_state_take.l1_0.g {α : Type} (mk0 : (List Int) → α) (n : Nat) : Nat → Int → Int → (List Int) → (List Int) → Option α
 | 0, _, _, _, _ => none
 | m + 1, x0, x1, x2, x3 => keccak_state_take.l1_0.r mk0 n (fun y0 y1 y2 y3 => keccak_state_take.l1_0.g mk0 n m y0 y1 y2 y3)  x0 x1 x2 x3
def keccak_state_take.l1_0.m (n m : Nat) (t : (Int × (Int × ((List Int) × (List Int))))) : Option (List Int) := keccak_state_take.l1_0.g (fun a0 => a0) n m t.1 t.2.1 t.2.2.1 t.2.2.2
def keccak_state_take.l1_0.pat : St → Option (Int × (Int × ((List Int) × (List Int))))
 | (St.mk [(.int .i64 x0), (.int .i64 x1), (.rints .u8 x2), (.ptr 0 [])] [(some (.var (.ints .u64 25 x3)))]) => some (x0, x1, x2, x3)
 | _ => none
def keccak_state_take.l1_0.shape (t : (Int × (Int × ((List Int) × (List Int))))) : St := (St.mk [(.int .i64 t.1), (.int .i64 t.2.1), (.rints .u8 t.2.2.1), (.ptr 0 [])] [(some (.var (.ints .u64 25 t.2.2.2)))])
def keccak_state_take.l1_0.res : (List Int) → Ex × St
 | u => (Prod.mk (.exit 0) (St.mk [(.ptr 0 [])] [(some (.var (.ints .u64 25 u)))]))
def keccak_state_take.l1_0.resK {R : Type} (u : (List Int)) (K : Ex → St → Option R) : Option R := (fun p : Ex × St => K p.1 p.2) (Prod.mk (.exit 0) (St.mk [(.ptr 0 [])] [(some (.var (.ints .u64 25 u)))]))
noncomputable def keccak_state_take.A (n : Nat) : Ann := ⟨Tryd.f93.ntmps, 1, keccak_state_take.live, [(6, (.ints .u8))], [], fun k => match k with
 | 1 => some (.mk' keccak_state_take.l1_0.pat (keccak_state_take.l1_0.m n n) keccak_state_take.l1_0.resK)
 | _ => none, keccak_state_take.jlive, lookJ []⟩
noncomputable def keccak_state_take.b0 : Code := (loopsIn (Tryd.f93.body.getD .skip)).getD 0 .skip
def keccak_state_take.g {α : Type} (mk0 : (List Int) → α) (n : Nat) (b : (List Int)) (s : (List Int)) : Option α :=
 bindO (keccak_state_take.l1_0.m n n (0, (((List.length b) : Nat) : Int), b, s)) fun r2 =>
  bindO (keccak_state_mix.m n r2) fun r4 =>
   some (mk0 r4)
def keccak_state_take.m (n : Nat) (t : ((List Int) × (List Int))) : Option (List Int) := keccak_state_take.g (fun a0 => a0) n t.1 t.2
def keccak_state_take.pat : List AV → Blks → Option ((List Int) × (List Int))
 | [(.ptr 0 []), (.rints .u8 b)], [(some (.var (.ints .u64 25 s)))] => some (b, s)
 | _, _ => none
def keccak_state_take.shape (t : ((List Int) × (List Int))) : List AV × Blks := ([(.ptr 0 []), (.rints .u8 t.1)], [(some (.var (.ints .u64 25 t.2)))])
def keccak_state_take.res : (List Int) → AV × Blks
 | u => (Prod.mk (.tup []) [(some (.var (.ints .u64 25 u)))])
def keccak_state_take.resK {R : Type} (u : (List Int)) (K : AV → Blks → Option R) : Option R := (fun p : AV × Blks => K p.1 p.2) (Prod.mk (.tup []) [(some (.var (.ints .u64 25 u)))])
def keccak_state_take.c (n : Nat) : Abs.Callee := .mk' [true, false] [none, (some (.ints .u8))] keccak_state_take.pat (keccak_state_take.m n) keccak_state_take.resK
end
end
