/- What the program's functions compute, as plain functions, each with its proof: the function does just that. Condition: the plain function has an answer. -/
import Derived.Test.YtddcgjbaiojmcaaDoorAbsL7
import Derived.Test.YtddcgjbaiojmcaaDoorProg
import Derived.Test.YtddcgjbaiojmcaaDoorFnRlpBack1
set_option linter.unusedVariables false
set_option linter.unusedSimpArgs false
set_option maxRecDepth 100000
open Go Go.Abs Go.Proofs
section
noncomputable section
def Fo.pat : List AV → Blks → Option (Bool × ((List Int) × ((List AV) × Int)))
 | [(.agg [(.bool a0_0), (.rints .u8 a0_1), (.robjs 25 3 a0_2)]), (.int .i64 a1)], [] => some (a0_0, a0_1, a0_2, a1)
 | _, _ => none
def Fo.shape (t : (Bool × ((List Int) × ((List AV) × Int)))) : List AV × Blks := ([(.agg [(.bool t.1), (.rints .u8 t.2.1), (.robjs 25 3 t.2.2.1)]), (.int .i64 t.2.2.2)], [])
def Fo.res : ((Bool × (List Int)) ⊕ ((Bool × (List AV)) ⊕ Bool)) → AV × Blks
 | (.inl u) => (Prod.mk (.agg [(.bool u.1), (.own 0 1), .snil]) [(some (.ints .u8 u.2))])
 | (.inr (.inl u)) => (Prod.mk (.agg [(.bool u.1), .snil, (.own 0 3)]) [(some (.objs 25 3 u.2))])
 | (.inr (.inr u)) => (Prod.mk (.agg [(.bool u), .snil, .snil]) [])
def Fo.resK {R : Type} (u : ((Bool × (List Int)) ⊕ ((Bool × (List AV)) ⊕ Bool))) (K : AV → Blks → Option R) : Option R := match u with
 | (.inl u) => (fun p : AV × Blks => K p.1 p.2) (Prod.mk (.agg [(.bool u.1), (.own 0 1), .snil]) [(some (.ints .u8 u.2))])
 | (.inr (.inl u)) => (fun p : AV × Blks => K p.1 p.2) (Prod.mk (.agg [(.bool u.1), .snil, (.own 0 3)]) [(some (.objs 25 3 u.2))])
 | (.inr (.inr u)) => (fun p : AV × Blks => K p.1 p.2) (Prod.mk (.agg [(.bool u), .snil, .snil]) [])
noncomputable def Fo.C (n : Nat) (self : ((Bool × ((List Int) × ((List AV) × Int)))) → Option (((Bool × (List Int)) ⊕ ((Bool × (List AV)) ⊕ Bool)))) : Ctx := ⟨Tryd.prog, rlpG, fun f => match f with
 | 17 => some (Fd.c n)
 | 20 => some (.mk' [] [(some (.agg [none, (some (.ints .u8)), (some (.objs 25 3))])), none] Fo.pat self Fo.resK)
 | _ => none, fun t => t == 2000020⟩
def Fo.live : Nat → List Nat × List Nat := fun k => match k with
 | 5 => ([6, 2, 5, 1, 4], [5, 4])
 | _ => ([], [])
def Fo.jlive : Nat → List Nat × List Nat := fun k => match k with
 | _ => ([], [])
def Fo.l5_1.r {α : Type} (mk0 : Bool → Bool → (List AV) → α) (mk1 : Bool → Bool → α) (n : Nat) (self : ((Bool × ((List Int) × ((List AV) × Int)))) → Option (((Bool × (List Int)) ⊕ ((Bool × (List AV)) ⊕ Bool)))) (rc : Int → Int → Bool → (List Int) → (List AV) → Bool → Bool → (List AV) → Option α)  (x0 : Int) (x1 : Int) (x2 : Bool) (x3 : (List Int)) (x4 : (List AV)) (x5 : Bool) (x6 : Bool) (x7 : (List AV)) : Option α :=
  if (decide (x0 < (((List.length x4) : Nat) : Int))) = true then
   if 0 ≤ x0 then
    if x0 < (((List.length x4) : Nat) : Int) then
     bindO (tkAgg 3 (List.getD x4 (Int.toNat x0) AV.any)) fun r10 =>
      bindO (tkBool (List.getD r10 0 AV.any)) fun r12 =>
       bindO (tkRints .u8 (List.getD r10 1 AV.any)) fun r14 =>
        bindO (tkRobjs 25 3 (List.getD r10 2 AV.any)) fun r16 =>
         bindO (self (Prod.mk r12 (Prod.mk r14 (Prod.mk r16 (IntKind.wrap .i64 (x1 - 1)))))) fun r18 => match r18 with
          | (.inl r18) =>
           if ((((List.length x7) + 1) * 56) ≤ 70368744177664 ∧ ((List.length x7) + 1) ≤ 9223372036854775807) then
            rc (IntKind.wrap .i64 (x0 + 1)) x1 x2 x3 x4 x5 x6 (x7 ++ [(AV.agg [(AV.bool (Prod.fst r18)), (AV.rints .u8 (Prod.snd r18)), AV.snil])])
           else
            none
          | (.inr (.inl r18)) =>
           if ((((List.length x7) + 1) * 56) ≤ 70368744177664 ∧ ((List.length x7) + 1) ≤ 9223372036854775807) then
            rc (IntKind.wrap .i64 (x0 + 1)) x1 x2 x3 x4 x5 x6 (x7 ++ [(AV.agg [(AV.bool (Prod.fst r18)), AV.snil, (AV.robjs 25 3 (Prod.snd r18))])])
           else
            none
          | (.inr (.inr r18)) =>
           if ((((List.length x7) + 1) * 56) ≤ 70368744177664 ∧ ((List.length x7) + 1) ≤ 9223372036854775807) then
            rc (IntKind.wrap .i64 (x0 + 1)) x1 x2 x3 x4 x5 x6 (x7 ++ [(AV.agg [(AV.bool r18), AV.snil, AV.snil])])
           else
            none
    else
     none
   else
    none
  else
   some (mk0 x5 x6 x7)
def Fo.l5_1.g {α : Type} (mk0 : Bool → Bool → (List AV) → α) (mk1 : Bool → Bool → α) (n : Nat) (self : ((Bool × ((List Int) × ((List AV) × Int)))) → Option (((Bool × (List Int)) ⊕ ((Bool × (List AV)) ⊕ Bool)))) : Nat → Int → Int → Bool → (List Int) → (List AV) → Bool → Bool → (List AV) → Option α
 | 0, _, _, _, _, _, _, _, _ => none
 | m + 1, x0, x1, x2, x3, x4, x5, x6, x7 => Fo.l5_1.r mk0 mk1 n self (fun y0 y1 y2 y3 y4 y5 y6 y7 => Fo.l5_1.g mk0 mk1 n self m y0 y1 y2 y3 y4 y5 y6 y7)  x0 x1 x2 x3 x4 x5 x6 x7
def Fo.l5_1.shape (t : (Int × (Int × (Bool × ((List Int) × ((List AV) × (Bool × (Bool × (List AV))))))))) : St := (St.mk [(.int .i64 t.1), (.ptr 0 []), (.ptr 1 []), (.int .i64 t.2.1), (.ptr 2 [])] [(some (.var (.agg [(.bool t.2.2.1), (.rints .u8 t.2.2.2.1), (.robjs 25 3 t.2.2.2.2.1)]))), (some (.var (.agg [(.bool t.2.2.2.2.2.1), .snil, (.own 3 3)]))), (some (.var (.agg [(.bool t.2.2.2.2.2.2.1), .snil, .snil]))), (some (.objs 25 3 t.2.2.2.2.2.2.2))])
def Fo.l5_0.r {α : Type} (mk0 : Bool → Bool → (List AV) → α) (mk1 : Bool → Bool → α) (n : Nat) (self : ((Bool × ((List Int) × ((List AV) × Int)))) → Option (((Bool × (List Int)) ⊕ ((Bool × (List AV)) ⊕ Bool)))) (rc : Int → Int → Bool → (List Int) → (List AV) → Bool → Bool → Option α) (rc0 : Int → Int → Bool → (List Int) → (List AV) → Bool → Bool → (List AV) → Option α) (x0 : Int) (x1 : Int) (x2 : Bool) (x3 : (List Int)) (x4 : (List AV)) (x5 : Bool) (x6 : Bool) : Option α :=
  if (decide (x0 < (((List.length x4) : Nat) : Int))) = true then
   if 0 ≤ x0 then
    if x0 < (((List.length x4) : Nat) : Int) then
     bindO (tkAgg 3 (List.getD x4 (Int.toNat x0) AV.any)) fun r10 =>
      bindO (tkBool (List.getD r10 0 AV.any)) fun r12 =>
       bindO (tkRints .u8 (List.getD r10 1 AV.any)) fun r14 =>
        bindO (tkRobjs 25 3 (List.getD r10 2 AV.any)) fun r16 =>
         bindO (self (Prod.mk r12 (Prod.mk r14 (Prod.mk r16 (IntKind.wrap .i64 (x1 - 1)))))) fun r18 => match r18 with
          | (.inl r18) =>
           rc0 (IntKind.wrap .i64 (x0 + 1)) x1 x2 x3 x4 x5 x6 [(AV.agg [(AV.bool (Prod.fst r18)), (AV.rints .u8 (Prod.snd r18)), AV.snil])]
          | (.inr (.inl r18)) =>
           rc0 (IntKind.wrap .i64 (x0 + 1)) x1 x2 x3 x4 x5 x6 [(AV.agg [(AV.bool (Prod.fst r18)), AV.snil, (AV.robjs 25 3 (Prod.snd r18))])]
          | (.inr (.inr r18)) =>
           rc0 (IntKind.wrap .i64 (x0 + 1)) x1 x2 x3 x4 x5 x6 [(AV.agg [(AV.bool r18), AV.snil, AV.snil])]
    else
     none
   else
    none
  else
   some (mk1 x5 x6)
def Fo.l5_0.g {α : Type} (mk0 : Bool → Bool → (List AV) → α) (mk1 : Bool → Bool → α) (n : Nat) (self : ((Bool × ((List Int) × ((List AV) × Int)))) → Option (((Bool × (List Int)) ⊕ ((Bool × (List AV)) ⊕ Bool)))) : Nat → Int → Int → Bool → (List Int) → (List AV) → Bool → Bool → Option α
 | 0, _, _, _, _, _, _, _ => none
 | m + 1, x0, x1, x2, x3, x4, x5, x6 => Fo.l5_0.r mk0 mk1 n self (fun y0 y1 y2 y3 y4 y5 y6 => Fo.l5_0.g mk0 mk1 n self m y0 y1 y2 y3 y4 y5 y6) (fun y0 y1 y2 y3 y4 y5 y6 y7 => Fo.l5_1.g mk0 mk1 n self m y0 y1 y2 y3 y4 y5 y6 y7) x0 x1 x2 x3 x4 x5 x6
def Fo.l5_0.m (n : Nat) (self : ((Bool × ((List Int) × ((List AV) × Int)))) → Option (((Bool × (List Int)) ⊕ ((Bool × (List AV)) ⊕ Bool)))) (m : Nat) (t : (Int × (Int × (Bool × ((List Int) × ((List AV) × (Bool × Bool))))))) : Option ((Bool × (Bool × (List AV))) ⊕ (Bool × Bool)) := Fo.l5_0.g (fun a0 a1 a2 => (.inl (a0, a1, a2))) (fun a0 a1 => (.inr (a0, a1))) n self m t.1 t.2.1 t.2.2.1 t.2.2.2.1 t.2.2.2.2.1 t.2.2.2.2.2.1 t.2.2.2.2.2.2
def Fo.l5_0.pat : St → Option (Int × (Int × (Bool × ((List Int) × ((List AV) × (Bool × Bool))))))
 | (St.mk [(.int .i64 x0), (.ptr 0 []), (.ptr 1 []), (.int .i64 x1), (.ptr 2 [])] [(some (.var (.agg [(.bool x2), (.rints .u8 x3), (.robjs 25 3 x4)]))), (some (.var (.agg [(.bool x5), .snil, .snil]))), (some (.var (.agg [(.bool x6), .snil, .snil])))]) => some (x0, x1, x2, x3, x4, x5, x6)
 | _ => none
def Fo.l5_0.shape (t : (Int × (Int × (Bool × ((List Int) × ((List AV) × (Bool × Bool))))))) : St := (St.mk [(.int .i64 t.1), (.ptr 0 []), (.ptr 1 []), (.int .i64 t.2.1), (.ptr 2 [])] [(some (.var (.agg [(.bool t.2.2.1), (.rints .u8 t.2.2.2.1), (.robjs 25 3 t.2.2.2.2.1)]))), (some (.var (.agg [(.bool t.2.2.2.2.2.1), .snil, .snil]))), (some (.var (.agg [(.bool t.2.2.2.2.2.2), .snil, .snil])))])
def Fo.l5_0.res : ((Bool × (Bool × (List AV))) ⊕ (Bool × Bool)) → Ex × St
 | (.inl u) => (Prod.mk (.exit 0) (St.mk [(.ptr 0 []), (.ptr 1 [])] [(some (.var (.agg [(.bool u.1), .snil, (.own 2 3)]))), (some (.var (.agg [(.bool u.2.1), .snil, .snil]))), (some (.objs 25 3 u.2.2))]))
 | (.inr u) => (Prod.mk (.exit 0) (St.mk [(.ptr 0 []), (.ptr 1 [])] [(some (.var (.agg [(.bool u.1), .snil, .snil]))), (some (.var (.agg [(.bool u.2), .snil, .snil])))]))
def Fo.l5_0.resK {R : Type} (u : ((Bool × (Bool × (List AV))) ⊕ (Bool × Bool))) (K : Ex → St → Option R) : Option R := match u with
 | (.inl u) => (fun p : Ex × St => K p.1 p.2) (Prod.mk (.exit 0) (St.mk [(.ptr 0 []), (.ptr 1 [])] [(some (.var (.agg [(.bool u.1), .snil, (.own 2 3)]))), (some (.var (.agg [(.bool u.2.1), .snil, .snil]))), (some (.objs 25 3 u.2.2))]))
 | (.inr u) => (fun p : Ex × St => K p.1 p.2) (Prod.mk (.exit 0) (St.mk [(.ptr 0 []), (.ptr 1 [])] [(some (.var (.agg [(.bool u.1), .snil, .snil]))), (some (.var (.agg [(.bool u.2), .snil, .snil])))]))
noncomputable def Fo.A (n : Nat) (self : ((Bool × ((List Int) × ((List AV) × Int)))) → Option (((Bool × (List Int)) ⊕ ((Bool × (List AV)) ⊕ Bool)))) : Ann := ⟨Tryd.f20.ntmps, 0, Fo.live, [], [none], fun k => match k with
 | 5 => some (.mk' Fo.l5_0.pat (Fo.l5_0.m n self n) Fo.l5_0.resK)
 | _ => none, Fo.jlive, lookJ []⟩
noncomputable def Fo.b0 : Code := (loopsIn (Tryd.f20.body.getD .skip)).getD 0 .skip
def Fo.g {α : Type} (mk0 : Bool → (List Int) → α) (mk1 : Bool → (List AV) → α) (mk2 : Bool → α) (n : Nat) (self : ((Bool × ((List Int) × ((List AV) × Int)))) → Option (((Bool × (List Int)) ⊕ ((Bool × (List AV)) ⊕ Bool)))) (a0_0 : Bool) (a0_1 : (List Int)) (a0_2 : (List AV)) (a1 : Int) : Option α :=
 if (!a0_0) = true then
  bindO (Fd.m n a0_1) fun r4 =>
   some (mk0 false r4)
 else
  if (a1 == 0) = true then
   bindO (Fd.m n a0_1) fun r6 =>
    some (mk0 false r6)
  else
   bindO (Fo.l5_0.m n self n (0, a1, a0_0, a0_1, a0_2, true, false)) fun r6 => match r6 with
    | (.inl r6) =>
     some (mk1 (Prod.fst r6) (Prod.snd r6.2))
    | (.inr r6) =>
     some (mk2 (Prod.fst r6))
def Fo.h (n : Nat) (self : ((Bool × ((List Int) × ((List AV) × Int)))) → Option (((Bool × (List Int)) ⊕ ((Bool × (List AV)) ⊕ Bool)))) (t : (Bool × ((List Int) × ((List AV) × Int)))) : Option ((Bool × (List Int)) ⊕ ((Bool × (List AV)) ⊕ Bool)) := Fo.g (fun a0 a1 => (.inl (a0, a1))) (fun a0 a1 => (.inr (.inl (a0, a1)))) (fun a0 => (.inr (.inr a0))) n self t.1 t.2.1 t.2.2.1 t.2.2.2
def Fo.mr (n : Nat) : Nat → ((Bool × ((List Int) × ((List AV) × Int)))) → Option (((Bool × (List Int)) ⊕ ((Bool × (List AV)) ⊕ Bool)))
 | 0, _ => none
 | d + 1, t => Fo.h n (Fo.mr n d) t
def Fo.m (n : Nat) (t : (Bool × ((List Int) × ((List AV) × Int)))) : Option (((Bool × (List Int)) ⊕ ((Bool × (List AV)) ⊕ Bool))) := Fo.mr n n t
def Fo.c (n : Nat) : Abs.Callee := .mk' [] [(some (.agg [none, (some (.ints .u8)), (some (.objs 25 3))])), none] Fo.pat (Fo.m n) Fo.resK
end
end
section
theorem Fo.l5_1.rmap {α β : Type} (h : β → α) (mk0 : Bool → Bool → (List AV) → β) (mk1 : Bool → Bool → β) (n : Nat) (self : ((Bool × ((List Int) × ((List AV) × Int)))) → Option (((Bool × (List Int)) ⊕ ((Bool × (List AV)) ⊕ Bool)))) (f : Int → Int → Bool → (List Int) → (List AV) → Bool → Bool → (List AV) → Option β)  (x0 : Int) (x1 : Int) (x2 : Bool) (x3 : (List Int)) (x4 : (List AV)) (x5 : Bool) (x6 : Bool) (x7 : (List AV)) : Fo.l5_1.r (fun a0 a1 a2 => (h (mk0 a0 a1 a2))) (fun a0 a1 => (h (mk1 a0 a1))) n self (fun y0 y1 y2 y3 y4 y5 y6 y7 => (f y0 y1 y2 y3 y4 y5 y6 y7).map h) x0 x1 x2 x3 x4 x5 x6 x7 = (Fo.l5_1.r mk0 mk1 n self f x0 x1 x2 x3 x4 x5 x6 x7).map h := by
  unfold Fo.l5_1.r
  exact (ite_map (ite_map (ite_map (bindO_map fun r10 => (bindO_map fun r12 => (bindO_map fun r14 => (bindO_map fun r16 => (bindO_map fun r18 => match r18 with | (.inl r18) => (ite_map rfl rfl) | (.inr (.inl r18)) => (ite_map rfl rfl) | (.inr (.inr r18)) => (ite_map rfl rfl)))))) rfl) rfl) rfl)
theorem Fo.l5_1.gmap {α β : Type} (h : β → α) (mk0 : Bool → Bool → (List AV) → β) (mk1 : Bool → Bool → β) (n : Nat) (self : ((Bool × ((List Int) × ((List AV) × Int)))) → Option (((Bool × (List Int)) ⊕ ((Bool × (List AV)) ⊕ Bool)))) : ∀ (m : Nat) (x0 : Int) (x1 : Int) (x2 : Bool) (x3 : (List Int)) (x4 : (List AV)) (x5 : Bool) (x6 : Bool) (x7 : (List AV)), Fo.l5_1.g (fun a0 a1 a2 => (h (mk0 a0 a1 a2))) (fun a0 a1 => (h (mk1 a0 a1))) n self m x0 x1 x2 x3 x4 x5 x6 x7 = (Fo.l5_1.g mk0 mk1 n self m x0 x1 x2 x3 x4 x5 x6 x7).map h
  | 0, _, _, _, _, _, _, _, _ => rfl
  | m + 1, x0, x1, x2, x3, x4, x5, x6, x7 => by
    unfold Fo.l5_1.g
    rw [← Fo.l5_1.rmap]
    congr
    · funext y0 y1 y2 y3 y4 y5 y6 y7; exact Fo.l5_1.gmap h mk0 mk1 n self m y0 y1 y2 y3 y4 y5 y6 y7
theorem Fo.l5_1.round (n : Nat) (self : ((Bool × ((List Int) × ((List AV) × Int)))) → Option (((Bool × (List Int)) ⊕ ((Bool × (List AV)) ⊕ Bool)))) (rc : St → Option (Ex × St)) (x0 : Int) (x1 : Int) (x2 : Bool) (x3 : (List Int)) (x4 : (List AV)) (x5 : Bool) (x6 : Bool) (x7 : (List AV)) : roundOf (Fo.C n self) (Fo.A n self) n Fo.b0 rc ((St.mk [(.int .i64 x0), (.ptr 0 []), (.ptr 1 []), (.int .i64 x1), (.ptr 2 [])] [(some (.var (.agg [(.bool x2), (.rints .u8 x3), (.robjs 25 3 x4)]))), (some (.var (.agg [(.bool x5), .snil, (.own 3 3)]))), (some (.var (.agg [(.bool x6), .snil, .snil]))), (some (.objs 25 3 x7))])) = Fo.l5_1.r (fun a0 a1 a2 => ((Prod.mk (.exit 0) (St.mk [(.ptr 0 []), (.ptr 1 [])] [(some (.var (.agg [(.bool a0), .snil, (.own 2 3)]))), (some (.var (.agg [(.bool a1), .snil, .snil]))), (some (.objs 25 3 a2))])) : Ex × St)) (fun a0 a1 => ((Prod.mk (.exit 0) (St.mk [(.ptr 0 []), (.ptr 1 [])] [(some (.var (.agg [(.bool a0), .snil, .snil]))), (some (.var (.agg [(.bool a1), .snil, .snil])))])) : Ex × St)) n self (fun y0 y1 y2 y3 y4 y5 y6 y7 => rc ((St.mk [(.int .i64 y0), (.ptr 0 []), (.ptr 1 []), (.int .i64 y1), (.ptr 2 [])] [(some (.var (.agg [(.bool y2), (.rints .u8 y3), (.robjs 25 3 y4)]))), (some (.var (.agg [(.bool y5), .snil, (.own 3 3)]))), (some (.var (.agg [(.bool y6), .snil, .snil]))), (some (.objs 25 3 y7))]))) x0 x1 x2 x3 x4 x5 x6 x7 := by kernel_rfl
theorem Fo.l5_1.loop' (n : Nat) (self : ((Bool × ((List Int) × ((List AV) × Int)))) → Option (((Bool × (List Int)) ⊕ ((Bool × (List AV)) ⊕ Bool)))) : ∀ (m : Nat) (t : (Int × (Int × (Bool × ((List Int) × ((List AV) × (Bool × (Bool × (List AV))))))))), loopOf (roundOf (Fo.C n self) (Fo.A n self) n Fo.b0) m (Fo.l5_1.shape t) = Fo.l5_1.g (fun a0 a1 a2 => ((Prod.mk (.exit 0) (St.mk [(.ptr 0 []), (.ptr 1 [])] [(some (.var (.agg [(.bool a0), .snil, (.own 2 3)]))), (some (.var (.agg [(.bool a1), .snil, .snil]))), (some (.objs 25 3 a2))])) : Ex × St)) (fun a0 a1 => ((Prod.mk (.exit 0) (St.mk [(.ptr 0 []), (.ptr 1 [])] [(some (.var (.agg [(.bool a0), .snil, .snil]))), (some (.var (.agg [(.bool a1), .snil, .snil])))])) : Ex × St)) n self m t.1 t.2.1 t.2.2.1 t.2.2.2.1 t.2.2.2.2.1 t.2.2.2.2.2.1 t.2.2.2.2.2.2.1 t.2.2.2.2.2.2.2 :=
  loop_of_round (shape := Fo.l5_1.shape) (body := roundOf (Fo.C n self) (Fo.A n self) n Fo.b0) (g := fun m t => Fo.l5_1.g (fun a0 a1 a2 => ((Prod.mk (.exit 0) (St.mk [(.ptr 0 []), (.ptr 1 [])] [(some (.var (.agg [(.bool a0), .snil, (.own 2 3)]))), (some (.var (.agg [(.bool a1), .snil, .snil]))), (some (.objs 25 3 a2))])) : Ex × St)) (fun a0 a1 => ((Prod.mk (.exit 0) (St.mk [(.ptr 0 []), (.ptr 1 [])] [(some (.var (.agg [(.bool a0), .snil, .snil]))), (some (.var (.agg [(.bool a1), .snil, .snil])))])) : Ex × St)) n self m t.1 t.2.1 t.2.2.1 t.2.2.2.1 t.2.2.2.2.1 t.2.2.2.2.2.1 t.2.2.2.2.2.2.1 t.2.2.2.2.2.2.2) (fun t => rfl)
    fun m t ih => (Fo.l5_1.round n self (loopOf (roundOf (Fo.C n self) (Fo.A n self) n Fo.b0) m) t.1 t.2.1 t.2.2.1 t.2.2.2.1 t.2.2.2.2.1 t.2.2.2.2.2.1 t.2.2.2.2.2.2.1 t.2.2.2.2.2.2.2).trans (congrFun (congrFun (congrFun (congrFun (congrFun (congrFun (congrFun (congrFun (congrArg (Fo.l5_1.r (fun a0 a1 a2 => ((Prod.mk (.exit 0) (St.mk [(.ptr 0 []), (.ptr 1 [])] [(some (.var (.agg [(.bool a0), .snil, (.own 2 3)]))), (some (.var (.agg [(.bool a1), .snil, .snil]))), (some (.objs 25 3 a2))])) : Ex × St)) (fun a0 a1 => ((Prod.mk (.exit 0) (St.mk [(.ptr 0 []), (.ptr 1 [])] [(some (.var (.agg [(.bool a0), .snil, .snil]))), (some (.var (.agg [(.bool a1), .snil, .snil])))])) : Ex × St)) n self) (funext fun y0 => funext fun y1 => funext fun y2 => funext fun y3 => funext fun y4 => funext fun y5 => funext fun y6 => funext fun y7 => ih (y0, y1, y2, y3, y4, y5, y6, y7))) t.1) t.2.1) t.2.2.1) t.2.2.2.1) t.2.2.2.2.1) t.2.2.2.2.2.1) t.2.2.2.2.2.2.1) t.2.2.2.2.2.2.2)
theorem Fo.l5_0.rmap {α β : Type} (h : β → α) (mk0 : Bool → Bool → (List AV) → β) (mk1 : Bool → Bool → β) (n : Nat) (self : ((Bool × ((List Int) × ((List AV) × Int)))) → Option (((Bool × (List Int)) ⊕ ((Bool × (List AV)) ⊕ Bool)))) (f : Int → Int → Bool → (List Int) → (List AV) → Bool → Bool → Option β) (f0 : Int → Int → Bool → (List Int) → (List AV) → Bool → Bool → (List AV) → Option β) (x0 : Int) (x1 : Int) (x2 : Bool) (x3 : (List Int)) (x4 : (List AV)) (x5 : Bool) (x6 : Bool) : Fo.l5_0.r (fun a0 a1 a2 => (h (mk0 a0 a1 a2))) (fun a0 a1 => (h (mk1 a0 a1))) n self (fun y0 y1 y2 y3 y4 y5 y6 => (f y0 y1 y2 y3 y4 y5 y6).map h) (fun y0 y1 y2 y3 y4 y5 y6 y7 => (f0 y0 y1 y2 y3 y4 y5 y6 y7).map h) x0 x1 x2 x3 x4 x5 x6 = (Fo.l5_0.r mk0 mk1 n self f f0 x0 x1 x2 x3 x4 x5 x6).map h := by
  unfold Fo.l5_0.r
  exact (ite_map (ite_map (ite_map (bindO_map fun r10 => (bindO_map fun r12 => (bindO_map fun r14 => (bindO_map fun r16 => (bindO_map fun r18 => match r18 with | (.inl r18) => rfl | (.inr (.inl r18)) => rfl | (.inr (.inr r18)) => rfl))))) rfl) rfl) rfl)
theorem Fo.l5_0.gmap {α β : Type} (h : β → α) (mk0 : Bool → Bool → (List AV) → β) (mk1 : Bool → Bool → β) (n : Nat) (self : ((Bool × ((List Int) × ((List AV) × Int)))) → Option (((Bool × (List Int)) ⊕ ((Bool × (List AV)) ⊕ Bool)))) : ∀ (m : Nat) (x0 : Int) (x1 : Int) (x2 : Bool) (x3 : (List Int)) (x4 : (List AV)) (x5 : Bool) (x6 : Bool), Fo.l5_0.g (fun a0 a1 a2 => (h (mk0 a0 a1 a2))) (fun a0 a1 => (h (mk1 a0 a1))) n self m x0 x1 x2 x3 x4 x5 x6 = (Fo.l5_0.g mk0 mk1 n self m x0 x1 x2 x3 x4 x5 x6).map h
  | 0, _, _, _, _, _, _, _ => rfl
  | m + 1, x0, x1, x2, x3, x4, x5, x6 => by
    unfold Fo.l5_0.g
    rw [← Fo.l5_0.rmap]
    congr
    · funext y0 y1 y2 y3 y4 y5 y6; exact Fo.l5_0.gmap h mk0 mk1 n self m y0 y1 y2 y3 y4 y5 y6
    · funext y0 y1 y2 y3 y4 y5 y6 y7; exact Fo.l5_1.gmap h mk0 mk1 n self m y0 y1 y2 y3 y4 y5 y6 y7
theorem Fo.l5_0.pat_shape : ∀ st t, Fo.l5_0.pat st = some t → st = Fo.l5_0.shape t := by
  intro st t h
  unfold Fo.l5_0.pat at h
  split at h
  · cases h; rfl
  · cases h
theorem Fo.l5_0.round (n : Nat) (self : ((Bool × ((List Int) × ((List AV) × Int)))) → Option (((Bool × (List Int)) ⊕ ((Bool × (List AV)) ⊕ Bool)))) (rc : St → Option (Ex × St)) (x0 : Int) (x1 : Int) (x2 : Bool) (x3 : (List Int)) (x4 : (List AV)) (x5 : Bool) (x6 : Bool) : roundOf (Fo.C n self) (Fo.A n self) n Fo.b0 rc ((St.mk [(.int .i64 x0), (.ptr 0 []), (.ptr 1 []), (.int .i64 x1), (.ptr 2 [])] [(some (.var (.agg [(.bool x2), (.rints .u8 x3), (.robjs 25 3 x4)]))), (some (.var (.agg [(.bool x5), .snil, .snil]))), (some (.var (.agg [(.bool x6), .snil, .snil])))])) = Fo.l5_0.r (fun a0 a1 a2 => ((Prod.mk (.exit 0) (St.mk [(.ptr 0 []), (.ptr 1 [])] [(some (.var (.agg [(.bool a0), .snil, (.own 2 3)]))), (some (.var (.agg [(.bool a1), .snil, .snil]))), (some (.objs 25 3 a2))])) : Ex × St)) (fun a0 a1 => ((Prod.mk (.exit 0) (St.mk [(.ptr 0 []), (.ptr 1 [])] [(some (.var (.agg [(.bool a0), .snil, .snil]))), (some (.var (.agg [(.bool a1), .snil, .snil])))])) : Ex × St)) n self (fun y0 y1 y2 y3 y4 y5 y6 => rc ((St.mk [(.int .i64 y0), (.ptr 0 []), (.ptr 1 []), (.int .i64 y1), (.ptr 2 [])] [(some (.var (.agg [(.bool y2), (.rints .u8 y3), (.robjs 25 3 y4)]))), (some (.var (.agg [(.bool y5), .snil, .snil]))), (some (.var (.agg [(.bool y6), .snil, .snil])))]))) (fun y0 y1 y2 y3 y4 y5 y6 y7 => rc ((St.mk [(.int .i64 y0), (.ptr 0 []), (.ptr 1 []), (.int .i64 y1), (.ptr 2 [])] [(some (.var (.agg [(.bool y2), (.rints .u8 y3), (.robjs 25 3 y4)]))), (some (.var (.agg [(.bool y5), .snil, (.own 3 3)]))), (some (.var (.agg [(.bool y6), .snil, .snil]))), (some (.objs 25 3 y7))]))) x0 x1 x2 x3 x4 x5 x6 := by kernel_rfl
theorem Fo.l5_0.loop' (n : Nat) (self : ((Bool × ((List Int) × ((List AV) × Int)))) → Option (((Bool × (List Int)) ⊕ ((Bool × (List AV)) ⊕ Bool)))) : ∀ (m : Nat) (t : (Int × (Int × (Bool × ((List Int) × ((List AV) × (Bool × Bool))))))), loopOf (roundOf (Fo.C n self) (Fo.A n self) n Fo.b0) m (Fo.l5_0.shape t) = Fo.l5_0.g (fun a0 a1 a2 => ((Prod.mk (.exit 0) (St.mk [(.ptr 0 []), (.ptr 1 [])] [(some (.var (.agg [(.bool a0), .snil, (.own 2 3)]))), (some (.var (.agg [(.bool a1), .snil, .snil]))), (some (.objs 25 3 a2))])) : Ex × St)) (fun a0 a1 => ((Prod.mk (.exit 0) (St.mk [(.ptr 0 []), (.ptr 1 [])] [(some (.var (.agg [(.bool a0), .snil, .snil]))), (some (.var (.agg [(.bool a1), .snil, .snil])))])) : Ex × St)) n self m t.1 t.2.1 t.2.2.1 t.2.2.2.1 t.2.2.2.2.1 t.2.2.2.2.2.1 t.2.2.2.2.2.2 :=
  loop_of_round (shape := Fo.l5_0.shape) (body := roundOf (Fo.C n self) (Fo.A n self) n Fo.b0) (g := fun m t => Fo.l5_0.g (fun a0 a1 a2 => ((Prod.mk (.exit 0) (St.mk [(.ptr 0 []), (.ptr 1 [])] [(some (.var (.agg [(.bool a0), .snil, (.own 2 3)]))), (some (.var (.agg [(.bool a1), .snil, .snil]))), (some (.objs 25 3 a2))])) : Ex × St)) (fun a0 a1 => ((Prod.mk (.exit 0) (St.mk [(.ptr 0 []), (.ptr 1 [])] [(some (.var (.agg [(.bool a0), .snil, .snil]))), (some (.var (.agg [(.bool a1), .snil, .snil])))])) : Ex × St)) n self m t.1 t.2.1 t.2.2.1 t.2.2.2.1 t.2.2.2.2.1 t.2.2.2.2.2.1 t.2.2.2.2.2.2) (fun t => rfl)
    fun m t ih => (Fo.l5_0.round n self (loopOf (roundOf (Fo.C n self) (Fo.A n self) n Fo.b0) m) t.1 t.2.1 t.2.2.1 t.2.2.2.1 t.2.2.2.2.1 t.2.2.2.2.2.1 t.2.2.2.2.2.2).trans (congrFun (congrFun (congrFun (congrFun (congrFun (congrFun (congrFun (congr (congrArg (Fo.l5_0.r (fun a0 a1 a2 => ((Prod.mk (.exit 0) (St.mk [(.ptr 0 []), (.ptr 1 [])] [(some (.var (.agg [(.bool a0), .snil, (.own 2 3)]))), (some (.var (.agg [(.bool a1), .snil, .snil]))), (some (.objs 25 3 a2))])) : Ex × St)) (fun a0 a1 => ((Prod.mk (.exit 0) (St.mk [(.ptr 0 []), (.ptr 1 [])] [(some (.var (.agg [(.bool a0), .snil, .snil]))), (some (.var (.agg [(.bool a1), .snil, .snil])))])) : Ex × St)) n self) (funext fun y0 => funext fun y1 => funext fun y2 => funext fun y3 => funext fun y4 => funext fun y5 => funext fun y6 => ih (y0, y1, y2, y3, y4, y5, y6))) (funext fun y0 => funext fun y1 => funext fun y2 => funext fun y3 => funext fun y4 => funext fun y5 => funext fun y6 => funext fun y7 => Fo.l5_1.loop' n self m (y0, y1, y2, y3, y4, y5, y6, y7))) t.1) t.2.1) t.2.2.1) t.2.2.2.1) t.2.2.2.2.1) t.2.2.2.2.2.1) t.2.2.2.2.2.2)
theorem Fo.l5_0.loop (n : Nat) (self : ((Bool × ((List Int) × ((List AV) × Int)))) → Option (((Bool × (List Int)) ⊕ ((Bool × (List AV)) ⊕ Bool)))) (m : Nat) (t : (Int × (Int × (Bool × ((List Int) × ((List AV) × (Bool × Bool))))))) : loopOf (roundOf (Fo.C n self) (Fo.A n self) n Fo.b0) m (Fo.l5_0.shape t) = (Fo.l5_0.m n self m t).map Fo.l5_0.res :=
  (Fo.l5_0.loop' n self m t).trans (Fo.l5_0.gmap Fo.l5_0.res (fun a0 a1 a2 => (.inl (a0, a1, a2))) (fun a0 a1 => (.inr (a0, a1))) n self m t.1 t.2.1 t.2.2.1 t.2.2.2.1 t.2.2.2.2.1 t.2.2.2.2.2.1 t.2.2.2.2.2.2)
theorem Fo.gmap {α β : Type} (h : β → α) (mk0 : Bool → (List Int) → β) (mk1 : Bool → (List AV) → β) (mk2 : Bool → β) (n : Nat) (self : ((Bool × ((List Int) × ((List AV) × Int)))) → Option (((Bool × (List Int)) ⊕ ((Bool × (List AV)) ⊕ Bool)))) (a0_0 : Bool) (a0_1 : (List Int)) (a0_2 : (List AV)) (a1 : Int) : Fo.g (fun a0 a1 => (h (mk0 a0 a1))) (fun a0 a1 => (h (mk1 a0 a1))) (fun a0 => (h (mk2 a0))) n self a0_0 a0_1 a0_2 a1 = (Fo.g mk0 mk1 mk2 n self a0_0 a0_1 a0_2 a1).map h := by
  unfold Fo.g
  exact (ite_map (bindO_map fun r4 => rfl) (ite_map (bindO_map fun r6 => rfl) (bindO_map fun r6 => match r6 with | (.inl r6) => rfl | (.inr r6) => rfl)))
theorem Fo.run (n : Nat) (self : ((Bool × ((List Int) × ((List AV) × Int)))) → Option (((Bool × (List Int)) ⊕ ((Bool × (List AV)) ⊕ Bool)))) (a0_0 : Bool) (a0_1 : (List Int)) (a0_2 : (List AV)) (a1 : Int) : runF (Fo.C n self) (Fo.A n self) n Tryd.f20 [(.agg [(.bool a0_0), (.rints .u8 a0_1), (.robjs 25 3 a0_2)]), (.int .i64 a1)] [] (fun v o => some (v, o)) = Fo.g (fun a0 a1 => ((Prod.mk (.agg [(.bool a0), (.own 0 1), .snil]) [(some (.ints .u8 a1))]) : AV × Blks)) (fun a0 a1 => ((Prod.mk (.agg [(.bool a0), .snil, (.own 0 3)]) [(some (.objs 25 3 a1))]) : AV × Blks)) (fun a0 => ((Prod.mk (.agg [(.bool a0), .snil, .snil]) []) : AV × Blks)) n self a0_0 a0_1 a0_2 a1 := by kernel_rfl
theorem Fo.call (hmix : Tryd.prog.follows .mixedOrders = true) (n : Nat) (self : ((Bool × ((List Int) × ((List AV) × Int)))) → Option (((Bool × (List Int)) ⊕ ((Bool × (List AV)) ⊕ Bool)))) (hs : CalleeS Tryd.prog rlpG 20 (.mk' [] [(some (.agg [none, (some (.ints .u8)), (some (.objs 25 3))])), none] Fo.pat self Fo.resK)) (t : (Bool × ((List Int) × ((List AV) × Int)))) (u) (h : Fo.h n self t = some u) : FnC Tryd.prog rlpG 20 (Fo.shape t).1 (Fo.shape t).2 (Fo.res u).1 (Fo.res u).2 := by
  have hg : ∀ f m, (Fo.C n self).Γ f = some m → CalleeS Tryd.prog rlpG f m := by
    intro f m hm
    unfold Fo.C at hm
    simp only at hm
    first
    | (cases hm; done)
    | (split at hm <;> first
    | (cases hm; exact Fd.s hmix n)
    | (cases hm; exact hs)
    | (cases hm; done))
  have hb : Tryd.f20.body = some (Tryd.f20.body.getD .skip) := by kernel_rfl
  refine runF_calls (C := Fo.C n self) (A := Fo.A n self) (n := n) (fn := Tryd.f20) hg hmix Tryd.func20 hb ?_ ?_ (by decide) rfl rfl (by show 2 ≤ Tryd.f20.ntmps; decide) ?_
  · rw [show loopsIn (Tryd.f20.body.getD .skip) = [Fo.b0] by kernel_rfl]
    intro b hb m hm
    simp only [List.mem_cons, List.not_mem_nil, or_false] at hb
    rcases hb with rfl
    · have e : (Fo.A n self).loop (key Fo.b0) = some (.mk' Fo.l5_0.pat (Fo.l5_0.m n self n) Fo.l5_0.resK) := by rw [show key Fo.b0 = 5 by kernel_rfl]; rfl
      rw [e] at hm
      cases hm
      exact (LoopS.of (res := Fo.l5_0.res) (fun R u K => by rcases u with u | u <;> rfl) Fo.l5_0.pat_shape fun t => Fo.l5_0.loop n self n t)
  · intro a ha m hm
    cases (show none = some m from hm)
  · rw [show runF (Fo.C n self) (Fo.A n self) n Tryd.f20 (Fo.shape t).1 (Fo.shape t).2 (fun v o => some (v, o)) = _ from Fo.run n self t.1 t.2.1 t.2.2.1 t.2.2.2]
    have e := Fo.gmap Fo.res (fun a0 a1 => (.inl (a0, a1))) (fun a0 a1 => (.inr (.inl (a0, a1)))) (fun a0 => (.inr (.inr a0))) n self t.1 t.2.1 t.2.2.1 t.2.2.2
    unfold Fo.h at h
    rw [h] at e
    exact e
theorem Fo.ok (hmix : Tryd.prog.follows .mixedOrders = true) (n : Nat) (self : ((Bool × ((List Int) × ((List AV) × Int)))) → Option (((Bool × (List Int)) ⊕ ((Bool × (List AV)) ⊕ Bool)))) (hs : CalleeS Tryd.prog rlpG 20 (.mk' [] [(some (.agg [none, (some (.ints .u8)), (some (.objs 25 3))])), none] Fo.pat self Fo.resK)) (t : (Bool × ((List Int) × ((List AV) × Int)))) (u) (h : Fo.h n self t = some u) : FnOK Tryd.prog rlpG 20 (Fo.shape t).1 (Fo.shape t).2 (Fo.res u).1 (Fo.res u).2 :=
  (Fo.call hmix n self hs t u h).ok Tryd.func20 (by decide) (by kernel_rfl)
theorem Fo.s' (hmix : Tryd.prog.follows .mixedOrders = true) (n : Nat) : ∀ d : Nat, CalleeS Tryd.prog rlpG 20 (.mk' [] [(some (.agg [none, (some (.ints .u8)), (some (.objs 25 3))])), none] Fo.pat (Fo.mr n d) Fo.resK)
  | 0 => CalleeS.of (res := Fo.res) (shape := Fo.shape) (fun R u K => by rcases u with u | u | u <;> rfl) (fun args lent t h => by
    unfold Fo.pat at h
    split at h
    · cases h; rfl
    · cases h) fun t u h => by cases h
  | d + 1 => CalleeS.of (res := Fo.res) (shape := Fo.shape) (fun R u K => by rcases u with u | u | u <;> rfl) (fun args lent t h => by
    unfold Fo.pat at h
    split at h
    · cases h; rfl
    · cases h) fun t u h => Fo.ok hmix n (Fo.mr n d) (Fo.s' hmix n d) t u h
theorem Fo.s (hmix : Tryd.prog.follows .mixedOrders = true) (n : Nat) : CalleeS Tryd.prog rlpG 20 (Fo.c n) := Fo.s' hmix n n
end
section
noncomputable section
noncomputable def Fe.C (n : Nat) : Ctx := ⟨Tryd.prog, rlpG, lookC [(9, Fs.c n), (10, Fn.c n), (20, Fo.c n), (12, Ff.c n), (18, Fi.c n), (14, Fr.c n)], fun t => t == 3005000 || t == 3005007⟩
noncomputable def Fe.A (n : Nat) : Ann := ⟨Tryd.f5.ntmps, 0, noNL, [], [none], fun k => match k with
 | _ => none, noNL, lookJ []⟩
def Fe.g {α : Type} (mk0 : Bool → α) (n : Nat) (a0_0 : Bool) (a0_1 : LI) (a0_2 : LA) (a1 : Int) : Option α :=
 bindO (Fs.m n (a0_0, a0_1, a0_2, 0)) fun r2 =>
  if (decide (r2 > 1000)) = true then
   bindO (Fn.m n Unit.unit) fun r6 =>
    some (mk0 r6)
  else
   bindO (Fn.m n Unit.unit) fun r6 =>
    if (!r6) = true then
     bindO (Fn.m n Unit.unit) fun r10 =>
      some (mk0 r10)
    else
     bindO (Fo.m n (a0_0, a0_1, a0_2, 60)) fun r10 => match r10 with
      | (.inl r10) =>
       bindO (Ff.m n (r10.1, r10.2, [])) fun r14 =>
        bindO (Fi.m n r14) fun r16 => match r16 with
         | (.inl r16) =>
          if 0 ≤ (if 0 > (IntKind.wrap .i64 ((((List.length r14) : Nat) : Int) - 1)) then 0 else (IntKind.wrap .i64 ((((List.length r14) : Nat) : Int) - 1))) then
           if (if 0 > (IntKind.wrap .i64 ((((List.length r14) : Nat) : Int) - 1)) then 0 else (IntKind.wrap .i64 ((((List.length r14) : Nat) : Int) - 1))) ≤ (((List.length r14) : Nat) : Int) then
            bindO (Fi.m n (Go.Abs.cut r14 0 (Option.some (Int.toNat (if 0 > (IntKind.wrap .i64 ((((List.length r14) : Nat) : Int) - 1)) then 0 else (IntKind.wrap .i64 ((((List.length r14) : Nat) : Int) - 1))))))) fun r24 => match r24 with
             | (.inl r24) =>
              if (((List.length r14) * 1) ≤ 70368744177664 ∧ (List.length r14) ≤ 9223372036854775807) then
               if ((((List.length r14) + 1) * 1) ≤ 70368744177664 ∧ ((List.length r14) + 1) ≤ 9223372036854775807) then
                bindO (Fi.m n (r14 ++ [a1])) fun r32 => match r32 with
                 | (.inl r32) =>
                  if (r16.2 == 0) = true then
                   bindO (Fr.m n (r10.1, r10.2, [], r16.1, [], [])) fun r38 =>
                    if r38 = true then
                     if (r24.2 == 40) = true then
                      some (mk0 (r32.2 == 40))
                     else
                      some (mk0 false)
                    else
                     some (mk0 false)
                  else
                   some (mk0 false)
                 | (.inr (.inl r32)) =>
                  if (r16.2 == 0) = true then
                   bindO (Fr.m n (r10.1, r10.2, [], r16.1, [], [])) fun r38 =>
                    if r38 = true then
                     if (r24.2 == 40) = true then
                      some (mk0 (r32.2.1 == 40))
                     else
                      some (mk0 false)
                    else
                     some (mk0 false)
                  else
                   some (mk0 false)
                 | (.inr (.inr r32)) =>
                  none
               else
                none
              else
               none
             | (.inr (.inl r24)) =>
              if (((List.length r14) * 1) ≤ 70368744177664 ∧ (List.length r14) ≤ 9223372036854775807) then
               if ((((List.length r14) + 1) * 1) ≤ 70368744177664 ∧ ((List.length r14) + 1) ≤ 9223372036854775807) then
                bindO (Fi.m n (r14 ++ [a1])) fun r32 => match r32 with
                 | (.inl r32) =>
                  if (r16.2 == 0) = true then
                   bindO (Fr.m n (r10.1, r10.2, [], r16.1, [], [])) fun r38 =>
                    if r38 = true then
                     if (r24.2.1 == 40) = true then
                      some (mk0 (r32.2 == 40))
                     else
                      some (mk0 false)
                    else
                     some (mk0 false)
                  else
                   some (mk0 false)
                 | (.inr (.inl r32)) =>
                  if (r16.2 == 0) = true then
                   bindO (Fr.m n (r10.1, r10.2, [], r16.1, [], [])) fun r38 =>
                    if r38 = true then
                     if (r24.2.1 == 40) = true then
                      some (mk0 (r32.2.1 == 40))
                     else
                      some (mk0 false)
                    else
                     some (mk0 false)
                  else
                   some (mk0 false)
                 | (.inr (.inr r32)) =>
                  none
               else
                none
              else
               none
             | (.inr (.inr r24)) =>
              if (((List.length r14) * 1) ≤ 70368744177664 ∧ (List.length r14) ≤ 9223372036854775807) then
               if ((((List.length r14) + 1) * 1) ≤ 70368744177664 ∧ ((List.length r14) + 1) ≤ 9223372036854775807) then
                bindO (Fi.m n (r14 ++ [a1])) fun r32 => match r32 with
                 | (.inl r32) =>
                  if (r16.2 == 0) = true then
                   bindO (Fr.m n (r10.1, r10.2, [], r16.1, [], [])) fun r38 =>
                    if r38 = true then
                     if (r24.2.1 == 40) = true then
                      some (mk0 (r32.2 == 40))
                     else
                      some (mk0 false)
                    else
                     some (mk0 false)
                  else
                   some (mk0 false)
                 | (.inr (.inl r32)) =>
                  if (r16.2 == 0) = true then
                   bindO (Fr.m n (r10.1, r10.2, [], r16.1, [], [])) fun r38 =>
                    if r38 = true then
                     if (r24.2.1 == 40) = true then
                      some (mk0 (r32.2.1 == 40))
                     else
                      some (mk0 false)
                    else
                     some (mk0 false)
                  else
                   some (mk0 false)
                 | (.inr (.inr r32)) =>
                  none
               else
                none
              else
               none
           else
            none
          else
           none
         | (.inr (.inl r16)) =>
          if 0 ≤ (if 0 > (IntKind.wrap .i64 ((((List.length r14) : Nat) : Int) - 1)) then 0 else (IntKind.wrap .i64 ((((List.length r14) : Nat) : Int) - 1))) then
           if (if 0 > (IntKind.wrap .i64 ((((List.length r14) : Nat) : Int) - 1)) then 0 else (IntKind.wrap .i64 ((((List.length r14) : Nat) : Int) - 1))) ≤ (((List.length r14) : Nat) : Int) then
            bindO (Fi.m n (Go.Abs.cut r14 0 (Option.some (Int.toNat (if 0 > (IntKind.wrap .i64 ((((List.length r14) : Nat) : Int) - 1)) then 0 else (IntKind.wrap .i64 ((((List.length r14) : Nat) : Int) - 1))))))) fun r24 => match r24 with
             | (.inl r24) =>
              if (((List.length r14) * 1) ≤ 70368744177664 ∧ (List.length r14) ≤ 9223372036854775807) then
               if ((((List.length r14) + 1) * 1) ≤ 70368744177664 ∧ ((List.length r14) + 1) ≤ 9223372036854775807) then
                bindO (Fi.m n (r14 ++ [a1])) fun r32 => match r32 with
                 | (.inl r32) =>
                  if (r16.2.1 == 0) = true then
                   bindO (Fr.m n (r10.1, r10.2, [], r16.1, r16.2.2, [])) fun r38 =>
                    if r38 = true then
                     if (r24.2 == 40) = true then
                      some (mk0 (r32.2 == 40))
                     else
                      some (mk0 false)
                    else
                     some (mk0 false)
                  else
                   some (mk0 false)
                 | (.inr (.inl r32)) =>
                  if (r16.2.1 == 0) = true then
                   bindO (Fr.m n (r10.1, r10.2, [], r16.1, r16.2.2, [])) fun r38 =>
                    if r38 = true then
                     if (r24.2 == 40) = true then
                      some (mk0 (r32.2.1 == 40))
                     else
                      some (mk0 false)
                    else
                     some (mk0 false)
                  else
                   some (mk0 false)
                 | (.inr (.inr r32)) =>
                  none
               else
                none
              else
               none
             | (.inr (.inl r24)) =>
              if (((List.length r14) * 1) ≤ 70368744177664 ∧ (List.length r14) ≤ 9223372036854775807) then
               if ((((List.length r14) + 1) * 1) ≤ 70368744177664 ∧ ((List.length r14) + 1) ≤ 9223372036854775807) then
                bindO (Fi.m n (r14 ++ [a1])) fun r32 => match r32 with
                 | (.inl r32) =>
                  if (r16.2.1 == 0) = true then
                   bindO (Fr.m n (r10.1, r10.2, [], r16.1, r16.2.2, [])) fun r38 =>
                    if r38 = true then
                     if (r24.2.1 == 40) = true then
                      some (mk0 (r32.2 == 40))
                     else
                      some (mk0 false)
                    else
                     some (mk0 false)
                  else
                   some (mk0 false)
                 | (.inr (.inl r32)) =>
                  if (r16.2.1 == 0) = true then
                   bindO (Fr.m n (r10.1, r10.2, [], r16.1, r16.2.2, [])) fun r38 =>
                    if r38 = true then
                     if (r24.2.1 == 40) = true then
                      some (mk0 (r32.2.1 == 40))
                     else
                      some (mk0 false)
                    else
                     some (mk0 false)
                  else
                   some (mk0 false)
                 | (.inr (.inr r32)) =>
                  none
               else
                none
              else
               none
             | (.inr (.inr r24)) =>
              if (((List.length r14) * 1) ≤ 70368744177664 ∧ (List.length r14) ≤ 9223372036854775807) then
               if ((((List.length r14) + 1) * 1) ≤ 70368744177664 ∧ ((List.length r14) + 1) ≤ 9223372036854775807) then
                bindO (Fi.m n (r14 ++ [a1])) fun r32 => match r32 with
                 | (.inl r32) =>
                  if (r16.2.1 == 0) = true then
                   bindO (Fr.m n (r10.1, r10.2, [], r16.1, r16.2.2, [])) fun r38 =>
                    if r38 = true then
                     if (r24.2.1 == 40) = true then
                      some (mk0 (r32.2 == 40))
                     else
                      some (mk0 false)
                    else
                     some (mk0 false)
                  else
                   some (mk0 false)
                 | (.inr (.inl r32)) =>
                  if (r16.2.1 == 0) = true then
                   bindO (Fr.m n (r10.1, r10.2, [], r16.1, r16.2.2, [])) fun r38 =>
                    if r38 = true then
                     if (r24.2.1 == 40) = true then
                      some (mk0 (r32.2.1 == 40))
                     else
                      some (mk0 false)
                    else
                     some (mk0 false)
                  else
                   some (mk0 false)
                 | (.inr (.inr r32)) =>
                  none
               else
                none
              else
               none
           else
            none
          else
           none
         | (.inr (.inr r16)) =>
          if 0 ≤ (if 0 > (IntKind.wrap .i64 ((((List.length r14) : Nat) : Int) - 1)) then 0 else (IntKind.wrap .i64 ((((List.length r14) : Nat) : Int) - 1))) then
           if (if 0 > (IntKind.wrap .i64 ((((List.length r14) : Nat) : Int) - 1)) then 0 else (IntKind.wrap .i64 ((((List.length r14) : Nat) : Int) - 1))) ≤ (((List.length r14) : Nat) : Int) then
            bindO (Fi.m n (Go.Abs.cut r14 0 (Option.some (Int.toNat (if 0 > (IntKind.wrap .i64 ((((List.length r14) : Nat) : Int) - 1)) then 0 else (IntKind.wrap .i64 ((((List.length r14) : Nat) : Int) - 1))))))) fun r24 => match r24 with
             | (.inl r24) =>
              if (((List.length r14) * 1) ≤ 70368744177664 ∧ (List.length r14) ≤ 9223372036854775807) then
               if ((((List.length r14) + 1) * 1) ≤ 70368744177664 ∧ ((List.length r14) + 1) ≤ 9223372036854775807) then
                bindO (Fi.m n (r14 ++ [a1])) fun r32 => match r32 with
                 | (.inl r32) =>
                  if (r16.2.1 == 0) = true then
                   bindO (Fr.m n (r10.1, r10.2, [], r16.1, [], r16.2.2)) fun r38 =>
                    if r38 = true then
                     if (r24.2 == 40) = true then
                      some (mk0 (r32.2 == 40))
                     else
                      some (mk0 false)
                    else
                     some (mk0 false)
                  else
                   some (mk0 false)
                 | (.inr (.inl r32)) =>
                  if (r16.2.1 == 0) = true then
                   bindO (Fr.m n (r10.1, r10.2, [], r16.1, [], r16.2.2)) fun r38 =>
                    if r38 = true then
                     if (r24.2 == 40) = true then
                      some (mk0 (r32.2.1 == 40))
                     else
                      some (mk0 false)
                    else
                     some (mk0 false)
                  else
                   some (mk0 false)
                 | (.inr (.inr r32)) =>
                  none
               else
                none
              else
               none
             | (.inr (.inl r24)) =>
              if (((List.length r14) * 1) ≤ 70368744177664 ∧ (List.length r14) ≤ 9223372036854775807) then
               if ((((List.length r14) + 1) * 1) ≤ 70368744177664 ∧ ((List.length r14) + 1) ≤ 9223372036854775807) then
                bindO (Fi.m n (r14 ++ [a1])) fun r32 => match r32 with
                 | (.inl r32) =>
                  if (r16.2.1 == 0) = true then
                   bindO (Fr.m n (r10.1, r10.2, [], r16.1, [], r16.2.2)) fun r38 =>
                    if r38 = true then
                     if (r24.2.1 == 40) = true then
                      some (mk0 (r32.2 == 40))
                     else
                      some (mk0 false)
                    else
                     some (mk0 false)
                  else
                   some (mk0 false)
                 | (.inr (.inl r32)) =>
                  if (r16.2.1 == 0) = true then
                   bindO (Fr.m n (r10.1, r10.2, [], r16.1, [], r16.2.2)) fun r38 =>
                    if r38 = true then
                     if (r24.2.1 == 40) = true then
                      some (mk0 (r32.2.1 == 40))
                     else
                      some (mk0 false)
                    else
                     some (mk0 false)
                  else
                   some (mk0 false)
                 | (.inr (.inr r32)) =>
                  none
               else
                none
              else
               none
             | (.inr (.inr r24)) =>
              if (((List.length r14) * 1) ≤ 70368744177664 ∧ (List.length r14) ≤ 9223372036854775807) then
               if ((((List.length r14) + 1) * 1) ≤ 70368744177664 ∧ ((List.length r14) + 1) ≤ 9223372036854775807) then
                bindO (Fi.m n (r14 ++ [a1])) fun r32 => match r32 with
                 | (.inl r32) =>
                  if (r16.2.1 == 0) = true then
                   bindO (Fr.m n (r10.1, r10.2, [], r16.1, [], r16.2.2)) fun r38 =>
                    if r38 = true then
                     if (r24.2.1 == 40) = true then
                      some (mk0 (r32.2 == 40))
                     else
                      some (mk0 false)
                    else
                     some (mk0 false)
                  else
                   some (mk0 false)
                 | (.inr (.inl r32)) =>
                  if (r16.2.1 == 0) = true then
                   bindO (Fr.m n (r10.1, r10.2, [], r16.1, [], r16.2.2)) fun r38 =>
                    if r38 = true then
                     if (r24.2.1 == 40) = true then
                      some (mk0 (r32.2.1 == 40))
                     else
                      some (mk0 false)
                    else
                     some (mk0 false)
                  else
                   some (mk0 false)
                 | (.inr (.inr r32)) =>
                  none
               else
                none
              else
               none
           else
            none
          else
           none
      | (.inr (.inl r10)) =>
       bindO (Ff.m n (r10.1, [], r10.2)) fun r14 =>
        bindO (Fi.m n r14) fun r16 => match r16 with
         | (.inl r16) =>
          if 0 ≤ (if 0 > (IntKind.wrap .i64 ((((List.length r14) : Nat) : Int) - 1)) then 0 else (IntKind.wrap .i64 ((((List.length r14) : Nat) : Int) - 1))) then
           if (if 0 > (IntKind.wrap .i64 ((((List.length r14) : Nat) : Int) - 1)) then 0 else (IntKind.wrap .i64 ((((List.length r14) : Nat) : Int) - 1))) ≤ (((List.length r14) : Nat) : Int) then
            bindO (Fi.m n (Go.Abs.cut r14 0 (Option.some (Int.toNat (if 0 > (IntKind.wrap .i64 ((((List.length r14) : Nat) : Int) - 1)) then 0 else (IntKind.wrap .i64 ((((List.length r14) : Nat) : Int) - 1))))))) fun r24 => match r24 with
             | (.inl r24) =>
              if (((List.length r14) * 1) ≤ 70368744177664 ∧ (List.length r14) ≤ 9223372036854775807) then
               if ((((List.length r14) + 1) * 1) ≤ 70368744177664 ∧ ((List.length r14) + 1) ≤ 9223372036854775807) then
                bindO (Fi.m n (r14 ++ [a1])) fun r32 => match r32 with
                 | (.inl r32) =>
                  if (r16.2 == 0) = true then
                   bindO (Fr.m n (r10.1, [], r10.2, r16.1, [], [])) fun r38 =>
                    if r38 = true then
                     if (r24.2 == 40) = true then
                      some (mk0 (r32.2 == 40))
                     else
                      some (mk0 false)
                    else
                     some (mk0 false)
                  else
                   some (mk0 false)
                 | (.inr (.inl r32)) =>
                  if (r16.2 == 0) = true then
                   bindO (Fr.m n (r10.1, [], r10.2, r16.1, [], [])) fun r38 =>
                    if r38 = true then
                     if (r24.2 == 40) = true then
                      some (mk0 (r32.2.1 == 40))
                     else
                      some (mk0 false)
                    else
                     some (mk0 false)
                  else
                   some (mk0 false)
                 | (.inr (.inr r32)) =>
                  none
               else
                none
              else
               none
             | (.inr (.inl r24)) =>
              if (((List.length r14) * 1) ≤ 70368744177664 ∧ (List.length r14) ≤ 9223372036854775807) then
               if ((((List.length r14) + 1) * 1) ≤ 70368744177664 ∧ ((List.length r14) + 1) ≤ 9223372036854775807) then
                bindO (Fi.m n (r14 ++ [a1])) fun r32 => match r32 with
                 | (.inl r32) =>
                  if (r16.2 == 0) = true then
                   bindO (Fr.m n (r10.1, [], r10.2, r16.1, [], [])) fun r38 =>
                    if r38 = true then
                     if (r24.2.1 == 40) = true then
                      some (mk0 (r32.2 == 40))
                     else
                      some (mk0 false)
                    else
                     some (mk0 false)
                  else
                   some (mk0 false)
                 | (.inr (.inl r32)) =>
                  if (r16.2 == 0) = true then
                   bindO (Fr.m n (r10.1, [], r10.2, r16.1, [], [])) fun r38 =>
                    if r38 = true then
                     if (r24.2.1 == 40) = true then
                      some (mk0 (r32.2.1 == 40))
                     else
                      some (mk0 false)
                    else
                     some (mk0 false)
                  else
                   some (mk0 false)
                 | (.inr (.inr r32)) =>
                  none
               else
                none
              else
               none
             | (.inr (.inr r24)) =>
              if (((List.length r14) * 1) ≤ 70368744177664 ∧ (List.length r14) ≤ 9223372036854775807) then
               if ((((List.length r14) + 1) * 1) ≤ 70368744177664 ∧ ((List.length r14) + 1) ≤ 9223372036854775807) then
                bindO (Fi.m n (r14 ++ [a1])) fun r32 => match r32 with
                 | (.inl r32) =>
                  if (r16.2 == 0) = true then
                   bindO (Fr.m n (r10.1, [], r10.2, r16.1, [], [])) fun r38 =>
                    if r38 = true then
                     if (r24.2.1 == 40) = true then
                      some (mk0 (r32.2 == 40))
                     else
                      some (mk0 false)
                    else
                     some (mk0 false)
                  else
                   some (mk0 false)
                 | (.inr (.inl r32)) =>
                  if (r16.2 == 0) = true then
                   bindO (Fr.m n (r10.1, [], r10.2, r16.1, [], [])) fun r38 =>
                    if r38 = true then
                     if (r24.2.1 == 40) = true then
                      some (mk0 (r32.2.1 == 40))
                     else
                      some (mk0 false)
                    else
                     some (mk0 false)
                  else
                   some (mk0 false)
                 | (.inr (.inr r32)) =>
                  none
               else
                none
              else
               none
           else
            none
          else
           none
         | (.inr (.inl r16)) =>
          if 0 ≤ (if 0 > (IntKind.wrap .i64 ((((List.length r14) : Nat) : Int) - 1)) then 0 else (IntKind.wrap .i64 ((((List.length r14) : Nat) : Int) - 1))) then
           if (if 0 > (IntKind.wrap .i64 ((((List.length r14) : Nat) : Int) - 1)) then 0 else (IntKind.wrap .i64 ((((List.length r14) : Nat) : Int) - 1))) ≤ (((List.length r14) : Nat) : Int) then
            bindO (Fi.m n (Go.Abs.cut r14 0 (Option.some (Int.toNat (if 0 > (IntKind.wrap .i64 ((((List.length r14) : Nat) : Int) - 1)) then 0 else (IntKind.wrap .i64 ((((List.length r14) : Nat) : Int) - 1))))))) fun r24 => match r24 with
             | (.inl r24) =>
              if (((List.length r14) * 1) ≤ 70368744177664 ∧ (List.length r14) ≤ 9223372036854775807) then
               if ((((List.length r14) + 1) * 1) ≤ 70368744177664 ∧ ((List.length r14) + 1) ≤ 9223372036854775807) then
                bindO (Fi.m n (r14 ++ [a1])) fun r32 => match r32 with
                 | (.inl r32) =>
                  if (r16.2.1 == 0) = true then
                   bindO (Fr.m n (r10.1, [], r10.2, r16.1, r16.2.2, [])) fun r38 =>
                    if r38 = true then
                     if (r24.2 == 40) = true then
                      some (mk0 (r32.2 == 40))
                     else
                      some (mk0 false)
                    else
                     some (mk0 false)
                  else
                   some (mk0 false)
                 | (.inr (.inl r32)) =>
                  if (r16.2.1 == 0) = true then
                   bindO (Fr.m n (r10.1, [], r10.2, r16.1, r16.2.2, [])) fun r38 =>
                    if r38 = true then
                     if (r24.2 == 40) = true then
                      some (mk0 (r32.2.1 == 40))
                     else
                      some (mk0 false)
                    else
                     some (mk0 false)
                  else
                   some (mk0 false)
                 | (.inr (.inr r32)) =>
                  none
               else
                none
              else
               none
             | (.inr (.inl r24)) =>
              if (((List.length r14) * 1) ≤ 70368744177664 ∧ (List.length r14) ≤ 9223372036854775807) then
               if ((((List.length r14) + 1) * 1) ≤ 70368744177664 ∧ ((List.length r14) + 1) ≤ 9223372036854775807) then
                bindO (Fi.m n (r14 ++ [a1])) fun r32 => match r32 with
                 | (.inl r32) =>
                  if (r16.2.1 == 0) = true then
                   bindO (Fr.m n (r10.1, [], r10.2, r16.1, r16.2.2, [])) fun r38 =>
                    if r38 = true then
                     if (r24.2.1 == 40) = true then
                      some (mk0 (r32.2 == 40))
                     else
                      some (mk0 false)
                    else
                     some (mk0 false)
                  else
                   some (mk0 false)
                 | (.inr (.inl r32)) =>
                  if (r16.2.1 == 0) = true then
                   bindO (Fr.m n (r10.1, [], r10.2, r16.1, r16.2.2, [])) fun r38 =>
                    if r38 = true then
                     if (r24.2.1 == 40) = true then
                      some (mk0 (r32.2.1 == 40))
                     else
                      some (mk0 false)
                    else
                     some (mk0 false)
                  else
                   some (mk0 false)
                 | (.inr (.inr r32)) =>
                  none
               else
                none
              else
               none
             | (.inr (.inr r24)) =>
              if (((List.length r14) * 1) ≤ 70368744177664 ∧ (List.length r14) ≤ 9223372036854775807) then
               if ((((List.length r14) + 1) * 1) ≤ 70368744177664 ∧ ((List.length r14) + 1) ≤ 9223372036854775807) then
                bindO (Fi.m n (r14 ++ [a1])) fun r32 => match r32 with
                 | (.inl r32) =>
                  if (r16.2.1 == 0) = true then
                   bindO (Fr.m n (r10.1, [], r10.2, r16.1, r16.2.2, [])) fun r38 =>
                    if r38 = true then
                     if (r24.2.1 == 40) = true then
                      some (mk0 (r32.2 == 40))
                     else
                      some (mk0 false)
                    else
                     some (mk0 false)
                  else
                   some (mk0 false)
                 | (.inr (.inl r32)) =>
                  if (r16.2.1 == 0) = true then
                   bindO (Fr.m n (r10.1, [], r10.2, r16.1, r16.2.2, [])) fun r38 =>
                    if r38 = true then
                     if (r24.2.1 == 40) = true then
                      some (mk0 (r32.2.1 == 40))
                     else
                      some (mk0 false)
                    else
                     some (mk0 false)
                  else
                   some (mk0 false)
                 | (.inr (.inr r32)) =>
                  none
               else
                none
              else
               none
           else
            none
          else
           none
         | (.inr (.inr r16)) =>
          if 0 ≤ (if 0 > (IntKind.wrap .i64 ((((List.length r14) : Nat) : Int) - 1)) then 0 else (IntKind.wrap .i64 ((((List.length r14) : Nat) : Int) - 1))) then
           if (if 0 > (IntKind.wrap .i64 ((((List.length r14) : Nat) : Int) - 1)) then 0 else (IntKind.wrap .i64 ((((List.length r14) : Nat) : Int) - 1))) ≤ (((List.length r14) : Nat) : Int) then
            bindO (Fi.m n (Go.Abs.cut r14 0 (Option.some (Int.toNat (if 0 > (IntKind.wrap .i64 ((((List.length r14) : Nat) : Int) - 1)) then 0 else (IntKind.wrap .i64 ((((List.length r14) : Nat) : Int) - 1))))))) fun r24 => match r24 with
             | (.inl r24) =>
              if (((List.length r14) * 1) ≤ 70368744177664 ∧ (List.length r14) ≤ 9223372036854775807) then
               if ((((List.length r14) + 1) * 1) ≤ 70368744177664 ∧ ((List.length r14) + 1) ≤ 9223372036854775807) then
                bindO (Fi.m n (r14 ++ [a1])) fun r32 => match r32 with
                 | (.inl r32) =>
                  if (r16.2.1 == 0) = true then
                   bindO (Fr.m n (r10.1, [], r10.2, r16.1, [], r16.2.2)) fun r38 =>
                    if r38 = true then
                     if (r24.2 == 40) = true then
                      some (mk0 (r32.2 == 40))
                     else
                      some (mk0 false)
                    else
                     some (mk0 false)
                  else
                   some (mk0 false)
                 | (.inr (.inl r32)) =>
                  if (r16.2.1 == 0) = true then
                   bindO (Fr.m n (r10.1, [], r10.2, r16.1, [], r16.2.2)) fun r38 =>
                    if r38 = true then
                     if (r24.2 == 40) = true then
                      some (mk0 (r32.2.1 == 40))
                     else
                      some (mk0 false)
                    else
                     some (mk0 false)
                  else
                   some (mk0 false)
                 | (.inr (.inr r32)) =>
                  none
               else
                none
              else
               none
             | (.inr (.inl r24)) =>
              if (((List.length r14) * 1) ≤ 70368744177664 ∧ (List.length r14) ≤ 9223372036854775807) then
               if ((((List.length r14) + 1) * 1) ≤ 70368744177664 ∧ ((List.length r14) + 1) ≤ 9223372036854775807) then
                bindO (Fi.m n (r14 ++ [a1])) fun r32 => match r32 with
                 | (.inl r32) =>
                  if (r16.2.1 == 0) = true then
                   bindO (Fr.m n (r10.1, [], r10.2, r16.1, [], r16.2.2)) fun r38 =>
                    if r38 = true then
                     if (r24.2.1 == 40) = true then
                      some (mk0 (r32.2 == 40))
                     else
                      some (mk0 false)
                    else
                     some (mk0 false)
                  else
                   some (mk0 false)
                 | (.inr (.inl r32)) =>
                  if (r16.2.1 == 0) = true then
                   bindO (Fr.m n (r10.1, [], r10.2, r16.1, [], r16.2.2)) fun r38 =>
                    if r38 = true then
                     if (r24.2.1 == 40) = true then
                      some (mk0 (r32.2.1 == 40))
                     else
                      some (mk0 false)
                    else
                     some (mk0 false)
                  else
                   some (mk0 false)
                 | (.inr (.inr r32)) =>
                  none
               else
                none
              else
               none
             | (.inr (.inr r24)) =>
              if (((List.length r14) * 1) ≤ 70368744177664 ∧ (List.length r14) ≤ 9223372036854775807) then
               if ((((List.length r14) + 1) * 1) ≤ 70368744177664 ∧ ((List.length r14) + 1) ≤ 9223372036854775807) then
                bindO (Fi.m n (r14 ++ [a1])) fun r32 => match r32 with
                 | (.inl r32) =>
                  if (r16.2.1 == 0) = true then
                   bindO (Fr.m n (r10.1, [], r10.2, r16.1, [], r16.2.2)) fun r38 =>
                    if r38 = true then
                     if (r24.2.1 == 40) = true then
                      some (mk0 (r32.2 == 40))
                     else
                      some (mk0 false)
                    else
                     some (mk0 false)
                  else
                   some (mk0 false)
                 | (.inr (.inl r32)) =>
                  if (r16.2.1 == 0) = true then
                   bindO (Fr.m n (r10.1, [], r10.2, r16.1, [], r16.2.2)) fun r38 =>
                    if r38 = true then
                     if (r24.2.1 == 40) = true then
                      some (mk0 (r32.2.1 == 40))
                     else
                      some (mk0 false)
                    else
                     some (mk0 false)
                  else
                   some (mk0 false)
                 | (.inr (.inr r32)) =>
                  none
               else
                none
              else
               none
           else
            none
          else
           none
      | (.inr (.inr r10)) =>
       bindO (Ff.m n (r10, [], [])) fun r14 =>
        bindO (Fi.m n r14) fun r16 => match r16 with
         | (.inl r16) =>
          if 0 ≤ (if 0 > (IntKind.wrap .i64 ((((List.length r14) : Nat) : Int) - 1)) then 0 else (IntKind.wrap .i64 ((((List.length r14) : Nat) : Int) - 1))) then
           if (if 0 > (IntKind.wrap .i64 ((((List.length r14) : Nat) : Int) - 1)) then 0 else (IntKind.wrap .i64 ((((List.length r14) : Nat) : Int) - 1))) ≤ (((List.length r14) : Nat) : Int) then
            bindO (Fi.m n (Go.Abs.cut r14 0 (Option.some (Int.toNat (if 0 > (IntKind.wrap .i64 ((((List.length r14) : Nat) : Int) - 1)) then 0 else (IntKind.wrap .i64 ((((List.length r14) : Nat) : Int) - 1))))))) fun r24 => match r24 with
             | (.inl r24) =>
              if (((List.length r14) * 1) ≤ 70368744177664 ∧ (List.length r14) ≤ 9223372036854775807) then
               if ((((List.length r14) + 1) * 1) ≤ 70368744177664 ∧ ((List.length r14) + 1) ≤ 9223372036854775807) then
                bindO (Fi.m n (r14 ++ [a1])) fun r32 => match r32 with
                 | (.inl r32) =>
                  if (r16.2 == 0) = true then
                   bindO (Fr.m n (r10, [], [], r16.1, [], [])) fun r38 =>
                    if r38 = true then
                     if (r24.2 == 40) = true then
                      some (mk0 (r32.2 == 40))
                     else
                      some (mk0 false)
                    else
                     some (mk0 false)
                  else
                   some (mk0 false)
                 | (.inr (.inl r32)) =>
                  if (r16.2 == 0) = true then
                   bindO (Fr.m n (r10, [], [], r16.1, [], [])) fun r38 =>
                    if r38 = true then
                     if (r24.2 == 40) = true then
                      some (mk0 (r32.2.1 == 40))
                     else
                      some (mk0 false)
                    else
                     some (mk0 false)
                  else
                   some (mk0 false)
                 | (.inr (.inr r32)) =>
                  none
               else
                none
              else
               none
             | (.inr (.inl r24)) =>
              if (((List.length r14) * 1) ≤ 70368744177664 ∧ (List.length r14) ≤ 9223372036854775807) then
               if ((((List.length r14) + 1) * 1) ≤ 70368744177664 ∧ ((List.length r14) + 1) ≤ 9223372036854775807) then
                bindO (Fi.m n (r14 ++ [a1])) fun r32 => match r32 with
                 | (.inl r32) =>
                  if (r16.2 == 0) = true then
                   bindO (Fr.m n (r10, [], [], r16.1, [], [])) fun r38 =>
                    if r38 = true then
                     if (r24.2.1 == 40) = true then
                      some (mk0 (r32.2 == 40))
                     else
                      some (mk0 false)
                    else
                     some (mk0 false)
                  else
                   some (mk0 false)
                 | (.inr (.inl r32)) =>
                  if (r16.2 == 0) = true then
                   bindO (Fr.m n (r10, [], [], r16.1, [], [])) fun r38 =>
                    if r38 = true then
                     if (r24.2.1 == 40) = true then
                      some (mk0 (r32.2.1 == 40))
                     else
                      some (mk0 false)
                    else
                     some (mk0 false)
                  else
                   some (mk0 false)
                 | (.inr (.inr r32)) =>
                  none
               else
                none
              else
               none
             | (.inr (.inr r24)) =>
              if (((List.length r14) * 1) ≤ 70368744177664 ∧ (List.length r14) ≤ 9223372036854775807) then
               if ((((List.length r14) + 1) * 1) ≤ 70368744177664 ∧ ((List.length r14) + 1) ≤ 9223372036854775807) then
                bindO (Fi.m n (r14 ++ [a1])) fun r32 => match r32 with
                 | (.inl r32) =>
                  if (r16.2 == 0) = true then
                   bindO (Fr.m n (r10, [], [], r16.1, [], [])) fun r38 =>
                    if r38 = true then
                     if (r24.2.1 == 40) = true then
                      some (mk0 (r32.2 == 40))
                     else
                      some (mk0 false)
                    else
                     some (mk0 false)
                  else
                   some (mk0 false)
                 | (.inr (.inl r32)) =>
                  if (r16.2 == 0) = true then
                   bindO (Fr.m n (r10, [], [], r16.1, [], [])) fun r38 =>
                    if r38 = true then
                     if (r24.2.1 == 40) = true then
                      some (mk0 (r32.2.1 == 40))
                     else
                      some (mk0 false)
                    else
                     some (mk0 false)
                  else
                   some (mk0 false)
                 | (.inr (.inr r32)) =>
                  none
               else
                none
              else
               none
           else
            none
          else
           none
         | (.inr (.inl r16)) =>
          if 0 ≤ (if 0 > (IntKind.wrap .i64 ((((List.length r14) : Nat) : Int) - 1)) then 0 else (IntKind.wrap .i64 ((((List.length r14) : Nat) : Int) - 1))) then
           if (if 0 > (IntKind.wrap .i64 ((((List.length r14) : Nat) : Int) - 1)) then 0 else (IntKind.wrap .i64 ((((List.length r14) : Nat) : Int) - 1))) ≤ (((List.length r14) : Nat) : Int) then
            bindO (Fi.m n (Go.Abs.cut r14 0 (Option.some (Int.toNat (if 0 > (IntKind.wrap .i64 ((((List.length r14) : Nat) : Int) - 1)) then 0 else (IntKind.wrap .i64 ((((List.length r14) : Nat) : Int) - 1))))))) fun r24 => match r24 with
             | (.inl r24) =>
              if (((List.length r14) * 1) ≤ 70368744177664 ∧ (List.length r14) ≤ 9223372036854775807) then
               if ((((List.length r14) + 1) * 1) ≤ 70368744177664 ∧ ((List.length r14) + 1) ≤ 9223372036854775807) then
                bindO (Fi.m n (r14 ++ [a1])) fun r32 => match r32 with
                 | (.inl r32) =>
                  if (r16.2.1 == 0) = true then
                   bindO (Fr.m n (r10, [], [], r16.1, r16.2.2, [])) fun r38 =>
                    if r38 = true then
                     if (r24.2 == 40) = true then
                      some (mk0 (r32.2 == 40))
                     else
                      some (mk0 false)
                    else
                     some (mk0 false)
                  else
                   some (mk0 false)
                 | (.inr (.inl r32)) =>
                  if (r16.2.1 == 0) = true then
                   bindO (Fr.m n (r10, [], [], r16.1, r16.2.2, [])) fun r38 =>
                    if r38 = true then
                     if (r24.2 == 40) = true then
                      some (mk0 (r32.2.1 == 40))
                     else
                      some (mk0 false)
                    else
                     some (mk0 false)
                  else
                   some (mk0 false)
                 | (.inr (.inr r32)) =>
                  none
               else
                none
              else
               none
             | (.inr (.inl r24)) =>
              if (((List.length r14) * 1) ≤ 70368744177664 ∧ (List.length r14) ≤ 9223372036854775807) then
               if ((((List.length r14) + 1) * 1) ≤ 70368744177664 ∧ ((List.length r14) + 1) ≤ 9223372036854775807) then
                bindO (Fi.m n (r14 ++ [a1])) fun r32 => match r32 with
                 | (.inl r32) =>
                  if (r16.2.1 == 0) = true then
                   bindO (Fr.m n (r10, [], [], r16.1, r16.2.2, [])) fun r38 =>
                    if r38 = true then
                     if (r24.2.1 == 40) = true then
                      some (mk0 (r32.2 == 40))
                     else
                      some (mk0 false)
                    else
                     some (mk0 false)
                  else
                   some (mk0 false)
                 | (.inr (.inl r32)) =>
                  if (r16.2.1 == 0) = true then
                   bindO (Fr.m n (r10, [], [], r16.1, r16.2.2, [])) fun r38 =>
                    if r38 = true then
                     if (r24.2.1 == 40) = true then
                      some (mk0 (r32.2.1 == 40))
                     else
                      some (mk0 false)
                    else
                     some (mk0 false)
                  else
                   some (mk0 false)
                 | (.inr (.inr r32)) =>
                  none
               else
                none
              else
               none
             | (.inr (.inr r24)) =>
              if (((List.length r14) * 1) ≤ 70368744177664 ∧ (List.length r14) ≤ 9223372036854775807) then
               if ((((List.length r14) + 1) * 1) ≤ 70368744177664 ∧ ((List.length r14) + 1) ≤ 9223372036854775807) then
                bindO (Fi.m n (r14 ++ [a1])) fun r32 => match r32 with
                 | (.inl r32) =>
                  if (r16.2.1 == 0) = true then
                   bindO (Fr.m n (r10, [], [], r16.1, r16.2.2, [])) fun r38 =>
                    if r38 = true then
                     if (r24.2.1 == 40) = true then
                      some (mk0 (r32.2 == 40))
                     else
                      some (mk0 false)
                    else
                     some (mk0 false)
                  else
                   some (mk0 false)
                 | (.inr (.inl r32)) =>
                  if (r16.2.1 == 0) = true then
                   bindO (Fr.m n (r10, [], [], r16.1, r16.2.2, [])) fun r38 =>
                    if r38 = true then
                     if (r24.2.1 == 40) = true then
                      some (mk0 (r32.2.1 == 40))
                     else
                      some (mk0 false)
                    else
                     some (mk0 false)
                  else
                   some (mk0 false)
                 | (.inr (.inr r32)) =>
                  none
               else
                none
              else
               none
           else
            none
          else
           none
         | (.inr (.inr r16)) =>
          if 0 ≤ (if 0 > (IntKind.wrap .i64 ((((List.length r14) : Nat) : Int) - 1)) then 0 else (IntKind.wrap .i64 ((((List.length r14) : Nat) : Int) - 1))) then
           if (if 0 > (IntKind.wrap .i64 ((((List.length r14) : Nat) : Int) - 1)) then 0 else (IntKind.wrap .i64 ((((List.length r14) : Nat) : Int) - 1))) ≤ (((List.length r14) : Nat) : Int) then
            bindO (Fi.m n (Go.Abs.cut r14 0 (Option.some (Int.toNat (if 0 > (IntKind.wrap .i64 ((((List.length r14) : Nat) : Int) - 1)) then 0 else (IntKind.wrap .i64 ((((List.length r14) : Nat) : Int) - 1))))))) fun r24 => match r24 with
             | (.inl r24) =>
              if (((List.length r14) * 1) ≤ 70368744177664 ∧ (List.length r14) ≤ 9223372036854775807) then
               if ((((List.length r14) + 1) * 1) ≤ 70368744177664 ∧ ((List.length r14) + 1) ≤ 9223372036854775807) then
                bindO (Fi.m n (r14 ++ [a1])) fun r32 => match r32 with
                 | (.inl r32) =>
                  if (r16.2.1 == 0) = true then
                   bindO (Fr.m n (r10, [], [], r16.1, [], r16.2.2)) fun r38 =>
                    if r38 = true then
                     if (r24.2 == 40) = true then
                      some (mk0 (r32.2 == 40))
                     else
                      some (mk0 false)
                    else
                     some (mk0 false)
                  else
                   some (mk0 false)
                 | (.inr (.inl r32)) =>
                  if (r16.2.1 == 0) = true then
                   bindO (Fr.m n (r10, [], [], r16.1, [], r16.2.2)) fun r38 =>
                    if r38 = true then
                     if (r24.2 == 40) = true then
                      some (mk0 (r32.2.1 == 40))
                     else
                      some (mk0 false)
                    else
                     some (mk0 false)
                  else
                   some (mk0 false)
                 | (.inr (.inr r32)) =>
                  none
               else
                none
              else
               none
             | (.inr (.inl r24)) =>
              if (((List.length r14) * 1) ≤ 70368744177664 ∧ (List.length r14) ≤ 9223372036854775807) then
               if ((((List.length r14) + 1) * 1) ≤ 70368744177664 ∧ ((List.length r14) + 1) ≤ 9223372036854775807) then
                bindO (Fi.m n (r14 ++ [a1])) fun r32 => match r32 with
                 | (.inl r32) =>
                  if (r16.2.1 == 0) = true then
                   bindO (Fr.m n (r10, [], [], r16.1, [], r16.2.2)) fun r38 =>
                    if r38 = true then
                     if (r24.2.1 == 40) = true then
                      some (mk0 (r32.2 == 40))
                     else
                      some (mk0 false)
                    else
                     some (mk0 false)
                  else
                   some (mk0 false)
                 | (.inr (.inl r32)) =>
                  if (r16.2.1 == 0) = true then
                   bindO (Fr.m n (r10, [], [], r16.1, [], r16.2.2)) fun r38 =>
                    if r38 = true then
                     if (r24.2.1 == 40) = true then
                      some (mk0 (r32.2.1 == 40))
                     else
                      some (mk0 false)
                    else
                     some (mk0 false)
                  else
                   some (mk0 false)
                 | (.inr (.inr r32)) =>
                  none
               else
                none
              else
               none
             | (.inr (.inr r24)) =>
              if (((List.length r14) * 1) ≤ 70368744177664 ∧ (List.length r14) ≤ 9223372036854775807) then
               if ((((List.length r14) + 1) * 1) ≤ 70368744177664 ∧ ((List.length r14) + 1) ≤ 9223372036854775807) then
                bindO (Fi.m n (r14 ++ [a1])) fun r32 => match r32 with
                 | (.inl r32) =>
                  if (r16.2.1 == 0) = true then
                   bindO (Fr.m n (r10, [], [], r16.1, [], r16.2.2)) fun r38 =>
                    if r38 = true then
                     if (r24.2.1 == 40) = true then
                      some (mk0 (r32.2 == 40))
                     else
                      some (mk0 false)
                    else
                     some (mk0 false)
                  else
                   some (mk0 false)
                 | (.inr (.inl r32)) =>
                  if (r16.2.1 == 0) = true then
                   bindO (Fr.m n (r10, [], [], r16.1, [], r16.2.2)) fun r38 =>
                    if r38 = true then
                     if (r24.2.1 == 40) = true then
                      some (mk0 (r32.2.1 == 40))
                     else
                      some (mk0 false)
                    else
                     some (mk0 false)
                  else
                   some (mk0 false)
                 | (.inr (.inr r32)) =>
                  none
               else
                none
              else
               none
           else
            none
          else
           none
def Fe.m (n : Nat) (t : (Bool × (LI × (LA × Int)))) : Option Bool := Fe.g (fun a0 => a0) n t.1 t.2.1 t.2.2.1 t.2.2.2
def Fe.shape (t : (Bool × (LI × (LA × Int)))) : List AV × Blks := ([(.agg [(.bool t.1), (.rints .u8 t.2.1), (.robjs 25 3 t.2.2.1)]), (.int .u8 t.2.2.2)], [])
def Fe.res : Bool → AV × Blks
 | u => ((.bool u), [])
end
end
section
theorem Fe.gmap {α β : Type} (h : β → α) (mk0 : Bool → β) (n : Nat) (a0_0 : Bool) (a0_1 : LI) (a0_2 : LA) (a1 : Int) : Fe.g (fun a0 => (h (mk0 a0))) n a0_0 a0_1 a0_2 a1 = (Fe.g mk0 n a0_0 a0_1 a0_2 a1).map h := by
  unfold Fe.g
  exact (bindO_map fun r2 => (ite_map (bindO_map fun r6 => rfl) (bindO_map fun r6 => (ite_map (bindO_map fun r10 => rfl) (bindO_map fun r10 => match r10 with | (.inl r10) => (bindO_map fun r14 => (bindO_map fun r16 => match r16 with | (.inl r16) => (ite_map (ite_map (bindO_map fun r24 => match r24 with | (.inl r24) => (ite_map (ite_map (bindO_map fun r32 => match r32 with | (.inl r32) => (ite_map (bindO_map fun r38 => (ite_map (ite_map rfl rfl) rfl)) rfl) | (.inr (.inl r32)) => (ite_map (bindO_map fun r38 => (ite_map (ite_map rfl rfl) rfl)) rfl) | (.inr (.inr r32)) => rfl) rfl) rfl) | (.inr (.inl r24)) => (ite_map (ite_map (bindO_map fun r32 => match r32 with | (.inl r32) => (ite_map (bindO_map fun r38 => (ite_map (ite_map rfl rfl) rfl)) rfl) | (.inr (.inl r32)) => (ite_map (bindO_map fun r38 => (ite_map (ite_map rfl rfl) rfl)) rfl) | (.inr (.inr r32)) => rfl) rfl) rfl) | (.inr (.inr r24)) => (ite_map (ite_map (bindO_map fun r32 => match r32 with | (.inl r32) => (ite_map (bindO_map fun r38 => (ite_map (ite_map rfl rfl) rfl)) rfl) | (.inr (.inl r32)) => (ite_map (bindO_map fun r38 => (ite_map (ite_map rfl rfl) rfl)) rfl) | (.inr (.inr r32)) => rfl) rfl) rfl)) rfl) rfl) | (.inr (.inl r16)) => (ite_map (ite_map (bindO_map fun r24 => match r24 with | (.inl r24) => (ite_map (ite_map (bindO_map fun r32 => match r32 with | (.inl r32) => (ite_map (bindO_map fun r38 => (ite_map (ite_map rfl rfl) rfl)) rfl) | (.inr (.inl r32)) => (ite_map (bindO_map fun r38 => (ite_map (ite_map rfl rfl) rfl)) rfl) | (.inr (.inr r32)) => rfl) rfl) rfl) | (.inr (.inl r24)) => (ite_map (ite_map (bindO_map fun r32 => match r32 with | (.inl r32) => (ite_map (bindO_map fun r38 => (ite_map (ite_map rfl rfl) rfl)) rfl) | (.inr (.inl r32)) => (ite_map (bindO_map fun r38 => (ite_map (ite_map rfl rfl) rfl)) rfl) | (.inr (.inr r32)) => rfl) rfl) rfl) | (.inr (.inr r24)) => (ite_map (ite_map (bindO_map fun r32 => match r32 with | (.inl r32) => (ite_map (bindO_map fun r38 => (ite_map (ite_map rfl rfl) rfl)) rfl) | (.inr (.inl r32)) => (ite_map (bindO_map fun r38 => (ite_map (ite_map rfl rfl) rfl)) rfl) | (.inr (.inr r32)) => rfl) rfl) rfl)) rfl) rfl) | (.inr (.inr r16)) => (ite_map (ite_map (bindO_map fun r24 => match r24 with | (.inl r24) => (ite_map (ite_map (bindO_map fun r32 => match r32 with | (.inl r32) => (ite_map (bindO_map fun r38 => (ite_map (ite_map rfl rfl) rfl)) rfl) | (.inr (.inl r32)) => (ite_map (bindO_map fun r38 => (ite_map (ite_map rfl rfl) rfl)) rfl) | (.inr (.inr r32)) => rfl) rfl) rfl) | (.inr (.inl r24)) => (ite_map (ite_map (bindO_map fun r32 => match r32 with | (.inl r32) => (ite_map (bindO_map fun r38 => (ite_map (ite_map rfl rfl) rfl)) rfl) | (.inr (.inl r32)) => (ite_map (bindO_map fun r38 => (ite_map (ite_map rfl rfl) rfl)) rfl) | (.inr (.inr r32)) => rfl) rfl) rfl) | (.inr (.inr r24)) => (ite_map (ite_map (bindO_map fun r32 => match r32 with | (.inl r32) => (ite_map (bindO_map fun r38 => (ite_map (ite_map rfl rfl) rfl)) rfl) | (.inr (.inl r32)) => (ite_map (bindO_map fun r38 => (ite_map (ite_map rfl rfl) rfl)) rfl) | (.inr (.inr r32)) => rfl) rfl) rfl)) rfl) rfl))) | (.inr (.inl r10)) => (bindO_map fun r14 => (bindO_map fun r16 => match r16 with | (.inl r16) => (ite_map (ite_map (bindO_map fun r24 => match r24 with | (.inl r24) => (ite_map (ite_map (bindO_map fun r32 => match r32 with | (.inl r32) => (ite_map (bindO_map fun r38 => (ite_map (ite_map rfl rfl) rfl)) rfl) | (.inr (.inl r32)) => (ite_map (bindO_map fun r38 => (ite_map (ite_map rfl rfl) rfl)) rfl) | (.inr (.inr r32)) => rfl) rfl) rfl) | (.inr (.inl r24)) => (ite_map (ite_map (bindO_map fun r32 => match r32 with | (.inl r32) => (ite_map (bindO_map fun r38 => (ite_map (ite_map rfl rfl) rfl)) rfl) | (.inr (.inl r32)) => (ite_map (bindO_map fun r38 => (ite_map (ite_map rfl rfl) rfl)) rfl) | (.inr (.inr r32)) => rfl) rfl) rfl) | (.inr (.inr r24)) => (ite_map (ite_map (bindO_map fun r32 => match r32 with | (.inl r32) => (ite_map (bindO_map fun r38 => (ite_map (ite_map rfl rfl) rfl)) rfl) | (.inr (.inl r32)) => (ite_map (bindO_map fun r38 => (ite_map (ite_map rfl rfl) rfl)) rfl) | (.inr (.inr r32)) => rfl) rfl) rfl)) rfl) rfl) | (.inr (.inl r16)) => (ite_map (ite_map (bindO_map fun r24 => match r24 with | (.inl r24) => (ite_map (ite_map (bindO_map fun r32 => match r32 with | (.inl r32) => (ite_map (bindO_map fun r38 => (ite_map (ite_map rfl rfl) rfl)) rfl) | (.inr (.inl r32)) => (ite_map (bindO_map fun r38 => (ite_map (ite_map rfl rfl) rfl)) rfl) | (.inr (.inr r32)) => rfl) rfl) rfl) | (.inr (.inl r24)) => (ite_map (ite_map (bindO_map fun r32 => match r32 with | (.inl r32) => (ite_map (bindO_map fun r38 => (ite_map (ite_map rfl rfl) rfl)) rfl) | (.inr (.inl r32)) => (ite_map (bindO_map fun r38 => (ite_map (ite_map rfl rfl) rfl)) rfl) | (.inr (.inr r32)) => rfl) rfl) rfl) | (.inr (.inr r24)) => (ite_map (ite_map (bindO_map fun r32 => match r32 with | (.inl r32) => (ite_map (bindO_map fun r38 => (ite_map (ite_map rfl rfl) rfl)) rfl) | (.inr (.inl r32)) => (ite_map (bindO_map fun r38 => (ite_map (ite_map rfl rfl) rfl)) rfl) | (.inr (.inr r32)) => rfl) rfl) rfl)) rfl) rfl) | (.inr (.inr r16)) => (ite_map (ite_map (bindO_map fun r24 => match r24 with | (.inl r24) => (ite_map (ite_map (bindO_map fun r32 => match r32 with | (.inl r32) => (ite_map (bindO_map fun r38 => (ite_map (ite_map rfl rfl) rfl)) rfl) | (.inr (.inl r32)) => (ite_map (bindO_map fun r38 => (ite_map (ite_map rfl rfl) rfl)) rfl) | (.inr (.inr r32)) => rfl) rfl) rfl) | (.inr (.inl r24)) => (ite_map (ite_map (bindO_map fun r32 => match r32 with | (.inl r32) => (ite_map (bindO_map fun r38 => (ite_map (ite_map rfl rfl) rfl)) rfl) | (.inr (.inl r32)) => (ite_map (bindO_map fun r38 => (ite_map (ite_map rfl rfl) rfl)) rfl) | (.inr (.inr r32)) => rfl) rfl) rfl) | (.inr (.inr r24)) => (ite_map (ite_map (bindO_map fun r32 => match r32 with | (.inl r32) => (ite_map (bindO_map fun r38 => (ite_map (ite_map rfl rfl) rfl)) rfl) | (.inr (.inl r32)) => (ite_map (bindO_map fun r38 => (ite_map (ite_map rfl rfl) rfl)) rfl) | (.inr (.inr r32)) => rfl) rfl) rfl)) rfl) rfl))) | (.inr (.inr r10)) => (bindO_map fun r14 => (bindO_map fun r16 => match r16 with | (.inl r16) => (ite_map (ite_map (bindO_map fun r24 => match r24 with | (.inl r24) => (ite_map (ite_map (bindO_map fun r32 => match r32 with | (.inl r32) => (ite_map (bindO_map fun r38 => (ite_map (ite_map rfl rfl) rfl)) rfl) | (.inr (.inl r32)) => (ite_map (bindO_map fun r38 => (ite_map (ite_map rfl rfl) rfl)) rfl) | (.inr (.inr r32)) => rfl) rfl) rfl) | (.inr (.inl r24)) => (ite_map (ite_map (bindO_map fun r32 => match r32 with | (.inl r32) => (ite_map (bindO_map fun r38 => (ite_map (ite_map rfl rfl) rfl)) rfl) | (.inr (.inl r32)) => (ite_map (bindO_map fun r38 => (ite_map (ite_map rfl rfl) rfl)) rfl) | (.inr (.inr r32)) => rfl) rfl) rfl) | (.inr (.inr r24)) => (ite_map (ite_map (bindO_map fun r32 => match r32 with | (.inl r32) => (ite_map (bindO_map fun r38 => (ite_map (ite_map rfl rfl) rfl)) rfl) | (.inr (.inl r32)) => (ite_map (bindO_map fun r38 => (ite_map (ite_map rfl rfl) rfl)) rfl) | (.inr (.inr r32)) => rfl) rfl) rfl)) rfl) rfl) | (.inr (.inl r16)) => (ite_map (ite_map (bindO_map fun r24 => match r24 with | (.inl r24) => (ite_map (ite_map (bindO_map fun r32 => match r32 with | (.inl r32) => (ite_map (bindO_map fun r38 => (ite_map (ite_map rfl rfl) rfl)) rfl) | (.inr (.inl r32)) => (ite_map (bindO_map fun r38 => (ite_map (ite_map rfl rfl) rfl)) rfl) | (.inr (.inr r32)) => rfl) rfl) rfl) | (.inr (.inl r24)) => (ite_map (ite_map (bindO_map fun r32 => match r32 with | (.inl r32) => (ite_map (bindO_map fun r38 => (ite_map (ite_map rfl rfl) rfl)) rfl) | (.inr (.inl r32)) => (ite_map (bindO_map fun r38 => (ite_map (ite_map rfl rfl) rfl)) rfl) | (.inr (.inr r32)) => rfl) rfl) rfl) | (.inr (.inr r24)) => (ite_map (ite_map (bindO_map fun r32 => match r32 with | (.inl r32) => (ite_map (bindO_map fun r38 => (ite_map (ite_map rfl rfl) rfl)) rfl) | (.inr (.inl r32)) => (ite_map (bindO_map fun r38 => (ite_map (ite_map rfl rfl) rfl)) rfl) | (.inr (.inr r32)) => rfl) rfl) rfl)) rfl) rfl) | (.inr (.inr r16)) => (ite_map (ite_map (bindO_map fun r24 => match r24 with | (.inl r24) => (ite_map (ite_map (bindO_map fun r32 => match r32 with | (.inl r32) => (ite_map (bindO_map fun r38 => (ite_map (ite_map rfl rfl) rfl)) rfl) | (.inr (.inl r32)) => (ite_map (bindO_map fun r38 => (ite_map (ite_map rfl rfl) rfl)) rfl) | (.inr (.inr r32)) => rfl) rfl) rfl) | (.inr (.inl r24)) => (ite_map (ite_map (bindO_map fun r32 => match r32 with | (.inl r32) => (ite_map (bindO_map fun r38 => (ite_map (ite_map rfl rfl) rfl)) rfl) | (.inr (.inl r32)) => (ite_map (bindO_map fun r38 => (ite_map (ite_map rfl rfl) rfl)) rfl) | (.inr (.inr r32)) => rfl) rfl) rfl) | (.inr (.inr r24)) => (ite_map (ite_map (bindO_map fun r32 => match r32 with | (.inl r32) => (ite_map (bindO_map fun r38 => (ite_map (ite_map rfl rfl) rfl)) rfl) | (.inr (.inl r32)) => (ite_map (bindO_map fun r38 => (ite_map (ite_map rfl rfl) rfl)) rfl) | (.inr (.inr r32)) => rfl) rfl) rfl)) rfl) rfl))))))))
theorem Fe.run (n : Nat) (a0_0 : Bool) (a0_1 : LI) (a0_2 : LA) (a1 : Int) : runF (Fe.C n) (Fe.A n) n Tryd.f5 [(.agg [(.bool a0_0), (.rints .u8 a0_1), (.robjs 25 3 a0_2)]), (.int .u8 a1)] [] (fun v o => some (v, o)) = Fe.g (fun a0 => (((.bool a0), []) : AV × Blks)) n a0_0 a0_1 a0_2 a1 := by kernel_rfl
theorem Fe.call (hmix : Tryd.prog.follows .mixedOrders = true) (n : Nat) (t : (Bool × (LI × (LA × Int)))) (u) (h : Fe.m n t = some u) : FnC Tryd.prog rlpG 5 (Fe.shape t).1 (Fe.shape t).2 (Fe.res u).1 (Fe.res u).2 :=
  fnC1 (C := Fe.C n) (A := Fe.A n) (fn := Tryd.f5) rfl (.cons (Fs.s hmix n) (.cons (Fn.s hmix n) (.cons (Fo.s hmix n) (.cons (Ff.s hmix n) (.cons (Fi.s hmix n) (.cons (Fr.s hmix n) .nil)))))) hmix Tryd.func5 (by kernel_rfl) (lp := []) (by kernel_rfl) .nil
  (nj rfl) (by decide) rfl rfl (by show 2 ≤ Tryd.f5.ntmps; decide) (Fe.run n t.1 t.2.1 t.2.2.1 t.2.2.2) (Fe.gmap Fe.res (fun a0 => a0) n t.1 t.2.1 t.2.2.1 t.2.2.2) h
end
