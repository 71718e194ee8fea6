/- What the program's functions compute, as plain functions, each with its proof: the function does just that. Condition: the plain function has an answer. -/
import Derived.Test.YtehhocoldpdijaaDoorAbsF6
import Derived.Test.YtehhocoldpdijaaDoorProg
import Derived.Test.YtehhocoldpdijaaDoorFnAbiEncodes1
import Derived.Test.YtehhocoldpdijaaDoorFnAbiEncodes2
set_option linter.unusedVariables false
set_option linter.unusedSimpArgs false
set_option maxRecDepth 100000
open Go Go.Abs Go.Proofs
section
noncomputable section
noncomputable def l05_known.C (n : Nat) : Ctx := ⟨Tryd.prog, abiG, fun f => match f with
 | 20 => some (abi_Encode.c n)
 | 22 => some (abi_Selector.c n)
 | _ => none, fun _ => false⟩
def l05_known.live : Nat → List Nat × List Nat := fun k => match k with
 | _ => ([], [])
def l05_known.jlive : Nat → List Nat × List Nat := fun k => match k with
 | _ => ([], [])
noncomputable def l05_known.A (n : Nat) : Ann := ⟨Tryd.f18.ntmps, 0, l05_known.live, [], [none], fun k => match k with
 | _ => none, l05_known.jlive, lookJ []⟩
def l05_known.g {α : Type} (mk0 : Bool → α) (n : Nat)  : Option α :=
 bindO (abi_Encode.m n [(AV.agg [(AV.bool false), (AV.ints .u64 4 [1, 0, 0, 0]), AV.snil]), (AV.agg [(AV.bool true), (AV.ints .u64 4 [0, 0, 0, 0]), (AV.rints .u8 [171])])]) fun r2 =>
  bindO (abi_Selector.m n (ByteArray.mk (List.toArray [(UInt8.ofBitVec (BitVec.ofNat 8 98)), (UInt8.ofBitVec (BitVec.ofNat 8 97)), (UInt8.ofBitVec (BitVec.ofNat 8 108)), (UInt8.ofBitVec (BitVec.ofNat 8 97)), (UInt8.ofBitVec (BitVec.ofNat 8 110)), (UInt8.ofBitVec (BitVec.ofNat 8 99)), (UInt8.ofBitVec (BitVec.ofNat 8 101)), (UInt8.ofBitVec (BitVec.ofNat 8 79)), (UInt8.ofBitVec (BitVec.ofNat 8 102)), (UInt8.ofBitVec (BitVec.ofNat 8 40)), (UInt8.ofBitVec (BitVec.ofNat 8 97)), (UInt8.ofBitVec (BitVec.ofNat 8 100)), (UInt8.ofBitVec (BitVec.ofNat 8 100)), (UInt8.ofBitVec (BitVec.ofNat 8 114)), (UInt8.ofBitVec (BitVec.ofNat 8 101)), (UInt8.ofBitVec (BitVec.ofNat 8 115)), (UInt8.ofBitVec (BitVec.ofNat 8 115)), (UInt8.ofBitVec (BitVec.ofNat 8 41))]))) fun r4 =>
   if ((((List.length r2) : Nat) : Int) == 128) = true then
    if 31 < (((List.length r2) : Nat) : Int) then
     if ((List.getD r2 31 0) == 1) = true then
      if 63 < (((List.length r2) : Nat) : Int) then
       if ((List.getD r2 63 0) == 64) = true then
        if 95 < (((List.length r2) : Nat) : Int) then
         if ((List.getD r2 95 0) == 1) = true then
          if 96 < (((List.length r2) : Nat) : Int) then
           if ((List.getD r2 96 0) == 171) = true then
            some (mk0 ((ByteArray.toList (Go.Abs.strOf r4)) == [(Subtype.val (Subtype.mk (ByteArray.get! (ByteArray.mk (List.toArray [(UInt8.ofBitVec (BitVec.ofNat 8 112)), (UInt8.ofBitVec (BitVec.ofNat 8 160)), (UInt8.ofBitVec (BitVec.ofNat 8 130)), (UInt8.ofBitVec (BitVec.ofNat 8 49))])) 0) (And.left (Iff.mp (List.forall_mem_cons) (And.right (Iff.mp (List.forall_mem_cons) (And.right (Iff.mp (List.forall_mem_cons) (And.right (Iff.mp (List.forall_mem_cons) (List.attach._proof_1 [(ByteArray.get! (ByteArray.mk (List.toArray [(UInt8.ofBitVec (BitVec.ofNat 8 112)), (UInt8.ofBitVec (BitVec.ofNat 8 160)), (UInt8.ofBitVec (BitVec.ofNat 8 130)), (UInt8.ofBitVec (BitVec.ofNat 8 49))])) 3), (ByteArray.get! (ByteArray.mk (List.toArray [(UInt8.ofBitVec (BitVec.ofNat 8 112)), (UInt8.ofBitVec (BitVec.ofNat 8 160)), (UInt8.ofBitVec (BitVec.ofNat 8 130)), (UInt8.ofBitVec (BitVec.ofNat 8 49))])) 2), (ByteArray.get! (ByteArray.mk (List.toArray [(UInt8.ofBitVec (BitVec.ofNat 8 112)), (UInt8.ofBitVec (BitVec.ofNat 8 160)), (UInt8.ofBitVec (BitVec.ofNat 8 130)), (UInt8.ofBitVec (BitVec.ofNat 8 49))])) 1), (ByteArray.get! (ByteArray.mk (List.toArray [(UInt8.ofBitVec (BitVec.ofNat 8 112)), (UInt8.ofBitVec (BitVec.ofNat 8 160)), (UInt8.ofBitVec (BitVec.ofNat 8 130)), (UInt8.ofBitVec (BitVec.ofNat 8 49))])) 0)]))))))))))), (Subtype.val (Subtype.mk (ByteArray.get! (ByteArray.mk (List.toArray [(UInt8.ofBitVec (BitVec.ofNat 8 112)), (UInt8.ofBitVec (BitVec.ofNat 8 160)), (UInt8.ofBitVec (BitVec.ofNat 8 130)), (UInt8.ofBitVec (BitVec.ofNat 8 49))])) 1) (And.left (Iff.mp (List.forall_mem_cons) (And.right (Iff.mp (List.forall_mem_cons) (And.right (Iff.mp (List.forall_mem_cons) (List.attach._proof_1 [(ByteArray.get! (ByteArray.mk (List.toArray [(UInt8.ofBitVec (BitVec.ofNat 8 112)), (UInt8.ofBitVec (BitVec.ofNat 8 160)), (UInt8.ofBitVec (BitVec.ofNat 8 130)), (UInt8.ofBitVec (BitVec.ofNat 8 49))])) 3), (ByteArray.get! (ByteArray.mk (List.toArray [(UInt8.ofBitVec (BitVec.ofNat 8 112)), (UInt8.ofBitVec (BitVec.ofNat 8 160)), (UInt8.ofBitVec (BitVec.ofNat 8 130)), (UInt8.ofBitVec (BitVec.ofNat 8 49))])) 2), (ByteArray.get! (ByteArray.mk (List.toArray [(UInt8.ofBitVec (BitVec.ofNat 8 112)), (UInt8.ofBitVec (BitVec.ofNat 8 160)), (UInt8.ofBitVec (BitVec.ofNat 8 130)), (UInt8.ofBitVec (BitVec.ofNat 8 49))])) 1), (ByteArray.get! (ByteArray.mk (List.toArray [(UInt8.ofBitVec (BitVec.ofNat 8 112)), (UInt8.ofBitVec (BitVec.ofNat 8 160)), (UInt8.ofBitVec (BitVec.ofNat 8 130)), (UInt8.ofBitVec (BitVec.ofNat 8 49))])) 0)]))))))))), (Subtype.val (Subtype.mk (ByteArray.get! (ByteArray.mk (List.toArray [(UInt8.ofBitVec (BitVec.ofNat 8 112)), (UInt8.ofBitVec (BitVec.ofNat 8 160)), (UInt8.ofBitVec (BitVec.ofNat 8 130)), (UInt8.ofBitVec (BitVec.ofNat 8 49))])) 2) (And.left (Iff.mp (List.forall_mem_cons) (And.right (Iff.mp (List.forall_mem_cons) (List.attach._proof_1 [(ByteArray.get! (ByteArray.mk (List.toArray [(UInt8.ofBitVec (BitVec.ofNat 8 112)), (UInt8.ofBitVec (BitVec.ofNat 8 160)), (UInt8.ofBitVec (BitVec.ofNat 8 130)), (UInt8.ofBitVec (BitVec.ofNat 8 49))])) 3), (ByteArray.get! (ByteArray.mk (List.toArray [(UInt8.ofBitVec (BitVec.ofNat 8 112)), (UInt8.ofBitVec (BitVec.ofNat 8 160)), (UInt8.ofBitVec (BitVec.ofNat 8 130)), (UInt8.ofBitVec (BitVec.ofNat 8 49))])) 2), (ByteArray.get! (ByteArray.mk (List.toArray [(UInt8.ofBitVec (BitVec.ofNat 8 112)), (UInt8.ofBitVec (BitVec.ofNat 8 160)), (UInt8.ofBitVec (BitVec.ofNat 8 130)), (UInt8.ofBitVec (BitVec.ofNat 8 49))])) 1), (ByteArray.get! (ByteArray.mk (List.toArray [(UInt8.ofBitVec (BitVec.ofNat 8 112)), (UInt8.ofBitVec (BitVec.ofNat 8 160)), (UInt8.ofBitVec (BitVec.ofNat 8 130)), (UInt8.ofBitVec (BitVec.ofNat 8 49))])) 0)]))))))), (Subtype.val (Subtype.mk (ByteArray.get! (ByteArray.mk (List.toArray [(UInt8.ofBitVec (BitVec.ofNat 8 112)), (UInt8.ofBitVec (BitVec.ofNat 8 160)), (UInt8.ofBitVec (BitVec.ofNat 8 130)), (UInt8.ofBitVec (BitVec.ofNat 8 49))])) 3) (And.left (Iff.mp (List.forall_mem_cons) (List.attach._proof_1 [(ByteArray.get! (ByteArray.mk (List.toArray [(UInt8.ofBitVec (BitVec.ofNat 8 112)), (UInt8.ofBitVec (BitVec.ofNat 8 160)), (UInt8.ofBitVec (BitVec.ofNat 8 130)), (UInt8.ofBitVec (BitVec.ofNat 8 49))])) 3), (ByteArray.get! (ByteArray.mk (List.toArray [(UInt8.ofBitVec (BitVec.ofNat 8 112)), (UInt8.ofBitVec (BitVec.ofNat 8 160)), (UInt8.ofBitVec (BitVec.ofNat 8 130)), (UInt8.ofBitVec (BitVec.ofNat 8 49))])) 2), (ByteArray.get! (ByteArray.mk (List.toArray [(UInt8.ofBitVec (BitVec.ofNat 8 112)), (UInt8.ofBitVec (BitVec.ofNat 8 160)), (UInt8.ofBitVec (BitVec.ofNat 8 130)), (UInt8.ofBitVec (BitVec.ofNat 8 49))])) 1), (ByteArray.get! (ByteArray.mk (List.toArray [(UInt8.ofBitVec (BitVec.ofNat 8 112)), (UInt8.ofBitVec (BitVec.ofNat 8 160)), (UInt8.ofBitVec (BitVec.ofNat 8 130)), (UInt8.ofBitVec (BitVec.ofNat 8 49))])) 0)])))))]))
           else
            some (mk0 false)
          else
           none
         else
          some (mk0 false)
        else
         none
       else
        some (mk0 false)
      else
       none
     else
      some (mk0 false)
    else
     none
   else
    some (mk0 false)
def l05_known.m (n : Nat) (t : Unit) : Option Bool := l05_known.g (fun a0 => a0) n 
def l05_known.pat : List AV → Blks → Option Unit
 | [], [] => some ()
 | _, _ => none
def l05_known.shape (t : Unit) : List AV × Blks := ([], [])
def l05_known.res : Bool → AV × Blks
 | u => (Prod.mk (.bool u) [])
def l05_known.resK {R : Type} (u : Bool) (K : AV → Blks → Option R) : Option R := (fun p : AV × Blks => K p.1 p.2) (Prod.mk (.bool u) [])
def l05_known.c (n : Nat) : Abs.Callee := .mk' [] [] l05_known.pat (l05_known.m n) l05_known.resK
end
end
section
noncomputable section
noncomputable def q00_SameBytes.C (n : Nat) : Ctx := ⟨Tryd.prog, abiG, fun f => match f with
 | _ => none, fun _ => false⟩
def q00_SameBytes.live : Nat → List Nat × List Nat := fun k => match k with
 | _ => ([], [])
def q00_SameBytes.jlive : Nat → List Nat × List Nat := fun k => match k with
 | _ => ([], [])
noncomputable def q00_SameBytes.A (n : Nat) : Ann := ⟨Tryd.f19.ntmps, 0, q00_SameBytes.live, [], [none], fun k => match k with
 | _ => none, q00_SameBytes.jlive, lookJ []⟩
def q00_SameBytes.g {α : Type} (mk0 : Bool → α) (n : Nat) (a0 : (List Int)) (a1 : (List Int)) : Option α :=
 some (mk0 ((ByteArray.toList (Go.Abs.strOf a0)) == (ByteArray.toList (Go.Abs.strOf a1))))
def q00_SameBytes.m (n : Nat) (t : ((List Int) × (List Int))) : Option Bool := q00_SameBytes.g (fun a0 => a0) n t.1 t.2
def q00_SameBytes.pat : List AV → Blks → Option ((List Int) × (List Int))
 | [(.rints .u8 a0), (.rints .u8 a1)], [] => some (a0, a1)
 | _, _ => none
def q00_SameBytes.shape (t : ((List Int) × (List Int))) : List AV × Blks := ([(.rints .u8 t.1), (.rints .u8 t.2)], [])
def q00_SameBytes.res : Bool → AV × Blks
 | u => (Prod.mk (.bool u) [])
def q00_SameBytes.resK {R : Type} (u : Bool) (K : AV → Blks → Option R) : Option R := (fun p : AV × Blks => K p.1 p.2) (Prod.mk (.bool u) [])
def q00_SameBytes.c (n : Nat) : Abs.Callee := .mk' [] [(some (.ints .u8)), (some (.ints .u8))] q00_SameBytes.pat (q00_SameBytes.m n) q00_SameBytes.resK
end
end
section
noncomputable section
noncomputable def l05_AbiEncodes.C (n : Nat) : Ctx := ⟨Tryd.prog, abiG, fun f => match f with
 | 17 => some (l05_much.c n)
 | 18 => some (l05_known.c n)
 | 20 => some (abi_Encode.c n)
 | 21 => some (q05_Encode.c n)
 | 19 => some (q00_SameBytes.c n)
 | 22 => some (abi_Selector.c n)
 | 23 => some (q05_Selector.c n)
 | _ => none, fun _ => false⟩
def l05_AbiEncodes.live : Nat → List Nat × List Nat := fun k => match k with
 | _ => ([], [])
def l05_AbiEncodes.jlive : Nat → List Nat × List Nat := fun k => match k with
 | _ => ([], [])
noncomputable def l05_AbiEncodes.A (n : Nat) : Ann := ⟨Tryd.f3.ntmps, 0, l05_AbiEncodes.live, [], [none], fun k => match k with
 | _ => none, l05_AbiEncodes.jlive, lookJ []⟩
def l05_AbiEncodes.g {α : Type} (mk0 : Bool → α) (n : Nat) (a0 : (List AV)) (a1 : ByteArray) : Option α :=
 bindO (l05_much.m n a0) fun r2 =>
  if r2 = true then
   some (mk0 true)
  else
   if (decide ((((ByteArray.size a1) : Nat) : Int) > 2000)) = true then
    some (mk0 true)
   else
    bindO (l05_known.m n Unit.unit) fun r8 =>
     if r8 = true then
      bindO (abi_Encode.m n a0) fun r12 =>
       bindO (q05_Encode.m n a0) fun r14 =>
        bindO (q00_SameBytes.m n (Prod.mk r12 r14)) fun r16 =>
         if r16 = true then
          bindO (abi_Selector.m n a1) fun r20 =>
           bindO (q05_Selector.m n a1) fun r22 =>
            bindO (q00_SameBytes.m n (Prod.mk r20 r22)) fun r24 =>
             some (mk0 r24)
         else
          some (mk0 false)
     else
      some (mk0 false)
def l05_AbiEncodes.m (n : Nat) (t : ((List AV) × ByteArray)) : Option Bool := l05_AbiEncodes.g (fun a0 => a0) n t.1 t.2
def l05_AbiEncodes.pat : List AV → Blks → Option ((List AV) × ByteArray)
 | [(.robjs 69 6 a0), (.str a1)], [] => some (a0, a1)
 | _, _ => none
def l05_AbiEncodes.shape (t : ((List AV) × ByteArray)) : List AV × Blks := ([(.robjs 69 6 t.1), (.str t.2)], [])
def l05_AbiEncodes.res : Bool → AV × Blks
 | u => (Prod.mk (.bool u) [])
def l05_AbiEncodes.resK {R : Type} (u : Bool) (K : AV → Blks → Option R) : Option R := (fun p : AV × Blks => K p.1 p.2) (Prod.mk (.bool u) [])
def l05_AbiEncodes.c (n : Nat) : Abs.Callee := .mk' [] [(some (.objs 69 6)), none] l05_AbiEncodes.pat (l05_AbiEncodes.m n) l05_AbiEncodes.resK
end
end
section
theorem l05_known.gmap {α β : Type} (h : β → α) (mk0 : Bool → β) (n : Nat)  : l05_known.g (fun a0 => (h (mk0 a0))) n  = (l05_known.g mk0 n ).map h := by
  unfold l05_known.g
  exact (bindO_map fun r2 => (bindO_map fun r4 => (ite_map (ite_map (ite_map (ite_map (ite_map (ite_map (ite_map (ite_map (ite_map rfl rfl) rfl) rfl) rfl) rfl) rfl) rfl) rfl) rfl)))
theorem l05_known.run (n : Nat)  : runF (l05_known.C n) (l05_known.A n) n Tryd.f18 [] [] (fun v o => some (v, o)) = l05_known.g (fun a0 => ((Prod.mk (.bool a0) []) : AV × Blks)) n  := by kernel_rfl
theorem l05_known.call (hmix : Tryd.prog.follows .mixedOrders = true) (n : Nat) (t : Unit) (u) (h : l05_known.m n t = some u) : FnC Tryd.prog abiG 18 (l05_known.shape t).1 (l05_known.shape t).2 (l05_known.res u).1 (l05_known.res u).2 := by
  have hg : ∀ f m, (l05_known.C n).Γ f = some m → CalleeS Tryd.prog abiG f m := by
    intro f m hm
    unfold l05_known.C at hm
    simp only at hm
    first
    | (cases hm; done)
    | (split at hm <;> first
    | (cases hm; exact abi_Encode.s hmix n)
    | (cases hm; exact abi_Selector.s hmix n)
    | (cases hm; done))
  have hb : Tryd.f18.body = some (Tryd.f18.body.getD .skip) := by kernel_rfl
  refine runF_calls (C := l05_known.C n) (A := l05_known.A n) (n := n) (fn := Tryd.f18) hg hmix Tryd.func18 hb ?_ ?_ (by decide) rfl rfl (by show 0 ≤ Tryd.f18.ntmps; decide) ?_
  · rw [show loopsIn (Tryd.f18.body.getD .skip) = [] by kernel_rfl]
    intro b hb
    cases hb
  · intro a ha m hm
    cases (show none = some m from hm)
  · rw [show runF (l05_known.C n) (l05_known.A n) n Tryd.f18 (l05_known.shape t).1 (l05_known.shape t).2 (fun v o => some (v, o)) = _ from l05_known.run n ]
    have e := l05_known.gmap l05_known.res (fun a0 => a0) n 
    unfold l05_known.m at h
    rw [h] at e
    exact e
theorem l05_known.s (hmix : Tryd.prog.follows .mixedOrders = true) (n : Nat) : CalleeS Tryd.prog abiG 18 (l05_known.c n) :=
  CalleeS.of (res := l05_known.res) (shape := l05_known.shape) (fun R u K => rfl) (fun args lent t h => by
    unfold l05_known.pat at h
    split at h
    · cases h; rfl
    · cases h) fun t u h => (l05_known.call hmix n t u h).ok Tryd.func18 (by decide) (by kernel_rfl)
end
section
theorem q00_SameBytes.gmap {α β : Type} (h : β → α) (mk0 : Bool → β) (n : Nat) (a0 : (List Int)) (a1 : (List Int)) : q00_SameBytes.g (fun a0 => (h (mk0 a0))) n a0 a1 = (q00_SameBytes.g mk0 n a0 a1).map h := by
  unfold q00_SameBytes.g
  exact rfl
theorem q00_SameBytes.run (n : Nat) (a0 : (List Int)) (a1 : (List Int)) : runF (q00_SameBytes.C n) (q00_SameBytes.A n) n Tryd.f19 [(.rints .u8 a0), (.rints .u8 a1)] [] (fun v o => some (v, o)) = q00_SameBytes.g (fun a0 => ((Prod.mk (.bool a0) []) : AV × Blks)) n a0 a1 := by kernel_rfl
theorem q00_SameBytes.call (hmix : Tryd.prog.follows .mixedOrders = true) (n : Nat) (t : ((List Int) × (List Int))) (u) (h : q00_SameBytes.m n t = some u) : FnC Tryd.prog abiG 19 (q00_SameBytes.shape t).1 (q00_SameBytes.shape t).2 (q00_SameBytes.res u).1 (q00_SameBytes.res u).2 := by
  have hg : ∀ f m, (q00_SameBytes.C n).Γ f = some m → CalleeS Tryd.prog abiG f m := by
    intro f m hm
    unfold q00_SameBytes.C at hm
    simp only at hm
    first
    | (cases hm; done)
    | (split at hm <;> first
    | (cases hm; done))
  have hb : Tryd.f19.body = some (Tryd.f19.body.getD .skip) := by kernel_rfl
  refine runF_calls (C := q00_SameBytes.C n) (A := q00_SameBytes.A n) (n := n) (fn := Tryd.f19) hg hmix Tryd.func19 hb ?_ ?_ (by decide) rfl rfl (by show 2 ≤ Tryd.f19.ntmps; decide) ?_
  · rw [show loopsIn (Tryd.f19.body.getD .skip) = [] by kernel_rfl]
    intro b hb
    cases hb
  · intro a ha m hm
    cases (show none = some m from hm)
  · rw [show runF (q00_SameBytes.C n) (q00_SameBytes.A n) n Tryd.f19 (q00_SameBytes.shape t).1 (q00_SameBytes.shape t).2 (fun v o => some (v, o)) = _ from q00_SameBytes.run n t.1 t.2]
    have e := q00_SameBytes.gmap q00_SameBytes.res (fun a0 => a0) n t.1 t.2
    unfold q00_SameBytes.m at h
    rw [h] at e
    exact e
theorem q00_SameBytes.s (hmix : Tryd.prog.follows .mixedOrders = true) (n : Nat) : CalleeS Tryd.prog abiG 19 (q00_SameBytes.c n) :=
  CalleeS.of (res := q00_SameBytes.res) (shape := q00_SameBytes.shape) (fun R u K => rfl) (fun args lent t h => by
    unfold q00_SameBytes.pat at h
    split at h
    · cases h; rfl
    · cases h) fun t u h => (q00_SameBytes.call hmix n t u h).ok Tryd.func19 (by decide) (by kernel_rfl)
end
section
theorem l05_AbiEncodes.gmap {α β : Type} (h : β → α) (mk0 : Bool → β) (n : Nat) (a0 : (List AV)) (a1 : ByteArray) : l05_AbiEncodes.g (fun a0 => (h (mk0 a0))) n a0 a1 = (l05_AbiEncodes.g mk0 n a0 a1).map h := by
  unfold l05_AbiEncodes.g
  exact (bindO_map fun r2 => (ite_map rfl (ite_map rfl (bindO_map fun r8 => (ite_map (bindO_map fun r12 => (bindO_map fun r14 => (bindO_map fun r16 => (ite_map (bindO_map fun r20 => (bindO_map fun r22 => (bindO_map fun r24 => rfl))) rfl)))) rfl)))))
theorem l05_AbiEncodes.run (n : Nat) (a0 : (List AV)) (a1 : ByteArray) : runF (l05_AbiEncodes.C n) (l05_AbiEncodes.A n) n Tryd.f3 [(.robjs 69 6 a0), (.str a1)] [] (fun v o => some (v, o)) = l05_AbiEncodes.g (fun a0 => ((Prod.mk (.bool a0) []) : AV × Blks)) n a0 a1 := by kernel_rfl
theorem l05_AbiEncodes.call (hmix : Tryd.prog.follows .mixedOrders = true) (n : Nat) (t : ((List AV) × ByteArray)) (u) (h : l05_AbiEncodes.m n t = some u) : FnC Tryd.prog abiG 3 (l05_AbiEncodes.shape t).1 (l05_AbiEncodes.shape t).2 (l05_AbiEncodes.res u).1 (l05_AbiEncodes.res u).2 := by
  have hg : ∀ f m, (l05_AbiEncodes.C n).Γ f = some m → CalleeS Tryd.prog abiG f m := by
    intro f m hm
    unfold l05_AbiEncodes.C at hm
    simp only at hm
    first
    | (cases hm; done)
    | (split at hm <;> first
    | (cases hm; exact l05_much.s hmix n)
    | (cases hm; exact l05_known.s hmix n)
    | (cases hm; exact abi_Encode.s hmix n)
    | (cases hm; exact q05_Encode.s hmix n)
    | (cases hm; exact q00_SameBytes.s hmix n)
    | (cases hm; exact abi_Selector.s hmix n)
    | (cases hm; exact q05_Selector.s hmix n)
    | (cases hm; done))
  have hb : Tryd.f3.body = some (Tryd.f3.body.getD .skip) := by kernel_rfl
  refine runF_calls (C := l05_AbiEncodes.C n) (A := l05_AbiEncodes.A n) (n := n) (fn := Tryd.f3) hg hmix Tryd.func3 hb ?_ ?_ (by decide) rfl rfl (by show 2 ≤ Tryd.f3.ntmps; decide) ?_
  · rw [show loopsIn (Tryd.f3.body.getD .skip) = [] by kernel_rfl]
    intro b hb
    cases hb
  · intro a ha m hm
    cases (show none = some m from hm)
  · rw [show runF (l05_AbiEncodes.C n) (l05_AbiEncodes.A n) n Tryd.f3 (l05_AbiEncodes.shape t).1 (l05_AbiEncodes.shape t).2 (fun v o => some (v, o)) = _ from l05_AbiEncodes.run n t.1 t.2]
    have e := l05_AbiEncodes.gmap l05_AbiEncodes.res (fun a0 => a0) n t.1 t.2
    unfold l05_AbiEncodes.m at h
    rw [h] at e
    exact e
theorem l05_AbiEncodes.s (hmix : Tryd.prog.follows .mixedOrders = true) (n : Nat) : CalleeS Tryd.prog abiG 3 (l05_AbiEncodes.c n) :=
  CalleeS.of (res := l05_AbiEncodes.res) (shape := l05_AbiEncodes.shape) (fun R u K => rfl) (fun args lent t h => by
    unfold l05_AbiEncodes.pat at h
    split at h
    · cases h; rfl
    · cases h) fun t u h => (l05_AbiEncodes.call hmix n t u h).ok Tryd.func3 (by decide) (by kernel_rfl)
end
