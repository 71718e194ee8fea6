/- What the program's functions compute, as plain functions, each with its proof: the function does just that. Condition: the plain function has an answer. -/
import Derived.Test.YtaageoambenggaaAbsD6
import Derived.Test.YtaageoambenggaaProg
import Derived.Test.YtaageoambenggaaFnCalcSides1
import Derived.Test.YtaageoambenggaaFnCalcSides2
import Derived.Test.YtaageoambenggaaFnCalcSides3
set_option linter.unusedVariables false
set_option linter.unusedSimpArgs false
set_option maxRecDepth 100000
open Go Go.Abs Go.Proofs
section
noncomputable section
noncomputable def calc_sum.C (n : Nat) : Ctx := ⟨Try.prog, (fun _ => .any), fun f => match f with
 | 88 => some (word_Add.c n)
 | 89 => some (word_Mul.c n)
 | 90 => some (word_Sub.c n)
 | 91 => some (word_Div.c n)
 | 92 => some (word_Sdiv.c n)
 | 93 => some (word_AddMod.c n)
 | 94 => some (word_MulMod.c n)
 | 95 => some (word_Exp.c n)
 | 96 => some (word_Extend.c n)
 | _ => none⟩
def calc_sum.live : Nat → List Nat × List Nat := fun k => match k with
 | _ => ([], [])
def calc_sum.jlive : Nat → List Nat × List Nat := fun k => match k with
 | _ => ([], [])
noncomputable def calc_sum.A (n : Nat) : Ann := ⟨Try.f71.ntmps, 0, calc_sum.live, [], [none], fun k => match k with
 | _ => none, calc_sum.jlive, lookJ []⟩
def calc_sum.g {α : Type} (mk0 : (List Int) → α) (n : Nat) (a0 : Int) (a1 : (List AV)) : Option α :=
 if (a0 == 1) = true then
  if 0 < (((List.length a1) : Nat) : Int) then
   bindO (tkInts .u64 4 (List.getD a1 0 AV.any)) fun r6 =>
    if 1 < (((List.length a1) : Nat) : Int) then
     bindO (tkInts .u64 4 (List.getD a1 1 AV.any)) fun r10 =>
      bindO (word_Add.m n (Prod.mk r6 r10)) fun r12 =>
       some (mk0 (Prod.fst r12))
    else
     none
  else
   none
 else
  if (a0 == 2) = true then
   if 0 < (((List.length a1) : Nat) : Int) then
    bindO (tkInts .u64 4 (List.getD a1 0 AV.any)) fun r8 =>
     if 1 < (((List.length a1) : Nat) : Int) then
      bindO (tkInts .u64 4 (List.getD a1 1 AV.any)) fun r12 =>
       bindO (word_Mul.m n (Prod.mk r8 r12)) fun r14 =>
        some (mk0 (Prod.fst r14))
     else
      none
   else
    none
  else
   if (a0 == 3) = true then
    if 0 < (((List.length a1) : Nat) : Int) then
     bindO (tkInts .u64 4 (List.getD a1 0 AV.any)) fun r10 =>
      if 1 < (((List.length a1) : Nat) : Int) then
       bindO (tkInts .u64 4 (List.getD a1 1 AV.any)) fun r14 =>
        bindO (word_Sub.m n (Prod.mk r10 r14)) fun r16 =>
         some (mk0 (Prod.fst r16))
      else
       none
    else
     none
   else
    if (a0 == 4) = true then
     if 0 < (((List.length a1) : Nat) : Int) then
      bindO (tkInts .u64 4 (List.getD a1 0 AV.any)) fun r12 =>
       if 1 < (((List.length a1) : Nat) : Int) then
        bindO (tkInts .u64 4 (List.getD a1 1 AV.any)) fun r16 =>
         bindO (word_Div.m n (Prod.mk r12 r16)) fun r18 =>
          some (mk0 (Prod.fst r18))
       else
        none
     else
      none
    else
     if (a0 == 5) = true then
      if 0 < (((List.length a1) : Nat) : Int) then
       bindO (tkInts .u64 4 (List.getD a1 0 AV.any)) fun r14 =>
        if 1 < (((List.length a1) : Nat) : Int) then
         bindO (tkInts .u64 4 (List.getD a1 1 AV.any)) fun r18 =>
          bindO (word_Sdiv.m n (Prod.mk r14 r18)) fun r20 =>
           some (mk0 (Prod.fst r20))
        else
         none
      else
       none
     else
      if (a0 == 6) = true then
       if 0 < (((List.length a1) : Nat) : Int) then
        bindO (tkInts .u64 4 (List.getD a1 0 AV.any)) fun r16 =>
         if 1 < (((List.length a1) : Nat) : Int) then
          bindO (tkInts .u64 4 (List.getD a1 1 AV.any)) fun r20 =>
           bindO (word_Div.m n (Prod.mk r16 r20)) fun r22 =>
            some (mk0 (Prod.snd r22))
         else
          none
       else
        none
      else
       if (a0 == 7) = true then
        if 0 < (((List.length a1) : Nat) : Int) then
         bindO (tkInts .u64 4 (List.getD a1 0 AV.any)) fun r18 =>
          if 1 < (((List.length a1) : Nat) : Int) then
           bindO (tkInts .u64 4 (List.getD a1 1 AV.any)) fun r22 =>
            bindO (word_Sdiv.m n (Prod.mk r18 r22)) fun r24 =>
             some (mk0 (Prod.snd r24))
          else
           none
        else
         none
       else
        if (a0 == 8) = true then
         if 0 < (((List.length a1) : Nat) : Int) then
          bindO (tkInts .u64 4 (List.getD a1 0 AV.any)) fun r20 =>
           if 1 < (((List.length a1) : Nat) : Int) then
            bindO (tkInts .u64 4 (List.getD a1 1 AV.any)) fun r24 =>
             if 2 < (((List.length a1) : Nat) : Int) then
              bindO (tkInts .u64 4 (List.getD a1 2 AV.any)) fun r28 =>
               bindO (word_AddMod.m n (Prod.mk r20 (Prod.mk r24 r28))) fun r30 =>
                some (mk0 r30)
             else
              none
           else
            none
         else
          none
        else
         if (a0 == 9) = true then
          if 0 < (((List.length a1) : Nat) : Int) then
           bindO (tkInts .u64 4 (List.getD a1 0 AV.any)) fun r22 =>
            if 1 < (((List.length a1) : Nat) : Int) then
             bindO (tkInts .u64 4 (List.getD a1 1 AV.any)) fun r26 =>
              if 2 < (((List.length a1) : Nat) : Int) then
               bindO (tkInts .u64 4 (List.getD a1 2 AV.any)) fun r30 =>
                bindO (word_MulMod.m n (Prod.mk r22 (Prod.mk r26 r30))) fun r32 =>
                 some (mk0 r32)
              else
               none
            else
             none
          else
           none
         else
          if (a0 == 10) = true then
           if 0 < (((List.length a1) : Nat) : Int) then
            bindO (tkInts .u64 4 (List.getD a1 0 AV.any)) fun r24 =>
             if 1 < (((List.length a1) : Nat) : Int) then
              bindO (tkInts .u64 4 (List.getD a1 1 AV.any)) fun r28 =>
               bindO (word_Exp.m n (Prod.mk r24 r28)) fun r30 =>
                some (mk0 r30)
             else
              none
           else
            none
          else
           if (a0 == 11) = true then
            if 0 < (((List.length a1) : Nat) : Int) then
             bindO (tkInts .u64 4 (List.getD a1 0 AV.any)) fun r26 =>
              if 1 < (((List.length a1) : Nat) : Int) then
               bindO (tkInts .u64 4 (List.getD a1 1 AV.any)) fun r30 =>
                bindO (word_Extend.m n (Prod.mk r26 r30)) fun r32 =>
                 some (mk0 r32)
              else
               none
            else
             none
           else
            some (mk0 [0, 0, 0, 0])
def calc_sum.m (n : Nat) (t : (Int × (List AV))) : Option (List Int) := calc_sum.g (fun a0 => a0) n t.1 t.2
def calc_sum.pat : List AV → Blks → Option (Int × (List AV))
 | [(.int .u8 a0), (.robjs 33 4 a1)], [] => some (a0, a1)
 | _, _ => none
def calc_sum.shape (t : (Int × (List AV))) : List AV × Blks := ([(.int .u8 t.1), (.robjs 33 4 t.2)], [])
def calc_sum.res : (List Int) → AV × Blks
 | u => (Prod.mk (.ints .u64 4 u) [])
def calc_sum.resK {R : Type} (u : (List Int)) (K : AV → Blks → Option R) : Option R := (fun p : AV × Blks => K p.1 p.2) (Prod.mk (.ints .u64 4 u) [])
def calc_sum.c (n : Nat) : Abs.Callee := .mk' [] [none, (some (.objs 33 4))] calc_sum.pat (calc_sum.m n) calc_sum.resK
end
end
section
noncomputable section
noncomputable def calc_Do.C (n : Nat) : Ctx := ⟨Try.prog, (fun _ => .any), fun f => match f with
 | 19 => some (code_Info.c n)
 | 61 => some (calc_compare.c n)
 | 60 => some (calc_truth.c n)
 | 62 => some (calc_each.c n)
 | 63 => some (calc_and.c n)
 | 64 => some (calc_or.c n)
 | 65 => some (calc_xor.c n)
 | 66 => some (calc_nor.c n)
 | 67 => some (word_Byte.c n)
 | 68 => some (word_Shl.c n)
 | 69 => some (word_Shr.c n)
 | 70 => some (word_Sar.c n)
 | 71 => some (calc_sum.c n)
 | _ => none⟩
def calc_Do.live : Nat → List Nat × List Nat := fun k => match k with
 | _ => ([], [])
def calc_Do.jlive : Nat → List Nat × List Nat := fun k => match k with
 | _ => ([], [])
noncomputable def calc_Do.A (n : Nat) : Ann := ⟨Try.f47.ntmps, 0, calc_Do.live, [], [none, none], fun k => match k with
 | _ => none, calc_Do.jlive, lookJ []⟩
def calc_Do.g {α : Type} (mk0 : (List Int) → Bool → α) (n : Nat) (a0 : Int) (a1 : (List AV)) : Option α :=
 bindO (code_Info.m n a0) fun r2 =>
  if (!(Prod.snd (Prod.snd r2))) = true then
   some (mk0 [0, 0, 0, 0] false)
  else
   if (a0 == 0) = true then
    some (mk0 [0, 0, 0, 0] false)
   else
    if (decide (a0 > 29)) = true then
     some (mk0 [0, 0, 0, 0] false)
    else
     if ((Prod.fst r2) != (((List.length a1) : Nat) : Int)) = true then
      some (mk0 [0, 0, 0, 0] false)
     else
      if (a0 == 16) = true then
       if 0 < (((List.length a1) : Nat) : Int) then
        bindO (tkInts .u64 4 (List.getD a1 0 AV.any)) fun r16 =>
         if 1 < (((List.length a1) : Nat) : Int) then
          bindO (tkInts .u64 4 (List.getD a1 1 AV.any)) fun r20 =>
           bindO (calc_compare.m n (Prod.mk a0 (Prod.mk r16 r20))) fun r22 =>
            bindO (calc_truth.m n r22) fun r24 =>
             some (mk0 r24 true)
         else
          none
       else
        none
      else
       if (a0 == 17) = true then
        if 0 < (((List.length a1) : Nat) : Int) then
         bindO (tkInts .u64 4 (List.getD a1 0 AV.any)) fun r18 =>
          if 1 < (((List.length a1) : Nat) : Int) then
           bindO (tkInts .u64 4 (List.getD a1 1 AV.any)) fun r22 =>
            bindO (calc_compare.m n (Prod.mk a0 (Prod.mk r18 r22))) fun r24 =>
             bindO (calc_truth.m n r24) fun r26 =>
              some (mk0 r26 true)
          else
           none
        else
         none
       else
        if (a0 == 18) = true then
         if 0 < (((List.length a1) : Nat) : Int) then
          bindO (tkInts .u64 4 (List.getD a1 0 AV.any)) fun r20 =>
           if 1 < (((List.length a1) : Nat) : Int) then
            bindO (tkInts .u64 4 (List.getD a1 1 AV.any)) fun r24 =>
             bindO (calc_compare.m n (Prod.mk a0 (Prod.mk r20 r24))) fun r26 =>
              bindO (calc_truth.m n r26) fun r28 =>
               some (mk0 r28 true)
           else
            none
         else
          none
        else
         if (a0 == 19) = true then
          if 0 < (((List.length a1) : Nat) : Int) then
           bindO (tkInts .u64 4 (List.getD a1 0 AV.any)) fun r22 =>
            if 1 < (((List.length a1) : Nat) : Int) then
             bindO (tkInts .u64 4 (List.getD a1 1 AV.any)) fun r26 =>
              bindO (calc_compare.m n (Prod.mk a0 (Prod.mk r22 r26))) fun r28 =>
               bindO (calc_truth.m n r28) fun r30 =>
                some (mk0 r30 true)
            else
             none
          else
           none
         else
          if (a0 == 20) = true then
           if 0 < (((List.length a1) : Nat) : Int) then
            bindO (tkInts .u64 4 (List.getD a1 0 AV.any)) fun r24 =>
             if 1 < (((List.length a1) : Nat) : Int) then
              bindO (tkInts .u64 4 (List.getD a1 1 AV.any)) fun r28 =>
               bindO (calc_compare.m n (Prod.mk a0 (Prod.mk r24 r28))) fun r30 =>
                bindO (calc_truth.m n r30) fun r32 =>
                 some (mk0 r32 true)
             else
              none
           else
            none
          else
           if (a0 == 21) = true then
            if 0 < (((List.length a1) : Nat) : Int) then
             bindO (tkInts .u64 4 (List.getD a1 0 AV.any)) fun r26 =>
              bindO (calc_truth.m n (r26 == [0, 0, 0, 0])) fun r28 =>
               some (mk0 r28 true)
            else
             none
           else
            if (a0 == 22) = true then
             if 0 < (((List.length a1) : Nat) : Int) then
              bindO (tkInts .u64 4 (List.getD a1 0 AV.any)) fun r28 =>
               if 1 < (((List.length a1) : Nat) : Int) then
                bindO (tkInts .u64 4 (List.getD a1 1 AV.any)) fun r32 =>
                 bindO (calc_each_and.m n (Prod.mk r28 r32)) fun r34 =>
                  some (mk0 r34 true)
               else
                none
             else
              none
            else
             if (a0 == 23) = true then
              if 0 < (((List.length a1) : Nat) : Int) then
               bindO (tkInts .u64 4 (List.getD a1 0 AV.any)) fun r30 =>
                if 1 < (((List.length a1) : Nat) : Int) then
                 bindO (tkInts .u64 4 (List.getD a1 1 AV.any)) fun r34 =>
                  bindO (calc_each_or.m n (Prod.mk r30 r34)) fun r36 =>
                   some (mk0 r36 true)
                else
                 none
              else
               none
             else
              if (a0 == 24) = true then
               if 0 < (((List.length a1) : Nat) : Int) then
                bindO (tkInts .u64 4 (List.getD a1 0 AV.any)) fun r32 =>
                 if 1 < (((List.length a1) : Nat) : Int) then
                  bindO (tkInts .u64 4 (List.getD a1 1 AV.any)) fun r36 =>
                   bindO (calc_each_xor.m n (Prod.mk r32 r36)) fun r38 =>
                    some (mk0 r38 true)
                 else
                  none
               else
                none
              else
               if (a0 == 25) = true then
                if 0 < (((List.length a1) : Nat) : Int) then
                 bindO (tkInts .u64 4 (List.getD a1 0 AV.any)) fun r34 =>
                  if 0 < (((List.length a1) : Nat) : Int) then
                   bindO (tkInts .u64 4 (List.getD a1 0 AV.any)) fun r38 =>
                    bindO (calc_each_nor.m n (Prod.mk r34 r38)) fun r40 =>
                     some (mk0 r40 true)
                  else
                   none
                else
                 none
               else
                if (a0 == 26) = true then
                 if 0 < (((List.length a1) : Nat) : Int) then
                  bindO (tkInts .u64 4 (List.getD a1 0 AV.any)) fun r36 =>
                   if 1 < (((List.length a1) : Nat) : Int) then
                    bindO (tkInts .u64 4 (List.getD a1 1 AV.any)) fun r40 =>
                     bindO (word_Byte.m n (Prod.mk r36 r40)) fun r42 =>
                      some (mk0 r42 true)
                   else
                    none
                 else
                  none
                else
                 if (a0 == 27) = true then
                  if 0 < (((List.length a1) : Nat) : Int) then
                   bindO (tkInts .u64 4 (List.getD a1 0 AV.any)) fun r38 =>
                    if 1 < (((List.length a1) : Nat) : Int) then
                     bindO (tkInts .u64 4 (List.getD a1 1 AV.any)) fun r42 =>
                      bindO (word_Shl.m n (Prod.mk r38 r42)) fun r44 =>
                       some (mk0 r44 true)
                    else
                     none
                  else
                   none
                 else
                  if (a0 == 28) = true then
                   if 0 < (((List.length a1) : Nat) : Int) then
                    bindO (tkInts .u64 4 (List.getD a1 0 AV.any)) fun r40 =>
                     if 1 < (((List.length a1) : Nat) : Int) then
                      bindO (tkInts .u64 4 (List.getD a1 1 AV.any)) fun r44 =>
                       bindO (word_Shr.m n (Prod.mk r40 r44)) fun r46 =>
                        some (mk0 r46 true)
                     else
                      none
                   else
                    none
                  else
                   if (a0 == 29) = true then
                    if 0 < (((List.length a1) : Nat) : Int) then
                     bindO (tkInts .u64 4 (List.getD a1 0 AV.any)) fun r42 =>
                      if 1 < (((List.length a1) : Nat) : Int) then
                       bindO (tkInts .u64 4 (List.getD a1 1 AV.any)) fun r46 =>
                        bindO (word_Sar.m n (Prod.mk r42 r46)) fun r48 =>
                         some (mk0 r48 true)
                      else
                       none
                    else
                     none
                   else
                    bindO (calc_sum.m n (Prod.mk a0 a1)) fun r40 =>
                     some (mk0 r40 true)
def calc_Do.m (n : Nat) (t : (Int × (List AV))) : Option ((List Int) × Bool) := calc_Do.g (fun a0 a1 => (a0, a1)) n t.1 t.2
def calc_Do.pat : List AV → Blks → Option (Int × (List AV))
 | [(.int .u8 a0), (.robjs 33 4 a1)], [] => some (a0, a1)
 | _, _ => none
def calc_Do.shape (t : (Int × (List AV))) : List AV × Blks := ([(.int .u8 t.1), (.robjs 33 4 t.2)], [])
def calc_Do.res : ((List Int) × Bool) → AV × Blks
 | u => (Prod.mk (.tup [(.ints .u64 4 u.1), (.bool u.2)]) [])
def calc_Do.resK {R : Type} (u : ((List Int) × Bool)) (K : AV → Blks → Option R) : Option R := (fun p : AV × Blks => K p.1 p.2) (Prod.mk (.tup [(.ints .u64 4 u.1), (.bool u.2)]) [])
def calc_Do.c (n : Nat) : Abs.Callee := .mk' [] [none, (some (.objs 33 4))] calc_Do.pat (calc_Do.m n) calc_Do.resK
end
end
section
theorem calc_compare.gmap {α β : Type} (h : β → α) (mk0 : Bool → β) (n : Nat) (a0 : Int) (a1 : (List Int)) (a2 : (List Int)) : calc_compare.g (fun a0 => (h (mk0 a0))) n a0 a1 a2 = (calc_compare.g mk0 n a0 a1 a2).map h := by
  unfold calc_compare.g
  exact (ite_map (bindO_map fun r4 => rfl) (ite_map (bindO_map fun r6 => rfl) (ite_map (bindO_map fun r8 => rfl) (ite_map (bindO_map fun r10 => rfl) rfl))))
theorem calc_compare.run (n : Nat) (a0 : Int) (a1 : (List Int)) (a2 : (List Int)) : runF (calc_compare.C n) (calc_compare.A n) n Try.f61 [(.int .u8 a0), (.ints .u64 4 a1), (.ints .u64 4 a2)] [] (fun v o => some (v, o)) = calc_compare.g (fun a0 => ((Prod.mk (.bool a0) []) : AV × Blks)) n a0 a1 a2 := by kernel_rfl
theorem calc_compare.call (hmix : Try.prog.follows .mixedOrders = true) (n : Nat) (t : (Int × ((List Int) × (List Int)))) (u) (h : calc_compare.m n t = some u) : FnC Try.prog (fun _ => .any) 61 (calc_compare.shape t).1 (calc_compare.shape t).2 (calc_compare.res u).1 (calc_compare.res u).2 := by
  have hg : ∀ f m, (calc_compare.C n).Γ f = some m → CalleeS Try.prog (fun _ => .any) f m := by
    intro f m hm
    unfold calc_compare.C at hm
    simp only at hm
    first
    | (cases hm; done)
    | (split at hm <;> first
    | (cases hm; exact word_Cmp.s hmix n)
    | (cases hm; exact word_Scmp.s hmix n)
    | (cases hm; done))
  have hb : Try.f61.body = some (Try.f61.body.getD .skip) := by kernel_rfl
  refine runF_calls (C := calc_compare.C n) (A := calc_compare.A n) (n := n) (fn := Try.f61) hg hmix Try.func61 hb ?_ ?_ (by decide) rfl rfl (by show 3 ≤ Try.f61.ntmps; decide) ?_
  · rw [show loopsIn (Try.f61.body.getD .skip) = [] by kernel_rfl]
    intro b hb
    cases hb
  · intro a ha m hm
    cases (show none = some m from hm)
  · rw [show runF (calc_compare.C n) (calc_compare.A n) n Try.f61 (calc_compare.shape t).1 (calc_compare.shape t).2 (fun v o => some (v, o)) = _ from calc_compare.run n t.1 t.2.1 t.2.2]
    have e := calc_compare.gmap calc_compare.res (fun a0 => a0) n t.1 t.2.1 t.2.2
    unfold calc_compare.m at h
    rw [h] at e
    exact e
theorem calc_compare.s (hmix : Try.prog.follows .mixedOrders = true) (n : Nat) : CalleeS Try.prog (fun _ => .any) 61 (calc_compare.c n) :=
  CalleeS.of (res := calc_compare.res) (shape := calc_compare.shape) (fun R u K => rfl) (fun args lent t h => by
    unfold calc_compare.pat at h
    split at h
    · cases h; rfl
    · cases h) fun t u h => (calc_compare.call hmix n t u h).ok Try.func61 (by decide) (by kernel_rfl)
end
section
theorem calc_truth.gmap {α β : Type} (h : β → α) (mk0 : (List Int) → β) (n : Nat) (a0 : Bool) : calc_truth.g (fun a0 => (h (mk0 a0))) n a0 = (calc_truth.g mk0 n a0).map h := by
  unfold calc_truth.g
  exact (ite_map (bindO_map fun r4 => rfl) rfl)
theorem calc_truth.run (n : Nat) (a0 : Bool) : runF (calc_truth.C n) (calc_truth.A n) n Try.f60 [(.bool a0)] [] (fun v o => some (v, o)) = calc_truth.g (fun a0 => ((Prod.mk (.ints .u64 4 a0) []) : AV × Blks)) n a0 := by kernel_rfl
theorem calc_truth.call (hmix : Try.prog.follows .mixedOrders = true) (n : Nat) (t : Bool) (u) (h : calc_truth.m n t = some u) : FnC Try.prog (fun _ => .any) 60 (calc_truth.shape t).1 (calc_truth.shape t).2 (calc_truth.res u).1 (calc_truth.res u).2 := by
  have hg : ∀ f m, (calc_truth.C n).Γ f = some m → CalleeS Try.prog (fun _ => .any) f m := by
    intro f m hm
    unfold calc_truth.C at hm
    simp only at hm
    first
    | (cases hm; done)
    | (split at hm <;> first
    | (cases hm; exact word_From.s hmix n)
    | (cases hm; done))
  have hb : Try.f60.body = some (Try.f60.body.getD .skip) := by kernel_rfl
  refine runF_calls (C := calc_truth.C n) (A := calc_truth.A n) (n := n) (fn := Try.f60) hg hmix Try.func60 hb ?_ ?_ (by decide) rfl rfl (by show 1 ≤ Try.f60.ntmps; decide) ?_
  · rw [show loopsIn (Try.f60.body.getD .skip) = [] by kernel_rfl]
    intro b hb
    cases hb
  · intro a ha m hm
    cases (show none = some m from hm)
  · rw [show runF (calc_truth.C n) (calc_truth.A n) n Try.f60 (calc_truth.shape t).1 (calc_truth.shape t).2 (fun v o => some (v, o)) = _ from calc_truth.run n t]
    have e := calc_truth.gmap calc_truth.res (fun a0 => a0) n t
    unfold calc_truth.m at h
    rw [h] at e
    exact e
theorem calc_truth.s (hmix : Try.prog.follows .mixedOrders = true) (n : Nat) : CalleeS Try.prog (fun _ => .any) 60 (calc_truth.c n) :=
  CalleeS.of (res := calc_truth.res) (shape := calc_truth.shape) (fun R u K => rfl) (fun args lent t h => by
    unfold calc_truth.pat at h
    split at h
    · cases h; rfl
    · cases h) fun t u h => (calc_truth.call hmix n t u h).ok Try.func60 (by decide) (by kernel_rfl)
end
section
theorem calc_and.gmap {α β : Type} (h : β → α) (mk0 : Int → β) (n : Nat) (a0 : Int) (a1 : Int) : calc_and.g (fun a0 => (h (mk0 a0))) n a0 a1 = (calc_and.g mk0 n a0 a1).map h := by
  unfold calc_and.g
  exact rfl
theorem calc_and.run (n : Nat) (a0 : Int) (a1 : Int) : runF (calc_and.C n) (calc_and.A n) n Try.f63 [(.int .u64 a0), (.int .u64 a1)] [] (fun v o => some (v, o)) = calc_and.g (fun a0 => ((Prod.mk (.int .u64 a0) []) : AV × Blks)) n a0 a1 := by kernel_rfl
theorem calc_and.call (hmix : Try.prog.follows .mixedOrders = true) (n : Nat) (t : (Int × Int)) (u) (h : calc_and.m n t = some u) : FnC Try.prog (fun _ => .any) 63 (calc_and.shape t).1 (calc_and.shape t).2 (calc_and.res u).1 (calc_and.res u).2 := by
  have hg : ∀ f m, (calc_and.C n).Γ f = some m → CalleeS Try.prog (fun _ => .any) f m := by
    intro f m hm
    unfold calc_and.C at hm
    simp only at hm
    first
    | (cases hm; done)
    | (split at hm <;> first
    | (cases hm; done))
  have hb : Try.f63.body = some (Try.f63.body.getD .skip) := by kernel_rfl
  refine runF_calls (C := calc_and.C n) (A := calc_and.A n) (n := n) (fn := Try.f63) hg hmix Try.func63 hb ?_ ?_ (by decide) rfl rfl (by show 2 ≤ Try.f63.ntmps; decide) ?_
  · rw [show loopsIn (Try.f63.body.getD .skip) = [] by kernel_rfl]
    intro b hb
    cases hb
  · intro a ha m hm
    cases (show none = some m from hm)
  · rw [show runF (calc_and.C n) (calc_and.A n) n Try.f63 (calc_and.shape t).1 (calc_and.shape t).2 (fun v o => some (v, o)) = _ from calc_and.run n t.1 t.2]
    have e := calc_and.gmap calc_and.res (fun a0 => a0) n t.1 t.2
    unfold calc_and.m at h
    rw [h] at e
    exact e
theorem calc_and.s (hmix : Try.prog.follows .mixedOrders = true) (n : Nat) : CalleeS Try.prog (fun _ => .any) 63 (calc_and.c n) :=
  CalleeS.of (res := calc_and.res) (shape := calc_and.shape) (fun R u K => rfl) (fun args lent t h => by
    unfold calc_and.pat at h
    split at h
    · cases h; rfl
    · cases h) fun t u h => (calc_and.call hmix n t u h).ok Try.func63 (by decide) (by kernel_rfl)
end
section
theorem calc_or.gmap {α β : Type} (h : β → α) (mk0 : Int → β) (n : Nat) (a0 : Int) (a1 : Int) : calc_or.g (fun a0 => (h (mk0 a0))) n a0 a1 = (calc_or.g mk0 n a0 a1).map h := by
  unfold calc_or.g
  exact rfl
theorem calc_or.run (n : Nat) (a0 : Int) (a1 : Int) : runF (calc_or.C n) (calc_or.A n) n Try.f64 [(.int .u64 a0), (.int .u64 a1)] [] (fun v o => some (v, o)) = calc_or.g (fun a0 => ((Prod.mk (.int .u64 a0) []) : AV × Blks)) n a0 a1 := by kernel_rfl
theorem calc_or.call (hmix : Try.prog.follows .mixedOrders = true) (n : Nat) (t : (Int × Int)) (u) (h : calc_or.m n t = some u) : FnC Try.prog (fun _ => .any) 64 (calc_or.shape t).1 (calc_or.shape t).2 (calc_or.res u).1 (calc_or.res u).2 := by
  have hg : ∀ f m, (calc_or.C n).Γ f = some m → CalleeS Try.prog (fun _ => .any) f m := by
    intro f m hm
    unfold calc_or.C at hm
    simp only at hm
    first
    | (cases hm; done)
    | (split at hm <;> first
    | (cases hm; done))
  have hb : Try.f64.body = some (Try.f64.body.getD .skip) := by kernel_rfl
  refine runF_calls (C := calc_or.C n) (A := calc_or.A n) (n := n) (fn := Try.f64) hg hmix Try.func64 hb ?_ ?_ (by decide) rfl rfl (by show 2 ≤ Try.f64.ntmps; decide) ?_
  · rw [show loopsIn (Try.f64.body.getD .skip) = [] by kernel_rfl]
    intro b hb
    cases hb
  · intro a ha m hm
    cases (show none = some m from hm)
  · rw [show runF (calc_or.C n) (calc_or.A n) n Try.f64 (calc_or.shape t).1 (calc_or.shape t).2 (fun v o => some (v, o)) = _ from calc_or.run n t.1 t.2]
    have e := calc_or.gmap calc_or.res (fun a0 => a0) n t.1 t.2
    unfold calc_or.m at h
    rw [h] at e
    exact e
theorem calc_or.s (hmix : Try.prog.follows .mixedOrders = true) (n : Nat) : CalleeS Try.prog (fun _ => .any) 64 (calc_or.c n) :=
  CalleeS.of (res := calc_or.res) (shape := calc_or.shape) (fun R u K => rfl) (fun args lent t h => by
    unfold calc_or.pat at h
    split at h
    · cases h; rfl
    · cases h) fun t u h => (calc_or.call hmix n t u h).ok Try.func64 (by decide) (by kernel_rfl)
end
section
theorem calc_xor.gmap {α β : Type} (h : β → α) (mk0 : Int → β) (n : Nat) (a0 : Int) (a1 : Int) : calc_xor.g (fun a0 => (h (mk0 a0))) n a0 a1 = (calc_xor.g mk0 n a0 a1).map h := by
  unfold calc_xor.g
  exact rfl
theorem calc_xor.run (n : Nat) (a0 : Int) (a1 : Int) : runF (calc_xor.C n) (calc_xor.A n) n Try.f65 [(.int .u64 a0), (.int .u64 a1)] [] (fun v o => some (v, o)) = calc_xor.g (fun a0 => ((Prod.mk (.int .u64 a0) []) : AV × Blks)) n a0 a1 := by kernel_rfl
theorem calc_xor.call (hmix : Try.prog.follows .mixedOrders = true) (n : Nat) (t : (Int × Int)) (u) (h : calc_xor.m n t = some u) : FnC Try.prog (fun _ => .any) 65 (calc_xor.shape t).1 (calc_xor.shape t).2 (calc_xor.res u).1 (calc_xor.res u).2 := by
  have hg : ∀ f m, (calc_xor.C n).Γ f = some m → CalleeS Try.prog (fun _ => .any) f m := by
    intro f m hm
    unfold calc_xor.C at hm
    simp only at hm
    first
    | (cases hm; done)
    | (split at hm <;> first
    | (cases hm; done))
  have hb : Try.f65.body = some (Try.f65.body.getD .skip) := by kernel_rfl
  refine runF_calls (C := calc_xor.C n) (A := calc_xor.A n) (n := n) (fn := Try.f65) hg hmix Try.func65 hb ?_ ?_ (by decide) rfl rfl (by show 2 ≤ Try.f65.ntmps; decide) ?_
  · rw [show loopsIn (Try.f65.body.getD .skip) = [] by kernel_rfl]
    intro b hb
    cases hb
  · intro a ha m hm
    cases (show none = some m from hm)
  · rw [show runF (calc_xor.C n) (calc_xor.A n) n Try.f65 (calc_xor.shape t).1 (calc_xor.shape t).2 (fun v o => some (v, o)) = _ from calc_xor.run n t.1 t.2]
    have e := calc_xor.gmap calc_xor.res (fun a0 => a0) n t.1 t.2
    unfold calc_xor.m at h
    rw [h] at e
    exact e
theorem calc_xor.s (hmix : Try.prog.follows .mixedOrders = true) (n : Nat) : CalleeS Try.prog (fun _ => .any) 65 (calc_xor.c n) :=
  CalleeS.of (res := calc_xor.res) (shape := calc_xor.shape) (fun R u K => rfl) (fun args lent t h => by
    unfold calc_xor.pat at h
    split at h
    · cases h; rfl
    · cases h) fun t u h => (calc_xor.call hmix n t u h).ok Try.func65 (by decide) (by kernel_rfl)
end
section
theorem calc_nor.gmap {α β : Type} (h : β → α) (mk0 : Int → β) (n : Nat) (a0 : Int) (a1 : Int) : calc_nor.g (fun a0 => (h (mk0 a0))) n a0 a1 = (calc_nor.g mk0 n a0 a1).map h := by
  unfold calc_nor.g
  exact rfl
theorem calc_nor.run (n : Nat) (a0 : Int) (a1 : Int) : runF (calc_nor.C n) (calc_nor.A n) n Try.f66 [(.int .u64 a0), (.int .u64 a1)] [] (fun v o => some (v, o)) = calc_nor.g (fun a0 => ((Prod.mk (.int .u64 a0) []) : AV × Blks)) n a0 a1 := by kernel_rfl
theorem calc_nor.call (hmix : Try.prog.follows .mixedOrders = true) (n : Nat) (t : (Int × Int)) (u) (h : calc_nor.m n t = some u) : FnC Try.prog (fun _ => .any) 66 (calc_nor.shape t).1 (calc_nor.shape t).2 (calc_nor.res u).1 (calc_nor.res u).2 := by
  have hg : ∀ f m, (calc_nor.C n).Γ f = some m → CalleeS Try.prog (fun _ => .any) f m := by
    intro f m hm
    unfold calc_nor.C at hm
    simp only at hm
    first
    | (cases hm; done)
    | (split at hm <;> first
    | (cases hm; done))
  have hb : Try.f66.body = some (Try.f66.body.getD .skip) := by kernel_rfl
  refine runF_calls (C := calc_nor.C n) (A := calc_nor.A n) (n := n) (fn := Try.f66) hg hmix Try.func66 hb ?_ ?_ (by decide) rfl rfl (by show 2 ≤ Try.f66.ntmps; decide) ?_
  · rw [show loopsIn (Try.f66.body.getD .skip) = [] by kernel_rfl]
    intro b hb
    cases hb
  · intro a ha m hm
    cases (show none = some m from hm)
  · rw [show runF (calc_nor.C n) (calc_nor.A n) n Try.f66 (calc_nor.shape t).1 (calc_nor.shape t).2 (fun v o => some (v, o)) = _ from calc_nor.run n t.1 t.2]
    have e := calc_nor.gmap calc_nor.res (fun a0 => a0) n t.1 t.2
    unfold calc_nor.m at h
    rw [h] at e
    exact e
theorem calc_nor.s (hmix : Try.prog.follows .mixedOrders = true) (n : Nat) : CalleeS Try.prog (fun _ => .any) 66 (calc_nor.c n) :=
  CalleeS.of (res := calc_nor.res) (shape := calc_nor.shape) (fun R u K => rfl) (fun args lent t h => by
    unfold calc_nor.pat at h
    split at h
    · cases h; rfl
    · cases h) fun t u h => (calc_nor.call hmix n t u h).ok Try.func66 (by decide) (by kernel_rfl)
end
section
theorem calc_each_and.l3_0.rmap {α β : Type} (h : β → α) (mk0 : (List Int) → (List Int) → β) (n : Nat) (f : Int → (List Int) → (List Int) → (List Int) → (List Int) → Option β)  (x0 : Int) (x1 : (List Int)) (x2 : (List Int)) (x3 : (List Int)) (x4 : (List Int)) : calc_each_and.l3_0.r (fun a0 a1 => (h (mk0 a0 a1))) n (fun y0 y1 y2 y3 y4 => (f y0 y1 y2 y3 y4).map h) x0 x1 x2 x3 x4 = (calc_each_and.l3_0.r mk0 n f x0 x1 x2 x3 x4).map h := by
  unfold calc_each_and.l3_0.r
  exact (ite_map (ite_map (ite_map (ite_map (ite_map (bindO_map fun r14 => (ite_map (ite_map rfl rfl) rfl)) rfl) rfl) rfl) rfl) rfl)
theorem calc_each_and.l3_0.gmap {α β : Type} (h : β → α) (mk0 : (List Int) → (List Int) → β) (n : Nat) : ∀ (m : Nat) (x0 : Int) (x1 : (List Int)) (x2 : (List Int)) (x3 : (List Int)) (x4 : (List Int)), calc_each_and.l3_0.g (fun a0 a1 => (h (mk0 a0 a1))) n m x0 x1 x2 x3 x4 = (calc_each_and.l3_0.g mk0 n m x0 x1 x2 x3 x4).map h
  | 0, _, _, _, _, _ => rfl
  | m + 1, x0, x1, x2, x3, x4 => by
    unfold calc_each_and.l3_0.g
    rw [← calc_each_and.l3_0.rmap]
    congr
    · funext y0 y1 y2 y3 y4; exact calc_each_and.l3_0.gmap h mk0 n m y0 y1 y2 y3 y4
theorem calc_each_and.l3_0.pat_shape : ∀ st t, calc_each_and.l3_0.pat st = some t → st = calc_each_and.l3_0.shape t := by
  intro st t h
  unfold calc_each_and.l3_0.pat at h
  split at h
  · cases h; rfl
  · cases h
theorem calc_each_and.l3_0.round (n : Nat) (rc : St → Option (Ex × St)) (x0 : Int) (x1 : (List Int)) (x2 : (List Int)) (x3 : (List Int)) (x4 : (List Int)) : roundOf (calc_each_and.C n) (calc_each_and.A n) n calc_each_and.b0 rc ((St.mk [(.int .i64 x0), (.fn (.func 63) [] []), (.ptr 0 []), (.ptr 1 []), (.ptr 2 []), (.ptr 3 [])] [(some (.var (.ints .u64 4 x1))), (some (.var (.ints .u64 4 x2))), (some (.var (.ints .u64 4 x3))), (some (.var (.ints .u64 4 x4)))])) = calc_each_and.l3_0.r (fun a0 a1 => ((Prod.mk (.exit 0) (St.mk [(.ptr 0 []), (.ptr 1 [])] [(some (.var (.ints .u64 4 a0))), (some (.var (.ints .u64 4 a1)))])) : Ex × St)) n (fun y0 y1 y2 y3 y4 => rc ((St.mk [(.int .i64 y0), (.fn (.func 63) [] []), (.ptr 0 []), (.ptr 1 []), (.ptr 2 []), (.ptr 3 [])] [(some (.var (.ints .u64 4 y1))), (some (.var (.ints .u64 4 y2))), (some (.var (.ints .u64 4 y3))), (some (.var (.ints .u64 4 y4)))]))) x0 x1 x2 x3 x4 := by kernel_rfl
theorem calc_each_and.l3_0.loop' (n : Nat) : ∀ (m : Nat) (t : (Int × ((List Int) × ((List Int) × ((List Int) × (List Int)))))), loopOf (roundOf (calc_each_and.C n) (calc_each_and.A n) n calc_each_and.b0) m (calc_each_and.l3_0.shape t) = calc_each_and.l3_0.g (fun a0 a1 => ((Prod.mk (.exit 0) (St.mk [(.ptr 0 []), (.ptr 1 [])] [(some (.var (.ints .u64 4 a0))), (some (.var (.ints .u64 4 a1)))])) : Ex × St)) n m t.1 t.2.1 t.2.2.1 t.2.2.2.1 t.2.2.2.2 :=
  loop_of_round (shape := calc_each_and.l3_0.shape) (body := roundOf (calc_each_and.C n) (calc_each_and.A n) n calc_each_and.b0) (g := fun m t => calc_each_and.l3_0.g (fun a0 a1 => ((Prod.mk (.exit 0) (St.mk [(.ptr 0 []), (.ptr 1 [])] [(some (.var (.ints .u64 4 a0))), (some (.var (.ints .u64 4 a1)))])) : Ex × St)) n m t.1 t.2.1 t.2.2.1 t.2.2.2.1 t.2.2.2.2) (fun t => rfl)
    fun m t ih => (calc_each_and.l3_0.round n (loopOf (roundOf (calc_each_and.C n) (calc_each_and.A n) n calc_each_and.b0) m) t.1 t.2.1 t.2.2.1 t.2.2.2.1 t.2.2.2.2).trans (congrFun (congrFun (congrFun (congrFun (congrFun (congrArg (calc_each_and.l3_0.r (fun a0 a1 => ((Prod.mk (.exit 0) (St.mk [(.ptr 0 []), (.ptr 1 [])] [(some (.var (.ints .u64 4 a0))), (some (.var (.ints .u64 4 a1)))])) : Ex × St)) n) (funext fun y0 => funext fun y1 => funext fun y2 => funext fun y3 => funext fun y4 => ih (y0, y1, y2, y3, y4))) t.1) t.2.1) t.2.2.1) t.2.2.2.1) t.2.2.2.2)
theorem calc_each_and.l3_0.loop (n m : Nat) (t : (Int × ((List Int) × ((List Int) × ((List Int) × (List Int)))))) : loopOf (roundOf (calc_each_and.C n) (calc_each_and.A n) n calc_each_and.b0) m (calc_each_and.l3_0.shape t) = (calc_each_and.l3_0.m n m t).map calc_each_and.l3_0.res :=
  (calc_each_and.l3_0.loop' n m t).trans (calc_each_and.l3_0.gmap calc_each_and.l3_0.res (fun a0 a1 => (a0, a1)) n m t.1 t.2.1 t.2.2.1 t.2.2.2.1 t.2.2.2.2)
theorem calc_each_and.gmap {α β : Type} (h : β → α) (mk0 : (List Int) → β) (n : Nat) (a : (List Int)) (b : (List Int)) : calc_each_and.g (fun a0 => (h (mk0 a0))) n a b = (calc_each_and.g mk0 n a b).map h := by
  unfold calc_each_and.g
  exact (bindO_map fun r2 => rfl)
theorem calc_each_and.run (n : Nat) (a : (List Int)) (b : (List Int)) : runF (calc_each_and.C n) (calc_each_and.A n) n Try.f62 [(.ints .u64 4 a), (.ints .u64 4 b), (.fn (.func 63) [] [])] [] (fun v o => some (v, o)) = calc_each_and.g (fun a0 => ((Prod.mk (.ints .u64 4 a0) []) : AV × Blks)) n a b := by kernel_rfl
theorem calc_each_and.call (hmix : Try.prog.follows .mixedOrders = true) (n : Nat) (t : ((List Int) × (List Int))) (u) (h : calc_each_and.m n t = some u) : FnC Try.prog (fun _ => .any) 62 (calc_each_and.shape t).1 (calc_each_and.shape t).2 (calc_each_and.res u).1 (calc_each_and.res u).2 := by
  have hg : ∀ f m, (calc_each_and.C n).Γ f = some m → CalleeS Try.prog (fun _ => .any) f m := by
    intro f m hm
    unfold calc_each_and.C at hm
    simp only at hm
    first
    | (cases hm; done)
    | (split at hm <;> first
    | (cases hm; exact calc_and.s hmix n)
    | (cases hm; exact calc_or.s hmix n)
    | (cases hm; exact calc_xor.s hmix n)
    | (cases hm; exact calc_nor.s hmix n)
    | (cases hm; done))
  have hb : Try.f62.body = some (Try.f62.body.getD .skip) := by kernel_rfl
  refine runF_calls (C := calc_each_and.C n) (A := calc_each_and.A n) (n := n) (fn := Try.f62) hg hmix Try.func62 hb ?_ ?_ (by decide) rfl rfl (by show 3 ≤ Try.f62.ntmps; decide) ?_
  · rw [show loopsIn (Try.f62.body.getD .skip) = [calc_each_and.b0] by kernel_rfl]
    intro b hb m hm
    simp only [List.mem_cons, List.not_mem_nil, or_false] at hb
    rcases hb with rfl
    · have e : (calc_each_and.A n).loop (key calc_each_and.b0) = some (.mk' calc_each_and.l3_0.pat (calc_each_and.l3_0.m n n) calc_each_and.l3_0.resK) := by rw [show key calc_each_and.b0 = 3 by kernel_rfl]; rfl
      rw [e] at hm
      cases hm
      exact (LoopS.of (res := calc_each_and.l3_0.res) (fun R u K => rfl) calc_each_and.l3_0.pat_shape fun t => calc_each_and.l3_0.loop n n t)
  · intro a ha m hm
    cases (show none = some m from hm)
  · rw [show runF (calc_each_and.C n) (calc_each_and.A n) n Try.f62 (calc_each_and.shape t).1 (calc_each_and.shape t).2 (fun v o => some (v, o)) = _ from calc_each_and.run n t.1 t.2]
    have e := calc_each_and.gmap calc_each_and.res (fun a0 => a0) n t.1 t.2
    unfold calc_each_and.m at h
    rw [h] at e
    exact e
theorem calc_each_and.s (hmix : Try.prog.follows .mixedOrders = true) (n : Nat) : CalleeS Try.prog (fun _ => .any) 62 (calc_each_and.c n) :=
  CalleeS.of (res := calc_each_and.res) (shape := calc_each_and.shape) (fun R u K => rfl) (fun args lent t h => by
    unfold calc_each_and.pat at h
    split at h
    · cases h; rfl
    · cases h) fun t u h => (calc_each_and.call hmix n t u h).ok Try.func62 (by decide) (by kernel_rfl)
end
section
theorem calc_each_or.l3_0.rmap {α β : Type} (h : β → α) (mk0 : (List Int) → (List Int) → β) (n : Nat) (f : Int → (List Int) → (List Int) → (List Int) → (List Int) → Option β)  (x0 : Int) (x1 : (List Int)) (x2 : (List Int)) (x3 : (List Int)) (x4 : (List Int)) : calc_each_or.l3_0.r (fun a0 a1 => (h (mk0 a0 a1))) n (fun y0 y1 y2 y3 y4 => (f y0 y1 y2 y3 y4).map h) x0 x1 x2 x3 x4 = (calc_each_or.l3_0.r mk0 n f x0 x1 x2 x3 x4).map h := by
  unfold calc_each_or.l3_0.r
  exact (ite_map (ite_map (ite_map (ite_map (ite_map (bindO_map fun r14 => (ite_map (ite_map rfl rfl) rfl)) rfl) rfl) rfl) rfl) rfl)
theorem calc_each_or.l3_0.gmap {α β : Type} (h : β → α) (mk0 : (List Int) → (List Int) → β) (n : Nat) : ∀ (m : Nat) (x0 : Int) (x1 : (List Int)) (x2 : (List Int)) (x3 : (List Int)) (x4 : (List Int)), calc_each_or.l3_0.g (fun a0 a1 => (h (mk0 a0 a1))) n m x0 x1 x2 x3 x4 = (calc_each_or.l3_0.g mk0 n m x0 x1 x2 x3 x4).map h
  | 0, _, _, _, _, _ => rfl
  | m + 1, x0, x1, x2, x3, x4 => by
    unfold calc_each_or.l3_0.g
    rw [← calc_each_or.l3_0.rmap]
    congr
    · funext y0 y1 y2 y3 y4; exact calc_each_or.l3_0.gmap h mk0 n m y0 y1 y2 y3 y4
theorem calc_each_or.l3_0.pat_shape : ∀ st t, calc_each_or.l3_0.pat st = some t → st = calc_each_or.l3_0.shape t := by
  intro st t h
  unfold calc_each_or.l3_0.pat at h
  split at h
  · cases h; rfl
  · cases h
theorem calc_each_or.l3_0.round (n : Nat) (rc : St → Option (Ex × St)) (x0 : Int) (x1 : (List Int)) (x2 : (List Int)) (x3 : (List Int)) (x4 : (List Int)) : roundOf (calc_each_or.C n) (calc_each_or.A n) n calc_each_or.b0 rc ((St.mk [(.int .i64 x0), (.fn (.func 64) [] []), (.ptr 0 []), (.ptr 1 []), (.ptr 2 []), (.ptr 3 [])] [(some (.var (.ints .u64 4 x1))), (some (.var (.ints .u64 4 x2))), (some (.var (.ints .u64 4 x3))), (some (.var (.ints .u64 4 x4)))])) = calc_each_or.l3_0.r (fun a0 a1 => ((Prod.mk (.exit 0) (St.mk [(.ptr 0 []), (.ptr 1 [])] [(some (.var (.ints .u64 4 a0))), (some (.var (.ints .u64 4 a1)))])) : Ex × St)) n (fun y0 y1 y2 y3 y4 => rc ((St.mk [(.int .i64 y0), (.fn (.func 64) [] []), (.ptr 0 []), (.ptr 1 []), (.ptr 2 []), (.ptr 3 [])] [(some (.var (.ints .u64 4 y1))), (some (.var (.ints .u64 4 y2))), (some (.var (.ints .u64 4 y3))), (some (.var (.ints .u64 4 y4)))]))) x0 x1 x2 x3 x4 := by kernel_rfl
theorem calc_each_or.l3_0.loop' (n : Nat) : ∀ (m : Nat) (t : (Int × ((List Int) × ((List Int) × ((List Int) × (List Int)))))), loopOf (roundOf (calc_each_or.C n) (calc_each_or.A n) n calc_each_or.b0) m (calc_each_or.l3_0.shape t) = calc_each_or.l3_0.g (fun a0 a1 => ((Prod.mk (.exit 0) (St.mk [(.ptr 0 []), (.ptr 1 [])] [(some (.var (.ints .u64 4 a0))), (some (.var (.ints .u64 4 a1)))])) : Ex × St)) n m t.1 t.2.1 t.2.2.1 t.2.2.2.1 t.2.2.2.2 :=
  loop_of_round (shape := calc_each_or.l3_0.shape) (body := roundOf (calc_each_or.C n) (calc_each_or.A n) n calc_each_or.b0) (g := fun m t => calc_each_or.l3_0.g (fun a0 a1 => ((Prod.mk (.exit 0) (St.mk [(.ptr 0 []), (.ptr 1 [])] [(some (.var (.ints .u64 4 a0))), (some (.var (.ints .u64 4 a1)))])) : Ex × St)) n m t.1 t.2.1 t.2.2.1 t.2.2.2.1 t.2.2.2.2) (fun t => rfl)
    fun m t ih => (calc_each_or.l3_0.round n (loopOf (roundOf (calc_each_or.C n) (calc_each_or.A n) n calc_each_or.b0) m) t.1 t.2.1 t.2.2.1 t.2.2.2.1 t.2.2.2.2).trans (congrFun (congrFun (congrFun (congrFun (congrFun (congrArg (calc_each_or.l3_0.r (fun a0 a1 => ((Prod.mk (.exit 0) (St.mk [(.ptr 0 []), (.ptr 1 [])] [(some (.var (.ints .u64 4 a0))), (some (.var (.ints .u64 4 a1)))])) : Ex × St)) n) (funext fun y0 => funext fun y1 => funext fun y2 => funext fun y3 => funext fun y4 => ih (y0, y1, y2, y3, y4))) t.1) t.2.1) t.2.2.1) t.2.2.2.1) t.2.2.2.2)
theorem calc_each_or.l3_0.loop (n m : Nat) (t : (Int × ((List Int) × ((List Int) × ((List Int) × (List Int)))))) : loopOf (roundOf (calc_each_or.C n) (calc_each_or.A n) n calc_each_or.b0) m (calc_each_or.l3_0.shape t) = (calc_each_or.l3_0.m n m t).map calc_each_or.l3_0.res :=
  (calc_each_or.l3_0.loop' n m t).trans (calc_each_or.l3_0.gmap calc_each_or.l3_0.res (fun a0 a1 => (a0, a1)) n m t.1 t.2.1 t.2.2.1 t.2.2.2.1 t.2.2.2.2)
theorem calc_each_or.gmap {α β : Type} (h : β → α) (mk0 : (List Int) → β) (n : Nat) (a : (List Int)) (b : (List Int)) : calc_each_or.g (fun a0 => (h (mk0 a0))) n a b = (calc_each_or.g mk0 n a b).map h := by
  unfold calc_each_or.g
  exact (bindO_map fun r2 => rfl)
theorem calc_each_or.run (n : Nat) (a : (List Int)) (b : (List Int)) : runF (calc_each_or.C n) (calc_each_or.A n) n Try.f62 [(.ints .u64 4 a), (.ints .u64 4 b), (.fn (.func 64) [] [])] [] (fun v o => some (v, o)) = calc_each_or.g (fun a0 => ((Prod.mk (.ints .u64 4 a0) []) : AV × Blks)) n a b := by kernel_rfl
theorem calc_each_or.call (hmix : Try.prog.follows .mixedOrders = true) (n : Nat) (t : ((List Int) × (List Int))) (u) (h : calc_each_or.m n t = some u) : FnC Try.prog (fun _ => .any) 62 (calc_each_or.shape t).1 (calc_each_or.shape t).2 (calc_each_or.res u).1 (calc_each_or.res u).2 := by
  have hg : ∀ f m, (calc_each_or.C n).Γ f = some m → CalleeS Try.prog (fun _ => .any) f m := by
    intro f m hm
    unfold calc_each_or.C at hm
    simp only at hm
    first
    | (cases hm; done)
    | (split at hm <;> first
    | (cases hm; exact calc_and.s hmix n)
    | (cases hm; exact calc_or.s hmix n)
    | (cases hm; exact calc_xor.s hmix n)
    | (cases hm; exact calc_nor.s hmix n)
    | (cases hm; done))
  have hb : Try.f62.body = some (Try.f62.body.getD .skip) := by kernel_rfl
  refine runF_calls (C := calc_each_or.C n) (A := calc_each_or.A n) (n := n) (fn := Try.f62) hg hmix Try.func62 hb ?_ ?_ (by decide) rfl rfl (by show 3 ≤ Try.f62.ntmps; decide) ?_
  · rw [show loopsIn (Try.f62.body.getD .skip) = [calc_each_or.b0] by kernel_rfl]
    intro b hb m hm
    simp only [List.mem_cons, List.not_mem_nil, or_false] at hb
    rcases hb with rfl
    · have e : (calc_each_or.A n).loop (key calc_each_or.b0) = some (.mk' calc_each_or.l3_0.pat (calc_each_or.l3_0.m n n) calc_each_or.l3_0.resK) := by rw [show key calc_each_or.b0 = 3 by kernel_rfl]; rfl
      rw [e] at hm
      cases hm
      exact (LoopS.of (res := calc_each_or.l3_0.res) (fun R u K => rfl) calc_each_or.l3_0.pat_shape fun t => calc_each_or.l3_0.loop n n t)
  · intro a ha m hm
    cases (show none = some m from hm)
  · rw [show runF (calc_each_or.C n) (calc_each_or.A n) n Try.f62 (calc_each_or.shape t).1 (calc_each_or.shape t).2 (fun v o => some (v, o)) = _ from calc_each_or.run n t.1 t.2]
    have e := calc_each_or.gmap calc_each_or.res (fun a0 => a0) n t.1 t.2
    unfold calc_each_or.m at h
    rw [h] at e
    exact e
theorem calc_each_or.s (hmix : Try.prog.follows .mixedOrders = true) (n : Nat) : CalleeS Try.prog (fun _ => .any) 62 (calc_each_or.c n) :=
  CalleeS.of (res := calc_each_or.res) (shape := calc_each_or.shape) (fun R u K => rfl) (fun args lent t h => by
    unfold calc_each_or.pat at h
    split at h
    · cases h; rfl
    · cases h) fun t u h => (calc_each_or.call hmix n t u h).ok Try.func62 (by decide) (by kernel_rfl)
end
section
theorem calc_each_xor.l3_0.rmap {α β : Type} (h : β → α) (mk0 : (List Int) → (List Int) → β) (n : Nat) (f : Int → (List Int) → (List Int) → (List Int) → (List Int) → Option β)  (x0 : Int) (x1 : (List Int)) (x2 : (List Int)) (x3 : (List Int)) (x4 : (List Int)) : calc_each_xor.l3_0.r (fun a0 a1 => (h (mk0 a0 a1))) n (fun y0 y1 y2 y3 y4 => (f y0 y1 y2 y3 y4).map h) x0 x1 x2 x3 x4 = (calc_each_xor.l3_0.r mk0 n f x0 x1 x2 x3 x4).map h := by
  unfold calc_each_xor.l3_0.r
  exact (ite_map (ite_map (ite_map (ite_map (ite_map (bindO_map fun r14 => (ite_map (ite_map rfl rfl) rfl)) rfl) rfl) rfl) rfl) rfl)
theorem calc_each_xor.l3_0.gmap {α β : Type} (h : β → α) (mk0 : (List Int) → (List Int) → β) (n : Nat) : ∀ (m : Nat) (x0 : Int) (x1 : (List Int)) (x2 : (List Int)) (x3 : (List Int)) (x4 : (List Int)), calc_each_xor.l3_0.g (fun a0 a1 => (h (mk0 a0 a1))) n m x0 x1 x2 x3 x4 = (calc_each_xor.l3_0.g mk0 n m x0 x1 x2 x3 x4).map h
  | 0, _, _, _, _, _ => rfl
  | m + 1, x0, x1, x2, x3, x4 => by
    unfold calc_each_xor.l3_0.g
    rw [← calc_each_xor.l3_0.rmap]
    congr
    · funext y0 y1 y2 y3 y4; exact calc_each_xor.l3_0.gmap h mk0 n m y0 y1 y2 y3 y4
theorem calc_each_xor.l3_0.pat_shape : ∀ st t, calc_each_xor.l3_0.pat st = some t → st = calc_each_xor.l3_0.shape t := by
  intro st t h
  unfold calc_each_xor.l3_0.pat at h
  split at h
  · cases h; rfl
  · cases h
theorem calc_each_xor.l3_0.round (n : Nat) (rc : St → Option (Ex × St)) (x0 : Int) (x1 : (List Int)) (x2 : (List Int)) (x3 : (List Int)) (x4 : (List Int)) : roundOf (calc_each_xor.C n) (calc_each_xor.A n) n calc_each_xor.b0 rc ((St.mk [(.int .i64 x0), (.fn (.func 65) [] []), (.ptr 0 []), (.ptr 1 []), (.ptr 2 []), (.ptr 3 [])] [(some (.var (.ints .u64 4 x1))), (some (.var (.ints .u64 4 x2))), (some (.var (.ints .u64 4 x3))), (some (.var (.ints .u64 4 x4)))])) = calc_each_xor.l3_0.r (fun a0 a1 => ((Prod.mk (.exit 0) (St.mk [(.ptr 0 []), (.ptr 1 [])] [(some (.var (.ints .u64 4 a0))), (some (.var (.ints .u64 4 a1)))])) : Ex × St)) n (fun y0 y1 y2 y3 y4 => rc ((St.mk [(.int .i64 y0), (.fn (.func 65) [] []), (.ptr 0 []), (.ptr 1 []), (.ptr 2 []), (.ptr 3 [])] [(some (.var (.ints .u64 4 y1))), (some (.var (.ints .u64 4 y2))), (some (.var (.ints .u64 4 y3))), (some (.var (.ints .u64 4 y4)))]))) x0 x1 x2 x3 x4 := by kernel_rfl
theorem calc_each_xor.l3_0.loop' (n : Nat) : ∀ (m : Nat) (t : (Int × ((List Int) × ((List Int) × ((List Int) × (List Int)))))), loopOf (roundOf (calc_each_xor.C n) (calc_each_xor.A n) n calc_each_xor.b0) m (calc_each_xor.l3_0.shape t) = calc_each_xor.l3_0.g (fun a0 a1 => ((Prod.mk (.exit 0) (St.mk [(.ptr 0 []), (.ptr 1 [])] [(some (.var (.ints .u64 4 a0))), (some (.var (.ints .u64 4 a1)))])) : Ex × St)) n m t.1 t.2.1 t.2.2.1 t.2.2.2.1 t.2.2.2.2 :=
  loop_of_round (shape := calc_each_xor.l3_0.shape) (body := roundOf (calc_each_xor.C n) (calc_each_xor.A n) n calc_each_xor.b0) (g := fun m t => calc_each_xor.l3_0.g (fun a0 a1 => ((Prod.mk (.exit 0) (St.mk [(.ptr 0 []), (.ptr 1 [])] [(some (.var (.ints .u64 4 a0))), (some (.var (.ints .u64 4 a1)))])) : Ex × St)) n m t.1 t.2.1 t.2.2.1 t.2.2.2.1 t.2.2.2.2) (fun t => rfl)
    fun m t ih => (calc_each_xor.l3_0.round n (loopOf (roundOf (calc_each_xor.C n) (calc_each_xor.A n) n calc_each_xor.b0) m) t.1 t.2.1 t.2.2.1 t.2.2.2.1 t.2.2.2.2).trans (congrFun (congrFun (congrFun (congrFun (congrFun (congrArg (calc_each_xor.l3_0.r (fun a0 a1 => ((Prod.mk (.exit 0) (St.mk [(.ptr 0 []), (.ptr 1 [])] [(some (.var (.ints .u64 4 a0))), (some (.var (.ints .u64 4 a1)))])) : Ex × St)) n) (funext fun y0 => funext fun y1 => funext fun y2 => funext fun y3 => funext fun y4 => ih (y0, y1, y2, y3, y4))) t.1) t.2.1) t.2.2.1) t.2.2.2.1) t.2.2.2.2)
theorem calc_each_xor.l3_0.loop (n m : Nat) (t : (Int × ((List Int) × ((List Int) × ((List Int) × (List Int)))))) : loopOf (roundOf (calc_each_xor.C n) (calc_each_xor.A n) n calc_each_xor.b0) m (calc_each_xor.l3_0.shape t) = (calc_each_xor.l3_0.m n m t).map calc_each_xor.l3_0.res :=
  (calc_each_xor.l3_0.loop' n m t).trans (calc_each_xor.l3_0.gmap calc_each_xor.l3_0.res (fun a0 a1 => (a0, a1)) n m t.1 t.2.1 t.2.2.1 t.2.2.2.1 t.2.2.2.2)
theorem calc_each_xor.gmap {α β : Type} (h : β → α) (mk0 : (List Int) → β) (n : Nat) (a : (List Int)) (b : (List Int)) : calc_each_xor.g (fun a0 => (h (mk0 a0))) n a b = (calc_each_xor.g mk0 n a b).map h := by
  unfold calc_each_xor.g
  exact (bindO_map fun r2 => rfl)
theorem calc_each_xor.run (n : Nat) (a : (List Int)) (b : (List Int)) : runF (calc_each_xor.C n) (calc_each_xor.A n) n Try.f62 [(.ints .u64 4 a), (.ints .u64 4 b), (.fn (.func 65) [] [])] [] (fun v o => some (v, o)) = calc_each_xor.g (fun a0 => ((Prod.mk (.ints .u64 4 a0) []) : AV × Blks)) n a b := by kernel_rfl
theorem calc_each_xor.call (hmix : Try.prog.follows .mixedOrders = true) (n : Nat) (t : ((List Int) × (List Int))) (u) (h : calc_each_xor.m n t = some u) : FnC Try.prog (fun _ => .any) 62 (calc_each_xor.shape t).1 (calc_each_xor.shape t).2 (calc_each_xor.res u).1 (calc_each_xor.res u).2 := by
  have hg : ∀ f m, (calc_each_xor.C n).Γ f = some m → CalleeS Try.prog (fun _ => .any) f m := by
    intro f m hm
    unfold calc_each_xor.C at hm
    simp only at hm
    first
    | (cases hm; done)
    | (split at hm <;> first
    | (cases hm; exact calc_and.s hmix n)
    | (cases hm; exact calc_or.s hmix n)
    | (cases hm; exact calc_xor.s hmix n)
    | (cases hm; exact calc_nor.s hmix n)
    | (cases hm; done))
  have hb : Try.f62.body = some (Try.f62.body.getD .skip) := by kernel_rfl
  refine runF_calls (C := calc_each_xor.C n) (A := calc_each_xor.A n) (n := n) (fn := Try.f62) hg hmix Try.func62 hb ?_ ?_ (by decide) rfl rfl (by show 3 ≤ Try.f62.ntmps; decide) ?_
  · rw [show loopsIn (Try.f62.body.getD .skip) = [calc_each_xor.b0] by kernel_rfl]
    intro b hb m hm
    simp only [List.mem_cons, List.not_mem_nil, or_false] at hb
    rcases hb with rfl
    · have e : (calc_each_xor.A n).loop (key calc_each_xor.b0) = some (.mk' calc_each_xor.l3_0.pat (calc_each_xor.l3_0.m n n) calc_each_xor.l3_0.resK) := by rw [show key calc_each_xor.b0 = 3 by kernel_rfl]; rfl
      rw [e] at hm
      cases hm
      exact (LoopS.of (res := calc_each_xor.l3_0.res) (fun R u K => rfl) calc_each_xor.l3_0.pat_shape fun t => calc_each_xor.l3_0.loop n n t)
  · intro a ha m hm
    cases (show none = some m from hm)
  · rw [show runF (calc_each_xor.C n) (calc_each_xor.A n) n Try.f62 (calc_each_xor.shape t).1 (calc_each_xor.shape t).2 (fun v o => some (v, o)) = _ from calc_each_xor.run n t.1 t.2]
    have e := calc_each_xor.gmap calc_each_xor.res (fun a0 => a0) n t.1 t.2
    unfold calc_each_xor.m at h
    rw [h] at e
    exact e
theorem calc_each_xor.s (hmix : Try.prog.follows .mixedOrders = true) (n : Nat) : CalleeS Try.prog (fun _ => .any) 62 (calc_each_xor.c n) :=
  CalleeS.of (res := calc_each_xor.res) (shape := calc_each_xor.shape) (fun R u K => rfl) (fun args lent t h => by
    unfold calc_each_xor.pat at h
    split at h
    · cases h; rfl
    · cases h) fun t u h => (calc_each_xor.call hmix n t u h).ok Try.func62 (by decide) (by kernel_rfl)
end
section
theorem calc_each_nor.l3_0.rmap {α β : Type} (h : β → α) (mk0 : (List Int) → (List Int) → β) (n : Nat) (f : Int → (List Int) → (List Int) → (List Int) → (List Int) → Option β)  (x0 : Int) (x1 : (List Int)) (x2 : (List Int)) (x3 : (List Int)) (x4 : (List Int)) : calc_each_nor.l3_0.r (fun a0 a1 => (h (mk0 a0 a1))) n (fun y0 y1 y2 y3 y4 => (f y0 y1 y2 y3 y4).map h) x0 x1 x2 x3 x4 = (calc_each_nor.l3_0.r mk0 n f x0 x1 x2 x3 x4).map h := by
  unfold calc_each_nor.l3_0.r
  exact (ite_map (ite_map (ite_map (ite_map (ite_map (bindO_map fun r14 => (ite_map (ite_map rfl rfl) rfl)) rfl) rfl) rfl) rfl) rfl)
theorem calc_each_nor.l3_0.gmap {α β : Type} (h : β → α) (mk0 : (List Int) → (List Int) → β) (n : Nat) : ∀ (m : Nat) (x0 : Int) (x1 : (List Int)) (x2 : (List Int)) (x3 : (List Int)) (x4 : (List Int)), calc_each_nor.l3_0.g (fun a0 a1 => (h (mk0 a0 a1))) n m x0 x1 x2 x3 x4 = (calc_each_nor.l3_0.g mk0 n m x0 x1 x2 x3 x4).map h
  | 0, _, _, _, _, _ => rfl
  | m + 1, x0, x1, x2, x3, x4 => by
    unfold calc_each_nor.l3_0.g
    rw [← calc_each_nor.l3_0.rmap]
    congr
    · funext y0 y1 y2 y3 y4; exact calc_each_nor.l3_0.gmap h mk0 n m y0 y1 y2 y3 y4
theorem calc_each_nor.l3_0.pat_shape : ∀ st t, calc_each_nor.l3_0.pat st = some t → st = calc_each_nor.l3_0.shape t := by
  intro st t h
  unfold calc_each_nor.l3_0.pat at h
  split at h
  · cases h; rfl
  · cases h
theorem calc_each_nor.l3_0.round (n : Nat) (rc : St → Option (Ex × St)) (x0 : Int) (x1 : (List Int)) (x2 : (List Int)) (x3 : (List Int)) (x4 : (List Int)) : roundOf (calc_each_nor.C n) (calc_each_nor.A n) n calc_each_nor.b0 rc ((St.mk [(.int .i64 x0), (.fn (.func 66) [] []), (.ptr 0 []), (.ptr 1 []), (.ptr 2 []), (.ptr 3 [])] [(some (.var (.ints .u64 4 x1))), (some (.var (.ints .u64 4 x2))), (some (.var (.ints .u64 4 x3))), (some (.var (.ints .u64 4 x4)))])) = calc_each_nor.l3_0.r (fun a0 a1 => ((Prod.mk (.exit 0) (St.mk [(.ptr 0 []), (.ptr 1 [])] [(some (.var (.ints .u64 4 a0))), (some (.var (.ints .u64 4 a1)))])) : Ex × St)) n (fun y0 y1 y2 y3 y4 => rc ((St.mk [(.int .i64 y0), (.fn (.func 66) [] []), (.ptr 0 []), (.ptr 1 []), (.ptr 2 []), (.ptr 3 [])] [(some (.var (.ints .u64 4 y1))), (some (.var (.ints .u64 4 y2))), (some (.var (.ints .u64 4 y3))), (some (.var (.ints .u64 4 y4)))]))) x0 x1 x2 x3 x4 := by kernel_rfl
theorem calc_each_nor.l3_0.loop' (n : Nat) : ∀ (m : Nat) (t : (Int × ((List Int) × ((List Int) × ((List Int) × (List Int)))))), loopOf (roundOf (calc_each_nor.C n) (calc_each_nor.A n) n calc_each_nor.b0) m (calc_each_nor.l3_0.shape t) = calc_each_nor.l3_0.g (fun a0 a1 => ((Prod.mk (.exit 0) (St.mk [(.ptr 0 []), (.ptr 1 [])] [(some (.var (.ints .u64 4 a0))), (some (.var (.ints .u64 4 a1)))])) : Ex × St)) n m t.1 t.2.1 t.2.2.1 t.2.2.2.1 t.2.2.2.2 :=
  loop_of_round (shape := calc_each_nor.l3_0.shape) (body := roundOf (calc_each_nor.C n) (calc_each_nor.A n) n calc_each_nor.b0) (g := fun m t => calc_each_nor.l3_0.g (fun a0 a1 => ((Prod.mk (.exit 0) (St.mk [(.ptr 0 []), (.ptr 1 [])] [(some (.var (.ints .u64 4 a0))), (some (.var (.ints .u64 4 a1)))])) : Ex × St)) n m t.1 t.2.1 t.2.2.1 t.2.2.2.1 t.2.2.2.2) (fun t => rfl)
    fun m t ih => (calc_each_nor.l3_0.round n (loopOf (roundOf (calc_each_nor.C n) (calc_each_nor.A n) n calc_each_nor.b0) m) t.1 t.2.1 t.2.2.1 t.2.2.2.1 t.2.2.2.2).trans (congrFun (congrFun (congrFun (congrFun (congrFun (congrArg (calc_each_nor.l3_0.r (fun a0 a1 => ((Prod.mk (.exit 0) (St.mk [(.ptr 0 []), (.ptr 1 [])] [(some (.var (.ints .u64 4 a0))), (some (.var (.ints .u64 4 a1)))])) : Ex × St)) n) (funext fun y0 => funext fun y1 => funext fun y2 => funext fun y3 => funext fun y4 => ih (y0, y1, y2, y3, y4))) t.1) t.2.1) t.2.2.1) t.2.2.2.1) t.2.2.2.2)
theorem calc_each_nor.l3_0.loop (n m : Nat) (t : (Int × ((List Int) × ((List Int) × ((List Int) × (List Int)))))) : loopOf (roundOf (calc_each_nor.C n) (calc_each_nor.A n) n calc_each_nor.b0) m (calc_each_nor.l3_0.shape t) = (calc_each_nor.l3_0.m n m t).map calc_each_nor.l3_0.res :=
  (calc_each_nor.l3_0.loop' n m t).trans (calc_each_nor.l3_0.gmap calc_each_nor.l3_0.res (fun a0 a1 => (a0, a1)) n m t.1 t.2.1 t.2.2.1 t.2.2.2.1 t.2.2.2.2)
theorem calc_each_nor.gmap {α β : Type} (h : β → α) (mk0 : (List Int) → β) (n : Nat) (a : (List Int)) (b : (List Int)) : calc_each_nor.g (fun a0 => (h (mk0 a0))) n a b = (calc_each_nor.g mk0 n a b).map h := by
  unfold calc_each_nor.g
  exact (bindO_map fun r2 => rfl)
theorem calc_each_nor.run (n : Nat) (a : (List Int)) (b : (List Int)) : runF (calc_each_nor.C n) (calc_each_nor.A n) n Try.f62 [(.ints .u64 4 a), (.ints .u64 4 b), (.fn (.func 66) [] [])] [] (fun v o => some (v, o)) = calc_each_nor.g (fun a0 => ((Prod.mk (.ints .u64 4 a0) []) : AV × Blks)) n a b := by kernel_rfl
theorem calc_each_nor.call (hmix : Try.prog.follows .mixedOrders = true) (n : Nat) (t : ((List Int) × (List Int))) (u) (h : calc_each_nor.m n t = some u) : FnC Try.prog (fun _ => .any) 62 (calc_each_nor.shape t).1 (calc_each_nor.shape t).2 (calc_each_nor.res u).1 (calc_each_nor.res u).2 := by
  have hg : ∀ f m, (calc_each_nor.C n).Γ f = some m → CalleeS Try.prog (fun _ => .any) f m := by
    intro f m hm
    unfold calc_each_nor.C at hm
    simp only at hm
    first
    | (cases hm; done)
    | (split at hm <;> first
    | (cases hm; exact calc_and.s hmix n)
    | (cases hm; exact calc_or.s hmix n)
    | (cases hm; exact calc_xor.s hmix n)
    | (cases hm; exact calc_nor.s hmix n)
    | (cases hm; done))
  have hb : Try.f62.body = some (Try.f62.body.getD .skip) := by kernel_rfl
  refine runF_calls (C := calc_each_nor.C n) (A := calc_each_nor.A n) (n := n) (fn := Try.f62) hg hmix Try.func62 hb ?_ ?_ (by decide) rfl rfl (by show 3 ≤ Try.f62.ntmps; decide) ?_
  · rw [show loopsIn (Try.f62.body.getD .skip) = [calc_each_nor.b0] by kernel_rfl]
    intro b hb m hm
    simp only [List.mem_cons, List.not_mem_nil, or_false] at hb
    rcases hb with rfl
    · have e : (calc_each_nor.A n).loop (key calc_each_nor.b0) = some (.mk' calc_each_nor.l3_0.pat (calc_each_nor.l3_0.m n n) calc_each_nor.l3_0.resK) := by rw [show key calc_each_nor.b0 = 3 by kernel_rfl]; rfl
      rw [e] at hm
      cases hm
      exact (LoopS.of (res := calc_each_nor.l3_0.res) (fun R u K => rfl) calc_each_nor.l3_0.pat_shape fun t => calc_each_nor.l3_0.loop n n t)
  · intro a ha m hm
    cases (show none = some m from hm)
  · rw [show runF (calc_each_nor.C n) (calc_each_nor.A n) n Try.f62 (calc_each_nor.shape t).1 (calc_each_nor.shape t).2 (fun v o => some (v, o)) = _ from calc_each_nor.run n t.1 t.2]
    have e := calc_each_nor.gmap calc_each_nor.res (fun a0 => a0) n t.1 t.2
    unfold calc_each_nor.m at h
    rw [h] at e
    exact e
theorem calc_each_nor.s (hmix : Try.prog.follows .mixedOrders = true) (n : Nat) : CalleeS Try.prog (fun _ => .any) 62 (calc_each_nor.c n) :=
  CalleeS.of (res := calc_each_nor.res) (shape := calc_each_nor.shape) (fun R u K => rfl) (fun args lent t h => by
    unfold calc_each_nor.pat at h
    split at h
    · cases h; rfl
    · cases h) fun t u h => (calc_each_nor.call hmix n t u h).ok Try.func62 (by decide) (by kernel_rfl)
end
section
theorem calc_each.s (hmix : Try.prog.follows .mixedOrders = true) (n : Nat) : CalleeS Try.prog (fun _ => .any) 62 (calc_each.c n) := .pick (calc_each_and.s hmix n) (.pick (calc_each_or.s hmix n) (.pick (calc_each_xor.s hmix n) (calc_each_nor.s hmix n)))
end
section
theorem calc_sum.gmap {α β : Type} (h : β → α) (mk0 : (List Int) → β) (n : Nat) (a0 : Int) (a1 : (List AV)) : calc_sum.g (fun a0 => (h (mk0 a0))) n a0 a1 = (calc_sum.g mk0 n a0 a1).map h := by
  unfold calc_sum.g
  exact (ite_map (ite_map (bindO_map fun r6 => (ite_map (bindO_map fun r10 => (bindO_map fun r12 => rfl)) rfl)) rfl) (ite_map (ite_map (bindO_map fun r8 => (ite_map (bindO_map fun r12 => (bindO_map fun r14 => rfl)) rfl)) rfl) (ite_map (ite_map (bindO_map fun r10 => (ite_map (bindO_map fun r14 => (bindO_map fun r16 => rfl)) rfl)) rfl) (ite_map (ite_map (bindO_map fun r12 => (ite_map (bindO_map fun r16 => (bindO_map fun r18 => rfl)) rfl)) rfl) (ite_map (ite_map (bindO_map fun r14 => (ite_map (bindO_map fun r18 => (bindO_map fun r20 => rfl)) rfl)) rfl) (ite_map (ite_map (bindO_map fun r16 => (ite_map (bindO_map fun r20 => (bindO_map fun r22 => rfl)) rfl)) rfl) (ite_map (ite_map (bindO_map fun r18 => (ite_map (bindO_map fun r22 => (bindO_map fun r24 => rfl)) rfl)) rfl) (ite_map (ite_map (bindO_map fun r20 => (ite_map (bindO_map fun r24 => (ite_map (bindO_map fun r28 => (bindO_map fun r30 => rfl)) rfl)) rfl)) rfl) (ite_map (ite_map (bindO_map fun r22 => (ite_map (bindO_map fun r26 => (ite_map (bindO_map fun r30 => (bindO_map fun r32 => rfl)) rfl)) rfl)) rfl) (ite_map (ite_map (bindO_map fun r24 => (ite_map (bindO_map fun r28 => (bindO_map fun r30 => rfl)) rfl)) rfl) (ite_map (ite_map (bindO_map fun r26 => (ite_map (bindO_map fun r30 => (bindO_map fun r32 => rfl)) rfl)) rfl) rfl)))))))))))
theorem calc_sum.run (n : Nat) (a0 : Int) (a1 : (List AV)) : runF (calc_sum.C n) (calc_sum.A n) n Try.f71 [(.int .u8 a0), (.robjs 33 4 a1)] [] (fun v o => some (v, o)) = calc_sum.g (fun a0 => ((Prod.mk (.ints .u64 4 a0) []) : AV × Blks)) n a0 a1 := by kernel_rfl
theorem calc_sum.call (hmix : Try.prog.follows .mixedOrders = true) (n : Nat) (t : (Int × (List AV))) (u) (h : calc_sum.m n t = some u) : FnC Try.prog (fun _ => .any) 71 (calc_sum.shape t).1 (calc_sum.shape t).2 (calc_sum.res u).1 (calc_sum.res u).2 := by
  have hg : ∀ f m, (calc_sum.C n).Γ f = some m → CalleeS Try.prog (fun _ => .any) f m := by
    intro f m hm
    unfold calc_sum.C at hm
    simp only at hm
    first
    | (cases hm; done)
    | (split at hm <;> first
    | (cases hm; exact word_Add.s hmix n)
    | (cases hm; exact word_Mul.s hmix n)
    | (cases hm; exact word_Sub.s hmix n)
    | (cases hm; exact word_Div.s hmix n)
    | (cases hm; exact word_Sdiv.s hmix n)
    | (cases hm; exact word_AddMod.s hmix n)
    | (cases hm; exact word_MulMod.s hmix n)
    | (cases hm; exact word_Exp.s hmix n)
    | (cases hm; exact word_Extend.s hmix n)
    | (cases hm; done))
  have hb : Try.f71.body = some (Try.f71.body.getD .skip) := by kernel_rfl
  refine runF_calls (C := calc_sum.C n) (A := calc_sum.A n) (n := n) (fn := Try.f71) hg hmix Try.func71 hb ?_ ?_ (by decide) rfl rfl (by show 2 ≤ Try.f71.ntmps; decide) ?_
  · rw [show loopsIn (Try.f71.body.getD .skip) = [] by kernel_rfl]
    intro b hb
    cases hb
  · intro a ha m hm
    cases (show none = some m from hm)
  · rw [show runF (calc_sum.C n) (calc_sum.A n) n Try.f71 (calc_sum.shape t).1 (calc_sum.shape t).2 (fun v o => some (v, o)) = _ from calc_sum.run n t.1 t.2]
    have e := calc_sum.gmap calc_sum.res (fun a0 => a0) n t.1 t.2
    unfold calc_sum.m at h
    rw [h] at e
    exact e
theorem calc_sum.s (hmix : Try.prog.follows .mixedOrders = true) (n : Nat) : CalleeS Try.prog (fun _ => .any) 71 (calc_sum.c n) :=
  CalleeS.of (res := calc_sum.res) (shape := calc_sum.shape) (fun R u K => rfl) (fun args lent t h => by
    unfold calc_sum.pat at h
    split at h
    · cases h; rfl
    · cases h) fun t u h => (calc_sum.call hmix n t u h).ok Try.func71 (by decide) (by kernel_rfl)
end
section
theorem calc_Do.gmap {α β : Type} (h : β → α) (mk0 : (List Int) → Bool → β) (n : Nat) (a0 : Int) (a1 : (List AV)) : calc_Do.g (fun a0 a1 => (h (mk0 a0 a1))) n a0 a1 = (calc_Do.g mk0 n a0 a1).map h := by
  unfold calc_Do.g
  exact (bindO_map fun r2 => (ite_map rfl (ite_map rfl (ite_map rfl (ite_map rfl (ite_map (ite_map (bindO_map fun r16 => (ite_map (bindO_map fun r20 => (bindO_map fun r22 => (bindO_map fun r24 => rfl))) rfl)) rfl) (ite_map (ite_map (bindO_map fun r18 => (ite_map (bindO_map fun r22 => (bindO_map fun r24 => (bindO_map fun r26 => rfl))) rfl)) rfl) (ite_map (ite_map (bindO_map fun r20 => (ite_map (bindO_map fun r24 => (bindO_map fun r26 => (bindO_map fun r28 => rfl))) rfl)) rfl) (ite_map (ite_map (bindO_map fun r22 => (ite_map (bindO_map fun r26 => (bindO_map fun r28 => (bindO_map fun r30 => rfl))) rfl)) rfl) (ite_map (ite_map (bindO_map fun r24 => (ite_map (bindO_map fun r28 => (bindO_map fun r30 => (bindO_map fun r32 => rfl))) rfl)) rfl) (ite_map (ite_map (bindO_map fun r26 => (bindO_map fun r28 => rfl)) rfl) (ite_map (ite_map (bindO_map fun r28 => (ite_map (bindO_map fun r32 => (bindO_map fun r34 => rfl)) rfl)) rfl) (ite_map (ite_map (bindO_map fun r30 => (ite_map (bindO_map fun r34 => (bindO_map fun r36 => rfl)) rfl)) rfl) (ite_map (ite_map (bindO_map fun r32 => (ite_map (bindO_map fun r36 => (bindO_map fun r38 => rfl)) rfl)) rfl) (ite_map (ite_map (bindO_map fun r34 => (ite_map (bindO_map fun r38 => (bindO_map fun r40 => rfl)) rfl)) rfl) (ite_map (ite_map (bindO_map fun r36 => (ite_map (bindO_map fun r40 => (bindO_map fun r42 => rfl)) rfl)) rfl) (ite_map (ite_map (bindO_map fun r38 => (ite_map (bindO_map fun r42 => (bindO_map fun r44 => rfl)) rfl)) rfl) (ite_map (ite_map (bindO_map fun r40 => (ite_map (bindO_map fun r44 => (bindO_map fun r46 => rfl)) rfl)) rfl) (ite_map (ite_map (bindO_map fun r42 => (ite_map (bindO_map fun r46 => (bindO_map fun r48 => rfl)) rfl)) rfl) (bindO_map fun r40 => rfl))))))))))))))))))))
theorem calc_Do.run (n : Nat) (a0 : Int) (a1 : (List AV)) : runF (calc_Do.C n) (calc_Do.A n) n Try.f47 [(.int .u8 a0), (.robjs 33 4 a1)] [] (fun v o => some (v, o)) = calc_Do.g (fun a0 a1 => ((Prod.mk (.tup [(.ints .u64 4 a0), (.bool a1)]) []) : AV × Blks)) n a0 a1 := by kernel_rfl
theorem calc_Do.call (hmix : Try.prog.follows .mixedOrders = true) (n : Nat) (t : (Int × (List AV))) (u) (h : calc_Do.m n t = some u) : FnC Try.prog (fun _ => .any) 47 (calc_Do.shape t).1 (calc_Do.shape t).2 (calc_Do.res u).1 (calc_Do.res u).2 := by
  have hg : ∀ f m, (calc_Do.C n).Γ f = some m → CalleeS Try.prog (fun _ => .any) f m := by
    intro f m hm
    unfold calc_Do.C at hm
    simp only at hm
    first
    | (cases hm; done)
    | (split at hm <;> first
    | (cases hm; exact code_Info.s hmix n)
    | (cases hm; exact calc_compare.s hmix n)
    | (cases hm; exact calc_truth.s hmix n)
    | (cases hm; exact calc_each.s hmix n)
    | (cases hm; exact calc_and.s hmix n)
    | (cases hm; exact calc_or.s hmix n)
    | (cases hm; exact calc_xor.s hmix n)
    | (cases hm; exact calc_nor.s hmix n)
    | (cases hm; exact word_Byte.s hmix n)
    | (cases hm; exact word_Shl.s hmix n)
    | (cases hm; exact word_Shr.s hmix n)
    | (cases hm; exact word_Sar.s hmix n)
    | (cases hm; exact calc_sum.s hmix n)
    | (cases hm; done))
  have hb : Try.f47.body = some (Try.f47.body.getD .skip) := by kernel_rfl
  refine runF_calls (C := calc_Do.C n) (A := calc_Do.A n) (n := n) (fn := Try.f47) hg hmix Try.func47 hb ?_ ?_ (by decide) rfl rfl (by show 2 ≤ Try.f47.ntmps; decide) ?_
  · rw [show loopsIn (Try.f47.body.getD .skip) = [] by kernel_rfl]
    intro b hb
    cases hb
  · intro a ha m hm
    cases (show none = some m from hm)
  · rw [show runF (calc_Do.C n) (calc_Do.A n) n Try.f47 (calc_Do.shape t).1 (calc_Do.shape t).2 (fun v o => some (v, o)) = _ from calc_Do.run n t.1 t.2]
    have e := calc_Do.gmap calc_Do.res (fun a0 a1 => (a0, a1)) n t.1 t.2
    unfold calc_Do.m at h
    rw [h] at e
    exact e
theorem calc_Do.s (hmix : Try.prog.follows .mixedOrders = true) (n : Nat) : CalleeS Try.prog (fun _ => .any) 47 (calc_Do.c n) :=
  CalleeS.of (res := calc_Do.res) (shape := calc_Do.shape) (fun R u K => rfl) (fun args lent t h => by
    unfold calc_Do.pat at h
    split at h
    · cases h; rfl
    · cases h) fun t u h => (calc_Do.call hmix n t u h).ok Try.func47 (by decide) (by kernel_rfl)
end
section
noncomputable section
noncomputable def q11_sums.C (n : Nat) : Ctx := ⟨Try.prog, (fun _ => .any), fun f => match f with
 | 97 => some (q01_Add.c n)
 | 98 => some (q01_Mul.c n)
 | 99 => some (q01_Sub.c n)
 | 100 => some (q01_Div.c n)
 | 101 => some (q01_Sdiv.c n)
 | 102 => some (q01_AddMod.c n)
 | 103 => some (q01_MulMod.c n)
 | 104 => some (q01_Exp.c n)
 | 105 => some (q01_Extend.c n)
 | _ => none⟩
def q11_sums.live : Nat → List Nat × List Nat := fun k => match k with
 | _ => ([], [])
def q11_sums.jlive : Nat → List Nat × List Nat := fun k => match k with
 | _ => ([], [])
noncomputable def q11_sums.A (n : Nat) : Ann := ⟨Try.f72.ntmps, 0, q11_sums.live, [], [none], fun k => match k with
 | _ => none, q11_sums.jlive, lookJ []⟩
def q11_sums.g {α : Type} (mk0 : (List Int) → α) (n : Nat) (a0 : Int) (a1 : (List AV)) : Option α :=
 if (a0 == 1) = true then
  if 0 < (((List.length a1) : Nat) : Int) then
   bindO (tkInts .u64 4 (List.getD a1 0 AV.any)) fun r6 =>
    if 1 < (((List.length a1) : Nat) : Int) then
     bindO (tkInts .u64 4 (List.getD a1 1 AV.any)) fun r10 =>
      bindO (q01_Add.m n (Prod.mk r6 r10)) fun r12 =>
       some (mk0 (Prod.fst r12))
    else
     none
  else
   none
 else
  if (a0 == 2) = true then
   if 0 < (((List.length a1) : Nat) : Int) then
    bindO (tkInts .u64 4 (List.getD a1 0 AV.any)) fun r8 =>
     if 1 < (((List.length a1) : Nat) : Int) then
      bindO (tkInts .u64 4 (List.getD a1 1 AV.any)) fun r12 =>
       bindO (q01_Mul.m n (Prod.mk r8 r12)) fun r14 =>
        some (mk0 (Prod.fst r14))
     else
      none
   else
    none
  else
   if (a0 == 3) = true then
    if 0 < (((List.length a1) : Nat) : Int) then
     bindO (tkInts .u64 4 (List.getD a1 0 AV.any)) fun r10 =>
      if 1 < (((List.length a1) : Nat) : Int) then
       bindO (tkInts .u64 4 (List.getD a1 1 AV.any)) fun r14 =>
        bindO (q01_Sub.m n (Prod.mk r10 r14)) fun r16 =>
         some (mk0 (Prod.fst r16))
      else
       none
    else
     none
   else
    if (a0 == 4) = true then
     if 0 < (((List.length a1) : Nat) : Int) then
      bindO (tkInts .u64 4 (List.getD a1 0 AV.any)) fun r12 =>
       if 1 < (((List.length a1) : Nat) : Int) then
        bindO (tkInts .u64 4 (List.getD a1 1 AV.any)) fun r16 =>
         bindO (q01_Div.m n (Prod.mk r12 r16)) fun r18 =>
          some (mk0 (Prod.fst r18))
       else
        none
     else
      none
    else
     if (a0 == 5) = true then
      if 0 < (((List.length a1) : Nat) : Int) then
       bindO (tkInts .u64 4 (List.getD a1 0 AV.any)) fun r14 =>
        if 1 < (((List.length a1) : Nat) : Int) then
         bindO (tkInts .u64 4 (List.getD a1 1 AV.any)) fun r18 =>
          bindO (q01_Sdiv.m n (Prod.mk r14 r18)) fun r20 =>
           some (mk0 (Prod.fst r20))
        else
         none
      else
       none
     else
      if (a0 == 6) = true then
       if 0 < (((List.length a1) : Nat) : Int) then
        bindO (tkInts .u64 4 (List.getD a1 0 AV.any)) fun r16 =>
         if 1 < (((List.length a1) : Nat) : Int) then
          bindO (tkInts .u64 4 (List.getD a1 1 AV.any)) fun r20 =>
           bindO (q01_Div.m n (Prod.mk r16 r20)) fun r22 =>
            some (mk0 (Prod.snd r22))
         else
          none
       else
        none
      else
       if (a0 == 7) = true then
        if 0 < (((List.length a1) : Nat) : Int) then
         bindO (tkInts .u64 4 (List.getD a1 0 AV.any)) fun r18 =>
          if 1 < (((List.length a1) : Nat) : Int) then
           bindO (tkInts .u64 4 (List.getD a1 1 AV.any)) fun r22 =>
            bindO (q01_Sdiv.m n (Prod.mk r18 r22)) fun r24 =>
             some (mk0 (Prod.snd r24))
          else
           none
        else
         none
       else
        if (a0 == 8) = true then
         if 0 < (((List.length a1) : Nat) : Int) then
          bindO (tkInts .u64 4 (List.getD a1 0 AV.any)) fun r20 =>
           if 1 < (((List.length a1) : Nat) : Int) then
            bindO (tkInts .u64 4 (List.getD a1 1 AV.any)) fun r24 =>
             if 2 < (((List.length a1) : Nat) : Int) then
              bindO (tkInts .u64 4 (List.getD a1 2 AV.any)) fun r28 =>
               bindO (q01_AddMod.m n (Prod.mk r20 (Prod.mk r24 r28))) fun r30 =>
                some (mk0 r30)
             else
              none
           else
            none
         else
          none
        else
         if (a0 == 9) = true then
          if 0 < (((List.length a1) : Nat) : Int) then
           bindO (tkInts .u64 4 (List.getD a1 0 AV.any)) fun r22 =>
            if 1 < (((List.length a1) : Nat) : Int) then
             bindO (tkInts .u64 4 (List.getD a1 1 AV.any)) fun r26 =>
              if 2 < (((List.length a1) : Nat) : Int) then
               bindO (tkInts .u64 4 (List.getD a1 2 AV.any)) fun r30 =>
                bindO (q01_MulMod.m n (Prod.mk r22 (Prod.mk r26 r30))) fun r32 =>
                 some (mk0 r32)
              else
               none
            else
             none
          else
           none
         else
          if (a0 == 10) = true then
           if 0 < (((List.length a1) : Nat) : Int) then
            bindO (tkInts .u64 4 (List.getD a1 0 AV.any)) fun r24 =>
             if 1 < (((List.length a1) : Nat) : Int) then
              bindO (tkInts .u64 4 (List.getD a1 1 AV.any)) fun r28 =>
               bindO (q01_Exp.m n (Prod.mk r24 r28)) fun r30 =>
                some (mk0 r30)
             else
              none
           else
            none
          else
           if 0 < (((List.length a1) : Nat) : Int) then
            bindO (tkInts .u64 4 (List.getD a1 0 AV.any)) fun r24 =>
             if 1 < (((List.length a1) : Nat) : Int) then
              bindO (tkInts .u64 4 (List.getD a1 1 AV.any)) fun r28 =>
               bindO (q01_Extend.m n (Prod.mk r24 r28)) fun r30 =>
                some (mk0 r30)
             else
              none
           else
            none
def q11_sums.m (n : Nat) (t : (Int × (List AV))) : Option (List Int) := q11_sums.g (fun a0 => a0) n t.1 t.2
def q11_sums.pat : List AV → Blks → Option (Int × (List AV))
 | [(.int .u8 a0), (.robjs 33 4 a1)], [] => some (a0, a1)
 | _, _ => none
def q11_sums.shape (t : (Int × (List AV))) : List AV × Blks := ([(.int .u8 t.1), (.robjs 33 4 t.2)], [])
def q11_sums.res : (List Int) → AV × Blks
 | u => (Prod.mk (.ints .u64 4 u) [])
def q11_sums.resK {R : Type} (u : (List Int)) (K : AV → Blks → Option R) : Option R := (fun p : AV × Blks => K p.1 p.2) (Prod.mk (.ints .u64 4 u) [])
def q11_sums.c (n : Nat) : Abs.Callee := .mk' [] [none, (some (.objs 33 4))] q11_sums.pat (q11_sums.m n) q11_sums.resK
end
end
section
noncomputable section
noncomputable def q11_truth.C (n : Nat) : Ctx := ⟨Try.prog, (fun _ => .any), fun f => match f with
 | 106 => some (q01_From.c n)
 | _ => none⟩
def q11_truth.live : Nat → List Nat × List Nat := fun k => match k with
 | _ => ([], [])
def q11_truth.jlive : Nat → List Nat × List Nat := fun k => match k with
 | _ => ([], [])
noncomputable def q11_truth.A (n : Nat) : Ann := ⟨Try.f73.ntmps, 0, q11_truth.live, [], [none], fun k => match k with
 | _ => none, q11_truth.jlive, lookJ []⟩
def q11_truth.g {α : Type} (mk0 : (List Int) → α) (n : Nat) (a0 : Bool) : Option α :=
 if a0 = true then
  bindO (q01_From.m n 1) fun r4 =>
   some (mk0 r4)
 else
  some (mk0 [0, 0, 0, 0])
def q11_truth.m (n : Nat) (t : Bool) : Option (List Int) := q11_truth.g (fun a0 => a0) n t
def q11_truth.pat : List AV → Blks → Option Bool
 | [(.bool a0)], [] => some a0
 | _, _ => none
def q11_truth.shape (t : Bool) : List AV × Blks := ([(.bool t)], [])
def q11_truth.res : (List Int) → AV × Blks
 | u => (Prod.mk (.ints .u64 4 u) [])
def q11_truth.resK {R : Type} (u : (List Int)) (K : AV → Blks → Option R) : Option R := (fun p : AV × Blks => K p.1 p.2) (Prod.mk (.ints .u64 4 u) [])
def q11_truth.c (n : Nat) : Abs.Callee := .mk' [] [none] q11_truth.pat (q11_truth.m n) q11_truth.resK
end
end
section
noncomputable section
noncomputable def q11_bits.C (n : Nat) : Ctx := ⟨Try.prog, (fun _ => .any), fun f => match f with
 | _ => none⟩
def q11_bits.live : Nat → List Nat × List Nat := fun k => match k with
 | 3 => ([8, 0, 4, 5, 7, 6], [7, 6])
 | _ => ([], [])
def q11_bits.jlive : Nat → List Nat × List Nat := fun k => match k with
 | _ => ([], [])
def q11_bits.l3_0.r {α : Type} (mk0 : (List Int) → (List Int) → α) (n : Nat) (rc : Int → Int → (List Int) → (List Int) → (List Int) → (List Int) → Option α)  (x0 : Int) (x1 : Int) (x2 : (List Int)) (x3 : (List Int)) (x4 : (List Int)) (x5 : (List Int)) : Option α :=
  if (decide (x0 < 4)) = true then
   if (x1 == 22) = true then
    if 0 ≤ x0 then
     if x0 < 4 then
      if 0 ≤ x0 then
       if x0 < 4 then
        if 0 ≤ x0 then
         if x0 < 4 then
          rc (IntKind.wrap .i64 (x0 + 1)) x1 x2 x3 (List.set x4 (Int.toNat x0) (ibits BinOp.and .u64 (List.getD x2 (Int.toNat x0) 0) (List.getD x3 (Int.toNat x0) 0))) x5
         else
          none
        else
         none
       else
        none
      else
       none
     else
      none
    else
     none
   else
    if (x1 == 23) = true then
     if 0 ≤ x0 then
      if x0 < 4 then
       if 0 ≤ x0 then
        if x0 < 4 then
         if 0 ≤ x0 then
          if x0 < 4 then
           rc (IntKind.wrap .i64 (x0 + 1)) x1 x2 x3 (List.set x4 (Int.toNat x0) (ibits BinOp.or .u64 (List.getD x2 (Int.toNat x0) 0) (List.getD x3 (Int.toNat x0) 0))) x5
          else
           none
         else
          none
        else
         none
       else
        none
      else
       none
     else
      none
    else
     if 0 ≤ x0 then
      if x0 < 4 then
       if 0 ≤ x0 then
        if x0 < 4 then
         if 0 ≤ x0 then
          if x0 < 4 then
           rc (IntKind.wrap .i64 (x0 + 1)) x1 x2 x3 (List.set x4 (Int.toNat x0) (ibits BinOp.xor .u64 (List.getD x2 (Int.toNat x0) 0) (List.getD x3 (Int.toNat x0) 0))) x5
          else
           none
         else
          none
        else
         none
       else
        none
      else
       none
     else
      none
  else
   some (mk0 x4 x5)
def q11_bits.l3_0.g {α : Type} (mk0 : (List Int) → (List Int) → α) (n : Nat) : Nat → Int → Int → (List Int) → (List Int) → (List Int) → (List Int) → Option α
 | 0, _, _, _, _, _, _ => none
 | m + 1, x0, x1, x2, x3, x4, x5 => q11_bits.l3_0.r mk0 n (fun y0 y1 y2 y3 y4 y5 => q11_bits.l3_0.g mk0 n m y0 y1 y2 y3 y4 y5)  x0 x1 x2 x3 x4 x5
def q11_bits.l3_0.m (n m : Nat) (t : (Int × (Int × ((List Int) × ((List Int) × ((List Int) × (List Int))))))) : Option ((List Int) × (List Int)) := q11_bits.l3_0.g (fun a0 a1 => (a0, a1)) n m t.1 t.2.1 t.2.2.1 t.2.2.2.1 t.2.2.2.2.1 t.2.2.2.2.2
def q11_bits.l3_0.pat : St → Option (Int × (Int × ((List Int) × ((List Int) × ((List Int) × (List Int))))))
 | (St.mk [(.int .i64 x0), (.int .u8 x1), (.ptr 0 []), (.ptr 1 []), (.ptr 2 []), (.ptr 3 [])] [(some (.var (.ints .u64 4 x2))), (some (.var (.ints .u64 4 x3))), (some (.var (.ints .u64 4 x4))), (some (.var (.ints .u64 4 x5)))]) => some (x0, x1, x2, x3, x4, x5)
 | _ => none
def q11_bits.l3_0.shape (t : (Int × (Int × ((List Int) × ((List Int) × ((List Int) × (List Int))))))) : St := (St.mk [(.int .i64 t.1), (.int .u8 t.2.1), (.ptr 0 []), (.ptr 1 []), (.ptr 2 []), (.ptr 3 [])] [(some (.var (.ints .u64 4 t.2.2.1))), (some (.var (.ints .u64 4 t.2.2.2.1))), (some (.var (.ints .u64 4 t.2.2.2.2.1))), (some (.var (.ints .u64 4 t.2.2.2.2.2)))])
def q11_bits.l3_0.res : ((List Int) × (List Int)) → Ex × St
 | u => (Prod.mk (.exit 0) (St.mk [(.ptr 0 []), (.ptr 1 [])] [(some (.var (.ints .u64 4 u.1))), (some (.var (.ints .u64 4 u.2)))]))
def q11_bits.l3_0.resK {R : Type} (u : ((List Int) × (List Int))) (K : Ex → St → Option R) : Option R := (fun p : Ex × St => K p.1 p.2) (Prod.mk (.exit 0) (St.mk [(.ptr 0 []), (.ptr 1 [])] [(some (.var (.ints .u64 4 u.1))), (some (.var (.ints .u64 4 u.2)))]))
noncomputable def q11_bits.A (n : Nat) : Ann := ⟨Try.f76.ntmps, 0, q11_bits.live, [], [none], fun k => match k with
 | 3 => some (.mk' q11_bits.l3_0.pat (q11_bits.l3_0.m n n) q11_bits.l3_0.resK)
 | _ => none, q11_bits.jlive, lookJ []⟩
noncomputable def q11_bits.b0 : Code := (loopsIn (Try.f76.body.getD .skip)).getD 0 .skip
def q11_bits.g {α : Type} (mk0 : (List Int) → α) (n : Nat) (a0 : Int) (a1 : (List Int)) (a2 : (List Int)) : Option α :=
 bindO (q11_bits.l3_0.m n n (0, a0, a1, a2, [0, 0, 0, 0], [0, 0, 0, 0])) fun r2 =>
  some (mk0 (Prod.fst r2))
def q11_bits.m (n : Nat) (t : (Int × ((List Int) × (List Int)))) : Option (List Int) := q11_bits.g (fun a0 => a0) n t.1 t.2.1 t.2.2
def q11_bits.pat : List AV → Blks → Option (Int × ((List Int) × (List Int)))
 | [(.int .u8 a0), (.ints .u64 4 a1), (.ints .u64 4 a2)], [] => some (a0, a1, a2)
 | _, _ => none
def q11_bits.shape (t : (Int × ((List Int) × (List Int)))) : List AV × Blks := ([(.int .u8 t.1), (.ints .u64 4 t.2.1), (.ints .u64 4 t.2.2)], [])
def q11_bits.res : (List Int) → AV × Blks
 | u => (Prod.mk (.ints .u64 4 u) [])
def q11_bits.resK {R : Type} (u : (List Int)) (K : AV → Blks → Option R) : Option R := (fun p : AV × Blks => K p.1 p.2) (Prod.mk (.ints .u64 4 u) [])
def q11_bits.c (n : Nat) : Abs.Callee := .mk' [] [none, none, none] q11_bits.pat (q11_bits.m n) q11_bits.resK
end
end
section
noncomputable section
noncomputable def q11_Do.C (n : Nat) : Ctx := ⟨Try.prog, (fun _ => .any), fun f => match f with
 | 20 => some (q08_Info.c n)
 | 72 => some (q11_sums.c n)
 | 74 => some (q01_Cmp.c n)
 | 73 => some (q11_truth.c n)
 | 75 => some (q01_Scmp.c n)
 | 76 => some (q11_bits.c n)
 | 77 => some (q01_Byte.c n)
 | 78 => some (q01_Shl.c n)
 | 79 => some (q01_Shr.c n)
 | 80 => some (q01_Sar.c n)
 | _ => none⟩
def q11_Do.live : Nat → List Nat × List Nat := fun k => match k with
 | _ => ([], [])
def q11_Do.jlive : Nat → List Nat × List Nat := fun k => match k with
 | _ => ([], [])
noncomputable def q11_Do.A (n : Nat) : Ann := ⟨Try.f48.ntmps, 0, q11_Do.live, [], [none, none], fun k => match k with
 | _ => none, q11_Do.jlive, lookJ []⟩
def q11_Do.g {α : Type} (mk0 : (List Int) → Bool → α) (n : Nat) (a0 : Int) (a1 : (List AV)) : Option α :=
 bindO (q08_Info.m n a0) fun r2 =>
  if (!(Prod.snd (Prod.snd r2))) = true then
   some (mk0 [0, 0, 0, 0] false)
  else
   if ((Prod.fst r2) != (((List.length a1) : Nat) : Int)) = true then
    some (mk0 [0, 0, 0, 0] false)
   else
    if (a0 == 0) = true then
     some (mk0 [0, 0, 0, 0] false)
    else
     if (decide (a0 > 29)) = true then
      some (mk0 [0, 0, 0, 0] false)
     else
      if (decide (a0 ≤ 11)) = true then
       bindO (q11_sums.m n (Prod.mk a0 a1)) fun r14 =>
        some (mk0 r14 true)
      else
       if (a0 == 16) = true then
        if 0 < (((List.length a1) : Nat) : Int) then
         bindO (tkInts .u64 4 (List.getD a1 0 AV.any)) fun r18 =>
          if 1 < (((List.length a1) : Nat) : Int) then
           bindO (tkInts .u64 4 (List.getD a1 1 AV.any)) fun r22 =>
            bindO (q01_Cmp.m n (Prod.mk r18 r22)) fun r24 =>
             bindO (q11_truth.m n (decide (r24 < 0))) fun r26 =>
              some (mk0 r26 true)
          else
           none
        else
         none
       else
        if (a0 == 17) = true then
         if 0 < (((List.length a1) : Nat) : Int) then
          bindO (tkInts .u64 4 (List.getD a1 0 AV.any)) fun r20 =>
           if 1 < (((List.length a1) : Nat) : Int) then
            bindO (tkInts .u64 4 (List.getD a1 1 AV.any)) fun r24 =>
             bindO (q01_Cmp.m n (Prod.mk r20 r24)) fun r26 =>
              bindO (q11_truth.m n (decide (r26 > 0))) fun r28 =>
               some (mk0 r28 true)
           else
            none
         else
          none
        else
         if (a0 == 18) = true then
          if 0 < (((List.length a1) : Nat) : Int) then
           bindO (tkInts .u64 4 (List.getD a1 0 AV.any)) fun r22 =>
            if 1 < (((List.length a1) : Nat) : Int) then
             bindO (tkInts .u64 4 (List.getD a1 1 AV.any)) fun r26 =>
              bindO (q01_Scmp.m n (Prod.mk r22 r26)) fun r28 =>
               bindO (q11_truth.m n (decide (r28 < 0))) fun r30 =>
                some (mk0 r30 true)
            else
             none
          else
           none
         else
          if (a0 == 19) = true then
           if 0 < (((List.length a1) : Nat) : Int) then
            bindO (tkInts .u64 4 (List.getD a1 0 AV.any)) fun r24 =>
             if 1 < (((List.length a1) : Nat) : Int) then
              bindO (tkInts .u64 4 (List.getD a1 1 AV.any)) fun r28 =>
               bindO (q01_Scmp.m n (Prod.mk r24 r28)) fun r30 =>
                bindO (q11_truth.m n (decide (r30 > 0))) fun r32 =>
                 some (mk0 r32 true)
             else
              none
           else
            none
          else
           if (a0 == 20) = true then
            if 0 < (((List.length a1) : Nat) : Int) then
             bindO (tkInts .u64 4 (List.getD a1 0 AV.any)) fun r26 =>
              if 1 < (((List.length a1) : Nat) : Int) then
               bindO (tkInts .u64 4 (List.getD a1 1 AV.any)) fun r30 =>
                bindO (q11_truth.m n (r26 == r30)) fun r32 =>
                 some (mk0 r32 true)
              else
               none
            else
             none
           else
            if (a0 == 21) = true then
             if 0 < (((List.length a1) : Nat) : Int) then
              bindO (tkInts .u64 4 (List.getD a1 0 AV.any)) fun r28 =>
               bindO (q11_truth.m n (r28 == [0, 0, 0, 0])) fun r30 =>
                some (mk0 r30 true)
             else
              none
            else
             if (decide (a0 ≤ 24)) = true then
              if 0 < (((List.length a1) : Nat) : Int) then
               bindO (tkInts .u64 4 (List.getD a1 0 AV.any)) fun r30 =>
                if 1 < (((List.length a1) : Nat) : Int) then
                 bindO (tkInts .u64 4 (List.getD a1 1 AV.any)) fun r34 =>
                  bindO (q11_bits.m n (Prod.mk a0 (Prod.mk r30 r34))) fun r36 =>
                   some (mk0 r36 true)
                else
                 none
              else
               none
             else
              if (a0 == 25) = true then
               if 0 < (((List.length a1) : Nat) : Int) then
                bindO (tkInts .u64 4 (List.getD a1 0 AV.any)) fun r32 =>
                 bindO (q11_bits.m n (Prod.mk 24 (Prod.mk r32 [18446744073709551615, 18446744073709551615, 18446744073709551615, 18446744073709551615]))) fun r34 =>
                  some (mk0 r34 true)
               else
                none
              else
               if (a0 == 26) = true then
                if 0 < (((List.length a1) : Nat) : Int) then
                 bindO (tkInts .u64 4 (List.getD a1 0 AV.any)) fun r34 =>
                  if 1 < (((List.length a1) : Nat) : Int) then
                   bindO (tkInts .u64 4 (List.getD a1 1 AV.any)) fun r38 =>
                    bindO (q01_Byte.m n (Prod.mk r34 r38)) fun r40 =>
                     some (mk0 r40 true)
                  else
                   none
                else
                 none
               else
                if (a0 == 27) = true then
                 if 0 < (((List.length a1) : Nat) : Int) then
                  bindO (tkInts .u64 4 (List.getD a1 0 AV.any)) fun r36 =>
                   if 1 < (((List.length a1) : Nat) : Int) then
                    bindO (tkInts .u64 4 (List.getD a1 1 AV.any)) fun r40 =>
                     bindO (q01_Shl.m n (Prod.mk r36 r40)) fun r42 =>
                      some (mk0 r42 true)
                   else
                    none
                 else
                  none
                else
                 if (a0 == 28) = true then
                  if 0 < (((List.length a1) : Nat) : Int) then
                   bindO (tkInts .u64 4 (List.getD a1 0 AV.any)) fun r38 =>
                    if 1 < (((List.length a1) : Nat) : Int) then
                     bindO (tkInts .u64 4 (List.getD a1 1 AV.any)) fun r42 =>
                      bindO (q01_Shr.m n (Prod.mk r38 r42)) fun r44 =>
                       some (mk0 r44 true)
                    else
                     none
                  else
                   none
                 else
                  if 0 < (((List.length a1) : Nat) : Int) then
                   bindO (tkInts .u64 4 (List.getD a1 0 AV.any)) fun r38 =>
                    if 1 < (((List.length a1) : Nat) : Int) then
                     bindO (tkInts .u64 4 (List.getD a1 1 AV.any)) fun r42 =>
                      bindO (q01_Sar.m n (Prod.mk r38 r42)) fun r44 =>
                       some (mk0 r44 true)
                    else
                     none
                  else
                   none
def q11_Do.m (n : Nat) (t : (Int × (List AV))) : Option ((List Int) × Bool) := q11_Do.g (fun a0 a1 => (a0, a1)) n t.1 t.2
def q11_Do.pat : List AV → Blks → Option (Int × (List AV))
 | [(.int .u8 a0), (.robjs 33 4 a1)], [] => some (a0, a1)
 | _, _ => none
def q11_Do.shape (t : (Int × (List AV))) : List AV × Blks := ([(.int .u8 t.1), (.robjs 33 4 t.2)], [])
def q11_Do.res : ((List Int) × Bool) → AV × Blks
 | u => (Prod.mk (.tup [(.ints .u64 4 u.1), (.bool u.2)]) [])
def q11_Do.resK {R : Type} (u : ((List Int) × Bool)) (K : AV → Blks → Option R) : Option R := (fun p : AV × Blks => K p.1 p.2) (Prod.mk (.tup [(.ints .u64 4 u.1), (.bool u.2)]) [])
def q11_Do.c (n : Nat) : Abs.Callee := .mk' [] [none, (some (.objs 33 4))] q11_Do.pat (q11_Do.m n) q11_Do.resK
end
end
section
theorem q11_sums.gmap {α β : Type} (h : β → α) (mk0 : (List Int) → β) (n : Nat) (a0 : Int) (a1 : (List AV)) : q11_sums.g (fun a0 => (h (mk0 a0))) n a0 a1 = (q11_sums.g mk0 n a0 a1).map h := by
  unfold q11_sums.g
  exact (ite_map (ite_map (bindO_map fun r6 => (ite_map (bindO_map fun r10 => (bindO_map fun r12 => rfl)) rfl)) rfl) (ite_map (ite_map (bindO_map fun r8 => (ite_map (bindO_map fun r12 => (bindO_map fun r14 => rfl)) rfl)) rfl) (ite_map (ite_map (bindO_map fun r10 => (ite_map (bindO_map fun r14 => (bindO_map fun r16 => rfl)) rfl)) rfl) (ite_map (ite_map (bindO_map fun r12 => (ite_map (bindO_map fun r16 => (bindO_map fun r18 => rfl)) rfl)) rfl) (ite_map (ite_map (bindO_map fun r14 => (ite_map (bindO_map fun r18 => (bindO_map fun r20 => rfl)) rfl)) rfl) (ite_map (ite_map (bindO_map fun r16 => (ite_map (bindO_map fun r20 => (bindO_map fun r22 => rfl)) rfl)) rfl) (ite_map (ite_map (bindO_map fun r18 => (ite_map (bindO_map fun r22 => (bindO_map fun r24 => rfl)) rfl)) rfl) (ite_map (ite_map (bindO_map fun r20 => (ite_map (bindO_map fun r24 => (ite_map (bindO_map fun r28 => (bindO_map fun r30 => rfl)) rfl)) rfl)) rfl) (ite_map (ite_map (bindO_map fun r22 => (ite_map (bindO_map fun r26 => (ite_map (bindO_map fun r30 => (bindO_map fun r32 => rfl)) rfl)) rfl)) rfl) (ite_map (ite_map (bindO_map fun r24 => (ite_map (bindO_map fun r28 => (bindO_map fun r30 => rfl)) rfl)) rfl) (ite_map (bindO_map fun r24 => (ite_map (bindO_map fun r28 => (bindO_map fun r30 => rfl)) rfl)) rfl)))))))))))
theorem q11_sums.run (n : Nat) (a0 : Int) (a1 : (List AV)) : runF (q11_sums.C n) (q11_sums.A n) n Try.f72 [(.int .u8 a0), (.robjs 33 4 a1)] [] (fun v o => some (v, o)) = q11_sums.g (fun a0 => ((Prod.mk (.ints .u64 4 a0) []) : AV × Blks)) n a0 a1 := by kernel_rfl
theorem q11_sums.call (hmix : Try.prog.follows .mixedOrders = true) (n : Nat) (t : (Int × (List AV))) (u) (h : q11_sums.m n t = some u) : FnC Try.prog (fun _ => .any) 72 (q11_sums.shape t).1 (q11_sums.shape t).2 (q11_sums.res u).1 (q11_sums.res u).2 := by
  have hg : ∀ f m, (q11_sums.C n).Γ f = some m → CalleeS Try.prog (fun _ => .any) f m := by
    intro f m hm
    unfold q11_sums.C at hm
    simp only at hm
    first
    | (cases hm; done)
    | (split at hm <;> first
    | (cases hm; exact q01_Add.s hmix n)
    | (cases hm; exact q01_Mul.s hmix n)
    | (cases hm; exact q01_Sub.s hmix n)
    | (cases hm; exact q01_Div.s hmix n)
    | (cases hm; exact q01_Sdiv.s hmix n)
    | (cases hm; exact q01_AddMod.s hmix n)
    | (cases hm; exact q01_MulMod.s hmix n)
    | (cases hm; exact q01_Exp.s hmix n)
    | (cases hm; exact q01_Extend.s hmix n)
    | (cases hm; done))
  have hb : Try.f72.body = some (Try.f72.body.getD .skip) := by kernel_rfl
  refine runF_calls (C := q11_sums.C n) (A := q11_sums.A n) (n := n) (fn := Try.f72) hg hmix Try.func72 hb ?_ ?_ (by decide) rfl rfl (by show 2 ≤ Try.f72.ntmps; decide) ?_
  · rw [show loopsIn (Try.f72.body.getD .skip) = [] by kernel_rfl]
    intro b hb
    cases hb
  · intro a ha m hm
    cases (show none = some m from hm)
  · rw [show runF (q11_sums.C n) (q11_sums.A n) n Try.f72 (q11_sums.shape t).1 (q11_sums.shape t).2 (fun v o => some (v, o)) = _ from q11_sums.run n t.1 t.2]
    have e := q11_sums.gmap q11_sums.res (fun a0 => a0) n t.1 t.2
    unfold q11_sums.m at h
    rw [h] at e
    exact e
theorem q11_sums.s (hmix : Try.prog.follows .mixedOrders = true) (n : Nat) : CalleeS Try.prog (fun _ => .any) 72 (q11_sums.c n) :=
  CalleeS.of (res := q11_sums.res) (shape := q11_sums.shape) (fun R u K => rfl) (fun args lent t h => by
    unfold q11_sums.pat at h
    split at h
    · cases h; rfl
    · cases h) fun t u h => (q11_sums.call hmix n t u h).ok Try.func72 (by decide) (by kernel_rfl)
end
section
theorem q11_truth.gmap {α β : Type} (h : β → α) (mk0 : (List Int) → β) (n : Nat) (a0 : Bool) : q11_truth.g (fun a0 => (h (mk0 a0))) n a0 = (q11_truth.g mk0 n a0).map h := by
  unfold q11_truth.g
  exact (ite_map (bindO_map fun r4 => rfl) rfl)
theorem q11_truth.run (n : Nat) (a0 : Bool) : runF (q11_truth.C n) (q11_truth.A n) n Try.f73 [(.bool a0)] [] (fun v o => some (v, o)) = q11_truth.g (fun a0 => ((Prod.mk (.ints .u64 4 a0) []) : AV × Blks)) n a0 := by kernel_rfl
theorem q11_truth.call (hmix : Try.prog.follows .mixedOrders = true) (n : Nat) (t : Bool) (u) (h : q11_truth.m n t = some u) : FnC Try.prog (fun _ => .any) 73 (q11_truth.shape t).1 (q11_truth.shape t).2 (q11_truth.res u).1 (q11_truth.res u).2 := by
  have hg : ∀ f m, (q11_truth.C n).Γ f = some m → CalleeS Try.prog (fun _ => .any) f m := by
    intro f m hm
    unfold q11_truth.C at hm
    simp only at hm
    first
    | (cases hm; done)
    | (split at hm <;> first
    | (cases hm; exact q01_From.s hmix n)
    | (cases hm; done))
  have hb : Try.f73.body = some (Try.f73.body.getD .skip) := by kernel_rfl
  refine runF_calls (C := q11_truth.C n) (A := q11_truth.A n) (n := n) (fn := Try.f73) hg hmix Try.func73 hb ?_ ?_ (by decide) rfl rfl (by show 1 ≤ Try.f73.ntmps; decide) ?_
  · rw [show loopsIn (Try.f73.body.getD .skip) = [] by kernel_rfl]
    intro b hb
    cases hb
  · intro a ha m hm
    cases (show none = some m from hm)
  · rw [show runF (q11_truth.C n) (q11_truth.A n) n Try.f73 (q11_truth.shape t).1 (q11_truth.shape t).2 (fun v o => some (v, o)) = _ from q11_truth.run n t]
    have e := q11_truth.gmap q11_truth.res (fun a0 => a0) n t
    unfold q11_truth.m at h
    rw [h] at e
    exact e
theorem q11_truth.s (hmix : Try.prog.follows .mixedOrders = true) (n : Nat) : CalleeS Try.prog (fun _ => .any) 73 (q11_truth.c n) :=
  CalleeS.of (res := q11_truth.res) (shape := q11_truth.shape) (fun R u K => rfl) (fun args lent t h => by
    unfold q11_truth.pat at h
    split at h
    · cases h; rfl
    · cases h) fun t u h => (q11_truth.call hmix n t u h).ok Try.func73 (by decide) (by kernel_rfl)
end
section
theorem q11_bits.l3_0.rmap {α β : Type} (h : β → α) (mk0 : (List Int) → (List Int) → β) (n : Nat) (f : Int → Int → (List Int) → (List Int) → (List Int) → (List Int) → Option β)  (x0 : Int) (x1 : Int) (x2 : (List Int)) (x3 : (List Int)) (x4 : (List Int)) (x5 : (List Int)) : q11_bits.l3_0.r (fun a0 a1 => (h (mk0 a0 a1))) n (fun y0 y1 y2 y3 y4 y5 => (f y0 y1 y2 y3 y4 y5).map h) x0 x1 x2 x3 x4 x5 = (q11_bits.l3_0.r mk0 n f x0 x1 x2 x3 x4 x5).map h := by
  unfold q11_bits.l3_0.r
  exact (ite_map (ite_map (ite_map (ite_map (ite_map (ite_map (ite_map (ite_map rfl rfl) rfl) rfl) rfl) rfl) rfl) (ite_map (ite_map (ite_map (ite_map (ite_map (ite_map (ite_map rfl rfl) rfl) rfl) rfl) rfl) rfl) (ite_map (ite_map (ite_map (ite_map (ite_map (ite_map rfl rfl) rfl) rfl) rfl) rfl) rfl))) rfl)
theorem q11_bits.l3_0.gmap {α β : Type} (h : β → α) (mk0 : (List Int) → (List Int) → β) (n : Nat) : ∀ (m : Nat) (x0 : Int) (x1 : Int) (x2 : (List Int)) (x3 : (List Int)) (x4 : (List Int)) (x5 : (List Int)), q11_bits.l3_0.g (fun a0 a1 => (h (mk0 a0 a1))) n m x0 x1 x2 x3 x4 x5 = (q11_bits.l3_0.g mk0 n m x0 x1 x2 x3 x4 x5).map h
  | 0, _, _, _, _, _, _ => rfl
  | m + 1, x0, x1, x2, x3, x4, x5 => by
    unfold q11_bits.l3_0.g
    rw [← q11_bits.l3_0.rmap]
    congr
    · funext y0 y1 y2 y3 y4 y5; exact q11_bits.l3_0.gmap h mk0 n m y0 y1 y2 y3 y4 y5
theorem q11_bits.l3_0.pat_shape : ∀ st t, q11_bits.l3_0.pat st = some t → st = q11_bits.l3_0.shape t := by
  intro st t h
  unfold q11_bits.l3_0.pat at h
  split at h
  · cases h; rfl
  · cases h
theorem q11_bits.l3_0.round (n : Nat) (rc : St → Option (Ex × St)) (x0 : Int) (x1 : Int) (x2 : (List Int)) (x3 : (List Int)) (x4 : (List Int)) (x5 : (List Int)) : roundOf (q11_bits.C n) (q11_bits.A n) n q11_bits.b0 rc ((St.mk [(.int .i64 x0), (.int .u8 x1), (.ptr 0 []), (.ptr 1 []), (.ptr 2 []), (.ptr 3 [])] [(some (.var (.ints .u64 4 x2))), (some (.var (.ints .u64 4 x3))), (some (.var (.ints .u64 4 x4))), (some (.var (.ints .u64 4 x5)))])) = q11_bits.l3_0.r (fun a0 a1 => ((Prod.mk (.exit 0) (St.mk [(.ptr 0 []), (.ptr 1 [])] [(some (.var (.ints .u64 4 a0))), (some (.var (.ints .u64 4 a1)))])) : Ex × St)) n (fun y0 y1 y2 y3 y4 y5 => rc ((St.mk [(.int .i64 y0), (.int .u8 y1), (.ptr 0 []), (.ptr 1 []), (.ptr 2 []), (.ptr 3 [])] [(some (.var (.ints .u64 4 y2))), (some (.var (.ints .u64 4 y3))), (some (.var (.ints .u64 4 y4))), (some (.var (.ints .u64 4 y5)))]))) x0 x1 x2 x3 x4 x5 := by kernel_rfl
theorem q11_bits.l3_0.loop' (n : Nat) : ∀ (m : Nat) (t : (Int × (Int × ((List Int) × ((List Int) × ((List Int) × (List Int))))))), loopOf (roundOf (q11_bits.C n) (q11_bits.A n) n q11_bits.b0) m (q11_bits.l3_0.shape t) = q11_bits.l3_0.g (fun a0 a1 => ((Prod.mk (.exit 0) (St.mk [(.ptr 0 []), (.ptr 1 [])] [(some (.var (.ints .u64 4 a0))), (some (.var (.ints .u64 4 a1)))])) : Ex × St)) n m t.1 t.2.1 t.2.2.1 t.2.2.2.1 t.2.2.2.2.1 t.2.2.2.2.2 :=
  loop_of_round (shape := q11_bits.l3_0.shape) (body := roundOf (q11_bits.C n) (q11_bits.A n) n q11_bits.b0) (g := fun m t => q11_bits.l3_0.g (fun a0 a1 => ((Prod.mk (.exit 0) (St.mk [(.ptr 0 []), (.ptr 1 [])] [(some (.var (.ints .u64 4 a0))), (some (.var (.ints .u64 4 a1)))])) : Ex × St)) n m t.1 t.2.1 t.2.2.1 t.2.2.2.1 t.2.2.2.2.1 t.2.2.2.2.2) (fun t => rfl)
    fun m t ih => (q11_bits.l3_0.round n (loopOf (roundOf (q11_bits.C n) (q11_bits.A n) n q11_bits.b0) m) t.1 t.2.1 t.2.2.1 t.2.2.2.1 t.2.2.2.2.1 t.2.2.2.2.2).trans (congrFun (congrFun (congrFun (congrFun (congrFun (congrFun (congrArg (q11_bits.l3_0.r (fun a0 a1 => ((Prod.mk (.exit 0) (St.mk [(.ptr 0 []), (.ptr 1 [])] [(some (.var (.ints .u64 4 a0))), (some (.var (.ints .u64 4 a1)))])) : Ex × St)) n) (funext fun y0 => funext fun y1 => funext fun y2 => funext fun y3 => funext fun y4 => funext fun y5 => ih (y0, y1, y2, y3, y4, y5))) t.1) t.2.1) t.2.2.1) t.2.2.2.1) t.2.2.2.2.1) t.2.2.2.2.2)
theorem q11_bits.l3_0.loop (n m : Nat) (t : (Int × (Int × ((List Int) × ((List Int) × ((List Int) × (List Int))))))) : loopOf (roundOf (q11_bits.C n) (q11_bits.A n) n q11_bits.b0) m (q11_bits.l3_0.shape t) = (q11_bits.l3_0.m n m t).map q11_bits.l3_0.res :=
  (q11_bits.l3_0.loop' n m t).trans (q11_bits.l3_0.gmap q11_bits.l3_0.res (fun a0 a1 => (a0, a1)) n m t.1 t.2.1 t.2.2.1 t.2.2.2.1 t.2.2.2.2.1 t.2.2.2.2.2)
theorem q11_bits.gmap {α β : Type} (h : β → α) (mk0 : (List Int) → β) (n : Nat) (a0 : Int) (a1 : (List Int)) (a2 : (List Int)) : q11_bits.g (fun a0 => (h (mk0 a0))) n a0 a1 a2 = (q11_bits.g mk0 n a0 a1 a2).map h := by
  unfold q11_bits.g
  exact (bindO_map fun r2 => rfl)
theorem q11_bits.run (n : Nat) (a0 : Int) (a1 : (List Int)) (a2 : (List Int)) : runF (q11_bits.C n) (q11_bits.A n) n Try.f76 [(.int .u8 a0), (.ints .u64 4 a1), (.ints .u64 4 a2)] [] (fun v o => some (v, o)) = q11_bits.g (fun a0 => ((Prod.mk (.ints .u64 4 a0) []) : AV × Blks)) n a0 a1 a2 := by kernel_rfl
theorem q11_bits.call (hmix : Try.prog.follows .mixedOrders = true) (n : Nat) (t : (Int × ((List Int) × (List Int)))) (u) (h : q11_bits.m n t = some u) : FnC Try.prog (fun _ => .any) 76 (q11_bits.shape t).1 (q11_bits.shape t).2 (q11_bits.res u).1 (q11_bits.res u).2 := by
  have hg : ∀ f m, (q11_bits.C n).Γ f = some m → CalleeS Try.prog (fun _ => .any) f m := by
    intro f m hm
    unfold q11_bits.C at hm
    simp only at hm
    first
    | (cases hm; done)
    | (split at hm <;> first
    | (cases hm; done))
  have hb : Try.f76.body = some (Try.f76.body.getD .skip) := by kernel_rfl
  refine runF_calls (C := q11_bits.C n) (A := q11_bits.A n) (n := n) (fn := Try.f76) hg hmix Try.func76 hb ?_ ?_ (by decide) rfl rfl (by show 3 ≤ Try.f76.ntmps; decide) ?_
  · rw [show loopsIn (Try.f76.body.getD .skip) = [q11_bits.b0] by kernel_rfl]
    intro b hb m hm
    simp only [List.mem_cons, List.not_mem_nil, or_false] at hb
    rcases hb with rfl
    · have e : (q11_bits.A n).loop (key q11_bits.b0) = some (.mk' q11_bits.l3_0.pat (q11_bits.l3_0.m n n) q11_bits.l3_0.resK) := by rw [show key q11_bits.b0 = 3 by kernel_rfl]; rfl
      rw [e] at hm
      cases hm
      exact LoopS.of (res := q11_bits.l3_0.res) (fun R u K => rfl) q11_bits.l3_0.pat_shape fun t => q11_bits.l3_0.loop n n t
  · intro a ha m hm
    cases (show none = some m from hm)
  · rw [show runF (q11_bits.C n) (q11_bits.A n) n Try.f76 (q11_bits.shape t).1 (q11_bits.shape t).2 (fun v o => some (v, o)) = _ from q11_bits.run n t.1 t.2.1 t.2.2]
    have e := q11_bits.gmap q11_bits.res (fun a0 => a0) n t.1 t.2.1 t.2.2
    unfold q11_bits.m at h
    rw [h] at e
    exact e
theorem q11_bits.s (hmix : Try.prog.follows .mixedOrders = true) (n : Nat) : CalleeS Try.prog (fun _ => .any) 76 (q11_bits.c n) :=
  CalleeS.of (res := q11_bits.res) (shape := q11_bits.shape) (fun R u K => rfl) (fun args lent t h => by
    unfold q11_bits.pat at h
    split at h
    · cases h; rfl
    · cases h) fun t u h => (q11_bits.call hmix n t u h).ok Try.func76 (by decide) (by kernel_rfl)
end
section
theorem q11_Do.gmap {α β : Type} (h : β → α) (mk0 : (List Int) → Bool → β) (n : Nat) (a0 : Int) (a1 : (List AV)) : q11_Do.g (fun a0 a1 => (h (mk0 a0 a1))) n a0 a1 = (q11_Do.g mk0 n a0 a1).map h := by
  unfold q11_Do.g
  exact (bindO_map fun r2 => (ite_map rfl (ite_map rfl (ite_map rfl (ite_map rfl (ite_map (bindO_map fun r14 => rfl) (ite_map (ite_map (bindO_map fun r18 => (ite_map (bindO_map fun r22 => (bindO_map fun r24 => (bindO_map fun r26 => rfl))) rfl)) rfl) (ite_map (ite_map (bindO_map fun r20 => (ite_map (bindO_map fun r24 => (bindO_map fun r26 => (bindO_map fun r28 => rfl))) rfl)) rfl) (ite_map (ite_map (bindO_map fun r22 => (ite_map (bindO_map fun r26 => (bindO_map fun r28 => (bindO_map fun r30 => rfl))) rfl)) rfl) (ite_map (ite_map (bindO_map fun r24 => (ite_map (bindO_map fun r28 => (bindO_map fun r30 => (bindO_map fun r32 => rfl))) rfl)) rfl) (ite_map (ite_map (bindO_map fun r26 => (ite_map (bindO_map fun r30 => (bindO_map fun r32 => rfl)) rfl)) rfl) (ite_map (ite_map (bindO_map fun r28 => (bindO_map fun r30 => rfl)) rfl) (ite_map (ite_map (bindO_map fun r30 => (ite_map (bindO_map fun r34 => (bindO_map fun r36 => rfl)) rfl)) rfl) (ite_map (ite_map (bindO_map fun r32 => (bindO_map fun r34 => rfl)) rfl) (ite_map (ite_map (bindO_map fun r34 => (ite_map (bindO_map fun r38 => (bindO_map fun r40 => rfl)) rfl)) rfl) (ite_map (ite_map (bindO_map fun r36 => (ite_map (bindO_map fun r40 => (bindO_map fun r42 => rfl)) rfl)) rfl) (ite_map (ite_map (bindO_map fun r38 => (ite_map (bindO_map fun r42 => (bindO_map fun r44 => rfl)) rfl)) rfl) (ite_map (bindO_map fun r38 => (ite_map (bindO_map fun r42 => (bindO_map fun r44 => rfl)) rfl)) rfl))))))))))))))))))
theorem q11_Do.run (n : Nat) (a0 : Int) (a1 : (List AV)) : runF (q11_Do.C n) (q11_Do.A n) n Try.f48 [(.int .u8 a0), (.robjs 33 4 a1)] [] (fun v o => some (v, o)) = q11_Do.g (fun a0 a1 => ((Prod.mk (.tup [(.ints .u64 4 a0), (.bool a1)]) []) : AV × Blks)) n a0 a1 := by kernel_rfl
theorem q11_Do.call (hmix : Try.prog.follows .mixedOrders = true) (n : Nat) (t : (Int × (List AV))) (u) (h : q11_Do.m n t = some u) : FnC Try.prog (fun _ => .any) 48 (q11_Do.shape t).1 (q11_Do.shape t).2 (q11_Do.res u).1 (q11_Do.res u).2 := by
  have hg : ∀ f m, (q11_Do.C n).Γ f = some m → CalleeS Try.prog (fun _ => .any) f m := by
    intro f m hm
    unfold q11_Do.C at hm
    simp only at hm
    first
    | (cases hm; done)
    | (split at hm <;> first
    | (cases hm; exact q08_Info.s hmix n)
    | (cases hm; exact q11_sums.s hmix n)
    | (cases hm; exact q01_Cmp.s hmix n)
    | (cases hm; exact q11_truth.s hmix n)
    | (cases hm; exact q01_Scmp.s hmix n)
    | (cases hm; exact q11_bits.s hmix n)
    | (cases hm; exact q01_Byte.s hmix n)
    | (cases hm; exact q01_Shl.s hmix n)
    | (cases hm; exact q01_Shr.s hmix n)
    | (cases hm; exact q01_Sar.s hmix n)
    | (cases hm; done))
  have hb : Try.f48.body = some (Try.f48.body.getD .skip) := by kernel_rfl
  refine runF_calls (C := q11_Do.C n) (A := q11_Do.A n) (n := n) (fn := Try.f48) hg hmix Try.func48 hb ?_ ?_ (by decide) rfl rfl (by show 2 ≤ Try.f48.ntmps; decide) ?_
  · rw [show loopsIn (Try.f48.body.getD .skip) = [] by kernel_rfl]
    intro b hb
    cases hb
  · intro a ha m hm
    cases (show none = some m from hm)
  · rw [show runF (q11_Do.C n) (q11_Do.A n) n Try.f48 (q11_Do.shape t).1 (q11_Do.shape t).2 (fun v o => some (v, o)) = _ from q11_Do.run n t.1 t.2]
    have e := q11_Do.gmap q11_Do.res (fun a0 a1 => (a0, a1)) n t.1 t.2
    unfold q11_Do.m at h
    rw [h] at e
    exact e
theorem q11_Do.s (hmix : Try.prog.follows .mixedOrders = true) (n : Nat) : CalleeS Try.prog (fun _ => .any) 48 (q11_Do.c n) :=
  CalleeS.of (res := q11_Do.res) (shape := q11_Do.shape) (fun R u K => rfl) (fun args lent t h => by
    unfold q11_Do.pat at h
    split at h
    · cases h; rfl
    · cases h) fun t u h => (q11_Do.call hmix n t u h).ok Try.func48 (by decide) (by kernel_rfl)
end
section
noncomputable section
noncomputable def l11_known.C (n : Nat) : Ctx := ⟨Try.prog, (fun _ => .any), fun f => match f with
 | 47 => some (calc_Do.c n)
 | _ => none⟩
def l11_known.live : Nat → List Nat × List Nat := fun k => match k with
 | _ => ([], [])
def l11_known.jlive : Nat → List Nat × List Nat := fun k => match k with
 | _ => ([], [])
noncomputable def l11_known.A (n : Nat) : Ann := ⟨Try.f49.ntmps, 0, l11_known.live, [], [none], fun k => match k with
 | _ => none, l11_known.jlive, lookJ []⟩
def l11_known.g {α : Type} (mk0 : Bool → α) (n : Nat)  : Option α :=
 bindO (calc_Do.m n (Prod.mk 3 [(AV.ints .u64 4 [1, 0, 0, 0]), (AV.ints .u64 4 [2, 0, 0, 0])])) fun r2 =>
  bindO (calc_Do.m n (Prod.mk 27 [(AV.ints .u64 4 [4, 0, 0, 0]), (AV.ints .u64 4 [1, 0, 0, 0])])) fun r4 =>
   bindO (calc_Do.m n (Prod.mk 1 [(AV.ints .u64 4 [1, 0, 0, 0])])) fun r6 =>
    if (Prod.snd r2) = true then
     if ((Prod.fst r2) == [18446744073709551615, 18446744073709551615, 18446744073709551615, 18446744073709551615]) = true then
      if ((Prod.fst r4) == [16, 0, 0, 0]) = true then
       some (mk0 (!(Prod.snd r6)))
      else
       some (mk0 false)
     else
      some (mk0 false)
    else
     some (mk0 false)
def l11_known.m (n : Nat) (t : Unit) : Option Bool := l11_known.g (fun a0 => a0) n 
def l11_known.pat : List AV → Blks → Option Unit
 | [], [] => some ()
 | _, _ => none
def l11_known.shape (t : Unit) : List AV × Blks := ([], [])
def l11_known.res : Bool → AV × Blks
 | u => (Prod.mk (.bool u) [])
def l11_known.resK {R : Type} (u : Bool) (K : AV → Blks → Option R) : Option R := (fun p : AV × Blks => K p.1 p.2) (Prod.mk (.bool u) [])
def l11_known.c (n : Nat) : Abs.Callee := .mk' [] [] l11_known.pat (l11_known.m n) l11_known.resK
end
end
section
theorem l11_known.gmap {α β : Type} (h : β → α) (mk0 : Bool → β) (n : Nat)  : l11_known.g (fun a0 => (h (mk0 a0))) n  = (l11_known.g mk0 n ).map h := by
  unfold l11_known.g
  exact (bindO_map fun r2 => (bindO_map fun r4 => (bindO_map fun r6 => (ite_map (ite_map (ite_map rfl rfl) rfl) rfl))))
theorem l11_known.run (n : Nat)  : runF (l11_known.C n) (l11_known.A n) n Try.f49 [] [] (fun v o => some (v, o)) = l11_known.g (fun a0 => ((Prod.mk (.bool a0) []) : AV × Blks)) n  := by kernel_rfl
theorem l11_known.call (hmix : Try.prog.follows .mixedOrders = true) (n : Nat) (t : Unit) (u) (h : l11_known.m n t = some u) : FnC Try.prog (fun _ => .any) 49 (l11_known.shape t).1 (l11_known.shape t).2 (l11_known.res u).1 (l11_known.res u).2 := by
  have hg : ∀ f m, (l11_known.C n).Γ f = some m → CalleeS Try.prog (fun _ => .any) f m := by
    intro f m hm
    unfold l11_known.C at hm
    simp only at hm
    first
    | (cases hm; done)
    | (split at hm <;> first
    | (cases hm; exact calc_Do.s hmix n)
    | (cases hm; done))
  have hb : Try.f49.body = some (Try.f49.body.getD .skip) := by kernel_rfl
  refine runF_calls (C := l11_known.C n) (A := l11_known.A n) (n := n) (fn := Try.f49) hg hmix Try.func49 hb ?_ ?_ (by decide) rfl rfl (by show 0 ≤ Try.f49.ntmps; decide) ?_
  · rw [show loopsIn (Try.f49.body.getD .skip) = [] by kernel_rfl]
    intro b hb
    cases hb
  · intro a ha m hm
    cases (show none = some m from hm)
  · rw [show runF (l11_known.C n) (l11_known.A n) n Try.f49 (l11_known.shape t).1 (l11_known.shape t).2 (fun v o => some (v, o)) = _ from l11_known.run n ]
    have e := l11_known.gmap l11_known.res (fun a0 => a0) n 
    unfold l11_known.m at h
    rw [h] at e
    exact e
theorem l11_known.s (hmix : Try.prog.follows .mixedOrders = true) (n : Nat) : CalleeS Try.prog (fun _ => .any) 49 (l11_known.c n) :=
  CalleeS.of (res := l11_known.res) (shape := l11_known.shape) (fun R u K => rfl) (fun args lent t h => by
    unfold l11_known.pat at h
    split at h
    · cases h; rfl
    · cases h) fun t u h => (l11_known.call hmix n t u h).ok Try.func49 (by decide) (by kernel_rfl)
end
section
noncomputable section
noncomputable def l11_CalcSides.C (n : Nat) : Ctx := ⟨Try.prog, (fun _ => .any), fun f => match f with
 | 47 => some (calc_Do.c n)
 | 49 => some (l11_known.c n)
 | _ => none⟩
def l11_CalcSides.live : Nat → List Nat × List Nat := fun k => match k with
 | 3 => ([6, 5, 2, 3], [4, 2, 3])
 | _ => ([], [])
def l11_CalcSides.jlive : Nat → List Nat × List Nat := fun k => match k with
 | _ => ([], [])
def l11_CalcSides.l3_0.r {α : Type} (mk0 : Bool → (List Int) → (List Int) → α) (mk1 : (List Int) → (List Int) → α) (n : Nat) (rc : Int → (List Int) → (List Int) → (List Int) → Option α)  (x0 : Int) (x1 : (List Int)) (x2 : (List Int)) (x3 : (List Int)) : Option α :=
  if (decide (x0 < (((List.length x1) : Nat) : Int))) = true then
   if 0 ≤ x0 then
    if x0 < (((List.length x1) : Nat) : Int) then
     bindO (calc_Do.m n (Prod.mk (List.getD x1 (Int.toNat x0) 0) [(AV.ints .u64 4 x2), (AV.ints .u64 4 x3)])) fun r10 =>
      if 0 ≤ x0 then
       if x0 < (((List.length x1) : Nat) : Int) then
        bindO (calc_Do.m n (Prod.mk (List.getD x1 (Int.toNat x0) 0) [(AV.ints .u64 4 x3), (AV.ints .u64 4 x2)])) fun r16 =>
         if (!((Prod.fst r10) == (Prod.fst r16))) = true then
          some (mk0 false x2 x3)
         else
          rc (IntKind.wrap .i64 (x0 + 1)) x1 x2 x3
       else
        none
      else
       none
    else
     none
   else
    none
  else
   some (mk1 x2 x3)
def l11_CalcSides.l3_0.g {α : Type} (mk0 : Bool → (List Int) → (List Int) → α) (mk1 : (List Int) → (List Int) → α) (n : Nat) : Nat → Int → (List Int) → (List Int) → (List Int) → Option α
 | 0, _, _, _, _ => none
 | m + 1, x0, x1, x2, x3 => l11_CalcSides.l3_0.r mk0 mk1 n (fun y0 y1 y2 y3 => l11_CalcSides.l3_0.g mk0 mk1 n m y0 y1 y2 y3)  x0 x1 x2 x3
def l11_CalcSides.l3_0.m (n m : Nat) (t : (Int × ((List Int) × ((List Int) × (List Int))))) : Option ((Bool × ((List Int) × (List Int))) ⊕ ((List Int) × (List Int))) := l11_CalcSides.l3_0.g (fun a0 a1 a2 => (.inl (a0, a1, a2))) (fun a0 a1 => (.inr (a0, a1))) n m t.1 t.2.1 t.2.2.1 t.2.2.2
def l11_CalcSides.l3_0.pat : St → Option (Int × ((List Int) × ((List Int) × (List Int))))
 | (St.mk [(.int .i64 x0), (.own 0 1), (.ptr 1 []), (.ptr 2 [])] [(some (.ints .u8 x1)), (some (.var (.ints .u64 4 x2))), (some (.var (.ints .u64 4 x3)))]) => some (x0, x1, x2, x3)
 | _ => none
def l11_CalcSides.l3_0.shape (t : (Int × ((List Int) × ((List Int) × (List Int))))) : St := (St.mk [(.int .i64 t.1), (.own 0 1), (.ptr 1 []), (.ptr 2 [])] [(some (.ints .u8 t.2.1)), (some (.var (.ints .u64 4 t.2.2.1))), (some (.var (.ints .u64 4 t.2.2.2)))])
def l11_CalcSides.l3_0.res : ((Bool × ((List Int) × (List Int))) ⊕ ((List Int) × (List Int))) → Ex × St
 | (.inl u) => (Prod.mk .ret (St.mk [(.bool u.1), (.ptr 0 []), (.ptr 1 [])] [(some (.var (.ints .u64 4 u.2.1))), (some (.var (.ints .u64 4 u.2.2)))]))
 | (.inr u) => (Prod.mk (.exit 0) (St.mk [.any, (.ptr 0 []), (.ptr 1 [])] [(some (.var (.ints .u64 4 u.1))), (some (.var (.ints .u64 4 u.2)))]))
def l11_CalcSides.l3_0.resK {R : Type} (u : ((Bool × ((List Int) × (List Int))) ⊕ ((List Int) × (List Int)))) (K : Ex → St → Option R) : Option R := match u with
 | (.inl u) => (fun p : Ex × St => K p.1 p.2) (Prod.mk .ret (St.mk [(.bool u.1), (.ptr 0 []), (.ptr 1 [])] [(some (.var (.ints .u64 4 u.2.1))), (some (.var (.ints .u64 4 u.2.2)))]))
 | (.inr u) => (fun p : Ex × St => K p.1 p.2) (Prod.mk (.exit 0) (St.mk [.any, (.ptr 0 []), (.ptr 1 [])] [(some (.var (.ints .u64 4 u.1))), (some (.var (.ints .u64 4 u.2)))]))
noncomputable def l11_CalcSides.A (n : Nat) : Ann := ⟨Try.f18.ntmps, 0, l11_CalcSides.live, [(5, (.ints .u8))], [none], fun k => match k with
 | 3 => some (.mk' l11_CalcSides.l3_0.pat (l11_CalcSides.l3_0.m n n) l11_CalcSides.l3_0.resK)
 | _ => none, l11_CalcSides.jlive, lookJ []⟩
noncomputable def l11_CalcSides.b0 : Code := (loopsIn (Try.f18.body.getD .skip)).getD 0 .skip
def l11_CalcSides.g {α : Type} (mk0 : Bool → α) (n : Nat) (a0 : (List Int)) (a1 : (List Int)) : Option α :=
 bindO (l11_CalcSides.l3_0.m n n (0, ([1, 2, 20, 22, 23, 24] : List Int), a0, a1)) fun r2 => match r2 with
  | (.inl r2) =>
   some (mk0 (Prod.fst r2))
  | (.inr r2) =>
   bindO (calc_Do.m n (Prod.mk 16 [(AV.ints .u64 4 (Prod.fst r2)), (AV.ints .u64 4 (Prod.snd r2))])) fun r6 =>
    bindO (calc_Do.m n (Prod.mk 17 [(AV.ints .u64 4 (Prod.snd r2)), (AV.ints .u64 4 (Prod.fst r2))])) fun r8 =>
     bindO (calc_Do.m n (Prod.mk 18 [(AV.ints .u64 4 (Prod.fst r2)), (AV.ints .u64 4 (Prod.snd r2))])) fun r10 =>
      bindO (calc_Do.m n (Prod.mk 19 [(AV.ints .u64 4 (Prod.snd r2)), (AV.ints .u64 4 (Prod.fst r2))])) fun r12 =>
       bindO (l11_known.m n Unit.unit) fun r14 =>
        if r14 = true then
         if ((Prod.fst r6) == (Prod.fst r8)) = true then
          some (mk0 ((Prod.fst r10) == (Prod.fst r12)))
         else
          some (mk0 false)
        else
         some (mk0 false)
def l11_CalcSides.m (n : Nat) (t : ((List Int) × (List Int))) : Option Bool := l11_CalcSides.g (fun a0 => a0) n t.1 t.2
def l11_CalcSides.pat : List AV → Blks → Option ((List Int) × (List Int))
 | [(.ints .u64 4 a0), (.ints .u64 4 a1)], [] => some (a0, a1)
 | _, _ => none
def l11_CalcSides.shape (t : ((List Int) × (List Int))) : List AV × Blks := ([(.ints .u64 4 t.1), (.ints .u64 4 t.2)], [])
def l11_CalcSides.res : Bool → AV × Blks
 | u => (Prod.mk (.bool u) [])
def l11_CalcSides.resK {R : Type} (u : Bool) (K : AV → Blks → Option R) : Option R := (fun p : AV × Blks => K p.1 p.2) (Prod.mk (.bool u) [])
def l11_CalcSides.c (n : Nat) : Abs.Callee := .mk' [] [none, none] l11_CalcSides.pat (l11_CalcSides.m n) l11_CalcSides.resK
end
end
section
theorem l11_CalcSides.l3_0.rmap {α β : Type} (h : β → α) (mk0 : Bool → (List Int) → (List Int) → β) (mk1 : (List Int) → (List Int) → β) (n : Nat) (f : Int → (List Int) → (List Int) → (List Int) → Option β)  (x0 : Int) (x1 : (List Int)) (x2 : (List Int)) (x3 : (List Int)) : l11_CalcSides.l3_0.r (fun a0 a1 a2 => (h (mk0 a0 a1 a2))) (fun a0 a1 => (h (mk1 a0 a1))) n (fun y0 y1 y2 y3 => (f y0 y1 y2 y3).map h) x0 x1 x2 x3 = (l11_CalcSides.l3_0.r mk0 mk1 n f x0 x1 x2 x3).map h := by
  unfold l11_CalcSides.l3_0.r
  exact (ite_map (ite_map (ite_map (bindO_map fun r10 => (ite_map (ite_map (bindO_map fun r16 => (ite_map rfl rfl)) rfl) rfl)) rfl) rfl) rfl)
theorem l11_CalcSides.l3_0.gmap {α β : Type} (h : β → α) (mk0 : Bool → (List Int) → (List Int) → β) (mk1 : (List Int) → (List Int) → β) (n : Nat) : ∀ (m : Nat) (x0 : Int) (x1 : (List Int)) (x2 : (List Int)) (x3 : (List Int)), l11_CalcSides.l3_0.g (fun a0 a1 a2 => (h (mk0 a0 a1 a2))) (fun a0 a1 => (h (mk1 a0 a1))) n m x0 x1 x2 x3 = (l11_CalcSides.l3_0.g mk0 mk1 n m x0 x1 x2 x3).map h
  | 0, _, _, _, _ => rfl
  | m + 1, x0, x1, x2, x3 => by
    unfold l11_CalcSides.l3_0.g
    rw [← l11_CalcSides.l3_0.rmap]
    congr
    · funext y0 y1 y2 y3; exact l11_CalcSides.l3_0.gmap h mk0 mk1 n m y0 y1 y2 y3
theorem l11_CalcSides.l3_0.pat_shape : ∀ st t, l11_CalcSides.l3_0.pat st = some t → st = l11_CalcSides.l3_0.shape t := by
  intro st t h
  unfold l11_CalcSides.l3_0.pat at h
  split at h
  · cases h; rfl
  · cases h
theorem l11_CalcSides.l3_0.round (n : Nat) (rc : St → Option (Ex × St)) (x0 : Int) (x1 : (List Int)) (x2 : (List Int)) (x3 : (List Int)) : roundOf (l11_CalcSides.C n) (l11_CalcSides.A n) n l11_CalcSides.b0 rc ((St.mk [(.int .i64 x0), (.own 0 1), (.ptr 1 []), (.ptr 2 [])] [(some (.ints .u8 x1)), (some (.var (.ints .u64 4 x2))), (some (.var (.ints .u64 4 x3)))])) = l11_CalcSides.l3_0.r (fun a0 a1 a2 => ((Prod.mk .ret (St.mk [(.bool a0), (.ptr 0 []), (.ptr 1 [])] [(some (.var (.ints .u64 4 a1))), (some (.var (.ints .u64 4 a2)))])) : Ex × St)) (fun a0 a1 => ((Prod.mk (.exit 0) (St.mk [.any, (.ptr 0 []), (.ptr 1 [])] [(some (.var (.ints .u64 4 a0))), (some (.var (.ints .u64 4 a1)))])) : Ex × St)) n (fun y0 y1 y2 y3 => rc ((St.mk [(.int .i64 y0), (.own 0 1), (.ptr 1 []), (.ptr 2 [])] [(some (.ints .u8 y1)), (some (.var (.ints .u64 4 y2))), (some (.var (.ints .u64 4 y3)))]))) x0 x1 x2 x3 := by kernel_rfl
theorem l11_CalcSides.l3_0.loop' (n : Nat) : ∀ (m : Nat) (t : (Int × ((List Int) × ((List Int) × (List Int))))), loopOf (roundOf (l11_CalcSides.C n) (l11_CalcSides.A n) n l11_CalcSides.b0) m (l11_CalcSides.l3_0.shape t) = l11_CalcSides.l3_0.g (fun a0 a1 a2 => ((Prod.mk .ret (St.mk [(.bool a0), (.ptr 0 []), (.ptr 1 [])] [(some (.var (.ints .u64 4 a1))), (some (.var (.ints .u64 4 a2)))])) : Ex × St)) (fun a0 a1 => ((Prod.mk (.exit 0) (St.mk [.any, (.ptr 0 []), (.ptr 1 [])] [(some (.var (.ints .u64 4 a0))), (some (.var (.ints .u64 4 a1)))])) : Ex × St)) n m t.1 t.2.1 t.2.2.1 t.2.2.2 :=
  loop_of_round (shape := l11_CalcSides.l3_0.shape) (body := roundOf (l11_CalcSides.C n) (l11_CalcSides.A n) n l11_CalcSides.b0) (g := fun m t => l11_CalcSides.l3_0.g (fun a0 a1 a2 => ((Prod.mk .ret (St.mk [(.bool a0), (.ptr 0 []), (.ptr 1 [])] [(some (.var (.ints .u64 4 a1))), (some (.var (.ints .u64 4 a2)))])) : Ex × St)) (fun a0 a1 => ((Prod.mk (.exit 0) (St.mk [.any, (.ptr 0 []), (.ptr 1 [])] [(some (.var (.ints .u64 4 a0))), (some (.var (.ints .u64 4 a1)))])) : Ex × St)) n m t.1 t.2.1 t.2.2.1 t.2.2.2) (fun t => rfl)
    fun m t ih => (l11_CalcSides.l3_0.round n (loopOf (roundOf (l11_CalcSides.C n) (l11_CalcSides.A n) n l11_CalcSides.b0) m) t.1 t.2.1 t.2.2.1 t.2.2.2).trans (congrFun (congrFun (congrFun (congrFun (congrArg (l11_CalcSides.l3_0.r (fun a0 a1 a2 => ((Prod.mk .ret (St.mk [(.bool a0), (.ptr 0 []), (.ptr 1 [])] [(some (.var (.ints .u64 4 a1))), (some (.var (.ints .u64 4 a2)))])) : Ex × St)) (fun a0 a1 => ((Prod.mk (.exit 0) (St.mk [.any, (.ptr 0 []), (.ptr 1 [])] [(some (.var (.ints .u64 4 a0))), (some (.var (.ints .u64 4 a1)))])) : Ex × St)) n) (funext fun y0 => funext fun y1 => funext fun y2 => funext fun y3 => ih (y0, y1, y2, y3))) t.1) t.2.1) t.2.2.1) t.2.2.2)
theorem l11_CalcSides.l3_0.loop (n m : Nat) (t : (Int × ((List Int) × ((List Int) × (List Int))))) : loopOf (roundOf (l11_CalcSides.C n) (l11_CalcSides.A n) n l11_CalcSides.b0) m (l11_CalcSides.l3_0.shape t) = (l11_CalcSides.l3_0.m n m t).map l11_CalcSides.l3_0.res :=
  (l11_CalcSides.l3_0.loop' n m t).trans (l11_CalcSides.l3_0.gmap l11_CalcSides.l3_0.res (fun a0 a1 a2 => (.inl (a0, a1, a2))) (fun a0 a1 => (.inr (a0, a1))) n m t.1 t.2.1 t.2.2.1 t.2.2.2)
theorem l11_CalcSides.gmap {α β : Type} (h : β → α) (mk0 : Bool → β) (n : Nat) (a0 : (List Int)) (a1 : (List Int)) : l11_CalcSides.g (fun a0 => (h (mk0 a0))) n a0 a1 = (l11_CalcSides.g mk0 n a0 a1).map h := by
  unfold l11_CalcSides.g
  exact (bindO_map fun r2 => match r2 with | (.inl r2) => rfl | (.inr r2) => (bindO_map fun r6 => (bindO_map fun r8 => (bindO_map fun r10 => (bindO_map fun r12 => (bindO_map fun r14 => (ite_map (ite_map rfl rfl) rfl)))))))
theorem l11_CalcSides.run (n : Nat) (a0 : (List Int)) (a1 : (List Int)) : runF (l11_CalcSides.C n) (l11_CalcSides.A n) n Try.f18 [(.ints .u64 4 a0), (.ints .u64 4 a1)] [] (fun v o => some (v, o)) = l11_CalcSides.g (fun a0 => ((Prod.mk (.bool a0) []) : AV × Blks)) n a0 a1 := by kernel_rfl
theorem l11_CalcSides.call (hmix : Try.prog.follows .mixedOrders = true) (n : Nat) (t : ((List Int) × (List Int))) (u) (h : l11_CalcSides.m n t = some u) : FnC Try.prog (fun _ => .any) 18 (l11_CalcSides.shape t).1 (l11_CalcSides.shape t).2 (l11_CalcSides.res u).1 (l11_CalcSides.res u).2 := by
  have hg : ∀ f m, (l11_CalcSides.C n).Γ f = some m → CalleeS Try.prog (fun _ => .any) f m := by
    intro f m hm
    unfold l11_CalcSides.C at hm
    simp only at hm
    first
    | (cases hm; done)
    | (split at hm <;> first
    | (cases hm; exact calc_Do.s hmix n)
    | (cases hm; exact l11_known.s hmix n)
    | (cases hm; done))
  have hb : Try.f18.body = some (Try.f18.body.getD .skip) := by kernel_rfl
  refine runF_calls (C := l11_CalcSides.C n) (A := l11_CalcSides.A n) (n := n) (fn := Try.f18) hg hmix Try.func18 hb ?_ ?_ (by decide) rfl rfl (by show 2 ≤ Try.f18.ntmps; decide) ?_
  · rw [show loopsIn (Try.f18.body.getD .skip) = [l11_CalcSides.b0] by kernel_rfl]
    intro b hb m hm
    simp only [List.mem_cons, List.not_mem_nil, or_false] at hb
    rcases hb with rfl
    · have e : (l11_CalcSides.A n).loop (key l11_CalcSides.b0) = some (.mk' l11_CalcSides.l3_0.pat (l11_CalcSides.l3_0.m n n) l11_CalcSides.l3_0.resK) := by rw [show key l11_CalcSides.b0 = 3 by kernel_rfl]; rfl
      rw [e] at hm
      cases hm
      exact (LoopS.of (res := l11_CalcSides.l3_0.res) (fun R u K => by rcases u with u | u <;> rfl) l11_CalcSides.l3_0.pat_shape fun t => l11_CalcSides.l3_0.loop n n t)
  · intro a ha m hm
    cases (show none = some m from hm)
  · rw [show runF (l11_CalcSides.C n) (l11_CalcSides.A n) n Try.f18 (l11_CalcSides.shape t).1 (l11_CalcSides.shape t).2 (fun v o => some (v, o)) = _ from l11_CalcSides.run n t.1 t.2]
    have e := l11_CalcSides.gmap l11_CalcSides.res (fun a0 => a0) n t.1 t.2
    unfold l11_CalcSides.m at h
    rw [h] at e
    exact e
theorem l11_CalcSides.s (hmix : Try.prog.follows .mixedOrders = true) (n : Nat) : CalleeS Try.prog (fun _ => .any) 18 (l11_CalcSides.c n) :=
  CalleeS.of (res := l11_CalcSides.res) (shape := l11_CalcSides.shape) (fun R u K => rfl) (fun args lent t h => by
    unfold l11_CalcSides.pat at h
    split at h
    · cases h; rfl
    · cases h) fun t u h => (l11_CalcSides.call hmix n t u h).ok Try.func18 (by decide) (by kernel_rfl)
end
