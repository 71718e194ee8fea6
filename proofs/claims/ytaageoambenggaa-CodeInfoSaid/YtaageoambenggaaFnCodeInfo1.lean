/- What the program's functions compute, as plain functions, each with its proof: the function does just that. Condition: the plain function has an answer. -/
import Derived.Test.YtaageoambenggaaAbsG6
import Derived.Test.YtaageoambenggaaProg
import Derived.Test.YtaageoambenggaaAbsG1
import Derived.RangeFuncNested
import Derived.RangeFuncBound
import Derived.RangeFuncCalls
import Derived.RangeFuncLeaves
import Derived.RangeFuncBox
import Derived.Shelf.Abstract
import Derived.Shelf.RegionOpen
import Derived.WalkKit
import Derived.OwnWalkIn
import Derived.TacticsInMore
import Derived.LoopNIn
import Derived.LoopIn
import Derived.Maps.AppendAt
set_option linter.unusedVariables false
set_option linter.unusedSimpArgs false
set_option maxRecDepth 100000
open Go Go.Abs Go.Proofs
section
noncomputable section
noncomputable def Fc.C (n : Nat) : Ctx := ⟨Try.prog, (fun _ => .any), lookC [], fun _ => false⟩
def Fc.jlive : NL := fun k => match k with
 | 10000 => ([0], [0, 2, 3, 4])
 | _ => ([], [])
noncomputable def Fc.jc0 : Code := ((seqsIn (Try.f19.body.getD .skip)).filter fun a => jkey a == 10000).getD 0 .skip
def Fc.j10000.g {α : Type} (mk0 : Int → Int → Int → Bool → α) (mk1 : Int → α) (n : Nat) (x0 : Int) : Option α :=
  if (decide (x0 ≥ 95)) = true then
   if (decide (x0 ≤ 127)) = true then
    some (mk0 x0 0 1 true)
   else
    if (decide (x0 ≥ 128)) = true then
     if (decide (x0 ≤ 143)) = true then
      some (mk0 x0 (IntKind.wrap .i64 ((IntKind.wrap .i64 (IntKind.wrap .u8 (x0 - 128))) + 1)) (IntKind.wrap .i64 ((IntKind.wrap .i64 (IntKind.wrap .u8 (x0 - 128))) + 2)) true)
     else
      if (decide (x0 ≥ 144)) = true then
       if (decide (x0 ≤ 159)) = true then
        some (mk0 x0 (IntKind.wrap .i64 ((IntKind.wrap .i64 (IntKind.wrap .u8 (x0 - 144))) + 2)) (IntKind.wrap .i64 ((IntKind.wrap .i64 (IntKind.wrap .u8 (x0 - 144))) + 2)) true)
       else
        if (decide (x0 ≥ 160)) = true then
         if (decide (x0 ≤ 164)) = true then
          some (mk0 x0 (IntKind.wrap .i64 ((IntKind.wrap .i64 (IntKind.wrap .u8 (x0 - 160))) + 2)) 0 true)
         else
          some (mk1 x0)
        else
         some (mk1 x0)
      else
       if (decide (x0 ≥ 160)) = true then
        if (decide (x0 ≤ 164)) = true then
         some (mk0 x0 (IntKind.wrap .i64 ((IntKind.wrap .i64 (IntKind.wrap .u8 (x0 - 160))) + 2)) 0 true)
        else
         some (mk1 x0)
       else
        some (mk1 x0)
    else
     if (decide (x0 ≥ 144)) = true then
      if (decide (x0 ≤ 159)) = true then
       some (mk0 x0 (IntKind.wrap .i64 ((IntKind.wrap .i64 (IntKind.wrap .u8 (x0 - 144))) + 2)) (IntKind.wrap .i64 ((IntKind.wrap .i64 (IntKind.wrap .u8 (x0 - 144))) + 2)) true)
      else
       if (decide (x0 ≥ 160)) = true then
        if (decide (x0 ≤ 164)) = true then
         some (mk0 x0 (IntKind.wrap .i64 ((IntKind.wrap .i64 (IntKind.wrap .u8 (x0 - 160))) + 2)) 0 true)
        else
         some (mk1 x0)
       else
        some (mk1 x0)
     else
      if (decide (x0 ≥ 160)) = true then
       if (decide (x0 ≤ 164)) = true then
        some (mk0 x0 (IntKind.wrap .i64 ((IntKind.wrap .i64 (IntKind.wrap .u8 (x0 - 160))) + 2)) 0 true)
       else
        some (mk1 x0)
      else
       some (mk1 x0)
  else
   if (decide (x0 ≥ 128)) = true then
    if (decide (x0 ≤ 143)) = true then
     some (mk0 x0 (IntKind.wrap .i64 ((IntKind.wrap .i64 (IntKind.wrap .u8 (x0 - 128))) + 1)) (IntKind.wrap .i64 ((IntKind.wrap .i64 (IntKind.wrap .u8 (x0 - 128))) + 2)) true)
    else
     if (decide (x0 ≥ 144)) = true then
      if (decide (x0 ≤ 159)) = true then
       some (mk0 x0 (IntKind.wrap .i64 ((IntKind.wrap .i64 (IntKind.wrap .u8 (x0 - 144))) + 2)) (IntKind.wrap .i64 ((IntKind.wrap .i64 (IntKind.wrap .u8 (x0 - 144))) + 2)) true)
      else
       if (decide (x0 ≥ 160)) = true then
        if (decide (x0 ≤ 164)) = true then
         some (mk0 x0 (IntKind.wrap .i64 ((IntKind.wrap .i64 (IntKind.wrap .u8 (x0 - 160))) + 2)) 0 true)
        else
         some (mk1 x0)
       else
        some (mk1 x0)
     else
      if (decide (x0 ≥ 160)) = true then
       if (decide (x0 ≤ 164)) = true then
        some (mk0 x0 (IntKind.wrap .i64 ((IntKind.wrap .i64 (IntKind.wrap .u8 (x0 - 160))) + 2)) 0 true)
       else
        some (mk1 x0)
      else
       some (mk1 x0)
   else
    if (decide (x0 ≥ 144)) = true then
     if (decide (x0 ≤ 159)) = true then
      some (mk0 x0 (IntKind.wrap .i64 ((IntKind.wrap .i64 (IntKind.wrap .u8 (x0 - 144))) + 2)) (IntKind.wrap .i64 ((IntKind.wrap .i64 (IntKind.wrap .u8 (x0 - 144))) + 2)) true)
     else
      if (decide (x0 ≥ 160)) = true then
       if (decide (x0 ≤ 164)) = true then
        some (mk0 x0 (IntKind.wrap .i64 ((IntKind.wrap .i64 (IntKind.wrap .u8 (x0 - 160))) + 2)) 0 true)
       else
        some (mk1 x0)
      else
       some (mk1 x0)
    else
     if (decide (x0 ≥ 160)) = true then
      if (decide (x0 ≤ 164)) = true then
       some (mk0 x0 (IntKind.wrap .i64 ((IntKind.wrap .i64 (IntKind.wrap .u8 (x0 - 160))) + 2)) 0 true)
      else
       some (mk1 x0)
     else
      some (mk1 x0)
def Fc.j10000.m (n : Nat) (t : Int) : Option ((Int × (Int × (Int × Bool))) ⊕ Int) := Fc.j10000.g (fun a0 a1 a2 a3 => (.inl (a0, a1, a2, a3))) (fun a0 => (.inr a0)) n t
def Fc.j10000.pat : St → Option Int
 | (St.mk [(.int .u8 x0)] []) => some x0
 | _ => none
def Fc.j10000.shape (t : Int) : St := (St.mk [(.int .u8 t)] [])
def Fc.j10000.res : ((Int × (Int × (Int × Bool))) ⊕ Int) → Ex × St
 | (.inl u) => (.ret, (St.mk [(.int .u8 u.1), (.int .i64 u.2.1), (.int .i64 u.2.2.1), (.bool u.2.2.2)] []))
 | (.inr u) => (.normal, (St.mk [(.int .u8 u), .any, .any, .any] []))
def Fc.j10000.resK {R : Type} (u : ((Int × (Int × (Int × Bool))) ⊕ Int)) (K : Ex → St → Option R) : Option R := match u with
 | (.inl u) => (fun p : Ex × St => K p.1 p.2) (.ret, (St.mk [(.int .u8 u.1), (.int .i64 u.2.1), (.int .i64 u.2.2.1), (.bool u.2.2.2)] []))
 | (.inr u) => (fun p : Ex × St => K p.1 p.2) (.normal, (St.mk [(.int .u8 u), .any, .any, .any] []))
noncomputable def Fc.A (n : Nat) : Ann := ⟨Try.f19.ntmps, 0, noNL, [], [none, none, none], fun k => match k with
 | _ => none, Fc.jlive, lookJ [(10000, .mk' Fc.j10000.pat (Fc.j10000.m n) Fc.j10000.resK)]⟩
def Fc.g {α : Type} (mk0 : Int → Int → Bool → α) (n : Nat) (a0 : Int) : Option α :=
 bindO (Fc.j10000.m n a0) fun r2 => match r2 with
  | (.inl r2) =>
   some (mk0 r2.2.1 r2.2.2.1 r2.2.2.2)
  | (.inr r2) =>
   if (r2 == 0) = true then
    some (mk0 0 0 true)
   else
    if (r2 == 91) = true then
     some (mk0 0 0 true)
    else
     if (r2 == 1) = true then
      some (mk0 2 1 true)
     else
      if (r2 == 2) = true then
       some (mk0 2 1 true)
      else
       if (r2 == 3) = true then
        some (mk0 2 1 true)
       else
        if (r2 == 4) = true then
         some (mk0 2 1 true)
        else
         if (r2 == 5) = true then
          some (mk0 2 1 true)
         else
          if (r2 == 6) = true then
           some (mk0 2 1 true)
          else
           if (r2 == 7) = true then
            some (mk0 2 1 true)
           else
            if (r2 == 10) = true then
             some (mk0 2 1 true)
            else
             if (r2 == 11) = true then
              some (mk0 2 1 true)
             else
              if (r2 == 16) = true then
               some (mk0 2 1 true)
              else
               if (r2 == 17) = true then
                some (mk0 2 1 true)
               else
                if (r2 == 18) = true then
                 some (mk0 2 1 true)
                else
                 if (r2 == 19) = true then
                  some (mk0 2 1 true)
                 else
                  if (r2 == 20) = true then
                   some (mk0 2 1 true)
                  else
                   if (r2 == 22) = true then
                    some (mk0 2 1 true)
                   else
                    if (r2 == 23) = true then
                     some (mk0 2 1 true)
                    else
                     if (r2 == 24) = true then
                      some (mk0 2 1 true)
                     else
                      if (r2 == 26) = true then
                       some (mk0 2 1 true)
                      else
                       if (r2 == 27) = true then
                        some (mk0 2 1 true)
                       else
                        if (r2 == 28) = true then
                         some (mk0 2 1 true)
                        else
                         if (r2 == 29) = true then
                          some (mk0 2 1 true)
                         else
                          if (r2 == 32) = true then
                           some (mk0 2 1 true)
                          else
                           if (r2 == 8) = true then
                            some (mk0 3 1 true)
                           else
                            if (r2 == 9) = true then
                             some (mk0 3 1 true)
                            else
                             if (r2 == 240) = true then
                              some (mk0 3 1 true)
                             else
                              if (r2 == 21) = true then
                               some (mk0 1 1 true)
                              else
                               if (r2 == 25) = true then
                                some (mk0 1 1 true)
                               else
                                if (r2 == 49) = true then
                                 some (mk0 1 1 true)
                                else
                                 if (r2 == 53) = true then
                                  some (mk0 1 1 true)
                                 else
                                  if (r2 == 59) = true then
                                   some (mk0 1 1 true)
                                  else
                                   if (r2 == 63) = true then
                                    some (mk0 1 1 true)
                                   else
                                    if (r2 == 64) = true then
                                     some (mk0 1 1 true)
                                    else
                                     if (r2 == 81) = true then
                                      some (mk0 1 1 true)
                                     else
                                      if (r2 == 84) = true then
                                       some (mk0 1 1 true)
                                      else
                                       if (r2 == 48) = true then
                                        some (mk0 0 1 true)
                                       else
                                        if (r2 == 50) = true then
                                         some (mk0 0 1 true)
                                        else
                                         if (r2 == 51) = true then
                                          some (mk0 0 1 true)
                                         else
                                          if (r2 == 52) = true then
                                           some (mk0 0 1 true)
                                          else
                                           if (r2 == 54) = true then
                                            some (mk0 0 1 true)
                                           else
                                            if (r2 == 56) = true then
                                             some (mk0 0 1 true)
                                            else
                                             if (r2 == 58) = true then
                                              some (mk0 0 1 true)
                                             else
                                              if (r2 == 61) = true then
                                               some (mk0 0 1 true)
                                              else
                                               if (r2 == 65) = true then
                                                some (mk0 0 1 true)
                                               else
                                                if (r2 == 66) = true then
                                                 some (mk0 0 1 true)
                                                else
                                                 if (r2 == 67) = true then
                                                  some (mk0 0 1 true)
                                                 else
                                                  if (r2 == 68) = true then
                                                   some (mk0 0 1 true)
                                                  else
                                                   if (r2 == 69) = true then
                                                    some (mk0 0 1 true)
                                                   else
                                                    if (r2 == 70) = true then
                                                     some (mk0 0 1 true)
                                                    else
                                                     if (r2 == 71) = true then
                                                      some (mk0 0 1 true)
                                                     else
                                                      if (r2 == 72) = true then
                                                       some (mk0 0 1 true)
                                                      else
                                                       if (r2 == 88) = true then
                                                        some (mk0 0 1 true)
                                                       else
                                                        if (r2 == 89) = true then
                                                         some (mk0 0 1 true)
                                                        else
                                                         if (r2 == 90) = true then
                                                          some (mk0 0 1 true)
                                                         else
                                                          if (r2 == 55) = true then
                                                           some (mk0 3 0 true)
                                                          else
                                                           if (r2 == 57) = true then
                                                            some (mk0 3 0 true)
                                                           else
                                                            if (r2 == 62) = true then
                                                             some (mk0 3 0 true)
                                                            else
                                                             if (r2 == 60) = true then
                                                              some (mk0 4 0 true)
                                                             else
                                                              if (r2 == 80) = true then
                                                               some (mk0 1 0 true)
                                                              else
                                                               if (r2 == 86) = true then
                                                                some (mk0 1 0 true)
                                                               else
                                                                if (r2 == 255) = true then
                                                                 some (mk0 1 0 true)
                                                                else
                                                                 if (r2 == 82) = true then
                                                                  some (mk0 2 0 true)
                                                                 else
                                                                  if (r2 == 83) = true then
                                                                   some (mk0 2 0 true)
                                                                  else
                                                                   if (r2 == 85) = true then
                                                                    some (mk0 2 0 true)
                                                                   else
                                                                    if (r2 == 87) = true then
                                                                     some (mk0 2 0 true)
                                                                    else
                                                                     if (r2 == 243) = true then
                                                                      some (mk0 2 0 true)
                                                                     else
                                                                      if (r2 == 253) = true then
                                                                       some (mk0 2 0 true)
                                                                      else
                                                                       if (r2 == 241) = true then
                                                                        some (mk0 7 1 true)
                                                                       else
                                                                        if (r2 == 242) = true then
                                                                         some (mk0 7 1 true)
                                                                        else
                                                                         if (r2 == 244) = true then
                                                                          some (mk0 6 1 true)
                                                                         else
                                                                          if (r2 == 250) = true then
                                                                           some (mk0 6 1 true)
                                                                          else
                                                                           if (r2 == 245) = true then
                                                                            some (mk0 4 1 true)
                                                                           else
                                                                            some (mk0 0 0 false)
def Fc.m (n : Nat) (t : Int) : Option (Int × (Int × Bool)) := Fc.g (fun a0 a1 a2 => (a0, a1, a2)) n t
def Fc.pat : List AV → Blks → Option Int
 | [(.int .u8 a0)], [] => some a0
 | _, _ => none
def Fc.shape (t : Int) : List AV × Blks := ([(.int .u8 t)], [])
def Fc.res : (Int × (Int × Bool)) → AV × Blks
 | u => ((.tup [(.int .i64 u.1), (.int .i64 u.2.1), (.bool u.2.2)]), [])
def Fc.resK {R : Type} (u : (Int × (Int × Bool))) (K : AV → Blks → Option R) : Option R := K (Fc.res u).1 (Fc.res u).2
def Fc.c (n : Nat) : Abs.Callee := .mk' [] [none] Fc.pat (Fc.m n) Fc.resK
end
end
section
noncomputable section
noncomputable def Fg.C (n : Nat) : Ctx := ⟨Try.prog, (fun _ => .any), lookC [], fun _ => false⟩
noncomputable def Fg.A (n : Nat) : Ann := ⟨Try.f50.ntmps, 0, noNL, [], [(some (.objs 65 3))], fun k => match k with
 | _ => none, noNL, lookJ []⟩
def Fg.g {α : Type} (mk0 : LA → α) (n : Nat)  : Option α :=
 some (mk0 [(AV.agg [(AV.int .u8 0), (AV.int .i64 0), (AV.int .i64 0)]), (AV.agg [(AV.int .u8 1), (AV.int .i64 2), (AV.int .i64 1)]), (AV.agg [(AV.int .u8 2), (AV.int .i64 2), (AV.int .i64 1)]), (AV.agg [(AV.int .u8 3), (AV.int .i64 2), (AV.int .i64 1)]), (AV.agg [(AV.int .u8 4), (AV.int .i64 2), (AV.int .i64 1)]), (AV.agg [(AV.int .u8 5), (AV.int .i64 2), (AV.int .i64 1)]), (AV.agg [(AV.int .u8 6), (AV.int .i64 2), (AV.int .i64 1)]), (AV.agg [(AV.int .u8 7), (AV.int .i64 2), (AV.int .i64 1)]), (AV.agg [(AV.int .u8 8), (AV.int .i64 3), (AV.int .i64 1)]), (AV.agg [(AV.int .u8 9), (AV.int .i64 3), (AV.int .i64 1)]), (AV.agg [(AV.int .u8 10), (AV.int .i64 2), (AV.int .i64 1)]), (AV.agg [(AV.int .u8 11), (AV.int .i64 2), (AV.int .i64 1)]), (AV.agg [(AV.int .u8 16), (AV.int .i64 2), (AV.int .i64 1)]), (AV.agg [(AV.int .u8 17), (AV.int .i64 2), (AV.int .i64 1)]), (AV.agg [(AV.int .u8 18), (AV.int .i64 2), (AV.int .i64 1)]), (AV.agg [(AV.int .u8 19), (AV.int .i64 2), (AV.int .i64 1)]), (AV.agg [(AV.int .u8 20), (AV.int .i64 2), (AV.int .i64 1)]), (AV.agg [(AV.int .u8 21), (AV.int .i64 1), (AV.int .i64 1)]), (AV.agg [(AV.int .u8 22), (AV.int .i64 2), (AV.int .i64 1)]), (AV.agg [(AV.int .u8 23), (AV.int .i64 2), (AV.int .i64 1)]), (AV.agg [(AV.int .u8 24), (AV.int .i64 2), (AV.int .i64 1)]), (AV.agg [(AV.int .u8 25), (AV.int .i64 1), (AV.int .i64 1)]), (AV.agg [(AV.int .u8 26), (AV.int .i64 2), (AV.int .i64 1)]), (AV.agg [(AV.int .u8 27), (AV.int .i64 2), (AV.int .i64 1)]), (AV.agg [(AV.int .u8 28), (AV.int .i64 2), (AV.int .i64 1)]), (AV.agg [(AV.int .u8 29), (AV.int .i64 2), (AV.int .i64 1)]), (AV.agg [(AV.int .u8 32), (AV.int .i64 2), (AV.int .i64 1)]), (AV.agg [(AV.int .u8 48), (AV.int .i64 0), (AV.int .i64 1)]), (AV.agg [(AV.int .u8 49), (AV.int .i64 1), (AV.int .i64 1)]), (AV.agg [(AV.int .u8 50), (AV.int .i64 0), (AV.int .i64 1)]), (AV.agg [(AV.int .u8 51), (AV.int .i64 0), (AV.int .i64 1)]), (AV.agg [(AV.int .u8 52), (AV.int .i64 0), (AV.int .i64 1)]), (AV.agg [(AV.int .u8 53), (AV.int .i64 1), (AV.int .i64 1)]), (AV.agg [(AV.int .u8 54), (AV.int .i64 0), (AV.int .i64 1)]), (AV.agg [(AV.int .u8 55), (AV.int .i64 3), (AV.int .i64 0)]), (AV.agg [(AV.int .u8 56), (AV.int .i64 0), (AV.int .i64 1)]), (AV.agg [(AV.int .u8 57), (AV.int .i64 3), (AV.int .i64 0)]), (AV.agg [(AV.int .u8 58), (AV.int .i64 0), (AV.int .i64 1)]), (AV.agg [(AV.int .u8 59), (AV.int .i64 1), (AV.int .i64 1)]), (AV.agg [(AV.int .u8 60), (AV.int .i64 4), (AV.int .i64 0)]), (AV.agg [(AV.int .u8 61), (AV.int .i64 0), (AV.int .i64 1)]), (AV.agg [(AV.int .u8 62), (AV.int .i64 3), (AV.int .i64 0)]), (AV.agg [(AV.int .u8 63), (AV.int .i64 1), (AV.int .i64 1)]), (AV.agg [(AV.int .u8 64), (AV.int .i64 1), (AV.int .i64 1)]), (AV.agg [(AV.int .u8 65), (AV.int .i64 0), (AV.int .i64 1)]), (AV.agg [(AV.int .u8 66), (AV.int .i64 0), (AV.int .i64 1)]), (AV.agg [(AV.int .u8 67), (AV.int .i64 0), (AV.int .i64 1)]), (AV.agg [(AV.int .u8 68), (AV.int .i64 0), (AV.int .i64 1)]), (AV.agg [(AV.int .u8 69), (AV.int .i64 0), (AV.int .i64 1)]), (AV.agg [(AV.int .u8 70), (AV.int .i64 0), (AV.int .i64 1)]), (AV.agg [(AV.int .u8 71), (AV.int .i64 0), (AV.int .i64 1)]), (AV.agg [(AV.int .u8 72), (AV.int .i64 0), (AV.int .i64 1)]), (AV.agg [(AV.int .u8 80), (AV.int .i64 1), (AV.int .i64 0)]), (AV.agg [(AV.int .u8 81), (AV.int .i64 1), (AV.int .i64 1)]), (AV.agg [(AV.int .u8 82), (AV.int .i64 2), (AV.int .i64 0)]), (AV.agg [(AV.int .u8 83), (AV.int .i64 2), (AV.int .i64 0)]), (AV.agg [(AV.int .u8 84), (AV.int .i64 1), (AV.int .i64 1)]), (AV.agg [(AV.int .u8 85), (AV.int .i64 2), (AV.int .i64 0)]), (AV.agg [(AV.int .u8 86), (AV.int .i64 1), (AV.int .i64 0)]), (AV.agg [(AV.int .u8 87), (AV.int .i64 2), (AV.int .i64 0)]), (AV.agg [(AV.int .u8 88), (AV.int .i64 0), (AV.int .i64 1)]), (AV.agg [(AV.int .u8 89), (AV.int .i64 0), (AV.int .i64 1)]), (AV.agg [(AV.int .u8 90), (AV.int .i64 0), (AV.int .i64 1)]), (AV.agg [(AV.int .u8 91), (AV.int .i64 0), (AV.int .i64 0)]), (AV.agg [(AV.int .u8 240), (AV.int .i64 3), (AV.int .i64 1)]), (AV.agg [(AV.int .u8 241), (AV.int .i64 7), (AV.int .i64 1)]), (AV.agg [(AV.int .u8 242), (AV.int .i64 7), (AV.int .i64 1)]), (AV.agg [(AV.int .u8 243), (AV.int .i64 2), (AV.int .i64 0)]), (AV.agg [(AV.int .u8 244), (AV.int .i64 6), (AV.int .i64 1)]), (AV.agg [(AV.int .u8 245), (AV.int .i64 4), (AV.int .i64 1)]), (AV.agg [(AV.int .u8 250), (AV.int .i64 6), (AV.int .i64 1)]), (AV.agg [(AV.int .u8 253), (AV.int .i64 2), (AV.int .i64 0)]), (AV.agg [(AV.int .u8 255), (AV.int .i64 1), (AV.int .i64 0)])])
def Fg.m (n : Nat) (t : Unit) : Option LA := Fg.g (fun a0 => a0) n 
def Fg.pat : List AV → Blks → Option Unit
 | [], [] => some ()
 | _, _ => none
def Fg.shape (t : Unit) : List AV × Blks := ([], [])
def Fg.res : LA → AV × Blks
 | u => ((.robjs 65 3 u), [])
def Fg.resK {R : Type} (u : LA) (K : AV → Blks → Option R) : Option R := K (Fg.res u).1 (Fg.res u).2
def Fg.c (n : Nat) : Abs.Callee := .mk' [] [] Fg.pat (Fg.m n) Fg.resK
end
end
section
noncomputable section
noncomputable def Fh.C (n : Nat) : Ctx := ⟨Try.prog, (fun _ => .any), lookC [(50, Fg.c n)], fun _ => false⟩
def Fh.live : NL := fun k => match k with
 | 12 => ([7, 6, 0], [2, 3, 4])
 | _ => ([], [])
def Fh.jlive : NL := fun k => match k with
 | 10000 => ([5, 0], [0, 2, 3, 4])
 | _ => ([], [])
noncomputable def Fh.jc0 : Code := ((seqsIn (Try.f20.body.getD .skip)).filter fun a => jkey a == 10000).getD 0 .skip
def Fh.l12_0.r {α : Type} (mk0 : Int → Int → Bool → α) (mk1 : α) (n : Nat) (rc : Int → LA → Int → Option α)  (x0 : Int) (x1 : LA) (x2 : Int) : Option α :=
  if (decide (x0 < (((List.length x1) : Nat) : Int))) = true then
   if 0 ≤ x0 then
    if x0 < (((List.length x1) : Nat) : Int) then
     bindO (tkAgg 3 (List.getD x1 (Int.toNat x0) AV.any)) fun r10 =>
      bindO (tkInt .u8 (List.getD r10 0 AV.any)) fun r12 =>
       bindO (tkInt .i64 (List.getD r10 1 AV.any)) fun r14 =>
        bindO (tkInt .i64 (List.getD r10 2 AV.any)) fun r16 =>
         if (r12 == x2) = true then
          if 0 ≤ x0 then
           if x0 < (((List.length x1) : Nat) : Int) then
            bindO (tkAgg 3 (List.getD x1 (Int.toNat x0) AV.any)) fun r24 =>
             bindO (tkInt .u8 (List.getD r24 0 AV.any)) fun r26 =>
              bindO (tkInt .i64 (List.getD r24 1 AV.any)) fun r28 =>
               bindO (tkInt .i64 (List.getD r24 2 AV.any)) fun r30 =>
                if 0 ≤ x0 then
                 if x0 < (((List.length x1) : Nat) : Int) then
                  bindO (tkAgg 3 (List.getD x1 (Int.toNat x0) AV.any)) fun r36 =>
                   bindO (tkInt .u8 (List.getD r36 0 AV.any)) fun r38 =>
                    bindO (tkInt .i64 (List.getD r36 1 AV.any)) fun r40 =>
                     bindO (tkInt .i64 (List.getD r36 2 AV.any)) fun r42 =>
                      some (mk0 r28 r42 true)
                 else
                  none
                else
                 none
           else
            none
          else
           none
         else
          rc (IntKind.wrap .i64 (x0 + 1)) x1 x2
    else
     none
   else
    none
  else
   some (mk1)
def Fh.l12_0.g {α : Type} (mk0 : Int → Int → Bool → α) (mk1 : α) (n : Nat) : Nat → Int → LA → Int → Option α
 | 0, _, _, _ => none
 | m + 1, x0, x1, x2 => Fh.l12_0.r mk0 mk1 n (fun y0 y1 y2 => Fh.l12_0.g mk0 mk1 n m y0 y1 y2)  x0 x1 x2
def Fh.l12_0.m (n m : Nat) (t : (Int × (LA × Int))) : Option ((Int × (Int × Bool)) ⊕ Unit) := Fh.l12_0.g (fun a0 a1 a2 => (.inl (a0, a1, a2))) (.inr ()) n m t.1 t.2.1 t.2.2
def Fh.l12_0.pat : St → Option (Int × (LA × Int))
 | (St.mk [(.int .i64 x0), (.robjs 65 3 x1), (.int .u8 x2)] []) => some (x0, x1, x2)
 | _ => none
def Fh.l12_0.shape (t : (Int × (LA × Int))) : St := (St.mk [(.int .i64 t.1), (.robjs 65 3 t.2.1), (.int .u8 t.2.2)] [])
def Fh.l12_0.res : ((Int × (Int × Bool)) ⊕ Unit) → Ex × St
 | (.inl u) => (.ret, (St.mk [(.int .i64 u.1), (.int .i64 u.2.1), (.bool u.2.2)] []))
 | (.inr u) => ((.exit 1), (St.mk [.any, .any, .any] []))
def Fh.l12_0.resK {R : Type} (u : ((Int × (Int × Bool)) ⊕ Unit)) (K : Ex → St → Option R) : Option R := match u with
 | (.inl u) => (fun p : Ex × St => K p.1 p.2) (.ret, (St.mk [(.int .i64 u.1), (.int .i64 u.2.1), (.bool u.2.2)] []))
 | (.inr u) => (fun p : Ex × St => K p.1 p.2) ((.exit 1), (St.mk [.any, .any, .any] []))
def Fh.j10000.g {α : Type} (mk0 : Int → Int → Int → Bool → α) (mk1 : Int → α) (n : Nat) (x0 : Int) (x1 : Int) : Option α :=
  if (decide (x0 ≥ 95)) = true then
   if (decide (x0 ≤ 127)) = true then
    some (mk0 x1 0 1 true)
   else
    if (decide (x0 ≥ 128)) = true then
     if (decide (x0 ≤ 143)) = true then
      some (mk0 x1 (IntKind.wrap .i64 (x0 - 127)) (IntKind.wrap .i64 (x0 - 126)) true)
     else
      if (decide (x0 ≥ 144)) = true then
       if (decide (x0 ≤ 159)) = true then
        some (mk0 x1 (IntKind.wrap .i64 (x0 - 142)) (IntKind.wrap .i64 (x0 - 142)) true)
       else
        if (decide (x0 ≥ 160)) = true then
         if (decide (x0 ≤ 164)) = true then
          some (mk0 x1 (IntKind.wrap .i64 (x0 - 158)) 0 true)
         else
          some (mk1 x1)
        else
         some (mk1 x1)
      else
       if (decide (x0 ≥ 160)) = true then
        if (decide (x0 ≤ 164)) = true then
         some (mk0 x1 (IntKind.wrap .i64 (x0 - 158)) 0 true)
        else
         some (mk1 x1)
       else
        some (mk1 x1)
    else
     if (decide (x0 ≥ 144)) = true then
      if (decide (x0 ≤ 159)) = true then
       some (mk0 x1 (IntKind.wrap .i64 (x0 - 142)) (IntKind.wrap .i64 (x0 - 142)) true)
      else
       if (decide (x0 ≥ 160)) = true then
        if (decide (x0 ≤ 164)) = true then
         some (mk0 x1 (IntKind.wrap .i64 (x0 - 158)) 0 true)
        else
         some (mk1 x1)
       else
        some (mk1 x1)
     else
      if (decide (x0 ≥ 160)) = true then
       if (decide (x0 ≤ 164)) = true then
        some (mk0 x1 (IntKind.wrap .i64 (x0 - 158)) 0 true)
       else
        some (mk1 x1)
      else
       some (mk1 x1)
  else
   if (decide (x0 ≥ 128)) = true then
    if (decide (x0 ≤ 143)) = true then
     some (mk0 x1 (IntKind.wrap .i64 (x0 - 127)) (IntKind.wrap .i64 (x0 - 126)) true)
    else
     if (decide (x0 ≥ 144)) = true then
      if (decide (x0 ≤ 159)) = true then
       some (mk0 x1 (IntKind.wrap .i64 (x0 - 142)) (IntKind.wrap .i64 (x0 - 142)) true)
      else
       if (decide (x0 ≥ 160)) = true then
        if (decide (x0 ≤ 164)) = true then
         some (mk0 x1 (IntKind.wrap .i64 (x0 - 158)) 0 true)
        else
         some (mk1 x1)
       else
        some (mk1 x1)
     else
      if (decide (x0 ≥ 160)) = true then
       if (decide (x0 ≤ 164)) = true then
        some (mk0 x1 (IntKind.wrap .i64 (x0 - 158)) 0 true)
       else
        some (mk1 x1)
      else
       some (mk1 x1)
   else
    if (decide (x0 ≥ 144)) = true then
     if (decide (x0 ≤ 159)) = true then
      some (mk0 x1 (IntKind.wrap .i64 (x0 - 142)) (IntKind.wrap .i64 (x0 - 142)) true)
     else
      if (decide (x0 ≥ 160)) = true then
       if (decide (x0 ≤ 164)) = true then
        some (mk0 x1 (IntKind.wrap .i64 (x0 - 158)) 0 true)
       else
        some (mk1 x1)
      else
       some (mk1 x1)
    else
     if (decide (x0 ≥ 160)) = true then
      if (decide (x0 ≤ 164)) = true then
       some (mk0 x1 (IntKind.wrap .i64 (x0 - 158)) 0 true)
      else
       some (mk1 x1)
     else
      some (mk1 x1)
def Fh.j10000.m (n : Nat) (t : (Int × Int)) : Option ((Int × (Int × (Int × Bool))) ⊕ Int) := Fh.j10000.g (fun a0 a1 a2 a3 => (.inl (a0, a1, a2, a3))) (fun a0 => (.inr a0)) n t.1 t.2
def Fh.j10000.pat : St → Option (Int × Int)
 | (St.mk [(.int .i64 x0), (.int .u8 x1)] []) => some (x0, x1)
 | _ => none
def Fh.j10000.shape (t : (Int × Int)) : St := (St.mk [(.int .i64 t.1), (.int .u8 t.2)] [])
def Fh.j10000.res : ((Int × (Int × (Int × Bool))) ⊕ Int) → Ex × St
 | (.inl u) => (.ret, (St.mk [(.int .u8 u.1), (.int .i64 u.2.1), (.int .i64 u.2.2.1), (.bool u.2.2.2)] []))
 | (.inr u) => (.normal, (St.mk [(.int .u8 u), .any, .any, .any] []))
def Fh.j10000.resK {R : Type} (u : ((Int × (Int × (Int × Bool))) ⊕ Int)) (K : Ex → St → Option R) : Option R := match u with
 | (.inl u) => (fun p : Ex × St => K p.1 p.2) (.ret, (St.mk [(.int .u8 u.1), (.int .i64 u.2.1), (.int .i64 u.2.2.1), (.bool u.2.2.2)] []))
 | (.inr u) => (fun p : Ex × St => K p.1 p.2) (.normal, (St.mk [(.int .u8 u), .any, .any, .any] []))
noncomputable def Fh.A (n : Nat) : Ann := ⟨Try.f20.ntmps, 0, Fh.live, [(6, (.objs 65 3))], [none, none, none], fun k => match k with
 | 12 => some (.mk' Fh.l12_0.pat (Fh.l12_0.m n n) Fh.l12_0.resK)
 | _ => none, Fh.jlive, lookJ [(10000, .mk' Fh.j10000.pat (Fh.j10000.m n) Fh.j10000.resK)]⟩
noncomputable def Fh.b0 : Code := (loopsIn (Try.f20.body.getD .skip)).getD 0 .skip
def Fh.g {α : Type} (mk0 : Int → Int → Bool → α) (n : Nat) (a0 : Int) : Option α :=
 bindO (Fh.j10000.m n ((IntKind.wrap .i64 a0), a0)) fun r2 => match r2 with
  | (.inl r2) =>
   some (mk0 r2.2.1 r2.2.2.1 r2.2.2.2)
  | (.inr r2) =>
   bindO (Fg.m n Unit.unit) fun r6 =>
    bindO (Fh.l12_0.m n n (0, r6, r2)) fun r8 => match r8 with
     | (.inl r8) =>
      some (mk0 r8.1 r8.2.1 r8.2.2)
     | (.inr r8) =>
      some (mk0 0 0 false)
def Fh.m (n : Nat) (t : Int) : Option (Int × (Int × Bool)) := Fh.g (fun a0 a1 a2 => (a0, a1, a2)) n t
def Fh.pat : List AV → Blks → Option Int
 | [(.int .u8 a0)], [] => some a0
 | _, _ => none
def Fh.shape (t : Int) : List AV × Blks := ([(.int .u8 t)], [])
def Fh.res : (Int × (Int × Bool)) → AV × Blks
 | u => ((.tup [(.int .i64 u.1), (.int .i64 u.2.1), (.bool u.2.2)]), [])
def Fh.resK {R : Type} (u : (Int × (Int × Bool))) (K : AV → Blks → Option R) : Option R := K (Fh.res u).1 (Fh.res u).2
def Fh.c (n : Nat) : Abs.Callee := .mk' [] [none] Fh.pat (Fh.m n) Fh.resK
end
end
section
namespace Go.Abs
open Go
def cOp (b : List Int) (k : Nat) : Int := b[k]?.getD 0
def cNext (o : Int) (k : Nat) : Nat := if 95 < o ∧ o ≤ 127 then k + (o - 95).toNat + 1 else k + 1
def cWalk (b : List Int) : Nat → Nat → List (Nat × Int)
  | 0, _ => []
  | f + 1, k => if k < b.length then (k, cOp b k) :: cWalk b f (cNext (cOp b k) k) else []
def cSteps (b : List Int) (k : Nat) : List (Nat × Int) := cWalk b (b.length - k) k
def cJump (l : List (Nat × Int)) : List Int := (l.filter fun x => x.2 == 91).map fun x => (x.1 : Int)
def cAt (b : List Int) (pc : Int) : Int := if pc < (b.length : Int) then b.getD pc.toNat 0 else 0
def cBig (b c d : Int) : Bool := ibits .or .u64 (ibits .or .u64 b c) d != 0
def cSm (a b c d : Int) : Int × Bool := match cBig b c d with | true => (0, false) | false => (a, true)
def cGo (n : Int) : List (Nat × Int) → Bool
  | [] => false
  | x :: r => if n ≤ (x.1 : Int) then (x.1 : Int) == n else cGo n r
def cMay (zs : List Int) (a b c d : Int) : Bool :=
  match cSm a b c d with
  | (n, is) => if is = true ∧ cAt zs n = 91 then cGo n (cSteps zs 0) else false
end Go.Abs
end
section
noncomputable section
def Fb.m (n : Nat) (t : List Int) : Option LI := if t.length ≤ 100000 then some (cJump (cSteps t 0)) else none
def Fb.pat : List AV → Blks → Option LI
 | [(.rints .u8 a0)], [] => some a0
 | _, _ => none
def Fb.shape (t : List Int) : List AV × Blks := ([(.rints .u8 t)], [])
def Fb.res : LI → AV × Blks
 | u => ((.own 0 1), [(some (.ints .u64 u))])
def Fb.resK {R : Type} (u : LI) (K : AV → Blks → Option R) : Option R := K (Fb.res u).1 (Fb.res u).2
def Fb.c (n : Nat) : Abs.Callee := .mk' [] [some (.ints .u8)] Fb.pat (Fb.m n) Fb.resK
end
end
section
noncomputable section
noncomputable def Fi.C (n : Nat) : Ctx := ⟨Try.prog, (fun _ => .any), lookC [], fun _ => false⟩
noncomputable def Fi.A (n : Nat) : Ann := ⟨Try.f25.ntmps, 0, noNL, [], [none], fun k => match k with
 | _ => none, noNL, lookJ []⟩
def Fi.g {α : Type} (mk0 : Int → α) (n : Nat) (a0 : LI) (a1 : Int) : Option α :=
 if (decide (a1 ≥ (IntKind.wrap .u64 (((List.length a0) : Nat) : Int)))) = true then
  some (mk0 0)
 else
  if 0 ≤ a1 then
   if a1 < (((List.length a0) : Nat) : Int) then
    some (mk0 (List.getD a0 (Int.toNat a1) 0))
   else
    none
  else
   none
def Fi.m (n : Nat) (t : (LI × Int)) : Option Int := Fi.g (fun a0 => a0) n t.1 t.2
def Fi.pat : List AV → Blks → Option (LI × Int)
 | [(.rints .u8 a0), (.int .u64 a1)], [] => some (a0, a1)
 | _, _ => none
def Fi.shape (t : (LI × Int)) : List AV × Blks := ([(.rints .u8 t.1), (.int .u64 t.2)], [])
def Fi.res : Int → AV × Blks
 | u => ((.int .u8 u), [])
def Fi.resK {R : Type} (u : Int) (K : AV → Blks → Option R) : Option R := K (Fi.res u).1 (Fi.res u).2
def Fi.c (n : Nat) : Abs.Callee := .mk' [] [(some (.ints .u8)), none] Fi.pat (Fi.m n) Fi.resK
end
end
section
noncomputable section
noncomputable def Fd.C (n : Nat) : Ctx := ⟨Try.prog, (fun _ => .any), lookC [], fun _ => false⟩
def Fd.live : NL := fun k => match k with
 | 4 => ([13, 12, 3, 0, 2], [3, 2])
 | _ => ([], [])
def Fd.l4_0.r {α : Type} (mk0 : LI → LI → α) (n : Nat) (rc : Int → Int → LI → LI → LI → Option α)  (x0 : Int) (x1 : Int) (x2 : LI) (x3 : LI) (x4 : LI) : Option α :=
  if (decide (x0 < x1)) = true then
   if 0 ≤ (IntKind.wrap .i64 (Int.tdiv x0 8)) then
    if (IntKind.wrap .i64 (Int.tdiv x0 8)) < 4 then
     if 0 ≤ (IntKind.wrap .i64 ((IntKind.wrap .i64 ((((List.length x2) : Nat) : Int) - 1)) - x0)) then
      if (IntKind.wrap .i64 ((IntKind.wrap .i64 ((((List.length x2) : Nat) : Int) - 1)) - x0)) < (((List.length x2) : Nat) : Int) then
       if 0 ≤ (IntKind.wrap .i64 ((Int.tmod x0 8) * 8)) then
        if 0 ≤ (IntKind.wrap .i64 (Int.tdiv x0 8)) then
         if (IntKind.wrap .i64 (Int.tdiv x0 8)) < 4 then
          rc (IntKind.wrap .i64 (x0 + 1)) x1 x2 (List.set x3 (Int.toNat (IntKind.wrap .i64 (Int.tdiv x0 8))) (ibits BinOp.or .u64 (List.getD x3 (Int.toNat (IntKind.wrap .i64 (Int.tdiv x0 8))) 0) (ishl .u64 (IntKind.wrap .u64 (List.getD x2 (Int.toNat (IntKind.wrap .i64 ((IntKind.wrap .i64 ((((List.length x2) : Nat) : Int) - 1)) - x0))) 0)) (IntKind.wrap .i64 ((Int.tmod x0 8) * 8))))) x4
         else
          none
        else
         none
       else
        none
      else
       none
     else
      none
    else
     none
   else
    none
  else
   some (mk0 x3 x4)
def Fd.l4_0.g {α : Type} (mk0 : LI → LI → α) (n : Nat) : Nat → Int → Int → LI → LI → LI → Option α
 | 0, _, _, _, _, _ => none
 | m + 1, x0, x1, x2, x3, x4 => Fd.l4_0.r mk0 n (fun y0 y1 y2 y3 y4 => Fd.l4_0.g mk0 n m y0 y1 y2 y3 y4)  x0 x1 x2 x3 x4
def Fd.l4_0.m (n m : Nat) (t : (Int × (Int × (LI × (LI × LI))))) : Option (LI × LI) := Fd.l4_0.g (fun a0 a1 => (a0, a1)) n m t.1 t.2.1 t.2.2.1 t.2.2.2.1 t.2.2.2.2
def Fd.l4_0.pat : St → Option (Int × (Int × (LI × (LI × LI))))
 | (St.mk [(.int .i64 x0), (.int .i64 x1), (.ptr 0 []), (.rints .u8 x2), (.ptr 1 [])] [(some (.var (.ints .u64 4 x3))), (some (.var (.ints .u64 4 x4)))]) => some (x0, x1, x2, x3, x4)
 | _ => none
def Fd.l4_0.shape (t : (Int × (Int × (LI × (LI × LI))))) : St := (St.mk [(.int .i64 t.1), (.int .i64 t.2.1), (.ptr 0 []), (.rints .u8 t.2.2.1), (.ptr 1 [])] [(some (.var (.ints .u64 4 t.2.2.2.1))), (some (.var (.ints .u64 4 t.2.2.2.2)))])
def Fd.l4_0.res : (LI × LI) → Ex × St
 | u => ((.exit 0), (St.mk [(.ptr 0 []), (.ptr 1 [])] [(some (.var (.ints .u64 4 u.1))), (some (.var (.ints .u64 4 u.2)))]))
def Fd.l4_0.resK {R : Type} (u : (LI × LI)) (K : Ex → St → Option R) : Option R := K (Fd.l4_0.res u).1 (Fd.l4_0.res u).2
noncomputable def Fd.A (n : Nat) : Ann := ⟨Try.f52.ntmps, 0, Fd.live, [(0, (.ints .u8))], [none], fun k => match k with
 | 4 => some (.mk' Fd.l4_0.pat (Fd.l4_0.m n n) Fd.l4_0.resK)
 | _ => none, noNL, lookJ []⟩
noncomputable def Fd.b0 : Code := (loopsIn (Try.f52.body.getD .skip)).getD 0 .skip
def Fd.g {α : Type} (mk0 : LI → α) (n : Nat) (a0 : LI) : Option α :=
 if 0 ≤ (if 0 > (IntKind.wrap .i64 ((((List.length a0) : Nat) : Int) - 32)) then 0 else (IntKind.wrap .i64 ((((List.length a0) : Nat) : Int) - 32))) then
  if (if 0 > (IntKind.wrap .i64 ((((List.length a0) : Nat) : Int) - 32)) then 0 else (IntKind.wrap .i64 ((((List.length a0) : Nat) : Int) - 32))) ≤ (((List.length a0) : Nat) : Int) then
   bindO (Fd.l4_0.m n n (0, (((List.length (Go.Abs.cut a0 (Int.toNat (if 0 > (IntKind.wrap .i64 ((((List.length a0) : Nat) : Int) - 32)) then 0 else (IntKind.wrap .i64 ((((List.length a0) : Nat) : Int) - 32)))) (Option.none))) : Nat) : Int), (Go.Abs.cut a0 (Int.toNat (if 0 > (IntKind.wrap .i64 ((((List.length a0) : Nat) : Int) - 32)) then 0 else (IntKind.wrap .i64 ((((List.length a0) : Nat) : Int) - 32)))) (Option.none)), [0, 0, 0, 0], [0, 0, 0, 0])) fun r6 =>
    some (mk0 r6.1)
  else
   none
 else
  none
def Fd.m (n : Nat) (t : LI) : Option LI := Fd.g (fun a0 => a0) n t
def Fd.pat : List AV → Blks → Option LI
 | [(.rints .u8 a0)], [] => some a0
 | _, _ => none
def Fd.shape (t : LI) : List AV × Blks := ([(.rints .u8 t)], [])
def Fd.res : LI → AV × Blks
 | u => ((.ints .u64 4 u), [])
def Fd.resK {R : Type} (u : LI) (K : AV → Blks → Option R) : Option R := K (Fd.res u).1 (Fd.res u).2
def Fd.c (n : Nat) : Abs.Callee := .mk' [] [(some (.ints .u8))] Fd.pat (Fd.m n) Fd.resK
end
end
section
noncomputable section
noncomputable def Fe.C (n : Nat) : Ctx := ⟨Try.prog, (fun _ => .any), lookC [(25, Fi.c n), (52, Fd.c n)], fun _ => false⟩
noncomputable def Fe.A (n : Nat) : Ann := ⟨Try.f23.ntmps, 0, noNL, [], [none, none], fun k => match k with
 | _ => none, noNL, lookJ []⟩
def Fe.g {α : Type} (mk0 : LI → Int → α) (n : Nat) (a0 : LI) (a1 : Int) : Option α :=
 bindO (Fi.m n (a0, a1)) fun r2 =>
  if (decide (r2 < 95)) = true then
   some (mk0 [0, 0, 0, 0] 0)
  else
   if (decide (r2 > 127)) = true then
    some (mk0 [0, 0, 0, 0] 0)
   else
    if 0 ≤ (IntKind.wrap .u64 (IntKind.wrap .u8 (r2 - 95))) then
     if (IntKind.wrap .u64 (IntKind.wrap .u8 (r2 - 95))) ≤ (IntKind.wrap .u64 (IntKind.wrap .u8 (r2 - 95))) then
      if ((IntKind.wrap .u64 (IntKind.wrap .u8 (r2 - 95))) * ((1 : Nat) : Int)) ≤ 140737488355328 then
       if (IntKind.wrap .u64 (IntKind.wrap .u8 (r2 - 95))) ≤ 1152921504606846976 then
        if 0 ≤ (IntKind.wrap .u64 (a1 + 1)) then
         if (IntKind.wrap .u64 (a1 + 1)) ≤ (((List.length a0) : Nat) : Int) then
          bindO (Fd.m n ((List.take (List.length (List.replicate (Int.toNat (IntKind.wrap .u64 (IntKind.wrap .u8 (r2 - 95)))) (0 : Int))) (Go.Abs.cut a0 (Int.toNat (IntKind.wrap .u64 (a1 + 1))) (Option.none))) ++ (List.drop (List.length (Go.Abs.cut a0 (Int.toNat (IntKind.wrap .u64 (a1 + 1))) (Option.none))) (List.replicate (Int.toNat (IntKind.wrap .u64 (IntKind.wrap .u8 (r2 - 95)))) (0 : Int))))) fun r20 =>
           some (mk0 r20 (IntKind.wrap .u64 (IntKind.wrap .u8 (r2 - 95))))
         else
          none
        else
         none
       else
        none
      else
       none
     else
      none
    else
     none
def Fe.m (n : Nat) (t : (LI × Int)) : Option (LI × Int) := Fe.g (fun a0 a1 => (a0, a1)) n t.1 t.2
def Fe.pat : List AV → Blks → Option (LI × Int)
 | [(.rints .u8 a0), (.int .u64 a1)], [] => some (a0, a1)
 | _, _ => none
def Fe.shape (t : (LI × Int)) : List AV × Blks := ([(.rints .u8 t.1), (.int .u64 t.2)], [])
def Fe.res : (LI × Int) → AV × Blks
 | u => ((.tup [(.ints .u64 4 u.1), (.int .u64 u.2)]), [])
def Fe.resK {R : Type} (u : (LI × Int)) (K : AV → Blks → Option R) : Option R := K (Fe.res u).1 (Fe.res u).2
def Fe.c (n : Nat) : Abs.Callee := .mk' [] [(some (.ints .u8)), none] Fe.pat (Fe.m n) Fe.resK
end
end
section
noncomputable section
noncomputable def Ff.C (n : Nat) : Ctx := ⟨Try.prog, (fun _ => .any), lookC [(22, Fb.c n), (23, Fe.c n), (19, Fc.c n), (25, Fi.c n)], fun _ => false⟩
noncomputable def Ff.A (n : Nat) : Ann := ⟨Try.f21.ntmps, 0, noNL, [], [none], fun k => match k with
 | _ => none, noNL, lookJ []⟩
def Ff.g {α : Type} (mk0 : Bool → α) (n : Nat)  : Option α :=
 bindO (Fb.m n [91, 96, 91, 91]) fun r2 =>
  bindO (Fe.m n ([97, 1], 0)) fun r4 =>
   bindO (Fc.m n 129) fun r6 =>
    bindO (Fc.m n 254) fun r8 =>
     if ((((List.length r2) : Nat) : Int) == 2) = true then
      if 0 < (((List.length r2) : Nat) : Int) then
       if ((List.getD r2 0 0) == 0) = true then
        if 1 < (((List.length r2) : Nat) : Int) then
         if ((List.getD r2 1 0) == 3) = true then
          if (r4.1 == [256, 0, 0, 0]) = true then
           if (r4.2 == 2) = true then
            if (r6.1 == 2) = true then
             if (r6.2.1 == 3) = true then
              if r6.2.2 = true then
               if (!r8.2.2) = true then
                bindO (Fi.m n ([], 5)) fun r32 =>
                 some (mk0 (r32 == 0))
               else
                some (mk0 false)
              else
               some (mk0 false)
             else
              some (mk0 false)
            else
             some (mk0 false)
           else
            some (mk0 false)
          else
           some (mk0 false)
         else
          some (mk0 false)
        else
         none
       else
        some (mk0 false)
      else
       none
     else
      some (mk0 false)
def Ff.m (n : Nat) (t : Unit) : Option Bool := Ff.g (fun a0 => a0) n 
def Ff.pat : List AV → Blks → Option Unit
 | [], [] => some ()
 | _, _ => none
def Ff.shape (t : Unit) : List AV × Blks := ([], [])
def Ff.res : Bool → AV × Blks
 | u => ((.bool u), [])
def Ff.resK {R : Type} (u : Bool) (K : AV → Blks → Option R) : Option R := K (Ff.res u).1 (Ff.res u).2
def Ff.c (n : Nat) : Abs.Callee := .mk' [] [] Ff.pat (Ff.m n) Ff.resK
end
end
section
noncomputable section
noncomputable def Fa.C (n : Nat) : Ctx := ⟨Try.prog, (fun _ => .any), lookC [(19, Fc.c n), (20, Fh.c n), (21, Ff.c n)], fun _ => false⟩
noncomputable def Fa.A (n : Nat) : Ann := ⟨Try.f3.ntmps, 0, noNL, [], [none], fun k => match k with
 | _ => none, noNL, lookJ []⟩
def Fa.g {α : Type} (mk0 : Bool → α) (n : Nat) (a0 : Int) : Option α :=
 bindO (Fc.m n a0) fun r2 =>
  bindO (Fh.m n a0) fun r4 =>
   bindO (Ff.m n Unit.unit) fun r6 =>
    if r6 = true then
     if (r2.1 == r4.1) = true then
      if (r2.2.1 == r4.2.1) = true then
       some (mk0 (r2.2.2 == r4.2.2))
      else
       some (mk0 false)
     else
      some (mk0 false)
    else
     some (mk0 false)
def Fa.m (n : Nat) (t : Int) : Option Bool := Fa.g (fun a0 => a0) n t
def Fa.shape (t : Int) : List AV × Blks := ([(.int .u8 t)], [])
def Fa.res : Bool → AV × Blks
 | u => ((.bool u), [])
end
end
section
theorem Fc.j10000.gmap {α β : Type} (h : β → α) (mk0 : Int → Int → Int → Bool → β) (mk1 : Int → β) (n : Nat) (x0 : Int) : Fc.j10000.g (fun a0 a1 a2 a3 => (h (mk0 a0 a1 a2 a3))) (fun a0 => (h (mk1 a0))) n x0 = (Fc.j10000.g mk0 mk1 n x0).map h := by
  unfold Fc.j10000.g
  exact (ite_map (ite_map rfl (ite_map (ite_map rfl (ite_map (ite_map rfl (ite_map (ite_map rfl rfl) rfl)) (ite_map (ite_map rfl rfl) rfl))) (ite_map (ite_map rfl (ite_map (ite_map rfl rfl) rfl)) (ite_map (ite_map rfl rfl) rfl)))) (ite_map (ite_map rfl (ite_map (ite_map rfl (ite_map (ite_map rfl rfl) rfl)) (ite_map (ite_map rfl rfl) rfl))) (ite_map (ite_map rfl (ite_map (ite_map rfl rfl) rfl)) (ite_map (ite_map rfl rfl) rfl))))
theorem Fc.j10000.pat_shape : ∀ st t, Fc.j10000.pat st = some t → st = Fc.j10000.shape t := fun _ _ h => by unfold Fc.j10000.pat at h; split at h <;> cases h; rfl
theorem Fc.j10000.run (n : Nat) (x0 : Int) : joinOf (Fc.C n) (Fc.A n) n Fc.jc0 ((St.mk [(.int .u8 x0)] [])) = Fc.j10000.g (fun a0 a1 a2 a3 => ((.ret, (St.mk [(.int .u8 a0), (.int .i64 a1), (.int .i64 a2), (.bool a3)] [])) : Ex × St)) (fun a0 => ((.normal, (St.mk [(.int .u8 a0), .any, .any, .any] [])) : Ex × St)) n x0 := by kernel_rfl
theorem Fc.j10000.join (n : Nat) (t : Int) : joinOf (Fc.C n) (Fc.A n) n Fc.jc0 (Fc.j10000.shape t) = (Fc.j10000.m n t).map Fc.j10000.res :=
  (Fc.j10000.run n t).trans (Fc.j10000.gmap Fc.j10000.res (fun a0 a1 a2 a3 => (.inl (a0, a1, a2, a3))) (fun a0 => (.inr a0)) n t)
theorem Fc.gmap {α β : Type} (h : β → α) (mk0 : Int → Int → Bool → β) (n : Nat) (a0 : Int) : Fc.g (fun a0 a1 a2 => (h (mk0 a0 a1 a2))) n a0 = (Fc.g mk0 n a0).map h := by
  unfold Fc.g
  exact (bindO_map fun r2 => match r2 with | (.inl r2) => rfl | (.inr r2) => (ite_map rfl (ite_map rfl (ite_map rfl (ite_map rfl (ite_map rfl (ite_map rfl (ite_map rfl (ite_map rfl (ite_map rfl (ite_map rfl (ite_map rfl (ite_map rfl (ite_map rfl (ite_map rfl (ite_map rfl (ite_map rfl (ite_map rfl (ite_map rfl (ite_map rfl (ite_map rfl (ite_map rfl (ite_map rfl (ite_map rfl (ite_map rfl (ite_map rfl (ite_map rfl (ite_map rfl (ite_map rfl (ite_map rfl (ite_map rfl (ite_map rfl (ite_map rfl (ite_map rfl (ite_map rfl (ite_map rfl (ite_map rfl (ite_map rfl (ite_map rfl (ite_map rfl (ite_map rfl (ite_map rfl (ite_map rfl (ite_map rfl (ite_map rfl (ite_map rfl (ite_map rfl (ite_map rfl (ite_map rfl (ite_map rfl (ite_map rfl (ite_map rfl (ite_map rfl (ite_map rfl (ite_map rfl (ite_map rfl (ite_map rfl (ite_map rfl (ite_map rfl (ite_map rfl (ite_map rfl (ite_map rfl (ite_map rfl (ite_map rfl (ite_map rfl (ite_map rfl (ite_map rfl (ite_map rfl (ite_map rfl (ite_map rfl (ite_map rfl (ite_map rfl (ite_map rfl (ite_map rfl rfl))))))))))))))))))))))))))))))))))))))))))))))))))))))))))))))))))))))))))
theorem Fc.run (n : Nat) (a0 : Int) : runF (Fc.C n) (Fc.A n) n Try.f19 [(.int .u8 a0)] [] (fun v o => some (v, o)) = Fc.g (fun a0 a1 a2 => (((.tup [(.int .i64 a0), (.int .i64 a1), (.bool a2)]), []) : AV × Blks)) n a0 := by kernel_rfl
theorem Fc.call (hmix : Try.prog.follows .mixedOrders = true) (n : Nat) (t : Int) (u) (h : Fc.m n t = some u) : FnC Try.prog (fun _ => .any) 19 (Fc.shape t).1 (Fc.shape t).2 (Fc.res u).1 (Fc.res u).2 :=
  fnC1 (C := Fc.C n) (A := Fc.A n) (fn := Try.f19) rfl .nil hmix Try.func19 (by kernel_rfl) (lp := []) (by kernel_rfl) .nil
  (by
    intro a ha m hm
    have hm' := lookJ_mem (show lookJ [(10000, .mk' Fc.j10000.pat (Fc.j10000.m n) Fc.j10000.resK)] (jkey a) = some m from hm)
    simp only [List.mem_cons, List.not_mem_nil, or_false, Prod.mk.injEq] at hm'
    rcases hm' with ⟨hk, rfl⟩
    · obtain rfl := only ha hk (c := Fc.jc0) (by kernel_rfl)
      exact JoinS.of (res := Fc.j10000.res) (fun R u K => by rcases u with u | u <;> rfl) Fc.j10000.pat_shape fun t => Fc.j10000.join n t) (by decide) rfl rfl (by show 1 ≤ Try.f19.ntmps; decide) (Fc.run n t) (Fc.gmap Fc.res (fun a0 a1 a2 => (a0, a1, a2)) n t) h
theorem Fc.s (hmix : Try.prog.follows .mixedOrders = true) (n : Nat) : CalleeS Try.prog (fun _ => .any) 19 (Fc.c n) :=
  .mk1 (res := Fc.res) (shape := Fc.shape) (fun R u K => rfl) (fun _ _ _ h => by unfold Fc.pat at h; split at h <;> cases h; rfl) (fun t u h => Fc.call hmix n t u h) Try.func19 (by decide) (by kernel_rfl)
end
section
theorem Fg.gmap {α β : Type} (h : β → α) (mk0 : LA → β) (n : Nat)  : Fg.g (fun a0 => (h (mk0 a0))) n  = (Fg.g mk0 n ).map h := by
  unfold Fg.g
  exact rfl
theorem Fg.run (n : Nat)  : runF (Fg.C n) (Fg.A n) n Try.f50 [] [] (fun v o => some (v, o)) = Fg.g (fun a0 => (((.robjs 65 3 a0), []) : AV × Blks)) n  := by kernel_rfl
theorem Fg.call (hmix : Try.prog.follows .mixedOrders = true) (n : Nat) (t : Unit) (u) (h : Fg.m n t = some u) : FnC Try.prog (fun _ => .any) 50 (Fg.shape t).1 (Fg.shape t).2 (Fg.res u).1 (Fg.res u).2 :=
  fnC1 (C := Fg.C n) (A := Fg.A n) (fn := Try.f50) rfl .nil hmix Try.func50 (by kernel_rfl) (lp := []) (by kernel_rfl) .nil
  (nj rfl) (by decide) rfl rfl (by show 0 ≤ Try.f50.ntmps; decide) (Fg.run n ) (Fg.gmap Fg.res (fun a0 => a0) n ) h
theorem Fg.s (hmix : Try.prog.follows .mixedOrders = true) (n : Nat) : CalleeS Try.prog (fun _ => .any) 50 (Fg.c n) :=
  .mk1 (res := Fg.res) (shape := Fg.shape) (fun R u K => rfl) (fun _ _ _ h => by unfold Fg.pat at h; split at h <;> cases h; rfl) (fun t u h => Fg.call hmix n t u h) Try.func50 (by decide) (by kernel_rfl)
end
section
noncomputable abbrev Fh.R0 (n : Nat) := roundOf (Fh.C n) (Fh.A n) n Fh.b0
theorem Fh.l12_0.rmap {α β : Type} (h : β → α) (mk0 : Int → Int → Bool → β) (mk1 : β) (n : Nat) (f : Int → LA → Int → Option β)  (x0 : Int) (x1 : LA) (x2 : Int) : Fh.l12_0.r (fun a0 a1 a2 => (h (mk0 a0 a1 a2))) (h mk1) n (fun y0 y1 y2 => (f y0 y1 y2).map h) x0 x1 x2 = (Fh.l12_0.r mk0 mk1 n f x0 x1 x2).map h := by
  unfold Fh.l12_0.r
  exact (ite_map (ite_map (ite_map (bindO_map fun r10 => (bindO_map fun r12 => (bindO_map fun r14 => (bindO_map fun r16 => (ite_map (ite_map (ite_map (bindO_map fun r24 => (bindO_map fun r26 => (bindO_map fun r28 => (bindO_map fun r30 => (ite_map (ite_map (bindO_map fun r36 => (bindO_map fun r38 => (bindO_map fun r40 => (bindO_map fun r42 => rfl)))) rfl) rfl))))) rfl) rfl) rfl))))) rfl) rfl) rfl)
theorem Fh.l12_0.gmap {α β : Type} (h : β → α) (mk0 : Int → Int → Bool → β) (mk1 : β) (n : Nat) : ∀ (m : Nat) (x0 : Int) (x1 : LA) (x2 : Int), Fh.l12_0.g (fun a0 a1 a2 => (h (mk0 a0 a1 a2))) (h mk1) n m x0 x1 x2 = (Fh.l12_0.g mk0 mk1 n m x0 x1 x2).map h
  | 0, _, _, _ => rfl
  | m + 1, x0, x1, x2 => by
    unfold Fh.l12_0.g
    rw [← Fh.l12_0.rmap]
    congr
    · funext y0 y1 y2; exact Fh.l12_0.gmap h mk0 mk1 n m y0 y1 y2
theorem Fh.l12_0.pat_shape : ∀ st t, Fh.l12_0.pat st = some t → st = Fh.l12_0.shape t := fun _ _ h => by unfold Fh.l12_0.pat at h; split at h <;> cases h; rfl
def Fh.l12_0.k0 : Int → Int → Bool → Ex × St := (fun a0 a1 a2 => ((.ret, (St.mk [(.int .i64 a0), (.int .i64 a1), (.bool a2)] [])) : Ex × St))
def Fh.l12_0.k1 : Ex × St := (((.exit 1), (St.mk [.any, .any, .any] [])) : Ex × St)
theorem Fh.l12_0.round (n : Nat) (rc : St → Option (Ex × St)) (x0 : Int) (x1 : LA) (x2 : Int) : Fh.R0 n rc ((St.mk [(.int .i64 x0), (.robjs 65 3 x1), (.int .u8 x2)] [])) = Fh.l12_0.r Fh.l12_0.k0 Fh.l12_0.k1 n (fun y0 y1 y2 => rc ((St.mk [(.int .i64 y0), (.robjs 65 3 y1), (.int .u8 y2)] []))) x0 x1 x2 := by kernel_rfl
theorem Fh.l12_0.loop' (n : Nat) : ∀ (m : Nat) (t : (Int × (LA × Int))), loopOf (Fh.R0 n) m (Fh.l12_0.shape t) = Fh.l12_0.g Fh.l12_0.k0 Fh.l12_0.k1 n m t.1 t.2.1 t.2.2 :=
  loop_of_round (shape := Fh.l12_0.shape) (body := Fh.R0 n) (g := fun m t => Fh.l12_0.g Fh.l12_0.k0 Fh.l12_0.k1 n m t.1 t.2.1 t.2.2) (fun t => rfl)
    fun m t ih => (Fh.l12_0.round n (loopOf (Fh.R0 n) m) t.1 t.2.1 t.2.2).trans (congrFun (congrFun (congrFun (congrArg (Fh.l12_0.r Fh.l12_0.k0 Fh.l12_0.k1 n) (funext fun y0 => funext fun y1 => funext fun y2 => ih (y0, y1, y2))) t.1) t.2.1) t.2.2)
theorem Fh.l12_0.loop (n m : Nat) (t : (Int × (LA × Int))) : loopOf (Fh.R0 n) m (Fh.l12_0.shape t) = (Fh.l12_0.m n m t).map Fh.l12_0.res :=
  (Fh.l12_0.loop' n m t).trans (Fh.l12_0.gmap Fh.l12_0.res (fun a0 a1 a2 => (.inl (a0, a1, a2))) (.inr ()) n m t.1 t.2.1 t.2.2)
theorem Fh.j10000.gmap {α β : Type} (h : β → α) (mk0 : Int → Int → Int → Bool → β) (mk1 : Int → β) (n : Nat) (x0 : Int) (x1 : Int) : Fh.j10000.g (fun a0 a1 a2 a3 => (h (mk0 a0 a1 a2 a3))) (fun a0 => (h (mk1 a0))) n x0 x1 = (Fh.j10000.g mk0 mk1 n x0 x1).map h := by
  unfold Fh.j10000.g
  exact (ite_map (ite_map rfl (ite_map (ite_map rfl (ite_map (ite_map rfl (ite_map (ite_map rfl rfl) rfl)) (ite_map (ite_map rfl rfl) rfl))) (ite_map (ite_map rfl (ite_map (ite_map rfl rfl) rfl)) (ite_map (ite_map rfl rfl) rfl)))) (ite_map (ite_map rfl (ite_map (ite_map rfl (ite_map (ite_map rfl rfl) rfl)) (ite_map (ite_map rfl rfl) rfl))) (ite_map (ite_map rfl (ite_map (ite_map rfl rfl) rfl)) (ite_map (ite_map rfl rfl) rfl))))
theorem Fh.j10000.pat_shape : ∀ st t, Fh.j10000.pat st = some t → st = Fh.j10000.shape t := fun _ _ h => by unfold Fh.j10000.pat at h; split at h <;> cases h; rfl
theorem Fh.j10000.run (n : Nat) (x0 : Int) (x1 : Int) : joinOf (Fh.C n) (Fh.A n) n Fh.jc0 ((St.mk [(.int .i64 x0), (.int .u8 x1)] [])) = Fh.j10000.g (fun a0 a1 a2 a3 => ((.ret, (St.mk [(.int .u8 a0), (.int .i64 a1), (.int .i64 a2), (.bool a3)] [])) : Ex × St)) (fun a0 => ((.normal, (St.mk [(.int .u8 a0), .any, .any, .any] [])) : Ex × St)) n x0 x1 := by kernel_rfl
theorem Fh.j10000.join (n : Nat) (t : (Int × Int)) : joinOf (Fh.C n) (Fh.A n) n Fh.jc0 (Fh.j10000.shape t) = (Fh.j10000.m n t).map Fh.j10000.res :=
  (Fh.j10000.run n t.1 t.2).trans (Fh.j10000.gmap Fh.j10000.res (fun a0 a1 a2 a3 => (.inl (a0, a1, a2, a3))) (fun a0 => (.inr a0)) n t.1 t.2)
theorem Fh.gmap {α β : Type} (h : β → α) (mk0 : Int → Int → Bool → β) (n : Nat) (a0 : Int) : Fh.g (fun a0 a1 a2 => (h (mk0 a0 a1 a2))) n a0 = (Fh.g mk0 n a0).map h := by
  unfold Fh.g
  exact (bindO_map fun r2 => match r2 with | (.inl r2) => rfl | (.inr r2) => (bindO_map fun r6 => (bindO_map fun r8 => match r8 with | (.inl r8) => rfl | (.inr r8) => rfl)))
theorem Fh.run (n : Nat) (a0 : Int) : runF (Fh.C n) (Fh.A n) n Try.f20 [(.int .u8 a0)] [] (fun v o => some (v, o)) = Fh.g (fun a0 a1 a2 => (((.tup [(.int .i64 a0), (.int .i64 a1), (.bool a2)]), []) : AV × Blks)) n a0 := by kernel_rfl
theorem Fh.call (hmix : Try.prog.follows .mixedOrders = true) (n : Nat) (t : Int) (u) (h : Fh.m n t = some u) : FnC Try.prog (fun _ => .any) 20 (Fh.shape t).1 (Fh.shape t).2 (Fh.res u).1 (Fh.res u).2 :=
  fnC1 (C := Fh.C n) (A := Fh.A n) (fn := Try.f20) rfl (.cons (Fg.s hmix n) .nil) hmix Try.func20 (by kernel_rfl) (lp := [Fh.b0]) (by kernel_rfl) (.cons (show (Fh.A n).loop (key Fh.b0) = some (.mk' Fh.l12_0.pat (Fh.l12_0.m n n) Fh.l12_0.resK) by kernel_rfl) (LoopS.of (res := Fh.l12_0.res) (fun R u K => by rcases u with u | u <;> rfl) Fh.l12_0.pat_shape fun t => Fh.l12_0.loop n n t)
  .nil)
  (by
    intro a ha m hm
    have hm' := lookJ_mem (show lookJ [(10000, .mk' Fh.j10000.pat (Fh.j10000.m n) Fh.j10000.resK)] (jkey a) = some m from hm)
    simp only [List.mem_cons, List.not_mem_nil, or_false, Prod.mk.injEq] at hm'
    rcases hm' with ⟨hk, rfl⟩
    · obtain rfl := only ha hk (c := Fh.jc0) (by kernel_rfl)
      exact JoinS.of (res := Fh.j10000.res) (fun R u K => by rcases u with u | u <;> rfl) Fh.j10000.pat_shape fun t => Fh.j10000.join n t) (by decide) rfl rfl (by show 1 ≤ Try.f20.ntmps; decide) (Fh.run n t) (Fh.gmap Fh.res (fun a0 a1 a2 => (a0, a1, a2)) n t) h
theorem Fh.s (hmix : Try.prog.follows .mixedOrders = true) (n : Nat) : CalleeS Try.prog (fun _ => .any) 20 (Fh.c n) :=
  .mk1 (res := Fh.res) (shape := Fh.shape) (fun R u K => rfl) (fun _ _ _ h => by unfold Fh.pat at h; split at h <;> cases h; rfl) (fun t u h => Fh.call hmix n t u h) Try.func20 (by decide) (by kernel_rfl)
end
section
namespace Go.Proofs
open Go Go.RowKit Go.Shelf
open Go.Abs (cOp cNext cWalk cSteps cJump cAt cBig cSm cGo cMay)
attribute [local go_sem] Oper.semAt_some
theorem cNext_lt (o : Int) (k : Nat) : k < cNext o k := by unfold cNext; split <;> omega
theorem cWalk_fuel (b : List Int) : ∀ (f g k : Nat), b.length - k ≤ f → b.length - k ≤ g → cWalk b f k = cWalk b g k
  | 0, 0, _, _, _ => rfl
  | 0, g + 1, k, h, _ => by
    have : ¬ k < b.length := by omega
    simp [cWalk, this]
  | f + 1, 0, k, _, h => by
    have : ¬ k < b.length := by omega
    simp [cWalk, this]
  | f + 1, g + 1, k, h1, h2 => by
    simp only [cWalk]
    split
    · have := cNext_lt (cOp b k) k
      rw [cWalk_fuel b f g _ (by omega) (by omega)]
    · rfl
theorem cSteps_lt {b : List Int} {k : Nat} (h : k < b.length) : cSteps b k = (k, cOp b k) :: cSteps b (cNext (cOp b k) k) := by
  unfold cSteps
  obtain ⟨f, hf⟩ : ∃ f, b.length - k = f + 1 := ⟨b.length - k - 1, by omega⟩
  rw [hf]
  simp only [cWalk, if_pos h]
  have := cNext_lt (cOp b k) k
  rw [cWalk_fuel b f _ _ (by omega) (Nat.le_refl _)]
theorem cSteps_ge {b : List Int} {k : Nat} (h : b.length ≤ k) : cSteps b k = [] := by
  unfold cSteps
  rw [show b.length - k = 0 by omega]
  rfl
theorem cWalk_length (b : List Int) : ∀ (f k : Nat), (cWalk b f k).length ≤ f
  | 0, _ => Nat.le_refl _
  | f + 1, k => by
    simp only [cWalk]
    split
    · simp only [List.length_cons]; have := cWalk_length b f (cNext (cOp b k) k); omega
    · simp
theorem cSteps_length (b : List Int) (k : Nat) : (cSteps b k).length ≤ b.length := Nat.le_trans (cWalk_length b _ k) (by omega)
def KpC (n₀ Bs : Nat) (W W' : World) : Prop := Below n₀ W W' ∧ ∀ v, Boxed W Bs 26 v → Boxed W' Bs 26 v
theorem KpC.trans {n₀ Bs : Nat} {A B C : World} (h : KpC n₀ Bs A B) (k : KpC n₀ Bs B C) : KpC n₀ Bs A C := ⟨h.1.trans k.1, fun v hv => k.2 v (h.2 v hv)⟩
theorem KpC.turn {n₀ Bs : Nat} {w : World} (hn : n₀ ≤ w.heap.size) (W : World) (l : Nat) (o o' : Obj) (hl : w.heap.size ≤ l) (h : W.heap[l]? = some o) (h1 : o.isCells = false) (h2 : o.isWalk = false) : KpC n₀ Bs W (W.putObj l o') :=
  ⟨belowK_b hn W l o o' hl h h1 h2, fun v hv => hv.kept (grownBy_putObj' W l o') (fun e => by
    cases e
    rw [show W.heap[Bs]? = _ from hv] at h
    cases h
    cases h1)⟩
set_option maxRecDepth 100000 in
set_option maxHeartbeats 4000000 in
theorem Try.steps1_in (F : Fence) (n : Nat) (h7 : F.fn 81) (hro : F.round = none) (hn : 1 ≤ n) (l Bs n₀ b off cap : Nat) (zs : List Int) (hreach : zs.length ≤ 100000) (hb : b < n₀) (J Jx : List (Nat × Int) → World → Prop)
    (hY : ∀ pre x W, J pre W → pre.length < zs.length → YieldAt F (n - 1) Try.prog l #[.int .u64 (x.1 : Int), .int .u8 x.2] W fun e W' =>
      (e = .returned (.bool true) ∧ J (pre ++ [x]) W' ∧ KpC n₀ Bs W W') ∨ (e = .returned (.bool false) ∧ Jx (pre ++ [x]) W'))
    (W : World) (hBs : Boxed W Bs 26 (.slice (some ⟨b, off, none⟩) zs.length cap)) (hc : ∀ j, j < zs.length → W.cell? ⟨b, off + j, none⟩ = some (.int .u8 (zs[j]?.getD 0))) (h0 : J [] W) :
    CallsIn F n Try.prog 81 #[.func (.yield l) #[] #[], .pointer (some ⟨Bs, 0, none⟩)] W fun e W' => (∃ v, e = .returned v) ∧
      ((∃ ys, ys = cSteps zs 0 ∧ J ys W') ∨ (∃ pre, pre <+: cSteps zs 0 ∧ Jx pre W')) := by
  have hBc := hBs.cell
  refine callsIn_of_wp Try.func81 rfl h7 ?_ hro
  simp only [Try.ntmps81, List.size_toArray, List.length_cons, List.length_nil, Nat.reduceAdd, Nat.reduceSub, Array.replicate_succ, Array.replicate_zero, List.push_toArray, List.append_toArray, List.nil_append, List.cons_append]
  gi_wp2
  gi_loopw [3] (fun i wr => ∃ (k : Nat) (pre : List (Nat × Int)), k ≤ zs.length + 32 ∧ i = .int .u64 k ∧ pre ++ cSteps zs k = cSteps zs 0 ∧ J pre wr ∧ KpC n₀ Bs W wr)
    (fun i _ => zs.length + 33 - (intOf i).toNat)
  case atStart => exact ⟨0, [], by omega, rfl, rfl, h0, Below.refl _ _, fun _ h => h⟩
  case round =>
    obtain ⟨k, pre, hk, rfl, hpre, hJs, hnx⟩ := hrel
    have hBs' := (hnx.2 _ hBs).cell
    by_cases hlt : k < zs.length
    · have hcx' : wr.cell? ⟨b, off + k, none⟩ = some (.int .u8 (cOp zs k)) := (hnx.1.cell (p := ⟨b, off + k, none⟩) hb).trans (hc k hlt)
      have hlen : pre.length < zs.length := by
        have h1 := cSteps_length zs 0
        rw [← hpre, cSteps_lt hlt] at h1
        simp at h1
        omega
      obtain ⟨fn, tmps, assign, body, hy, hR⟩ := hY pre (k, cOp zs k) wr hJs hlen
      dsimp only at hy
      gi_wp2
      refine hR.mono ?_
      rintro e W3 (⟨rfl, hJ3, hk3⟩ | ⟨rfl, hJx3⟩)
      · gi_wp2
        all_goals
          refine ⟨⟨cNext (cOp zs k) k, pre ++ [(k, cOp zs k)], ?_, ?_, ?_, hJ3, hnx.trans hk3⟩, ?_⟩
          · unfold cNext; split <;> omega
          · congr 1; unfold cNext; split <;> omega
          · rw [← hpre, cSteps_lt hlt]; simp
          · simp only [intOf]; omega
      · gi_wp2
        refine bodyPost_ret (results_none rfl _ _ _) rfl ?_
        exact ⟨⟨_, rfl⟩, .inr ⟨_, ⟨cSteps zs (cNext (cOp zs k) k), by rw [← hpre, cSteps_lt hlt]; simp⟩, hJx3⟩⟩
    · gi_wp2
      go_end0
      exact ⟨⟨_, rfl⟩, .inl ⟨_, by rw [cSteps_ge (by omega), List.append_nil] at hpre; exact hpre, hJs⟩⟩
def CBytes (n₀ : Nat) (W : World) (a : Option Addr) (zs : List Int) : Prop :=
  zs = [] ∨ ∃ b off, a = some ⟨b, off, none⟩ ∧ b < n₀ ∧ ∀ j, j < zs.length → W.cell? ⟨b, off + j, none⟩ = some (.int .u8 (zs[j]?.getD 0))
theorem CBytes.below {n₀ : Nat} {A B : World} (h : Below n₀ A B) {a : Option Addr} {zs : List Int} : CBytes n₀ A a zs → CBytes n₀ B a zs
  | .inl e => .inl e
  | .inr ⟨b, off, e, hb, hc⟩ => .inr ⟨b, off, e, hb, fun j hj => (h.cell (p := ⟨b, off + j, none⟩) hb).trans (hc j hj)⟩
set_option maxRecDepth 100000 in
set_option maxHeartbeats 4000000 in
theorem Try.steps1_nil_in (F : Fence) (n : Nat) (h7 : F.fn 81) (hro : F.round = none) (l Bs : Nat) (a : Option Addr) (cap : Nat) (J : List (Nat × Int) → World → Prop) (W : World) (hBs : W.cell? ⟨Bs, 0, none⟩ = some (.slice a 0 cap)) (h0 : J [] W) :
    CallsIn F n Try.prog 81 #[.func (.yield l) #[] #[], .pointer (some ⟨Bs, 0, none⟩)] W fun e W' => (∃ v, e = .returned v) ∧ J [] W' := by
  refine callsIn_of_wp Try.func81 rfl h7 ?_ hro
  simp only [Try.ntmps81, List.size_toArray, List.length_cons, List.length_nil, Nat.reduceAdd, Nat.reduceSub, Array.replicate_succ, Array.replicate_zero, List.push_toArray, List.append_toArray, List.nil_append, List.cons_append]
  gi_wp2
  gi_loopw [3] (fun i wr => i = .int .u64 0 ∧ J [] wr ∧ wr.cell? ⟨Bs, 0, none⟩ = some (.slice a 0 cap)) (fun _ _ => 0)
  case atStart => exact ⟨rfl, h0, hBs⟩
  case round =>
    obtain ⟨rfl, hJs, hBs'⟩ := hrel
    gi_wp2
    go_end0
    exact ⟨⟨_, rfl⟩, hJs⟩
set_option maxHeartbeats 1000000 in
theorem Try.steps_in (F : Fence) (n : Nat) (h5 : F.fn 51) (hro : F.round = none) (a : Option Addr) (len cap : Nat) (w : World) :
    CallsIn F n Try.prog 51 #[.slice a len cap] w fun e w' => e = .returned (.func (.func 81) #[] #[.pointer (some ⟨w.heap.size, 0, none⟩)]) ∧ w' = w.alloc (.cells #[.slice a len cap] 26) := by
  refine callsIn_of_wp Try.func51 rfl h5 ?_ hro
  simp only [Try.ntmps51, List.size_toArray, List.length_cons, List.length_nil, Nat.reduceAdd, Nat.reduceSub, Array.replicate_succ, Array.replicate_zero, List.push_toArray, List.append_toArray, List.nil_append, List.cons_append]
  gi_wp2
  go_ret
  exact ⟨rfl, rfl⟩
theorem Try.steps_stops (F : Fence) (n : Nat) (h8 : F.fn 81) (hro : F.round = none) (hn : 1 ≤ n) (Bs n₀ : Nat) (a : Option Addr) (cap : Nat) (zs : List Int) (hreach : zs.length ≤ 100000) (w : World) (hn₀ : n₀ ≤ w.heap.size)
    (hc : Boxed w Bs 26 (.slice a zs.length cap)) (hI : CBytes n₀ w a zs) :
    SeqStopsK F n Try.prog 81 #[.pointer (some ⟨Bs, 0, none⟩)] (fun x : Nat × Int => #[Value.int .u64 (x.1 : Int), Value.int .u8 x.2]) (KpC n₀ Bs) (fun ys => ys = cSteps zs 0)
      (fun pre => pre <+: cSteps zs 0) zs.length w := fun l J Jx W hW _ _ hY h0 => by
  have hc' : Boxed W Bs 26 (.slice a zs.length cap) := (hW.block Bs hc.lt).trans hc
  rcases hI.below (hW.mono hn₀) with rfl | ⟨b, off, rfl, hb, hcs⟩
  · exact (Try.steps1_nil_in F n h8 hro l Bs a cap J W hc'.cell h0).mono fun e W' ⟨he, hj⟩ => ⟨he, .inl ⟨_, rfl, hj⟩⟩
  · exact Try.steps1_in F n h8 hro hn l Bs n₀ b off cap zs hreach hb J Jx hY W hc' hcs h0
end Go.Proofs
end
section
namespace Go.Proofs
open Go Go.RowKit Go.Shelf
open Go.Abs (cOp cNext cWalk cSteps cJump cAt cBig cSm cGo cMay)
attribute [local go_sem] Oper.semAt_some
theorem cJump_hit (pre : List (Nat × Int)) {x : Nat × Int} (h : x.2 = 91) : cJump (pre ++ [x]) = cJump pre ++ [(x.1 : Int)] := by simp [cJump, h]
theorem cJump_miss (pre : List (Nat × Int)) {x : Nat × Int} (h : ¬ x.2 = 91) : cJump (pre ++ [x]) = cJump pre := by simp [cJump, h]
theorem Try.infoJ : (Try.prog.info? 29).map (fun i => (i.zero, i.size, i.bytes)) = some (some (.int .u64 0), 1, 8) := by kernel_rfl
theorem KpC.refl (n₀ Bs : Nat) (W : World) : KpC n₀ Bs W W := ⟨Below.refl _ _, fun _ h => h⟩
theorem Try.underJ : Try.prog.underlying 27 = some (.slice 29) := by kernel_rfl
set_option maxRecDepth 100000 in
set_option maxHeartbeats 4000000 in
theorem Try.Jumps_in (F : Fence) (n : Nat) (h3 : F.fn 22) (h4 : F.fn 51) (h5 : F.fn 81) (hro : F.round = none) (hn : 3 ≤ n) (ad : Option Addr) (cap : Nat) (zs : List Int) (hlen : zs.length ≤ 100000) (w : World) (hI : CBytes w.heap.size w ad zs) :
    CallsIn F n Try.prog 22 #[.slice ad zs.length cap] w fun e W' => ∃ v, e = .returned v ∧ W'.ownsRow w.heap.size 29 1 v (cJump (cSteps zs 0)).length ((cJump (cSteps zs 0)).map (Value.int .u64)) ∧ Below w.heap.size w W' := by
  have h1 : 1 ≤ n := by omega
  obtain ⟨i0, hi, hz0, hz1, hz2⟩ := info_parts Try.infoJ
  refine callsIn_of_wp_marks Try.func22 rfl h3 ?_ hro
  simp only [Try.ntmps22, List.size_toArray, List.length_cons, List.length_nil, Nat.reduceAdd, Nat.reduceSub, Array.replicate_succ, Array.replicate_zero, List.push_toArray, List.append_toArray, List.nil_append, List.cons_append]
  gi_wp2_with (gi_at_call 51; refine (Try.steps_in F (n - 1) h4 hro _ _ _ _).mono ?_; rintro e w' ⟨rfl, rfl⟩)
  have bO := Boxed.new w 27 (.slice none 0 0)
  have bN := Boxed.new (w.alloc (.cells #[.slice none 0 0] 27)) 26 (.slice ad zs.length cap)
  rw [World.size_alloc] at bN
  have hB0 : Below w.heap.size w ((w.alloc (.cells #[.slice none 0 0] 27)).alloc (.cells #[.slice ad zs.length cap] 26)) := ((Below.refl _ w).alloc (Nat.le_refl _) _).alloc (by simp) _
  refine wpIn_rangeFunc_ownG hro h1 (gf := 81) (lb := #[.pointer (some ⟨w.heap.size + 1, 0, none⟩)]) rfl h5 (enters_of Try.func81 (by kernel_rfl) rfl)
    (Try.steps_stops F (n - 1) h5 hro (by omega) (w.heap.size + 1) w.heap.size ad cap zs hlen _ (by simp; omega) bN (hI.below hB0)) KpC.trans (KpC.turn (by simp; omega)) (Below.refl _ _) (fun _ => rfl)
    (fun pre W => (∃ v, Boxed W w.heap.size 27 v ∧ W.ownsRow w.heap.size 29 1 v (cJump pre).length ((cJump pre).map (Value.int .u64)) ∧ (v = .slice none 0 0 ↔ cJump pre = [])) ∧ Below w.heap.size w W)
    (fun _ _ _ => False)
    (OwnFrom.and (Own.from (holdsRow_own w.heap.size w.heap.size 27 29 1 (fun pre => (cJump pre).length) (fun pre => (cJump pre).map (Value.int .u64)) (fun pre v => v = .slice none 0 0 ↔ cJump pre = [])) _) (ownFrom_below (Nat.le_refl _) (by simp; omega)))
    (fun _ _ _ _ _ hs _ _ => hs)
    ⟨⟨_, bO.alloc _, World.ownsRow_nil _ _ _ _, by simp [cJump]⟩, hB0⟩
    (fun x => { tmps := #[.slice ad zs.length cap, undef, .slice none 0 0, .pointer (some ⟨w.heap.size, 0, none⟩), .int .u64 (x.1 : Int), .int .u8 x.2, .slice ad zs.length cap, .func (.func 81) #[] #[.pointer (some ⟨w.heap.size + 1, 0, none⟩)], .int .u64 (x.1 : Int), .int .u8 x.2, undef, undef, undef, undef, undef, undef, undef], defers := [] }) ?assign ?body ?done ?stop
  case assign =>
    intro l x W K hK
    gi_wp2
    exact hK
  case body =>
    rintro l pre x W ⟨⟨v, hv, hrow, hnil⟩, hB⟩ hlt
    have hc := hv.cell
    have hpl : (cJump pre).length ≤ pre.length := by simp only [cJump, List.length_map]; exact List.length_filter_le _ _
    gi_wp2_with (gi_at_builtin; refine wpListIn_append_own _ rfl _ _ 27 rfl w.heap.size 29 i0 (.int .u64 0) 1 8 Try.underJ hi hz0 hz1 hz2 rfl (by decide) _ _ _ rfl (hrow.alloc _) ⟨W.heap.size, 0, none⟩ 1 1 [.int .u64 (x.1 : Int)] rfl rfl (cell_one_new _ _ _) (by simp [Value.oneCell']) (by simp only [maxLen]; omega) (by omega) (by have := hB.size; simp; omega) ?_; intro v' w1 hown' hgrow _; obtain ⟨g', cap', rfl⟩ := ownsRow_succ hown'; obtain ⟨hv1, hv2, hr2, hk2, hb2⟩ := hv.appended (by decide) hrow hB.size (Nat.le_refl _) hown' hgrow; have hbx : ∀ u, Boxed W (w.heap.size + 1) 26 u → Boxed w1 (w.heap.size + 1) 26 u := (fun u hu => (hu.alloc _).kept hgrow (hu.not_row (by decide) hrow)); have hc1 := hv1.cell; have hf1 := hv1.frozen)
    · have hx : x.2 = 91 := eq_of_beq (show (x.2 == 91) = true by assumption)
      exact ⟨hk2.from _, ⟨hb2, fun u hu => (hbx u hu).other (by omega) _⟩, ⟨_, hv2, by rw [cJump_hit pre hx]; simpa using hr2, by rw [cJump_hit pre hx]; simp⟩, hB.trans hb2⟩
    · have hx : ¬ x.2 = 91 := by
        have h : (x.2 == 91) = false := by first | assumption | exact Bool.eq_false_iff.2 (by assumption)
        exact ne_of_beq_false h
      exact ⟨KeepsFrom.refl _ _, KpC.refl _ _ _, ⟨v, hv, by rw [cJump_miss pre hx]; exact hrow, by rw [cJump_miss pre hx]; exact hnil⟩, hB⟩
  case done =>
    rintro D ys W hD rfl ⟨⟨v, hv, hrow, hnil⟩, hB⟩ hK
    have hc := hv.cell
    gi_wp2
    refine ⟨by simp, .inl ⟨_, _, rfl, run_takeDeferred hK, ?_⟩⟩
    exact ⟨_, results_tmp rfl _ _ _, v, rfl, ownsRow_putObj hrow _ hK rfl, hB.trans (belowK_b (w := w) (Nat.le_refl _) W D _ _ (by simp at hD; omega) hK rfl rfl)⟩
  case stop =>
    rintro D c pre W _ _ h _
    exact h.elim
end Go.Proofs
end
section
namespace Go.Abs
open Go Go.Proofs
theorem jumps_ok (t : List Int) (h : t.length ≤ 100000) : FnOK Try.prog (fun _ => .any) 22 [.rints .u8 t] [] (.own 0 1) [some (.ints .u64 (cJump (cSteps t 0)))] := by
  intro E vs hbl m g ha
  obtain ⟨v, rfl, hv⟩ := args1 ha
  obtain ⟨a, cap, rfl, _, hc⟩ := rints_cells m hv
  refine .inl ⟨Try.f22, Try.func22, by decide, by kernel_rfl, (callsIn_wide (n := 3)).1 ?_⟩
  refine (Try.Jumps_in Fence.wide 3 trivial trivial trivial rfl (Nat.le_refl _) a cap t h E.w hc).mono ?_
  rintro e W' ⟨v, rfl, hrow, hB⟩
  obtain ⟨E', h1, h2, h3, h4⟩ := took_own m hB .u64 _ hrow
  refine ⟨v, rfl, E', h1, by rw [h2, hbl]; rfl, h3, ?_⟩
  rw [hbl] at h4
  exact h4
end Go.Abs
end
section
theorem Fb.ok (n : Nat) (t) (u) (h : Fb.m n t = some u) : FnOK Try.prog (fun _ => .any) 22 (Fb.shape t).1 (Fb.shape t).2 (Fb.res u).1 (Fb.res u).2 := by
  unfold Fb.m at h
  split at h
  · rename_i hl
    cases h
    exact jumps_ok t hl
  · cases h
theorem Fb.s (hmix : Try.prog.follows .mixedOrders = true) (n : Nat) : CalleeS Try.prog (fun _ => .any) 22 (Fb.c n) :=
  CalleeS.of (res := Fb.res) (shape := Fb.shape) (fun R u K => rfl) (fun args lent t h => by
    unfold Fb.pat at h
    split at h
    · cases h; rfl
    · cases h) fun t u h => Fb.ok n t u h
end
section
theorem Fi.gmap {α β : Type} (h : β → α) (mk0 : Int → β) (n : Nat) (a0 : LI) (a1 : Int) : Fi.g (fun a0 => (h (mk0 a0))) n a0 a1 = (Fi.g mk0 n a0 a1).map h := by
  unfold Fi.g
  exact (ite_map rfl (ite_map (ite_map rfl rfl) rfl))
theorem Fi.run (n : Nat) (a0 : LI) (a1 : Int) : runF (Fi.C n) (Fi.A n) n Try.f25 [(.rints .u8 a0), (.int .u64 a1)] [] (fun v o => some (v, o)) = Fi.g (fun a0 => (((.int .u8 a0), []) : AV × Blks)) n a0 a1 := by kernel_rfl
theorem Fi.call (hmix : Try.prog.follows .mixedOrders = true) (n : Nat) (t : (LI × Int)) (u) (h : Fi.m n t = some u) : FnC Try.prog (fun _ => .any) 25 (Fi.shape t).1 (Fi.shape t).2 (Fi.res u).1 (Fi.res u).2 :=
  fnC1 (C := Fi.C n) (A := Fi.A n) (fn := Try.f25) rfl .nil hmix Try.func25 (by kernel_rfl) (lp := []) (by kernel_rfl) .nil
  (nj rfl) (by decide) rfl rfl (by show 2 ≤ Try.f25.ntmps; decide) (Fi.run n t.1 t.2) (Fi.gmap Fi.res (fun a0 => a0) n t.1 t.2) h
theorem Fi.s (hmix : Try.prog.follows .mixedOrders = true) (n : Nat) : CalleeS Try.prog (fun _ => .any) 25 (Fi.c n) :=
  .mk1 (res := Fi.res) (shape := Fi.shape) (fun R u K => rfl) (fun _ _ _ h => by unfold Fi.pat at h; split at h <;> cases h; rfl) (fun t u h => Fi.call hmix n t u h) Try.func25 (by decide) (by kernel_rfl)
end
section
noncomputable abbrev Fd.R0 (n : Nat) := roundOf (Fd.C n) (Fd.A n) n Fd.b0
theorem Fd.l4_0.rmap {α β : Type} (h : β → α) (mk0 : LI → LI → β) (n : Nat) (f : Int → Int → LI → LI → LI → Option β)  (x0 : Int) (x1 : Int) (x2 : LI) (x3 : LI) (x4 : LI) : Fd.l4_0.r (fun a0 a1 => (h (mk0 a0 a1))) n (fun y0 y1 y2 y3 y4 => (f y0 y1 y2 y3 y4).map h) x0 x1 x2 x3 x4 = (Fd.l4_0.r mk0 n f x0 x1 x2 x3 x4).map h := by
  unfold Fd.l4_0.r
  exact (ite_map (ite_map (ite_map (ite_map (ite_map (ite_map (ite_map (ite_map rfl rfl) rfl) rfl) rfl) rfl) rfl) rfl) rfl)
theorem Fd.l4_0.gmap {α β : Type} (h : β → α) (mk0 : LI → LI → β) (n : Nat) : ∀ (m : Nat) (x0 : Int) (x1 : Int) (x2 : LI) (x3 : LI) (x4 : LI), Fd.l4_0.g (fun a0 a1 => (h (mk0 a0 a1))) n m x0 x1 x2 x3 x4 = (Fd.l4_0.g mk0 n m x0 x1 x2 x3 x4).map h
  | 0, _, _, _, _, _ => rfl
  | m + 1, x0, x1, x2, x3, x4 => by
    unfold Fd.l4_0.g
    rw [← Fd.l4_0.rmap]
    congr
    · funext y0 y1 y2 y3 y4; exact Fd.l4_0.gmap h mk0 n m y0 y1 y2 y3 y4
theorem Fd.l4_0.pat_shape : ∀ st t, Fd.l4_0.pat st = some t → st = Fd.l4_0.shape t := fun _ _ h => by unfold Fd.l4_0.pat at h; split at h <;> cases h; rfl
def Fd.l4_0.k0 : LI → LI → Ex × St := (fun a0 a1 => (((.exit 0), (St.mk [(.ptr 0 []), (.ptr 1 [])] [(some (.var (.ints .u64 4 a0))), (some (.var (.ints .u64 4 a1)))])) : Ex × St))
theorem Fd.l4_0.round (n : Nat) (rc : St → Option (Ex × St)) (x0 : Int) (x1 : Int) (x2 : LI) (x3 : LI) (x4 : LI) : Fd.R0 n rc ((St.mk [(.int .i64 x0), (.int .i64 x1), (.ptr 0 []), (.rints .u8 x2), (.ptr 1 [])] [(some (.var (.ints .u64 4 x3))), (some (.var (.ints .u64 4 x4)))])) = Fd.l4_0.r Fd.l4_0.k0 n (fun y0 y1 y2 y3 y4 => rc ((St.mk [(.int .i64 y0), (.int .i64 y1), (.ptr 0 []), (.rints .u8 y2), (.ptr 1 [])] [(some (.var (.ints .u64 4 y3))), (some (.var (.ints .u64 4 y4)))]))) x0 x1 x2 x3 x4 := by kernel_rfl
theorem Fd.l4_0.loop' (n : Nat) : ∀ (m : Nat) (t : (Int × (Int × (LI × (LI × LI))))), loopOf (Fd.R0 n) m (Fd.l4_0.shape t) = Fd.l4_0.g Fd.l4_0.k0 n m t.1 t.2.1 t.2.2.1 t.2.2.2.1 t.2.2.2.2 :=
  loop_of_round (shape := Fd.l4_0.shape) (body := Fd.R0 n) (g := fun m t => Fd.l4_0.g Fd.l4_0.k0 n m t.1 t.2.1 t.2.2.1 t.2.2.2.1 t.2.2.2.2) (fun t => rfl)
    fun m t ih => (Fd.l4_0.round n (loopOf (Fd.R0 n) m) t.1 t.2.1 t.2.2.1 t.2.2.2.1 t.2.2.2.2).trans (congrFun (congrFun (congrFun (congrFun (congrFun (congrArg (Fd.l4_0.r Fd.l4_0.k0 n) (funext fun y0 => funext fun y1 => funext fun y2 => funext fun y3 => funext fun y4 => ih (y0, y1, y2, y3, y4))) t.1) t.2.1) t.2.2.1) t.2.2.2.1) t.2.2.2.2)
theorem Fd.l4_0.loop (n m : Nat) (t : (Int × (Int × (LI × (LI × LI))))) : loopOf (Fd.R0 n) m (Fd.l4_0.shape t) = (Fd.l4_0.m n m t).map Fd.l4_0.res :=
  (Fd.l4_0.loop' n m t).trans (Fd.l4_0.gmap Fd.l4_0.res (fun a0 a1 => (a0, a1)) n m t.1 t.2.1 t.2.2.1 t.2.2.2.1 t.2.2.2.2)
theorem Fd.gmap {α β : Type} (h : β → α) (mk0 : LI → β) (n : Nat) (a0 : LI) : Fd.g (fun a0 => (h (mk0 a0))) n a0 = (Fd.g mk0 n a0).map h := by
  unfold Fd.g
  exact (ite_map (ite_map (bindO_map fun r6 => rfl) rfl) rfl)
theorem Fd.run (n : Nat) (a0 : LI) : runF (Fd.C n) (Fd.A n) n Try.f52 [(.rints .u8 a0)] [] (fun v o => some (v, o)) = Fd.g (fun a0 => (((.ints .u64 4 a0), []) : AV × Blks)) n a0 := by kernel_rfl
theorem Fd.call (hmix : Try.prog.follows .mixedOrders = true) (n : Nat) (t : LI) (u) (h : Fd.m n t = some u) : FnC Try.prog (fun _ => .any) 52 (Fd.shape t).1 (Fd.shape t).2 (Fd.res u).1 (Fd.res u).2 :=
  fnC1 (C := Fd.C n) (A := Fd.A n) (fn := Try.f52) rfl .nil hmix Try.func52 (by kernel_rfl) (lp := [Fd.b0]) (by kernel_rfl) (.cons (show (Fd.A n).loop (key Fd.b0) = some (.mk' Fd.l4_0.pat (Fd.l4_0.m n n) Fd.l4_0.resK) by kernel_rfl) (LoopS.of (res := Fd.l4_0.res) (fun R u K => rfl) Fd.l4_0.pat_shape fun t => Fd.l4_0.loop n n t)
  .nil)
  (nj rfl) (by decide) rfl rfl (by show 1 ≤ Try.f52.ntmps; decide) (Fd.run n t) (Fd.gmap Fd.res (fun a0 => a0) n t) h
theorem Fd.s (hmix : Try.prog.follows .mixedOrders = true) (n : Nat) : CalleeS Try.prog (fun _ => .any) 52 (Fd.c n) :=
  .mk1 (res := Fd.res) (shape := Fd.shape) (fun R u K => rfl) (fun _ _ _ h => by unfold Fd.pat at h; split at h <;> cases h; rfl) (fun t u h => Fd.call hmix n t u h) Try.func52 (by decide) (by kernel_rfl)
end
section
theorem Fe.gmap {α β : Type} (h : β → α) (mk0 : LI → Int → β) (n : Nat) (a0 : LI) (a1 : Int) : Fe.g (fun a0 a1 => (h (mk0 a0 a1))) n a0 a1 = (Fe.g mk0 n a0 a1).map h := by
  unfold Fe.g
  exact (bindO_map fun r2 => (ite_map rfl (ite_map rfl (ite_map (ite_map (ite_map (ite_map (ite_map (ite_map (bindO_map fun r20 => rfl) rfl) rfl) rfl) rfl) rfl) rfl))))
theorem Fe.run (n : Nat) (a0 : LI) (a1 : Int) : runF (Fe.C n) (Fe.A n) n Try.f23 [(.rints .u8 a0), (.int .u64 a1)] [] (fun v o => some (v, o)) = Fe.g (fun a0 a1 => (((.tup [(.ints .u64 4 a0), (.int .u64 a1)]), []) : AV × Blks)) n a0 a1 := by kernel_rfl
theorem Fe.call (hmix : Try.prog.follows .mixedOrders = true) (n : Nat) (t : (LI × Int)) (u) (h : Fe.m n t = some u) : FnC Try.prog (fun _ => .any) 23 (Fe.shape t).1 (Fe.shape t).2 (Fe.res u).1 (Fe.res u).2 :=
  fnC1 (C := Fe.C n) (A := Fe.A n) (fn := Try.f23) rfl (.cons (Fi.s hmix n) (.cons (Fd.s hmix n) .nil)) hmix Try.func23 (by kernel_rfl) (lp := []) (by kernel_rfl) .nil
  (nj rfl) (by decide) rfl rfl (by show 2 ≤ Try.f23.ntmps; decide) (Fe.run n t.1 t.2) (Fe.gmap Fe.res (fun a0 a1 => (a0, a1)) n t.1 t.2) h
theorem Fe.s (hmix : Try.prog.follows .mixedOrders = true) (n : Nat) : CalleeS Try.prog (fun _ => .any) 23 (Fe.c n) :=
  .mk1 (res := Fe.res) (shape := Fe.shape) (fun R u K => rfl) (fun _ _ _ h => by unfold Fe.pat at h; split at h <;> cases h; rfl) (fun t u h => Fe.call hmix n t u h) Try.func23 (by decide) (by kernel_rfl)
end
section
theorem Ff.gmap {α β : Type} (h : β → α) (mk0 : Bool → β) (n : Nat)  : Ff.g (fun a0 => (h (mk0 a0))) n  = (Ff.g mk0 n ).map h := by
  unfold Ff.g
  exact (bindO_map fun r2 => (bindO_map fun r4 => (bindO_map fun r6 => (bindO_map fun r8 => (ite_map (ite_map (ite_map (ite_map (ite_map (ite_map (ite_map (ite_map (ite_map (ite_map (ite_map (bindO_map fun r32 => rfl) rfl) rfl) rfl) rfl) rfl) rfl) rfl) rfl) rfl) rfl) rfl)))))
theorem Ff.run (n : Nat)  : runF (Ff.C n) (Ff.A n) n Try.f21 [] [] (fun v o => some (v, o)) = Ff.g (fun a0 => (((.bool a0), []) : AV × Blks)) n  := by kernel_rfl
theorem Ff.call (hmix : Try.prog.follows .mixedOrders = true) (n : Nat) (t : Unit) (u) (h : Ff.m n t = some u) : FnC Try.prog (fun _ => .any) 21 (Ff.shape t).1 (Ff.shape t).2 (Ff.res u).1 (Ff.res u).2 :=
  fnC1 (C := Ff.C n) (A := Ff.A n) (fn := Try.f21) rfl (.cons (Fb.s hmix n) (.cons (Fe.s hmix n) (.cons (Fc.s hmix n) (.cons (Fi.s hmix n) .nil)))) hmix Try.func21 (by kernel_rfl) (lp := []) (by kernel_rfl) .nil
  (nj rfl) (by decide) rfl rfl (by show 0 ≤ Try.f21.ntmps; decide) (Ff.run n ) (Ff.gmap Ff.res (fun a0 => a0) n ) h
theorem Ff.s (hmix : Try.prog.follows .mixedOrders = true) (n : Nat) : CalleeS Try.prog (fun _ => .any) 21 (Ff.c n) :=
  .mk1 (res := Ff.res) (shape := Ff.shape) (fun R u K => rfl) (fun _ _ _ h => by unfold Ff.pat at h; split at h <;> cases h; rfl) (fun t u h => Ff.call hmix n t u h) Try.func21 (by decide) (by kernel_rfl)
end
section
theorem Fa.gmap {α β : Type} (h : β → α) (mk0 : Bool → β) (n : Nat) (a0 : Int) : Fa.g (fun a0 => (h (mk0 a0))) n a0 = (Fa.g mk0 n a0).map h := by
  unfold Fa.g
  exact (bindO_map fun r2 => (bindO_map fun r4 => (bindO_map fun r6 => (ite_map (ite_map (ite_map rfl rfl) rfl) rfl))))
theorem Fa.run (n : Nat) (a0 : Int) : runF (Fa.C n) (Fa.A n) n Try.f3 [(.int .u8 a0)] [] (fun v o => some (v, o)) = Fa.g (fun a0 => (((.bool a0), []) : AV × Blks)) n a0 := by kernel_rfl
theorem Fa.call (hmix : Try.prog.follows .mixedOrders = true) (n : Nat) (t : Int) (u) (h : Fa.m n t = some u) : FnC Try.prog (fun _ => .any) 3 (Fa.shape t).1 (Fa.shape t).2 (Fa.res u).1 (Fa.res u).2 :=
  fnC1 (C := Fa.C n) (A := Fa.A n) (fn := Try.f3) rfl (.cons (Fc.s hmix n) (.cons (Fh.s hmix n) (.cons (Ff.s hmix n) .nil))) hmix Try.func3 (by kernel_rfl) (lp := []) (by kernel_rfl) .nil
  (nj rfl) (by decide) rfl rfl (by show 1 ≤ Try.f3.ntmps; decide) (Fa.run n t) (Fa.gmap Fa.res (fun a0 => a0) n t) h
end
