/- What the program's functions compute, as plain functions, each with its proof: the function does just that. Condition: the plain function has an answer. -/
import Derived.Test.YtaageoambenggaaAbsC5
import Derived.Test.YtaageoambenggaaProg
section
set_option linter.unusedVariables false
set_option linter.unusedSimpArgs false
set_option maxRecDepth 100000
open Go Go.Abs Go.Proofs
noncomputable section
/-! fees_Base -/
noncomputable def fees_Base.C (n : Nat) : Ctx := ⟨Try.prog, (fun _ => .any), fun f => match f with
  | _ => none⟩
def fees_Base.live : Nat → List Nat × List Nat := fun k => match k with
  | _ => ([], [])
def fees_Base.jlive : Nat → List Nat × List Nat := fun k => match k with
  | _ => ([], [])
noncomputable def fees_Base.A (n : Nat) : Ann := ⟨Try.f31.ntmps, 0, fees_Base.live, [], [none], fun k => match k with
  | _ => none, fees_Base.jlive, lookJ []⟩
def fees_Base.g {α : Type} (mk0 : Int → α) (n : Nat) (a0 : Int) : Option α :=
  if (a0 == 91) = true then
    some (mk0 1)
  else
    if (a0 == 48) = true then
      some (mk0 2)
    else
      if (a0 == 50) = true then
        some (mk0 2)
      else
        if (a0 == 51) = true then
          some (mk0 2)
        else
          if (a0 == 52) = true then
            some (mk0 2)
          else
            if (a0 == 54) = true then
              some (mk0 2)
            else
              if (a0 == 56) = true then
                some (mk0 2)
              else
                if (a0 == 58) = true then
                  some (mk0 2)
                else
                  if (a0 == 65) = true then
                    some (mk0 2)
                  else
                    if (a0 == 66) = true then
                      some (mk0 2)
                    else
                      if (a0 == 67) = true then
                        some (mk0 2)
                      else
                        if (a0 == 68) = true then
                          some (mk0 2)
                        else
                          if (a0 == 69) = true then
                            some (mk0 2)
                          else
                            if (a0 == 70) = true then
                              some (mk0 2)
                            else
                              if (a0 == 61) = true then
                                some (mk0 2)
                              else
                                if (a0 == 80) = true then
                                  some (mk0 2)
                                else
                                  if (a0 == 88) = true then
                                    some (mk0 2)
                                  else
                                    if (a0 == 89) = true then
                                      some (mk0 2)
                                    else
                                      if (a0 == 90) = true then
                                        some (mk0 2)
                                      else
                                        if (a0 == 72) = true then
                                          some (mk0 2)
                                        else
                                          if (a0 == 95) = true then
                                            some (mk0 2)
                                          else
                                            if (a0 == 1) = true then
                                              some (mk0 3)
                                            else
                                              if (a0 == 3) = true then
                                                some (mk0 3)
                                              else
                                                if (a0 == 25) = true then
                                                  some (mk0 3)
                                                else
                                                  if (a0 == 16) = true then
                                                    some (mk0 3)
                                                  else
                                                    if (a0 == 17) = true then
                                                      some (mk0 3)
                                                    else
                                                      if (a0 == 18) = true then
                                                        some (mk0 3)
                                                      else
                                                        if (a0 == 19) = true then
                                                          some (mk0 3)
                                                        else
                                                          if (a0 == 20) = true then
                                                            some (mk0 3)
                                                          else
                                                            if (a0 == 21) = true then
                                                              some (mk0 3)
                                                            else
                                                              if (a0 == 22) = true then
                                                                some (mk0 3)
                                                              else
                                                                if (a0 == 23) = true then
                                                                  some (mk0 3)
                                                                else
                                                                  if (a0 == 24) = true then
                                                                    some (mk0 3)
                                                                  else
                                                                    if (a0 == 26) = true then
                                                                      some (mk0 3)
                                                                    else
                                                                      if (a0 == 27) = true then
                                                                        some (mk0 3)
                                                                      else
                                                                        if (a0 == 28) = true then
                                                                          some (mk0 3)
                                                                        else
                                                                          if (a0 == 29) = true then
                                                                            some (mk0 3)
                                                                          else
                                                                            if (a0 == 53) = true then
                                                                              some (mk0 3)
                                                                            else
                                                                              if (a0 == 81) = true then
                                                                                some (mk0 3)
                                                                              else
                                                                                if (a0 == 82) = true then
                                                                                  some (mk0 3)
                                                                                else
                                                                                  if (a0 == 83) = true then
                                                                                    some (mk0 3)
                                                                                  else
                                                                                    if (a0 == 55) = true then
                                                                                      some (mk0 3)
                                                                                    else
                                                                                      if (a0 == 57) = true then
                                                                                        some (mk0 3)
                                                                                      else
                                                                                        if (a0 == 62) = true then
                                                                                          some (mk0 3)
                                                                                        else
                                                                                          if (a0 == 2) = true then
                                                                                            some (mk0 5)
                                                                                          else
                                                                                            if (a0 == 4) = true then
                                                                                              some (mk0 5)
                                                                                            else
                                                                                              if (a0 == 5) = true then
                                                                                                some (mk0 5)
                                                                                              else
                                                                                                if (a0 == 6) = true then
                                                                                                  some (mk0 5)
                                                                                                else
                                                                                                  if (a0 == 7) = true then
                                                                                                    some (mk0 5)
                                                                                                  else
                                                                                                    if (a0 == 11) = true then
                                                                                                      some (mk0 5)
                                                                                                    else
                                                                                                      if (a0 == 71) = true then
                                                                                                        some (mk0 5)
                                                                                                      else
                                                                                                        if (a0 == 8) = true then
                                                                                                          some (mk0 8)
                                                                                                        else
                                                                                                          if (a0 == 9) = true then
                                                                                                            some (mk0 8)
                                                                                                          else
                                                                                                            if (a0 == 86) = true then
                                                                                                              some (mk0 8)
                                                                                                            else
                                                                                                              if (a0 == 87) = true then
                                                                                                                some (mk0 10)
                                                                                                              else
                                                                                                                if (a0 == 10) = true then
                                                                                                                  some (mk0 10)
                                                                                                                else
                                                                                                                  if (a0 == 64) = true then
                                                                                                                    some (mk0 20)
                                                                                                                  else
                                                                                                                    if (a0 == 32) = true then
                                                                                                                      some (mk0 30)
                                                                                                                    else
                                                                                                                      if (a0 == 255) = true then
                                                                                                                        some (mk0 5000)
                                                                                                                      else
                                                                                                                        if (a0 == 240) = true then
                                                                                                                          some (mk0 32000)
                                                                                                                        else
                                                                                                                          if (a0 == 245) = true then
                                                                                                                            some (mk0 32000)
                                                                                                                          else
                                                                                                                            if (decide (a0 ≥ 96)) = true then
                                                                                                                              if (decide (a0 ≤ 159)) = true then
                                                                                                                                some (mk0 3)
                                                                                                                              else
                                                                                                                                if (decide (a0 ≥ 160)) = true then
                                                                                                                                  if (decide (a0 ≤ 164)) = true then
                                                                                                                                    some (mk0 (Go.IntKind.wrap .u64 (375 * (Go.IntKind.wrap .u64 (Go.IntKind.wrap .u8 (a0 - 159))))))
                                                                                                                                  else
                                                                                                                                    some (mk0 0)
                                                                                                                                else
                                                                                                                                  some (mk0 0)
                                                                                                                            else
                                                                                                                              if (decide (a0 ≥ 160)) = true then
                                                                                                                                if (decide (a0 ≤ 164)) = true then
                                                                                                                                  some (mk0 (Go.IntKind.wrap .u64 (375 * (Go.IntKind.wrap .u64 (Go.IntKind.wrap .u8 (a0 - 159))))))
                                                                                                                                else
                                                                                                                                  some (mk0 0)
                                                                                                                              else
                                                                                                                                some (mk0 0)
def fees_Base.m (n : Nat) (t : Int) : Option Int := fees_Base.g (fun a0 => a0) n t
def fees_Base.pat : List AV → Blks → Option Int
  | [(.int .u8 a0)], [] => some a0
  | _, _ => none
def fees_Base.shape (t : Int) : List AV × Blks := ([(.int .u8 t)], [])
def fees_Base.res : Int → AV × Blks
  | u => (Prod.mk (.int .u64 u) [])
def fees_Base.resK {R : Type} (u : Int) (K : AV → Blks → Option R) : Option R := (fun p : AV × Blks => K p.1 p.2) (Prod.mk (.int .u64 u) [])
def fees_Base.c (n : Nat) : Abs.Callee := .mk' [] [none] fees_Base.pat (fees_Base.m n) fees_Base.resK
end
end

section
set_option linter.unusedVariables false
set_option linter.unusedSimpArgs false
set_option maxRecDepth 100000
open Go Go.Abs Go.Proofs
/-! fees_Base -/
theorem fees_Base.gmap {α β : Type} (h : β → α) (mk0 : Int → β) (n : Nat) (a0 : Int) : fees_Base.g (fun a0 => (h (mk0 a0))) n a0 = (fees_Base.g mk0 n a0).map h := by
  unfold fees_Base.g
  exact (ite_map rfl (ite_map rfl (ite_map rfl (ite_map rfl (ite_map rfl (ite_map rfl (ite_map rfl (ite_map rfl (ite_map rfl (ite_map rfl (ite_map rfl (ite_map rfl (ite_map rfl (ite_map rfl (ite_map rfl (ite_map rfl (ite_map rfl (ite_map rfl (ite_map rfl (ite_map rfl (ite_map rfl (ite_map rfl (ite_map rfl (ite_map rfl (ite_map rfl (ite_map rfl (ite_map rfl (ite_map rfl (ite_map rfl (ite_map rfl (ite_map rfl (ite_map rfl (ite_map rfl (ite_map rfl (ite_map rfl (ite_map rfl (ite_map rfl (ite_map rfl (ite_map rfl (ite_map rfl (ite_map rfl (ite_map rfl (ite_map rfl (ite_map rfl (ite_map rfl (ite_map rfl (ite_map rfl (ite_map rfl (ite_map rfl (ite_map rfl (ite_map rfl (ite_map rfl (ite_map rfl (ite_map rfl (ite_map rfl (ite_map rfl (ite_map rfl (ite_map rfl (ite_map rfl (ite_map rfl (ite_map rfl (ite_map (ite_map rfl (ite_map (ite_map rfl rfl) rfl)) (ite_map (ite_map rfl rfl) rfl)))))))))))))))))))))))))))))))))))))))))))))))))))))))))))))))
theorem fees_Base.run (n : Nat) (a0 : Int) : runF (fees_Base.C n) (fees_Base.A n) n Try.f31 [(.int .u8 a0)] [] (fun v o => some (v, o)) = fees_Base.g (fun a0 => ((Prod.mk (.int .u64 a0) []) : AV × Blks)) n a0 := by kernel_rfl
theorem fees_Base.call (hmix : Try.prog.follows .mixedOrders = true) (n : Nat) (t : Int) (u) (h : fees_Base.m n t = some u) : FnC Try.prog (fun _ => .any) 31 (fees_Base.shape t).1 (fees_Base.shape t).2 (fees_Base.res u).1 (fees_Base.res u).2 := by
  have hg : ∀ f m, (fees_Base.C n).Γ f = some m → CalleeS Try.prog (fun _ => .any) f m := by
    intro f m hm
    unfold fees_Base.C at hm
    simp only at hm
    first
    | (cases hm; done)
    | (split at hm <;> first
    | (cases hm; done))
  have hb : Try.f31.body = some (Try.f31.body.getD .skip) := by kernel_rfl
  refine runF_calls (C := fees_Base.C n) (A := fees_Base.A n) (n := n) (fn := Try.f31) hg hmix Try.func31 hb ?_ ?_ (by decide) rfl rfl (by show 1 ≤ Try.f31.ntmps; decide) ?_
  · rw [show loopsIn (Try.f31.body.getD .skip) = [] by kernel_rfl]
    intro b hb m hm
    simp only [List.mem_cons, List.not_mem_nil, or_false] at hb

  · intro a ha m hm
    have hm' := lookJ_mem (show lookJ [] (jkey a) = some m from hm)
    simp only [List.mem_cons, List.not_mem_nil, or_false, Prod.mk.injEq] at hm'

  · rw [show runF (fees_Base.C n) (fees_Base.A n) n Try.f31 (fees_Base.shape t).1 (fees_Base.shape t).2 (fun v o => some (v, o)) = _ from fees_Base.run n t]
    have e := fees_Base.gmap fees_Base.res (fun a0 => a0) n t
    unfold fees_Base.m at h
    rw [h] at e
    exact e
theorem fees_Base.ok (hmix : Try.prog.follows .mixedOrders = true) (n : Nat) (t : Int) (u) (h : fees_Base.m n t = some u) : FnOK Try.prog (fun _ => .any) 31 (fees_Base.shape t).1 (fees_Base.shape t).2 (fees_Base.res u).1 (fees_Base.res u).2 :=
  (fees_Base.call hmix n t u h).ok Try.func31 (by decide) (by kernel_rfl)
theorem fees_Base.s (hmix : Try.prog.follows .mixedOrders = true) (n : Nat) : CalleeS Try.prog (fun _ => .any) 31 (fees_Base.c n) :=
  CalleeS.of (res := fees_Base.res) (shape := fees_Base.shape) (fun R u K => rfl) (fun args lent t h => by
    unfold fees_Base.pat at h
    split at h
    · cases h; rfl
    · cases h) fun t u h => fees_Base.ok hmix n t u h
end

section
set_option linter.unusedVariables false
set_option linter.unusedSimpArgs false
set_option maxRecDepth 100000
open Go Go.Abs Go.Proofs
noncomputable section
/-! q09_in -/
noncomputable def q09_in.C (n : Nat) : Ctx := ⟨Try.prog, (fun _ => .any), fun f => match f with
  | _ => none⟩
def q09_in.live : Nat → List Nat × List Nat := fun k => match k with
  | 2 => ([5, 1, 0], [4])
  | _ => ([], [])
def q09_in.jlive : Nat → List Nat × List Nat := fun k => match k with
  | _ => ([], [])
def q09_in.l2_0.r {α : Type} (mk0 : Bool → α) (mk1 : α) (n : Nat) (rc : Int → (List Int) → Int → Option α)  (x0 : Int) (x1 : (List Int)) (x2 : Int) : Option α :=
    if (decide (x0 < (((List.length x1) : Nat) : Int))) = true then
      if 0 ≤ x0 then
        if x0 < (((List.length x1) : Nat) : Int) then
          if ((List.getD x1 (Int.toNat x0) 0) == x2) = true then
            some (mk0 true)
          else
            rc (Go.IntKind.wrap .i64 (x0 + 1)) x1 x2
        else
          none
      else
        none
    else
      some (mk1)
def q09_in.l2_0.g {α : Type} (mk0 : Bool → α) (mk1 : α) (n : Nat) : Nat → Int → (List Int) → Int → Option α
  | 0, _, _, _ => none
  | m + 1, x0, x1, x2 => q09_in.l2_0.r mk0 mk1 n (fun y0 y1 y2 => q09_in.l2_0.g mk0 mk1 n m y0 y1 y2)  x0 x1 x2
def q09_in.l2_0.m (n m : Nat) (t : (Int × ((List Int) × Int))) : Option (Bool ⊕ Unit) := q09_in.l2_0.g (fun a0 => (.inl a0)) (.inr ()) n m t.1 t.2.1 t.2.2
def q09_in.l2_0.pat : St → Option (Int × ((List Int) × Int))
  | (St.mk [(.int .i64 x0), (.rints .u8 x1), (.int .u8 x2)] []) => some (x0, x1, x2)
  | _ => none
def q09_in.l2_0.shape (t : (Int × ((List Int) × Int))) : St := (St.mk [(.int .i64 t.1), (.rints .u8 t.2.1), (.int .u8 t.2.2)] [])
def q09_in.l2_0.res : (Bool ⊕ Unit) → Ex × St
  | (.inl u) => (Prod.mk .ret (St.mk [(.bool u)] []))
  | (.inr u) => (Prod.mk (.exit 0) (St.mk [.any] []))
def q09_in.l2_0.resK {R : Type} (u : (Bool ⊕ Unit)) (K : Ex → St → Option R) : Option R := match u with
  | (.inl u) => (fun p : Ex × St => K p.1 p.2) (Prod.mk .ret (St.mk [(.bool u)] []))
  | (.inr u) => (fun p : Ex × St => K p.1 p.2) (Prod.mk (.exit 0) (St.mk [.any] []))
noncomputable def q09_in.A (n : Nat) : Ann := ⟨Try.f56.ntmps, 0, q09_in.live, [(1, (.ints .u8))], [none], fun k => match k with
  | 2 => some (.mk' q09_in.l2_0.pat (q09_in.l2_0.m n n) q09_in.l2_0.resK)
  | _ => none, q09_in.jlive, lookJ []⟩
noncomputable def q09_in.b0 : Code := (loopsIn (Try.f56.body.getD .skip)).getD 0 .skip
def q09_in.g {α : Type} (mk0 : Bool → α) (n : Nat) (a0 : Int) (a1 : (List Int)) : Option α :=
  bindO (q09_in.l2_0.m n n (0, a1, a0)) fun r2 => match r2 with
    | (.inl r2) =>
      some (mk0 r2)
    | (.inr r2) =>
      some (mk0 false)
def q09_in.m (n : Nat) (t : (Int × (List Int))) : Option Bool := q09_in.g (fun a0 => a0) n t.1 t.2
def q09_in.pat : List AV → Blks → Option (Int × (List Int))
  | [(.int .u8 a0), (.rints .u8 a1)], [] => some (a0, a1)
  | _, _ => none
def q09_in.shape (t : (Int × (List Int))) : List AV × Blks := ([(.int .u8 t.1), (.rints .u8 t.2)], [])
def q09_in.res : Bool → AV × Blks
  | u => (Prod.mk (.bool u) [])
def q09_in.resK {R : Type} (u : Bool) (K : AV → Blks → Option R) : Option R := (fun p : AV × Blks => K p.1 p.2) (Prod.mk (.bool u) [])
def q09_in.c (n : Nat) : Abs.Callee := .mk' [] [none, (some (.ints .u8))] q09_in.pat (q09_in.m n) q09_in.resK
end
end

section
set_option linter.unusedVariables false
set_option linter.unusedSimpArgs false
set_option maxRecDepth 100000
open Go Go.Abs Go.Proofs
noncomputable section
/-! q09_Base -/
noncomputable def q09_Base.C (n : Nat) : Ctx := ⟨Try.prog, (fun _ => .any), fun f => match f with
  | 56 => some (q09_in.c n)
  | _ => none⟩
def q09_Base.live : Nat → List Nat × List Nat := fun k => match k with
  | _ => ([], [])
def q09_Base.jlive : Nat → List Nat × List Nat := fun k => match k with
  | _ => ([], [])
noncomputable def q09_Base.A (n : Nat) : Ann := ⟨Try.f32.ntmps, 0, q09_Base.live, [], [none], fun k => match k with
  | _ => none, q09_Base.jlive, lookJ []⟩
def q09_Base.g {α : Type} (mk0 : Int → α) (n : Nat) (a0 : Int) : Option α :=
  bindO (q09_in.m n (Prod.mk a0 [91])) fun r2 =>
    if r2 = true then
      some (mk0 1)
    else
      bindO (q09_in.m n (Prod.mk a0 ([48, 50, 51, 52, 54, 56, 58, 65, 66, 67, 68, 69, 70, 61, 80, 88, 89, 90, 72, 95] : List Int))) fun r6 =>
        if r6 = true then
          some (mk0 2)
        else
          bindO (q09_in.m n (Prod.mk a0 ([1, 3, 25, 16, 17, 18, 19, 20, 21, 22, 23, 24, 26, 27, 28, 29, 53, 81, 82, 83, 55, 57, 62] : List Int))) fun r10 =>
            if r10 = true then
              some (mk0 3)
            else
              bindO (q09_in.m n (Prod.mk a0 ([2, 4, 5, 6, 7, 11, 71] : List Int))) fun r14 =>
                if r14 = true then
                  some (mk0 5)
                else
                  bindO (q09_in.m n (Prod.mk a0 [8, 9, 86])) fun r18 =>
                    if r18 = true then
                      some (mk0 8)
                    else
                      bindO (q09_in.m n (Prod.mk a0 [87, 10])) fun r22 =>
                        if r22 = true then
                          some (mk0 10)
                        else
                          bindO (q09_in.m n (Prod.mk a0 [64])) fun r26 =>
                            if r26 = true then
                              some (mk0 20)
                            else
                              bindO (q09_in.m n (Prod.mk a0 [32])) fun r30 =>
                                if r30 = true then
                                  some (mk0 30)
                                else
                                  bindO (q09_in.m n (Prod.mk a0 [255])) fun r34 =>
                                    if r34 = true then
                                      some (mk0 5000)
                                    else
                                      bindO (q09_in.m n (Prod.mk a0 [240, 245])) fun r38 =>
                                        if r38 = true then
                                          some (mk0 32000)
                                        else
                                          if (decide (a0 ≥ 96)) = true then
                                            if (decide (a0 ≤ 159)) = true then
                                              some (mk0 3)
                                            else
                                              if (decide (a0 ≥ 160)) = true then
                                                if (decide (a0 ≤ 164)) = true then
                                                  some (mk0 (Go.IntKind.wrap .u64 (375 + (Go.IntKind.wrap .u64 (375 * (Go.IntKind.wrap .u64 (Go.IntKind.wrap .u8 (a0 - 160))))))))
                                                else
                                                  some (mk0 0)
                                              else
                                                some (mk0 0)
                                          else
                                            if (decide (a0 ≥ 160)) = true then
                                              if (decide (a0 ≤ 164)) = true then
                                                some (mk0 (Go.IntKind.wrap .u64 (375 + (Go.IntKind.wrap .u64 (375 * (Go.IntKind.wrap .u64 (Go.IntKind.wrap .u8 (a0 - 160))))))))
                                              else
                                                some (mk0 0)
                                            else
                                              some (mk0 0)
def q09_Base.m (n : Nat) (t : Int) : Option Int := q09_Base.g (fun a0 => a0) n t
def q09_Base.pat : List AV → Blks → Option Int
  | [(.int .u8 a0)], [] => some a0
  | _, _ => none
def q09_Base.shape (t : Int) : List AV × Blks := ([(.int .u8 t)], [])
def q09_Base.res : Int → AV × Blks
  | u => (Prod.mk (.int .u64 u) [])
def q09_Base.resK {R : Type} (u : Int) (K : AV → Blks → Option R) : Option R := (fun p : AV × Blks => K p.1 p.2) (Prod.mk (.int .u64 u) [])
def q09_Base.c (n : Nat) : Abs.Callee := .mk' [] [none] q09_Base.pat (q09_Base.m n) q09_Base.resK
end
end

section
set_option linter.unusedVariables false
set_option linter.unusedSimpArgs false
set_option maxRecDepth 100000
open Go Go.Abs Go.Proofs
/-! q09_in -/
theorem q09_in.l2_0.rmap {α β : Type} (h : β → α) (mk0 : Bool → β) (mk1 : β) (n : Nat) (f : Int → (List Int) → Int → Option β)  (x0 : Int) (x1 : (List Int)) (x2 : Int) : q09_in.l2_0.r (fun a0 => (h (mk0 a0))) (h mk1) n (fun y0 y1 y2 => (f y0 y1 y2).map h) x0 x1 x2 = (q09_in.l2_0.r mk0 mk1 n f x0 x1 x2).map h := by
  unfold q09_in.l2_0.r
  exact (ite_map (ite_map (ite_map (ite_map rfl rfl) rfl) rfl) rfl)
theorem q09_in.l2_0.gmap {α β : Type} (h : β → α) (mk0 : Bool → β) (mk1 : β) (n : Nat) : ∀ (m : Nat) (x0 : Int) (x1 : (List Int)) (x2 : Int), q09_in.l2_0.g (fun a0 => (h (mk0 a0))) (h mk1) n m x0 x1 x2 = (q09_in.l2_0.g mk0 mk1 n m x0 x1 x2).map h
  | 0, _, _, _ => rfl
  | m + 1, x0, x1, x2 => by
    unfold q09_in.l2_0.g
    rw [← q09_in.l2_0.rmap]
    congr
    · funext y0 y1 y2; exact q09_in.l2_0.gmap h mk0 mk1 n m y0 y1 y2
theorem q09_in.l2_0.pat_shape : ∀ st t, q09_in.l2_0.pat st = some t → st = q09_in.l2_0.shape t := by
  intro st t h
  unfold q09_in.l2_0.pat at h
  split at h
  · cases h; rfl
  · cases h
theorem q09_in.l2_0.round (n : Nat) (rc : St → Option (Ex × St)) (x0 : Int) (x1 : (List Int)) (x2 : Int) : roundOf (q09_in.C n) (q09_in.A n) n q09_in.b0 rc ((St.mk [(.int .i64 x0), (.rints .u8 x1), (.int .u8 x2)] [])) = q09_in.l2_0.r (fun a0 => ((Prod.mk .ret (St.mk [(.bool a0)] [])) : Ex × St)) ((Prod.mk (.exit 0) (St.mk [.any] [])) : Ex × St) n (fun y0 y1 y2 => rc ((St.mk [(.int .i64 y0), (.rints .u8 y1), (.int .u8 y2)] []))) x0 x1 x2 := by kernel_rfl
theorem q09_in.l2_0.loop' (n : Nat) : ∀ (m : Nat) (t : (Int × ((List Int) × Int))), loopOf (roundOf (q09_in.C n) (q09_in.A n) n q09_in.b0) m (q09_in.l2_0.shape t) = q09_in.l2_0.g (fun a0 => ((Prod.mk .ret (St.mk [(.bool a0)] [])) : Ex × St)) ((Prod.mk (.exit 0) (St.mk [.any] [])) : Ex × St) n m t.1 t.2.1 t.2.2 :=
  loop_of_round (shape := q09_in.l2_0.shape) (body := roundOf (q09_in.C n) (q09_in.A n) n q09_in.b0) (g := fun m t => q09_in.l2_0.g (fun a0 => ((Prod.mk .ret (St.mk [(.bool a0)] [])) : Ex × St)) ((Prod.mk (.exit 0) (St.mk [.any] [])) : Ex × St) n m t.1 t.2.1 t.2.2) (fun t => rfl)
    fun m t ih => (q09_in.l2_0.round n (loopOf (roundOf (q09_in.C n) (q09_in.A n) n q09_in.b0) m) t.1 t.2.1 t.2.2).trans (congrFun (congrFun (congrFun (congrArg (q09_in.l2_0.r (fun a0 => ((Prod.mk .ret (St.mk [(.bool a0)] [])) : Ex × St)) ((Prod.mk (.exit 0) (St.mk [.any] [])) : Ex × St) n) (funext fun y0 => funext fun y1 => funext fun y2 => ih (y0, y1, y2))) t.1) t.2.1) t.2.2)
theorem q09_in.l2_0.loop (n m : Nat) (t : (Int × ((List Int) × Int))) : loopOf (roundOf (q09_in.C n) (q09_in.A n) n q09_in.b0) m (q09_in.l2_0.shape t) = (q09_in.l2_0.m n m t).map q09_in.l2_0.res :=
  (q09_in.l2_0.loop' n m t).trans (q09_in.l2_0.gmap q09_in.l2_0.res (fun a0 => (.inl a0)) (.inr ()) n m t.1 t.2.1 t.2.2)
theorem q09_in.gmap {α β : Type} (h : β → α) (mk0 : Bool → β) (n : Nat) (a0 : Int) (a1 : (List Int)) : q09_in.g (fun a0 => (h (mk0 a0))) n a0 a1 = (q09_in.g mk0 n a0 a1).map h := by
  unfold q09_in.g
  exact (bindO_map fun r2 => match r2 with | (.inl r2) => rfl | (.inr r2) => rfl)
theorem q09_in.run (n : Nat) (a0 : Int) (a1 : (List Int)) : runF (q09_in.C n) (q09_in.A n) n Try.f56 [(.int .u8 a0), (.rints .u8 a1)] [] (fun v o => some (v, o)) = q09_in.g (fun a0 => ((Prod.mk (.bool a0) []) : AV × Blks)) n a0 a1 := by kernel_rfl
theorem q09_in.call (hmix : Try.prog.follows .mixedOrders = true) (n : Nat) (t : (Int × (List Int))) (u) (h : q09_in.m n t = some u) : FnC Try.prog (fun _ => .any) 56 (q09_in.shape t).1 (q09_in.shape t).2 (q09_in.res u).1 (q09_in.res u).2 := by
  have hg : ∀ f m, (q09_in.C n).Γ f = some m → CalleeS Try.prog (fun _ => .any) f m := by
    intro f m hm
    unfold q09_in.C at hm
    simp only at hm
    first
    | (cases hm; done)
    | (split at hm <;> first
    | (cases hm; done))
  have hb : Try.f56.body = some (Try.f56.body.getD .skip) := by kernel_rfl
  refine runF_calls (C := q09_in.C n) (A := q09_in.A n) (n := n) (fn := Try.f56) hg hmix Try.func56 hb ?_ ?_ (by decide) rfl rfl (by show 2 ≤ Try.f56.ntmps; decide) ?_
  · rw [show loopsIn (Try.f56.body.getD .skip) = [q09_in.b0] by kernel_rfl]
    intro b hb m hm
    simp only [List.mem_cons, List.not_mem_nil, or_false] at hb
    rcases hb with rfl
    · have e : (q09_in.A n).loop (key q09_in.b0) = some (.mk' q09_in.l2_0.pat (q09_in.l2_0.m n n) q09_in.l2_0.resK) := by rw [show key q09_in.b0 = 2 by kernel_rfl]; rfl
      rw [e] at hm
      cases hm
      exact LoopS.of (res := q09_in.l2_0.res) (fun R u K => by rcases u with u | u <;> rfl) q09_in.l2_0.pat_shape fun t => q09_in.l2_0.loop n n t
  · intro a ha m hm
    have hm' := lookJ_mem (show lookJ [] (jkey a) = some m from hm)
    simp only [List.mem_cons, List.not_mem_nil, or_false, Prod.mk.injEq] at hm'

  · rw [show runF (q09_in.C n) (q09_in.A n) n Try.f56 (q09_in.shape t).1 (q09_in.shape t).2 (fun v o => some (v, o)) = _ from q09_in.run n t.1 t.2]
    have e := q09_in.gmap q09_in.res (fun a0 => a0) n t.1 t.2
    unfold q09_in.m at h
    rw [h] at e
    exact e
theorem q09_in.ok (hmix : Try.prog.follows .mixedOrders = true) (n : Nat) (t : (Int × (List Int))) (u) (h : q09_in.m n t = some u) : FnOK Try.prog (fun _ => .any) 56 (q09_in.shape t).1 (q09_in.shape t).2 (q09_in.res u).1 (q09_in.res u).2 :=
  (q09_in.call hmix n t u h).ok Try.func56 (by decide) (by kernel_rfl)
theorem q09_in.s (hmix : Try.prog.follows .mixedOrders = true) (n : Nat) : CalleeS Try.prog (fun _ => .any) 56 (q09_in.c n) :=
  CalleeS.of (res := q09_in.res) (shape := q09_in.shape) (fun R u K => rfl) (fun args lent t h => by
    unfold q09_in.pat at h
    split at h
    · cases h; rfl
    · cases h) fun t u h => q09_in.ok hmix n t u h
end

section
set_option linter.unusedVariables false
set_option linter.unusedSimpArgs false
set_option maxRecDepth 100000
open Go Go.Abs Go.Proofs
/-! q09_Base -/
theorem q09_Base.gmap {α β : Type} (h : β → α) (mk0 : Int → β) (n : Nat) (a0 : Int) : q09_Base.g (fun a0 => (h (mk0 a0))) n a0 = (q09_Base.g mk0 n a0).map h := by
  unfold q09_Base.g
  exact (bindO_map fun r2 => (ite_map rfl (bindO_map fun r6 => (ite_map rfl (bindO_map fun r10 => (ite_map rfl (bindO_map fun r14 => (ite_map rfl (bindO_map fun r18 => (ite_map rfl (bindO_map fun r22 => (ite_map rfl (bindO_map fun r26 => (ite_map rfl (bindO_map fun r30 => (ite_map rfl (bindO_map fun r34 => (ite_map rfl (bindO_map fun r38 => (ite_map rfl (ite_map (ite_map rfl (ite_map (ite_map rfl rfl) rfl)) (ite_map (ite_map rfl rfl) rfl))))))))))))))))))))))
theorem q09_Base.run (n : Nat) (a0 : Int) : runF (q09_Base.C n) (q09_Base.A n) n Try.f32 [(.int .u8 a0)] [] (fun v o => some (v, o)) = q09_Base.g (fun a0 => ((Prod.mk (.int .u64 a0) []) : AV × Blks)) n a0 := by kernel_rfl
theorem q09_Base.call (hmix : Try.prog.follows .mixedOrders = true) (n : Nat) (t : Int) (u) (h : q09_Base.m n t = some u) : FnC Try.prog (fun _ => .any) 32 (q09_Base.shape t).1 (q09_Base.shape t).2 (q09_Base.res u).1 (q09_Base.res u).2 := by
  have hg : ∀ f m, (q09_Base.C n).Γ f = some m → CalleeS Try.prog (fun _ => .any) f m := by
    intro f m hm
    unfold q09_Base.C at hm
    simp only at hm
    first
    | (cases hm; done)
    | (split at hm <;> first
    | (cases hm; exact q09_in.s hmix n)
    | (cases hm; done))
  have hb : Try.f32.body = some (Try.f32.body.getD .skip) := by kernel_rfl
  refine runF_calls (C := q09_Base.C n) (A := q09_Base.A n) (n := n) (fn := Try.f32) hg hmix Try.func32 hb ?_ ?_ (by decide) rfl rfl (by show 1 ≤ Try.f32.ntmps; decide) ?_
  · rw [show loopsIn (Try.f32.body.getD .skip) = [] by kernel_rfl]
    intro b hb m hm
    simp only [List.mem_cons, List.not_mem_nil, or_false] at hb

  · intro a ha m hm
    have hm' := lookJ_mem (show lookJ [] (jkey a) = some m from hm)
    simp only [List.mem_cons, List.not_mem_nil, or_false, Prod.mk.injEq] at hm'

  · rw [show runF (q09_Base.C n) (q09_Base.A n) n Try.f32 (q09_Base.shape t).1 (q09_Base.shape t).2 (fun v o => some (v, o)) = _ from q09_Base.run n t]
    have e := q09_Base.gmap q09_Base.res (fun a0 => a0) n t
    unfold q09_Base.m at h
    rw [h] at e
    exact e
theorem q09_Base.ok (hmix : Try.prog.follows .mixedOrders = true) (n : Nat) (t : Int) (u) (h : q09_Base.m n t = some u) : FnOK Try.prog (fun _ => .any) 32 (q09_Base.shape t).1 (q09_Base.shape t).2 (q09_Base.res u).1 (q09_Base.res u).2 :=
  (q09_Base.call hmix n t u h).ok Try.func32 (by decide) (by kernel_rfl)
theorem q09_Base.s (hmix : Try.prog.follows .mixedOrders = true) (n : Nat) : CalleeS Try.prog (fun _ => .any) 32 (q09_Base.c n) :=
  CalleeS.of (res := q09_Base.res) (shape := q09_Base.shape) (fun R u K => rfl) (fun args lent t h => by
    unfold q09_Base.pat at h
    split at h
    · cases h; rfl
    · cases h) fun t u h => q09_Base.ok hmix n t u h
end

section
set_option linter.unusedVariables false
set_option linter.unusedSimpArgs false
set_option maxRecDepth 100000
open Go Go.Abs Go.Proofs
noncomputable section
/-! word_Bytes -/
noncomputable def word_Bytes.C (n : Nat) : Ctx := ⟨Try.prog, (fun _ => .any), fun f => match f with
  | _ => none⟩
def word_Bytes.live : Nat → List Nat × List Nat := fun k => match k with
  | 3 => ([6, 3, 1], [3])
  | _ => ([], [])
def word_Bytes.jlive : Nat → List Nat × List Nat := fun k => match k with
  | _ => ([], [])
def word_Bytes.l3_0.r {α : Type} (mk0 : (List Int) → α) (n : Nat) (rc : Int → (List Int) → (List Int) → Option α)  (x0 : Int) (x1 : (List Int)) (x2 : (List Int)) : Option α :=
    if (decide (x0 < 32)) = true then
      if 0 ≤ (Go.IntKind.wrap .i64 (Int.tdiv x0 8)) then
        if (Go.IntKind.wrap .i64 (Int.tdiv x0 8)) < 4 then
          if 0 ≤ (Go.IntKind.wrap .i64 ((Int.tmod x0 8) * 8)) then
            if 0 ≤ (Go.IntKind.wrap .i64 (31 - x0)) then
              if (Go.IntKind.wrap .i64 (31 - x0)) < (((List.length x1) : Nat) : Int) then
                rc (Go.IntKind.wrap .i64 (x0 + 1)) (List.set x1 (Int.toNat (Go.IntKind.wrap .i64 (31 - x0))) (Go.IntKind.wrap .u8 (Go.Abs.ishr .u64 (List.getD x2 (Int.toNat (Go.IntKind.wrap .i64 (Int.tdiv x0 8))) 0) (Go.IntKind.wrap .i64 ((Int.tmod x0 8) * 8))))) x2
              else
                none
            else
              none
          else
            none
        else
          none
      else
        none
    else
      some (mk0 x1)
def word_Bytes.l3_0.g {α : Type} (mk0 : (List Int) → α) (n : Nat) : Nat → Int → (List Int) → (List Int) → Option α
  | 0, _, _, _ => none
  | m + 1, x0, x1, x2 => word_Bytes.l3_0.r mk0 n (fun y0 y1 y2 => word_Bytes.l3_0.g mk0 n m y0 y1 y2)  x0 x1 x2
def word_Bytes.l3_0.m (n m : Nat) (t : (Int × ((List Int) × (List Int)))) : Option (List Int) := word_Bytes.l3_0.g (fun a0 => a0) n m t.1 t.2.1 t.2.2
def word_Bytes.l3_0.pat : St → Option (Int × ((List Int) × (List Int)))
  | (St.mk [(.int .i64 x0), (.own 0 1), (.ptr 1 [])] [(some (.ints .u8 x1)), (some (.var (.ints .u64 4 x2)))]) => some (x0, x1, x2)
  | _ => none
def word_Bytes.l3_0.shape (t : (Int × ((List Int) × (List Int)))) : St := (St.mk [(.int .i64 t.1), (.own 0 1), (.ptr 1 [])] [(some (.ints .u8 t.2.1)), (some (.var (.ints .u64 4 t.2.2)))])
def word_Bytes.l3_0.res : (List Int) → Ex × St
  | u => (Prod.mk (.exit 0) (St.mk [(.own 0 1)] [(some (.ints .u8 u))]))
def word_Bytes.l3_0.resK {R : Type} (u : (List Int)) (K : Ex → St → Option R) : Option R := (fun p : Ex × St => K p.1 p.2) (Prod.mk (.exit 0) (St.mk [(.own 0 1)] [(some (.ints .u8 u))]))
noncomputable def word_Bytes.A (n : Nat) : Ann := ⟨Try.f57.ntmps, 0, word_Bytes.live, [(3, (.ints .u8))], [(some (.ints .u8))], fun k => match k with
  | 3 => some (.mk' word_Bytes.l3_0.pat (word_Bytes.l3_0.m n n) word_Bytes.l3_0.resK)
  | _ => none, word_Bytes.jlive, lookJ []⟩
noncomputable def word_Bytes.b0 : Code := (loopsIn (Try.f57.body.getD .skip)).getD 0 .skip
def word_Bytes.g {α : Type} (mk0 : (List Int) → α) (n : Nat) (a0 : (List Int)) : Option α :=
  bindO (word_Bytes.l3_0.m n n (0, [0, 0, 0, 0, 0, 0, 0, 0, 0, 0, 0, 0, 0, 0, 0, 0, 0, 0, 0, 0, 0, 0, 0, 0, 0, 0, 0, 0, 0, 0, 0, 0], a0)) fun r2 =>
    some (mk0 r2)
def word_Bytes.m (n : Nat) (t : (List Int)) : Option (List Int) := word_Bytes.g (fun a0 => a0) n t
def word_Bytes.pat : List AV → Blks → Option (List Int)
  | [(.ints .u64 4 a0)], [] => some a0
  | _, _ => none
def word_Bytes.shape (t : (List Int)) : List AV × Blks := ([(.ints .u64 4 t)], [])
def word_Bytes.res : (List Int) → AV × Blks
  | u => (Prod.mk (.own 0 1) [(some (.ints .u8 u))])
def word_Bytes.resK {R : Type} (u : (List Int)) (K : AV → Blks → Option R) : Option R := (fun p : AV × Blks => K p.1 p.2) (Prod.mk (.own 0 1) [(some (.ints .u8 u))])
def word_Bytes.c (n : Nat) : Abs.Callee := .mk' [] [none] word_Bytes.pat (word_Bytes.m n) word_Bytes.resK
end
end

section
set_option linter.unusedVariables false
set_option linter.unusedSimpArgs false
set_option maxRecDepth 100000
open Go Go.Abs Go.Proofs
noncomputable section
/-! fees_Exp -/
noncomputable def fees_Exp.C (n : Nat) : Ctx := ⟨Try.prog, (fun _ => .any), fun f => match f with
  | 57 => some (word_Bytes.c n)
  | _ => none⟩
def fees_Exp.live : Nat → List Nat × List Nat := fun k => match k with
  | 3 => ([9, 8, 7, 3], [3])
  | _ => ([], [])
def fees_Exp.jlive : Nat → List Nat × List Nat := fun k => match k with
  | _ => ([], [])
def fees_Exp.l3_0.r {α : Type} (mk0 : Int → α) (n : Nat) (rc : Int → Int → Int → (List Int) → Option α)  (x0 : Int) (x1 : Int) (x2 : Int) (x3 : (List Int)) : Option α :=
    if (decide (x0 < x1)) = true then
      if 0 ≤ x0 then
        if x0 < (((List.length x3) : Nat) : Int) then
          if ((List.getD x3 (Int.toNat x0) 0) != 0) = true then
            some (mk0 x2)
          else
            rc (Go.IntKind.wrap .i64 (x0 + 1)) x1 (Go.IntKind.wrap .u64 (x2 - 1)) x3
        else
          none
      else
        none
    else
      some (mk0 x2)
def fees_Exp.l3_0.g {α : Type} (mk0 : Int → α) (n : Nat) : Nat → Int → Int → Int → (List Int) → Option α
  | 0, _, _, _, _ => none
  | m + 1, x0, x1, x2, x3 => fees_Exp.l3_0.r mk0 n (fun y0 y1 y2 y3 => fees_Exp.l3_0.g mk0 n m y0 y1 y2 y3)  x0 x1 x2 x3
def fees_Exp.l3_0.m (n m : Nat) (t : (Int × (Int × (Int × (List Int))))) : Option Int := fees_Exp.l3_0.g (fun a0 => a0) n m t.1 t.2.1 t.2.2.1 t.2.2.2
def fees_Exp.l3_0.pat : St → Option (Int × (Int × (Int × (List Int))))
  | (St.mk [(.int .i64 x0), (.int .i64 x1), (.own 0 1), (.int .u64 x2)] [(some (.ints .u8 x3))]) => some (x0, x1, x2, x3)
  | _ => none
def fees_Exp.l3_0.shape (t : (Int × (Int × (Int × (List Int))))) : St := (St.mk [(.int .i64 t.1), (.int .i64 t.2.1), (.own 0 1), (.int .u64 t.2.2.1)] [(some (.ints .u8 t.2.2.2))])
def fees_Exp.l3_0.res : Int → Ex × St
  | u => (Prod.mk (.exit 0) (St.mk [(.int .u64 u)] []))
def fees_Exp.l3_0.resK {R : Type} (u : Int) (K : Ex → St → Option R) : Option R := (fun p : Ex × St => K p.1 p.2) (Prod.mk (.exit 0) (St.mk [(.int .u64 u)] []))
noncomputable def fees_Exp.A (n : Nat) : Ann := ⟨Try.f33.ntmps, 0, fees_Exp.live, [(7, (.ints .u8))], [none], fun k => match k with
  | 3 => some (.mk' fees_Exp.l3_0.pat (fees_Exp.l3_0.m n n) fees_Exp.l3_0.resK)
  | _ => none, fees_Exp.jlive, lookJ []⟩
noncomputable def fees_Exp.b0 : Code := (loopsIn (Try.f33.body.getD .skip)).getD 0 .skip
def fees_Exp.g {α : Type} (mk0 : Int → α) (n : Nat) (a0 : (List Int)) : Option α :=
  bindO (word_Bytes.m n a0) fun r2 =>
    bindO (fees_Exp.l3_0.m n n (0, (((List.length r2) : Nat) : Int), 32, r2)) fun r4 =>
      some (mk0 (Go.IntKind.wrap .u64 (50 * r4)))
def fees_Exp.m (n : Nat) (t : (List Int)) : Option Int := fees_Exp.g (fun a0 => a0) n t
def fees_Exp.pat : List AV → Blks → Option (List Int)
  | [(.ints .u64 4 a0)], [] => some a0
  | _, _ => none
def fees_Exp.shape (t : (List Int)) : List AV × Blks := ([(.ints .u64 4 t)], [])
def fees_Exp.res : Int → AV × Blks
  | u => (Prod.mk (.int .u64 u) [])
def fees_Exp.resK {R : Type} (u : Int) (K : AV → Blks → Option R) : Option R := (fun p : AV × Blks => K p.1 p.2) (Prod.mk (.int .u64 u) [])
def fees_Exp.c (n : Nat) : Abs.Callee := .mk' [] [none] fees_Exp.pat (fees_Exp.m n) fees_Exp.resK
end
end

section
set_option linter.unusedVariables false
set_option linter.unusedSimpArgs false
set_option maxRecDepth 100000
open Go Go.Abs Go.Proofs
/-! word_Bytes -/
theorem word_Bytes.l3_0.rmap {α β : Type} (h : β → α) (mk0 : (List Int) → β) (n : Nat) (f : Int → (List Int) → (List Int) → Option β)  (x0 : Int) (x1 : (List Int)) (x2 : (List Int)) : word_Bytes.l3_0.r (fun a0 => (h (mk0 a0))) n (fun y0 y1 y2 => (f y0 y1 y2).map h) x0 x1 x2 = (word_Bytes.l3_0.r mk0 n f x0 x1 x2).map h := by
  unfold word_Bytes.l3_0.r
  exact (ite_map (ite_map (ite_map (ite_map (ite_map (ite_map rfl rfl) rfl) rfl) rfl) rfl) rfl)
theorem word_Bytes.l3_0.gmap {α β : Type} (h : β → α) (mk0 : (List Int) → β) (n : Nat) : ∀ (m : Nat) (x0 : Int) (x1 : (List Int)) (x2 : (List Int)), word_Bytes.l3_0.g (fun a0 => (h (mk0 a0))) n m x0 x1 x2 = (word_Bytes.l3_0.g mk0 n m x0 x1 x2).map h
  | 0, _, _, _ => rfl
  | m + 1, x0, x1, x2 => by
    unfold word_Bytes.l3_0.g
    rw [← word_Bytes.l3_0.rmap]
    congr
    · funext y0 y1 y2; exact word_Bytes.l3_0.gmap h mk0 n m y0 y1 y2
theorem word_Bytes.l3_0.pat_shape : ∀ st t, word_Bytes.l3_0.pat st = some t → st = word_Bytes.l3_0.shape t := by
  intro st t h
  unfold word_Bytes.l3_0.pat at h
  split at h
  · cases h; rfl
  · cases h
theorem word_Bytes.l3_0.round (n : Nat) (rc : St → Option (Ex × St)) (x0 : Int) (x1 : (List Int)) (x2 : (List Int)) : roundOf (word_Bytes.C n) (word_Bytes.A n) n word_Bytes.b0 rc ((St.mk [(.int .i64 x0), (.own 0 1), (.ptr 1 [])] [(some (.ints .u8 x1)), (some (.var (.ints .u64 4 x2)))])) = word_Bytes.l3_0.r (fun a0 => ((Prod.mk (.exit 0) (St.mk [(.own 0 1)] [(some (.ints .u8 a0))])) : Ex × St)) n (fun y0 y1 y2 => rc ((St.mk [(.int .i64 y0), (.own 0 1), (.ptr 1 [])] [(some (.ints .u8 y1)), (some (.var (.ints .u64 4 y2)))]))) x0 x1 x2 := by kernel_rfl
theorem word_Bytes.l3_0.loop' (n : Nat) : ∀ (m : Nat) (t : (Int × ((List Int) × (List Int)))), loopOf (roundOf (word_Bytes.C n) (word_Bytes.A n) n word_Bytes.b0) m (word_Bytes.l3_0.shape t) = word_Bytes.l3_0.g (fun a0 => ((Prod.mk (.exit 0) (St.mk [(.own 0 1)] [(some (.ints .u8 a0))])) : Ex × St)) n m t.1 t.2.1 t.2.2 :=
  loop_of_round (shape := word_Bytes.l3_0.shape) (body := roundOf (word_Bytes.C n) (word_Bytes.A n) n word_Bytes.b0) (g := fun m t => word_Bytes.l3_0.g (fun a0 => ((Prod.mk (.exit 0) (St.mk [(.own 0 1)] [(some (.ints .u8 a0))])) : Ex × St)) n m t.1 t.2.1 t.2.2) (fun t => rfl)
    fun m t ih => (word_Bytes.l3_0.round n (loopOf (roundOf (word_Bytes.C n) (word_Bytes.A n) n word_Bytes.b0) m) t.1 t.2.1 t.2.2).trans (congrFun (congrFun (congrFun (congrArg (word_Bytes.l3_0.r (fun a0 => ((Prod.mk (.exit 0) (St.mk [(.own 0 1)] [(some (.ints .u8 a0))])) : Ex × St)) n) (funext fun y0 => funext fun y1 => funext fun y2 => ih (y0, y1, y2))) t.1) t.2.1) t.2.2)
theorem word_Bytes.l3_0.loop (n m : Nat) (t : (Int × ((List Int) × (List Int)))) : loopOf (roundOf (word_Bytes.C n) (word_Bytes.A n) n word_Bytes.b0) m (word_Bytes.l3_0.shape t) = (word_Bytes.l3_0.m n m t).map word_Bytes.l3_0.res :=
  (word_Bytes.l3_0.loop' n m t).trans (word_Bytes.l3_0.gmap word_Bytes.l3_0.res (fun a0 => a0) n m t.1 t.2.1 t.2.2)
theorem word_Bytes.gmap {α β : Type} (h : β → α) (mk0 : (List Int) → β) (n : Nat) (a0 : (List Int)) : word_Bytes.g (fun a0 => (h (mk0 a0))) n a0 = (word_Bytes.g mk0 n a0).map h := by
  unfold word_Bytes.g
  exact (bindO_map fun r2 => rfl)
theorem word_Bytes.run (n : Nat) (a0 : (List Int)) : runF (word_Bytes.C n) (word_Bytes.A n) n Try.f57 [(.ints .u64 4 a0)] [] (fun v o => some (v, o)) = word_Bytes.g (fun a0 => ((Prod.mk (.own 0 1) [(some (.ints .u8 a0))]) : AV × Blks)) n a0 := by kernel_rfl
theorem word_Bytes.call (hmix : Try.prog.follows .mixedOrders = true) (n : Nat) (t : (List Int)) (u) (h : word_Bytes.m n t = some u) : FnC Try.prog (fun _ => .any) 57 (word_Bytes.shape t).1 (word_Bytes.shape t).2 (word_Bytes.res u).1 (word_Bytes.res u).2 := by
  have hg : ∀ f m, (word_Bytes.C n).Γ f = some m → CalleeS Try.prog (fun _ => .any) f m := by
    intro f m hm
    unfold word_Bytes.C at hm
    simp only at hm
    first
    | (cases hm; done)
    | (split at hm <;> first
    | (cases hm; done))
  have hb : Try.f57.body = some (Try.f57.body.getD .skip) := by kernel_rfl
  refine runF_calls (C := word_Bytes.C n) (A := word_Bytes.A n) (n := n) (fn := Try.f57) hg hmix Try.func57 hb ?_ ?_ (by decide) rfl rfl (by show 1 ≤ Try.f57.ntmps; decide) ?_
  · rw [show loopsIn (Try.f57.body.getD .skip) = [word_Bytes.b0] by kernel_rfl]
    intro b hb m hm
    simp only [List.mem_cons, List.not_mem_nil, or_false] at hb
    rcases hb with rfl
    · have e : (word_Bytes.A n).loop (key word_Bytes.b0) = some (.mk' word_Bytes.l3_0.pat (word_Bytes.l3_0.m n n) word_Bytes.l3_0.resK) := by rw [show key word_Bytes.b0 = 3 by kernel_rfl]; rfl
      rw [e] at hm
      cases hm
      exact LoopS.of (res := word_Bytes.l3_0.res) (fun R u K => rfl) word_Bytes.l3_0.pat_shape fun t => word_Bytes.l3_0.loop n n t
  · intro a ha m hm
    have hm' := lookJ_mem (show lookJ [] (jkey a) = some m from hm)
    simp only [List.mem_cons, List.not_mem_nil, or_false, Prod.mk.injEq] at hm'

  · rw [show runF (word_Bytes.C n) (word_Bytes.A n) n Try.f57 (word_Bytes.shape t).1 (word_Bytes.shape t).2 (fun v o => some (v, o)) = _ from word_Bytes.run n t]
    have e := word_Bytes.gmap word_Bytes.res (fun a0 => a0) n t
    unfold word_Bytes.m at h
    rw [h] at e
    exact e
theorem word_Bytes.ok (hmix : Try.prog.follows .mixedOrders = true) (n : Nat) (t : (List Int)) (u) (h : word_Bytes.m n t = some u) : FnOK Try.prog (fun _ => .any) 57 (word_Bytes.shape t).1 (word_Bytes.shape t).2 (word_Bytes.res u).1 (word_Bytes.res u).2 :=
  (word_Bytes.call hmix n t u h).ok Try.func57 (by decide) (by kernel_rfl)
theorem word_Bytes.s (hmix : Try.prog.follows .mixedOrders = true) (n : Nat) : CalleeS Try.prog (fun _ => .any) 57 (word_Bytes.c n) :=
  CalleeS.of (res := word_Bytes.res) (shape := word_Bytes.shape) (fun R u K => rfl) (fun args lent t h => by
    unfold word_Bytes.pat at h
    split at h
    · cases h; rfl
    · cases h) fun t u h => word_Bytes.ok hmix n t u h
end

section
set_option linter.unusedVariables false
set_option linter.unusedSimpArgs false
set_option maxRecDepth 100000
open Go Go.Abs Go.Proofs
/-! fees_Exp -/
theorem fees_Exp.l3_0.rmap {α β : Type} (h : β → α) (mk0 : Int → β) (n : Nat) (f : Int → Int → Int → (List Int) → Option β)  (x0 : Int) (x1 : Int) (x2 : Int) (x3 : (List Int)) : fees_Exp.l3_0.r (fun a0 => (h (mk0 a0))) n (fun y0 y1 y2 y3 => (f y0 y1 y2 y3).map h) x0 x1 x2 x3 = (fees_Exp.l3_0.r mk0 n f x0 x1 x2 x3).map h := by
  unfold fees_Exp.l3_0.r
  exact (ite_map (ite_map (ite_map (ite_map rfl rfl) rfl) rfl) rfl)
theorem fees_Exp.l3_0.gmap {α β : Type} (h : β → α) (mk0 : Int → β) (n : Nat) : ∀ (m : Nat) (x0 : Int) (x1 : Int) (x2 : Int) (x3 : (List Int)), fees_Exp.l3_0.g (fun a0 => (h (mk0 a0))) n m x0 x1 x2 x3 = (fees_Exp.l3_0.g mk0 n m x0 x1 x2 x3).map h
  | 0, _, _, _, _ => rfl
  | m + 1, x0, x1, x2, x3 => by
    unfold fees_Exp.l3_0.g
    rw [← fees_Exp.l3_0.rmap]
    congr
    · funext y0 y1 y2 y3; exact fees_Exp.l3_0.gmap h mk0 n m y0 y1 y2 y3
theorem fees_Exp.l3_0.pat_shape : ∀ st t, fees_Exp.l3_0.pat st = some t → st = fees_Exp.l3_0.shape t := by
  intro st t h
  unfold fees_Exp.l3_0.pat at h
  split at h
  · cases h; rfl
  · cases h
theorem fees_Exp.l3_0.round (n : Nat) (rc : St → Option (Ex × St)) (x0 : Int) (x1 : Int) (x2 : Int) (x3 : (List Int)) : roundOf (fees_Exp.C n) (fees_Exp.A n) n fees_Exp.b0 rc ((St.mk [(.int .i64 x0), (.int .i64 x1), (.own 0 1), (.int .u64 x2)] [(some (.ints .u8 x3))])) = fees_Exp.l3_0.r (fun a0 => ((Prod.mk (.exit 0) (St.mk [(.int .u64 a0)] [])) : Ex × St)) n (fun y0 y1 y2 y3 => rc ((St.mk [(.int .i64 y0), (.int .i64 y1), (.own 0 1), (.int .u64 y2)] [(some (.ints .u8 y3))]))) x0 x1 x2 x3 := by kernel_rfl
theorem fees_Exp.l3_0.loop' (n : Nat) : ∀ (m : Nat) (t : (Int × (Int × (Int × (List Int))))), loopOf (roundOf (fees_Exp.C n) (fees_Exp.A n) n fees_Exp.b0) m (fees_Exp.l3_0.shape t) = fees_Exp.l3_0.g (fun a0 => ((Prod.mk (.exit 0) (St.mk [(.int .u64 a0)] [])) : Ex × St)) n m t.1 t.2.1 t.2.2.1 t.2.2.2 :=
  loop_of_round (shape := fees_Exp.l3_0.shape) (body := roundOf (fees_Exp.C n) (fees_Exp.A n) n fees_Exp.b0) (g := fun m t => fees_Exp.l3_0.g (fun a0 => ((Prod.mk (.exit 0) (St.mk [(.int .u64 a0)] [])) : Ex × St)) n m t.1 t.2.1 t.2.2.1 t.2.2.2) (fun t => rfl)
    fun m t ih => (fees_Exp.l3_0.round n (loopOf (roundOf (fees_Exp.C n) (fees_Exp.A n) n fees_Exp.b0) m) t.1 t.2.1 t.2.2.1 t.2.2.2).trans (congrFun (congrFun (congrFun (congrFun (congrArg (fees_Exp.l3_0.r (fun a0 => ((Prod.mk (.exit 0) (St.mk [(.int .u64 a0)] [])) : Ex × St)) n) (funext fun y0 => funext fun y1 => funext fun y2 => funext fun y3 => ih (y0, y1, y2, y3))) t.1) t.2.1) t.2.2.1) t.2.2.2)
theorem fees_Exp.l3_0.loop (n m : Nat) (t : (Int × (Int × (Int × (List Int))))) : loopOf (roundOf (fees_Exp.C n) (fees_Exp.A n) n fees_Exp.b0) m (fees_Exp.l3_0.shape t) = (fees_Exp.l3_0.m n m t).map fees_Exp.l3_0.res :=
  (fees_Exp.l3_0.loop' n m t).trans (fees_Exp.l3_0.gmap fees_Exp.l3_0.res (fun a0 => a0) n m t.1 t.2.1 t.2.2.1 t.2.2.2)
theorem fees_Exp.gmap {α β : Type} (h : β → α) (mk0 : Int → β) (n : Nat) (a0 : (List Int)) : fees_Exp.g (fun a0 => (h (mk0 a0))) n a0 = (fees_Exp.g mk0 n a0).map h := by
  unfold fees_Exp.g
  exact (bindO_map fun r2 => (bindO_map fun r4 => rfl))
theorem fees_Exp.run (n : Nat) (a0 : (List Int)) : runF (fees_Exp.C n) (fees_Exp.A n) n Try.f33 [(.ints .u64 4 a0)] [] (fun v o => some (v, o)) = fees_Exp.g (fun a0 => ((Prod.mk (.int .u64 a0) []) : AV × Blks)) n a0 := by kernel_rfl
theorem fees_Exp.call (hmix : Try.prog.follows .mixedOrders = true) (n : Nat) (t : (List Int)) (u) (h : fees_Exp.m n t = some u) : FnC Try.prog (fun _ => .any) 33 (fees_Exp.shape t).1 (fees_Exp.shape t).2 (fees_Exp.res u).1 (fees_Exp.res u).2 := by
  have hg : ∀ f m, (fees_Exp.C n).Γ f = some m → CalleeS Try.prog (fun _ => .any) f m := by
    intro f m hm
    unfold fees_Exp.C at hm
    simp only at hm
    first
    | (cases hm; done)
    | (split at hm <;> first
    | (cases hm; exact word_Bytes.s hmix n)
    | (cases hm; done))
  have hb : Try.f33.body = some (Try.f33.body.getD .skip) := by kernel_rfl
  refine runF_calls (C := fees_Exp.C n) (A := fees_Exp.A n) (n := n) (fn := Try.f33) hg hmix Try.func33 hb ?_ ?_ (by decide) rfl rfl (by show 1 ≤ Try.f33.ntmps; decide) ?_
  · rw [show loopsIn (Try.f33.body.getD .skip) = [fees_Exp.b0] by kernel_rfl]
    intro b hb m hm
    simp only [List.mem_cons, List.not_mem_nil, or_false] at hb
    rcases hb with rfl
    · have e : (fees_Exp.A n).loop (key fees_Exp.b0) = some (.mk' fees_Exp.l3_0.pat (fees_Exp.l3_0.m n n) fees_Exp.l3_0.resK) := by rw [show key fees_Exp.b0 = 3 by kernel_rfl]; rfl
      rw [e] at hm
      cases hm
      exact LoopS.of (res := fees_Exp.l3_0.res) (fun R u K => rfl) fees_Exp.l3_0.pat_shape fun t => fees_Exp.l3_0.loop n n t
  · intro a ha m hm
    have hm' := lookJ_mem (show lookJ [] (jkey a) = some m from hm)
    simp only [List.mem_cons, List.not_mem_nil, or_false, Prod.mk.injEq] at hm'

  · rw [show runF (fees_Exp.C n) (fees_Exp.A n) n Try.f33 (fees_Exp.shape t).1 (fees_Exp.shape t).2 (fun v o => some (v, o)) = _ from fees_Exp.run n t]
    have e := fees_Exp.gmap fees_Exp.res (fun a0 => a0) n t
    unfold fees_Exp.m at h
    rw [h] at e
    exact e
theorem fees_Exp.ok (hmix : Try.prog.follows .mixedOrders = true) (n : Nat) (t : (List Int)) (u) (h : fees_Exp.m n t = some u) : FnOK Try.prog (fun _ => .any) 33 (fees_Exp.shape t).1 (fees_Exp.shape t).2 (fees_Exp.res u).1 (fees_Exp.res u).2 :=
  (fees_Exp.call hmix n t u h).ok Try.func33 (by decide) (by kernel_rfl)
theorem fees_Exp.s (hmix : Try.prog.follows .mixedOrders = true) (n : Nat) : CalleeS Try.prog (fun _ => .any) 33 (fees_Exp.c n) :=
  CalleeS.of (res := fees_Exp.res) (shape := fees_Exp.shape) (fun R u K => rfl) (fun args lent t h => by
    unfold fees_Exp.pat at h
    split at h
    · cases h; rfl
    · cases h) fun t u h => fees_Exp.ok hmix n t u h
end

section
set_option linter.unusedVariables false
set_option linter.unusedSimpArgs false
set_option maxRecDepth 100000
open Go Go.Abs Go.Proofs
noncomputable section
/-! q01_Bytes -/
noncomputable def q01_Bytes.C (n : Nat) : Ctx := ⟨Try.prog, (fun _ => .any), fun f => match f with
  | _ => none⟩
def q01_Bytes.live : Nat → List Nat × List Nat := fun k => match k with
  | 3 => ([4, 3, 1], [3])
  | _ => ([], [])
def q01_Bytes.jlive : Nat → List Nat × List Nat := fun k => match k with
  | _ => ([], [])
def q01_Bytes.l3_0.r {α : Type} (mk0 : (List Int) → α) (n : Nat) (rc : Int → (List Int) → (List Int) → Option α)  (x0 : Int) (x1 : (List Int)) (x2 : (List Int)) : Option α :=
    if (decide (x0 < 32)) = true then
      if 0 ≤ (Go.IntKind.wrap .i64 (Int.tdiv (Go.IntKind.wrap .i64 (31 - x0)) 8)) then
        if (Go.IntKind.wrap .i64 (Int.tdiv (Go.IntKind.wrap .i64 (31 - x0)) 8)) < 4 then
          if 0 ≤ (Go.IntKind.wrap .u64 (Go.IntKind.wrap .i64 ((Int.tmod (Go.IntKind.wrap .i64 (31 - x0)) 8) * 8))) then
            if ((((List.length x1) + 1) * 1) ≤ 70368744177664 ∧ ((List.length x1) + 1) ≤ 9223372036854775807) then
              rc (Go.IntKind.wrap .i64 (x0 + 1)) (x1 ++ [(Go.IntKind.wrap .u8 (Go.Abs.ishr .u64 (List.getD x2 (Int.toNat (Go.IntKind.wrap .i64 (Int.tdiv (Go.IntKind.wrap .i64 (31 - x0)) 8))) 0) (Go.IntKind.wrap .u64 (Go.IntKind.wrap .i64 ((Int.tmod (Go.IntKind.wrap .i64 (31 - x0)) 8) * 8)))))]) x2
            else
              none
          else
            none
        else
          none
      else
        none
    else
      some (mk0 x1)
def q01_Bytes.l3_0.g {α : Type} (mk0 : (List Int) → α) (n : Nat) : Nat → Int → (List Int) → (List Int) → Option α
  | 0, _, _, _ => none
  | m + 1, x0, x1, x2 => q01_Bytes.l3_0.r mk0 n (fun y0 y1 y2 => q01_Bytes.l3_0.g mk0 n m y0 y1 y2)  x0 x1 x2
def q01_Bytes.l3_0.m (n m : Nat) (t : (Int × ((List Int) × (List Int)))) : Option (List Int) := q01_Bytes.l3_0.g (fun a0 => a0) n m t.1 t.2.1 t.2.2
def q01_Bytes.l3_0.pat : St → Option (Int × ((List Int) × (List Int)))
  | (St.mk [(.int .i64 x0), (.own 0 1), (.ptr 1 [])] [(some (.ints .u8 x1)), (some (.var (.ints .u64 4 x2)))]) => some (x0, x1, x2)
  | _ => none
def q01_Bytes.l3_0.shape (t : (Int × ((List Int) × (List Int)))) : St := (St.mk [(.int .i64 t.1), (.own 0 1), (.ptr 1 [])] [(some (.ints .u8 t.2.1)), (some (.var (.ints .u64 4 t.2.2)))])
def q01_Bytes.l3_0.res : (List Int) → Ex × St
  | u => (Prod.mk (.exit 0) (St.mk [(.own 0 1)] [(some (.ints .u8 u))]))
def q01_Bytes.l3_0.resK {R : Type} (u : (List Int)) (K : Ex → St → Option R) : Option R := (fun p : Ex × St => K p.1 p.2) (Prod.mk (.exit 0) (St.mk [(.own 0 1)] [(some (.ints .u8 u))]))
noncomputable def q01_Bytes.A (n : Nat) : Ann := ⟨Try.f58.ntmps, 0, q01_Bytes.live, [(3, (.ints .u8))], [(some (.ints .u8))], fun k => match k with
  | 3 => some (.mk' q01_Bytes.l3_0.pat (q01_Bytes.l3_0.m n n) q01_Bytes.l3_0.resK)
  | _ => none, q01_Bytes.jlive, lookJ []⟩
noncomputable def q01_Bytes.b0 : Code := (loopsIn (Try.f58.body.getD .skip)).getD 0 .skip
def q01_Bytes.g {α : Type} (mk0 : (List Int) → α) (n : Nat) (a0 : (List Int)) : Option α :=
  bindO (q01_Bytes.l3_0.m n n (0, [], a0)) fun r2 =>
    some (mk0 r2)
def q01_Bytes.m (n : Nat) (t : (List Int)) : Option (List Int) := q01_Bytes.g (fun a0 => a0) n t
def q01_Bytes.pat : List AV → Blks → Option (List Int)
  | [(.ints .u64 4 a0)], [] => some a0
  | _, _ => none
def q01_Bytes.shape (t : (List Int)) : List AV × Blks := ([(.ints .u64 4 t)], [])
def q01_Bytes.res : (List Int) → AV × Blks
  | u => (Prod.mk (.own 0 1) [(some (.ints .u8 u))])
def q01_Bytes.resK {R : Type} (u : (List Int)) (K : AV → Blks → Option R) : Option R := (fun p : AV × Blks => K p.1 p.2) (Prod.mk (.own 0 1) [(some (.ints .u8 u))])
def q01_Bytes.c (n : Nat) : Abs.Callee := .mk' [] [none] q01_Bytes.pat (q01_Bytes.m n) q01_Bytes.resK
end
end

section
set_option linter.unusedVariables false
set_option linter.unusedSimpArgs false
set_option maxRecDepth 100000
open Go Go.Abs Go.Proofs
noncomputable section
/-! q09_Exp -/
noncomputable def q09_Exp.C (n : Nat) : Ctx := ⟨Try.prog, (fun _ => .any), fun f => match f with
  | 58 => some (q01_Bytes.c n)
  | _ => none⟩
def q09_Exp.live : Nat → List Nat × List Nat := fun k => match k with
  | 3 => ([4, 3], [4])
  | _ => ([], [])
def q09_Exp.jlive : Nat → List Nat × List Nat := fun k => match k with
  | _ => ([], [])
def q09_Exp.l3_0.r {α : Type} (mk0 : Int → α) (n : Nat) (rc : Int → (List Int) → Option α)  (x0 : Int) (x1 : (List Int)) : Option α :=
    if (decide (x0 > 0)) = true then
      if 0 ≤ (Go.IntKind.wrap .i64 (32 - x0)) then
        if (Go.IntKind.wrap .i64 (32 - x0)) < (((List.length x1) : Nat) : Int) then
          if ((List.getD x1 (Int.toNat (Go.IntKind.wrap .i64 (32 - x0))) 0) == 0) = true then
            rc (Go.IntKind.wrap .i64 (x0 - 1)) x1
          else
            some (mk0 x0)
        else
          none
      else
        none
    else
      some (mk0 x0)
def q09_Exp.l3_0.g {α : Type} (mk0 : Int → α) (n : Nat) : Nat → Int → (List Int) → Option α
  | 0, _, _ => none
  | m + 1, x0, x1 => q09_Exp.l3_0.r mk0 n (fun y0 y1 => q09_Exp.l3_0.g mk0 n m y0 y1)  x0 x1
def q09_Exp.l3_0.m (n m : Nat) (t : (Int × (List Int))) : Option Int := q09_Exp.l3_0.g (fun a0 => a0) n m t.1 t.2
def q09_Exp.l3_0.pat : St → Option (Int × (List Int))
  | (St.mk [(.int .i64 x0), (.own 0 1)] [(some (.ints .u8 x1))]) => some (x0, x1)
  | _ => none
def q09_Exp.l3_0.shape (t : (Int × (List Int))) : St := (St.mk [(.int .i64 t.1), (.own 0 1)] [(some (.ints .u8 t.2))])
def q09_Exp.l3_0.res : Int → Ex × St
  | u => (Prod.mk (.exit 0) (St.mk [(.int .i64 u)] []))
def q09_Exp.l3_0.resK {R : Type} (u : Int) (K : Ex → St → Option R) : Option R := (fun p : Ex × St => K p.1 p.2) (Prod.mk (.exit 0) (St.mk [(.int .i64 u)] []))
noncomputable def q09_Exp.A (n : Nat) : Ann := ⟨Try.f34.ntmps, 0, q09_Exp.live, [(3, (.ints .u8))], [none], fun k => match k with
  | 3 => some (.mk' q09_Exp.l3_0.pat (q09_Exp.l3_0.m n n) q09_Exp.l3_0.resK)
  | _ => none, q09_Exp.jlive, lookJ []⟩
noncomputable def q09_Exp.b0 : Code := (loopsIn (Try.f34.body.getD .skip)).getD 0 .skip
def q09_Exp.g {α : Type} (mk0 : Int → α) (n : Nat) (a0 : (List Int)) : Option α :=
  bindO (q01_Bytes.m n a0) fun r2 =>
    bindO (q09_Exp.l3_0.m n n (32, r2)) fun r4 =>
      some (mk0 (Go.IntKind.wrap .u64 (50 * (Go.IntKind.wrap .u64 r4))))
def q09_Exp.m (n : Nat) (t : (List Int)) : Option Int := q09_Exp.g (fun a0 => a0) n t
def q09_Exp.pat : List AV → Blks → Option (List Int)
  | [(.ints .u64 4 a0)], [] => some a0
  | _, _ => none
def q09_Exp.shape (t : (List Int)) : List AV × Blks := ([(.ints .u64 4 t)], [])
def q09_Exp.res : Int → AV × Blks
  | u => (Prod.mk (.int .u64 u) [])
def q09_Exp.resK {R : Type} (u : Int) (K : AV → Blks → Option R) : Option R := (fun p : AV × Blks => K p.1 p.2) (Prod.mk (.int .u64 u) [])
def q09_Exp.c (n : Nat) : Abs.Callee := .mk' [] [none] q09_Exp.pat (q09_Exp.m n) q09_Exp.resK
end
end

section
set_option linter.unusedVariables false
set_option linter.unusedSimpArgs false
set_option maxRecDepth 100000
open Go Go.Abs Go.Proofs
/-! q01_Bytes -/
theorem q01_Bytes.l3_0.rmap {α β : Type} (h : β → α) (mk0 : (List Int) → β) (n : Nat) (f : Int → (List Int) → (List Int) → Option β)  (x0 : Int) (x1 : (List Int)) (x2 : (List Int)) : q01_Bytes.l3_0.r (fun a0 => (h (mk0 a0))) n (fun y0 y1 y2 => (f y0 y1 y2).map h) x0 x1 x2 = (q01_Bytes.l3_0.r mk0 n f x0 x1 x2).map h := by
  unfold q01_Bytes.l3_0.r
  exact (ite_map (ite_map (ite_map (ite_map (ite_map rfl rfl) rfl) rfl) rfl) rfl)
theorem q01_Bytes.l3_0.gmap {α β : Type} (h : β → α) (mk0 : (List Int) → β) (n : Nat) : ∀ (m : Nat) (x0 : Int) (x1 : (List Int)) (x2 : (List Int)), q01_Bytes.l3_0.g (fun a0 => (h (mk0 a0))) n m x0 x1 x2 = (q01_Bytes.l3_0.g mk0 n m x0 x1 x2).map h
  | 0, _, _, _ => rfl
  | m + 1, x0, x1, x2 => by
    unfold q01_Bytes.l3_0.g
    rw [← q01_Bytes.l3_0.rmap]
    congr
    · funext y0 y1 y2; exact q01_Bytes.l3_0.gmap h mk0 n m y0 y1 y2
theorem q01_Bytes.l3_0.pat_shape : ∀ st t, q01_Bytes.l3_0.pat st = some t → st = q01_Bytes.l3_0.shape t := by
  intro st t h
  unfold q01_Bytes.l3_0.pat at h
  split at h
  · cases h; rfl
  · cases h
theorem q01_Bytes.l3_0.round (n : Nat) (rc : St → Option (Ex × St)) (x0 : Int) (x1 : (List Int)) (x2 : (List Int)) : roundOf (q01_Bytes.C n) (q01_Bytes.A n) n q01_Bytes.b0 rc ((St.mk [(.int .i64 x0), (.own 0 1), (.ptr 1 [])] [(some (.ints .u8 x1)), (some (.var (.ints .u64 4 x2)))])) = q01_Bytes.l3_0.r (fun a0 => ((Prod.mk (.exit 0) (St.mk [(.own 0 1)] [(some (.ints .u8 a0))])) : Ex × St)) n (fun y0 y1 y2 => rc ((St.mk [(.int .i64 y0), (.own 0 1), (.ptr 1 [])] [(some (.ints .u8 y1)), (some (.var (.ints .u64 4 y2)))]))) x0 x1 x2 := by kernel_rfl
theorem q01_Bytes.l3_0.loop' (n : Nat) : ∀ (m : Nat) (t : (Int × ((List Int) × (List Int)))), loopOf (roundOf (q01_Bytes.C n) (q01_Bytes.A n) n q01_Bytes.b0) m (q01_Bytes.l3_0.shape t) = q01_Bytes.l3_0.g (fun a0 => ((Prod.mk (.exit 0) (St.mk [(.own 0 1)] [(some (.ints .u8 a0))])) : Ex × St)) n m t.1 t.2.1 t.2.2 :=
  loop_of_round (shape := q01_Bytes.l3_0.shape) (body := roundOf (q01_Bytes.C n) (q01_Bytes.A n) n q01_Bytes.b0) (g := fun m t => q01_Bytes.l3_0.g (fun a0 => ((Prod.mk (.exit 0) (St.mk [(.own 0 1)] [(some (.ints .u8 a0))])) : Ex × St)) n m t.1 t.2.1 t.2.2) (fun t => rfl)
    fun m t ih => (q01_Bytes.l3_0.round n (loopOf (roundOf (q01_Bytes.C n) (q01_Bytes.A n) n q01_Bytes.b0) m) t.1 t.2.1 t.2.2).trans (congrFun (congrFun (congrFun (congrArg (q01_Bytes.l3_0.r (fun a0 => ((Prod.mk (.exit 0) (St.mk [(.own 0 1)] [(some (.ints .u8 a0))])) : Ex × St)) n) (funext fun y0 => funext fun y1 => funext fun y2 => ih (y0, y1, y2))) t.1) t.2.1) t.2.2)
theorem q01_Bytes.l3_0.loop (n m : Nat) (t : (Int × ((List Int) × (List Int)))) : loopOf (roundOf (q01_Bytes.C n) (q01_Bytes.A n) n q01_Bytes.b0) m (q01_Bytes.l3_0.shape t) = (q01_Bytes.l3_0.m n m t).map q01_Bytes.l3_0.res :=
  (q01_Bytes.l3_0.loop' n m t).trans (q01_Bytes.l3_0.gmap q01_Bytes.l3_0.res (fun a0 => a0) n m t.1 t.2.1 t.2.2)
theorem q01_Bytes.gmap {α β : Type} (h : β → α) (mk0 : (List Int) → β) (n : Nat) (a0 : (List Int)) : q01_Bytes.g (fun a0 => (h (mk0 a0))) n a0 = (q01_Bytes.g mk0 n a0).map h := by
  unfold q01_Bytes.g
  exact (bindO_map fun r2 => rfl)
theorem q01_Bytes.run (n : Nat) (a0 : (List Int)) : runF (q01_Bytes.C n) (q01_Bytes.A n) n Try.f58 [(.ints .u64 4 a0)] [] (fun v o => some (v, o)) = q01_Bytes.g (fun a0 => ((Prod.mk (.own 0 1) [(some (.ints .u8 a0))]) : AV × Blks)) n a0 := by kernel_rfl
theorem q01_Bytes.call (hmix : Try.prog.follows .mixedOrders = true) (n : Nat) (t : (List Int)) (u) (h : q01_Bytes.m n t = some u) : FnC Try.prog (fun _ => .any) 58 (q01_Bytes.shape t).1 (q01_Bytes.shape t).2 (q01_Bytes.res u).1 (q01_Bytes.res u).2 := by
  have hg : ∀ f m, (q01_Bytes.C n).Γ f = some m → CalleeS Try.prog (fun _ => .any) f m := by
    intro f m hm
    unfold q01_Bytes.C at hm
    simp only at hm
    first
    | (cases hm; done)
    | (split at hm <;> first
    | (cases hm; done))
  have hb : Try.f58.body = some (Try.f58.body.getD .skip) := by kernel_rfl
  refine runF_calls (C := q01_Bytes.C n) (A := q01_Bytes.A n) (n := n) (fn := Try.f58) hg hmix Try.func58 hb ?_ ?_ (by decide) rfl rfl (by show 1 ≤ Try.f58.ntmps; decide) ?_
  · rw [show loopsIn (Try.f58.body.getD .skip) = [q01_Bytes.b0] by kernel_rfl]
    intro b hb m hm
    simp only [List.mem_cons, List.not_mem_nil, or_false] at hb
    rcases hb with rfl
    · have e : (q01_Bytes.A n).loop (key q01_Bytes.b0) = some (.mk' q01_Bytes.l3_0.pat (q01_Bytes.l3_0.m n n) q01_Bytes.l3_0.resK) := by rw [show key q01_Bytes.b0 = 3 by kernel_rfl]; rfl
      rw [e] at hm
      cases hm
      exact LoopS.of (res := q01_Bytes.l3_0.res) (fun R u K => rfl) q01_Bytes.l3_0.pat_shape fun t => q01_Bytes.l3_0.loop n n t
  · intro a ha m hm
    have hm' := lookJ_mem (show lookJ [] (jkey a) = some m from hm)
    simp only [List.mem_cons, List.not_mem_nil, or_false, Prod.mk.injEq] at hm'

  · rw [show runF (q01_Bytes.C n) (q01_Bytes.A n) n Try.f58 (q01_Bytes.shape t).1 (q01_Bytes.shape t).2 (fun v o => some (v, o)) = _ from q01_Bytes.run n t]
    have e := q01_Bytes.gmap q01_Bytes.res (fun a0 => a0) n t
    unfold q01_Bytes.m at h
    rw [h] at e
    exact e
theorem q01_Bytes.ok (hmix : Try.prog.follows .mixedOrders = true) (n : Nat) (t : (List Int)) (u) (h : q01_Bytes.m n t = some u) : FnOK Try.prog (fun _ => .any) 58 (q01_Bytes.shape t).1 (q01_Bytes.shape t).2 (q01_Bytes.res u).1 (q01_Bytes.res u).2 :=
  (q01_Bytes.call hmix n t u h).ok Try.func58 (by decide) (by kernel_rfl)
theorem q01_Bytes.s (hmix : Try.prog.follows .mixedOrders = true) (n : Nat) : CalleeS Try.prog (fun _ => .any) 58 (q01_Bytes.c n) :=
  CalleeS.of (res := q01_Bytes.res) (shape := q01_Bytes.shape) (fun R u K => rfl) (fun args lent t h => by
    unfold q01_Bytes.pat at h
    split at h
    · cases h; rfl
    · cases h) fun t u h => q01_Bytes.ok hmix n t u h
end

section
set_option linter.unusedVariables false
set_option linter.unusedSimpArgs false
set_option maxRecDepth 100000
open Go Go.Abs Go.Proofs
/-! q09_Exp -/
theorem q09_Exp.l3_0.rmap {α β : Type} (h : β → α) (mk0 : Int → β) (n : Nat) (f : Int → (List Int) → Option β)  (x0 : Int) (x1 : (List Int)) : q09_Exp.l3_0.r (fun a0 => (h (mk0 a0))) n (fun y0 y1 => (f y0 y1).map h) x0 x1 = (q09_Exp.l3_0.r mk0 n f x0 x1).map h := by
  unfold q09_Exp.l3_0.r
  exact (ite_map (ite_map (ite_map (ite_map rfl rfl) rfl) rfl) rfl)
theorem q09_Exp.l3_0.gmap {α β : Type} (h : β → α) (mk0 : Int → β) (n : Nat) : ∀ (m : Nat) (x0 : Int) (x1 : (List Int)), q09_Exp.l3_0.g (fun a0 => (h (mk0 a0))) n m x0 x1 = (q09_Exp.l3_0.g mk0 n m x0 x1).map h
  | 0, _, _ => rfl
  | m + 1, x0, x1 => by
    unfold q09_Exp.l3_0.g
    rw [← q09_Exp.l3_0.rmap]
    congr
    · funext y0 y1; exact q09_Exp.l3_0.gmap h mk0 n m y0 y1
theorem q09_Exp.l3_0.pat_shape : ∀ st t, q09_Exp.l3_0.pat st = some t → st = q09_Exp.l3_0.shape t := by
  intro st t h
  unfold q09_Exp.l3_0.pat at h
  split at h
  · cases h; rfl
  · cases h
theorem q09_Exp.l3_0.round (n : Nat) (rc : St → Option (Ex × St)) (x0 : Int) (x1 : (List Int)) : roundOf (q09_Exp.C n) (q09_Exp.A n) n q09_Exp.b0 rc ((St.mk [(.int .i64 x0), (.own 0 1)] [(some (.ints .u8 x1))])) = q09_Exp.l3_0.r (fun a0 => ((Prod.mk (.exit 0) (St.mk [(.int .i64 a0)] [])) : Ex × St)) n (fun y0 y1 => rc ((St.mk [(.int .i64 y0), (.own 0 1)] [(some (.ints .u8 y1))]))) x0 x1 := by kernel_rfl
theorem q09_Exp.l3_0.loop' (n : Nat) : ∀ (m : Nat) (t : (Int × (List Int))), loopOf (roundOf (q09_Exp.C n) (q09_Exp.A n) n q09_Exp.b0) m (q09_Exp.l3_0.shape t) = q09_Exp.l3_0.g (fun a0 => ((Prod.mk (.exit 0) (St.mk [(.int .i64 a0)] [])) : Ex × St)) n m t.1 t.2 :=
  loop_of_round (shape := q09_Exp.l3_0.shape) (body := roundOf (q09_Exp.C n) (q09_Exp.A n) n q09_Exp.b0) (g := fun m t => q09_Exp.l3_0.g (fun a0 => ((Prod.mk (.exit 0) (St.mk [(.int .i64 a0)] [])) : Ex × St)) n m t.1 t.2) (fun t => rfl)
    fun m t ih => (q09_Exp.l3_0.round n (loopOf (roundOf (q09_Exp.C n) (q09_Exp.A n) n q09_Exp.b0) m) t.1 t.2).trans (congrFun (congrFun (congrArg (q09_Exp.l3_0.r (fun a0 => ((Prod.mk (.exit 0) (St.mk [(.int .i64 a0)] [])) : Ex × St)) n) (funext fun y0 => funext fun y1 => ih (y0, y1))) t.1) t.2)
theorem q09_Exp.l3_0.loop (n m : Nat) (t : (Int × (List Int))) : loopOf (roundOf (q09_Exp.C n) (q09_Exp.A n) n q09_Exp.b0) m (q09_Exp.l3_0.shape t) = (q09_Exp.l3_0.m n m t).map q09_Exp.l3_0.res :=
  (q09_Exp.l3_0.loop' n m t).trans (q09_Exp.l3_0.gmap q09_Exp.l3_0.res (fun a0 => a0) n m t.1 t.2)
theorem q09_Exp.gmap {α β : Type} (h : β → α) (mk0 : Int → β) (n : Nat) (a0 : (List Int)) : q09_Exp.g (fun a0 => (h (mk0 a0))) n a0 = (q09_Exp.g mk0 n a0).map h := by
  unfold q09_Exp.g
  exact (bindO_map fun r2 => (bindO_map fun r4 => rfl))
theorem q09_Exp.run (n : Nat) (a0 : (List Int)) : runF (q09_Exp.C n) (q09_Exp.A n) n Try.f34 [(.ints .u64 4 a0)] [] (fun v o => some (v, o)) = q09_Exp.g (fun a0 => ((Prod.mk (.int .u64 a0) []) : AV × Blks)) n a0 := by kernel_rfl
theorem q09_Exp.call (hmix : Try.prog.follows .mixedOrders = true) (n : Nat) (t : (List Int)) (u) (h : q09_Exp.m n t = some u) : FnC Try.prog (fun _ => .any) 34 (q09_Exp.shape t).1 (q09_Exp.shape t).2 (q09_Exp.res u).1 (q09_Exp.res u).2 := by
  have hg : ∀ f m, (q09_Exp.C n).Γ f = some m → CalleeS Try.prog (fun _ => .any) f m := by
    intro f m hm
    unfold q09_Exp.C at hm
    simp only at hm
    first
    | (cases hm; done)
    | (split at hm <;> first
    | (cases hm; exact q01_Bytes.s hmix n)
    | (cases hm; done))
  have hb : Try.f34.body = some (Try.f34.body.getD .skip) := by kernel_rfl
  refine runF_calls (C := q09_Exp.C n) (A := q09_Exp.A n) (n := n) (fn := Try.f34) hg hmix Try.func34 hb ?_ ?_ (by decide) rfl rfl (by show 1 ≤ Try.f34.ntmps; decide) ?_
  · rw [show loopsIn (Try.f34.body.getD .skip) = [q09_Exp.b0] by kernel_rfl]
    intro b hb m hm
    simp only [List.mem_cons, List.not_mem_nil, or_false] at hb
    rcases hb with rfl
    · have e : (q09_Exp.A n).loop (key q09_Exp.b0) = some (.mk' q09_Exp.l3_0.pat (q09_Exp.l3_0.m n n) q09_Exp.l3_0.resK) := by rw [show key q09_Exp.b0 = 3 by kernel_rfl]; rfl
      rw [e] at hm
      cases hm
      exact LoopS.of (res := q09_Exp.l3_0.res) (fun R u K => rfl) q09_Exp.l3_0.pat_shape fun t => q09_Exp.l3_0.loop n n t
  · intro a ha m hm
    have hm' := lookJ_mem (show lookJ [] (jkey a) = some m from hm)
    simp only [List.mem_cons, List.not_mem_nil, or_false, Prod.mk.injEq] at hm'

  · rw [show runF (q09_Exp.C n) (q09_Exp.A n) n Try.f34 (q09_Exp.shape t).1 (q09_Exp.shape t).2 (fun v o => some (v, o)) = _ from q09_Exp.run n t]
    have e := q09_Exp.gmap q09_Exp.res (fun a0 => a0) n t
    unfold q09_Exp.m at h
    rw [h] at e
    exact e
theorem q09_Exp.ok (hmix : Try.prog.follows .mixedOrders = true) (n : Nat) (t : (List Int)) (u) (h : q09_Exp.m n t = some u) : FnOK Try.prog (fun _ => .any) 34 (q09_Exp.shape t).1 (q09_Exp.shape t).2 (q09_Exp.res u).1 (q09_Exp.res u).2 :=
  (q09_Exp.call hmix n t u h).ok Try.func34 (by decide) (by kernel_rfl)
theorem q09_Exp.s (hmix : Try.prog.follows .mixedOrders = true) (n : Nat) : CalleeS Try.prog (fun _ => .any) 34 (q09_Exp.c n) :=
  CalleeS.of (res := q09_Exp.res) (shape := q09_Exp.shape) (fun R u K => rfl) (fun args lent t h => by
    unfold q09_Exp.pat at h
    split at h
    · cases h; rfl
    · cases h) fun t u h => q09_Exp.ok hmix n t u h
end

section
set_option linter.unusedVariables false
set_option linter.unusedSimpArgs false
set_option maxRecDepth 100000
open Go Go.Abs Go.Proofs
noncomputable section
/-! fees_Words -/
noncomputable def fees_Words.C (n : Nat) : Ctx := ⟨Try.prog, (fun _ => .any), fun f => match f with
  | _ => none⟩
def fees_Words.live : Nat → List Nat × List Nat := fun k => match k with
  | _ => ([], [])
def fees_Words.jlive : Nat → List Nat × List Nat := fun k => match k with
  | _ => ([], [])
noncomputable def fees_Words.A (n : Nat) : Ann := ⟨Try.f35.ntmps, 0, fees_Words.live, [], [none], fun k => match k with
  | _ => none, fees_Words.jlive, lookJ []⟩
def fees_Words.g {α : Type} (mk0 : Int → α) (n : Nat) (a0 : Int) : Option α :=
  some (mk0 (Go.IntKind.wrap .u64 ((Go.Abs.ishr .u64 a0 5) + (if 1 < (Go.Abs.ibits Go.BinOp.and .u64 a0 31) then 1 else (Go.Abs.ibits Go.BinOp.and .u64 a0 31)))))
def fees_Words.m (n : Nat) (t : Int) : Option Int := fees_Words.g (fun a0 => a0) n t
def fees_Words.pat : List AV → Blks → Option Int
  | [(.int .u64 a0)], [] => some a0
  | _, _ => none
def fees_Words.shape (t : Int) : List AV × Blks := ([(.int .u64 t)], [])
def fees_Words.res : Int → AV × Blks
  | u => (Prod.mk (.int .u64 u) [])
def fees_Words.resK {R : Type} (u : Int) (K : AV → Blks → Option R) : Option R := (fun p : AV × Blks => K p.1 p.2) (Prod.mk (.int .u64 u) [])
def fees_Words.c (n : Nat) : Abs.Callee := .mk' [] [none] fees_Words.pat (fees_Words.m n) fees_Words.resK
end
end

section
set_option linter.unusedVariables false
set_option linter.unusedSimpArgs false
set_option maxRecDepth 100000
open Go Go.Abs Go.Proofs
/-! fees_Words -/
theorem fees_Words.gmap {α β : Type} (h : β → α) (mk0 : Int → β) (n : Nat) (a0 : Int) : fees_Words.g (fun a0 => (h (mk0 a0))) n a0 = (fees_Words.g mk0 n a0).map h := by
  unfold fees_Words.g
  exact rfl
theorem fees_Words.run (n : Nat) (a0 : Int) : runF (fees_Words.C n) (fees_Words.A n) n Try.f35 [(.int .u64 a0)] [] (fun v o => some (v, o)) = fees_Words.g (fun a0 => ((Prod.mk (.int .u64 a0) []) : AV × Blks)) n a0 := by kernel_rfl
theorem fees_Words.call (hmix : Try.prog.follows .mixedOrders = true) (n : Nat) (t : Int) (u) (h : fees_Words.m n t = some u) : FnC Try.prog (fun _ => .any) 35 (fees_Words.shape t).1 (fees_Words.shape t).2 (fees_Words.res u).1 (fees_Words.res u).2 := by
  have hg : ∀ f m, (fees_Words.C n).Γ f = some m → CalleeS Try.prog (fun _ => .any) f m := by
    intro f m hm
    unfold fees_Words.C at hm
    simp only at hm
    first
    | (cases hm; done)
    | (split at hm <;> first
    | (cases hm; done))
  have hb : Try.f35.body = some (Try.f35.body.getD .skip) := by kernel_rfl
  refine runF_calls (C := fees_Words.C n) (A := fees_Words.A n) (n := n) (fn := Try.f35) hg hmix Try.func35 hb ?_ ?_ (by decide) rfl rfl (by show 1 ≤ Try.f35.ntmps; decide) ?_
  · rw [show loopsIn (Try.f35.body.getD .skip) = [] by kernel_rfl]
    intro b hb m hm
    simp only [List.mem_cons, List.not_mem_nil, or_false] at hb

  · intro a ha m hm
    have hm' := lookJ_mem (show lookJ [] (jkey a) = some m from hm)
    simp only [List.mem_cons, List.not_mem_nil, or_false, Prod.mk.injEq] at hm'

  · rw [show runF (fees_Words.C n) (fees_Words.A n) n Try.f35 (fees_Words.shape t).1 (fees_Words.shape t).2 (fun v o => some (v, o)) = _ from fees_Words.run n t]
    have e := fees_Words.gmap fees_Words.res (fun a0 => a0) n t
    unfold fees_Words.m at h
    rw [h] at e
    exact e
theorem fees_Words.ok (hmix : Try.prog.follows .mixedOrders = true) (n : Nat) (t : Int) (u) (h : fees_Words.m n t = some u) : FnOK Try.prog (fun _ => .any) 35 (fees_Words.shape t).1 (fees_Words.shape t).2 (fees_Words.res u).1 (fees_Words.res u).2 :=
  (fees_Words.call hmix n t u h).ok Try.func35 (by decide) (by kernel_rfl)
theorem fees_Words.s (hmix : Try.prog.follows .mixedOrders = true) (n : Nat) : CalleeS Try.prog (fun _ => .any) 35 (fees_Words.c n) :=
  CalleeS.of (res := fees_Words.res) (shape := fees_Words.shape) (fun R u K => rfl) (fun args lent t h => by
    unfold fees_Words.pat at h
    split at h
    · cases h; rfl
    · cases h) fun t u h => fees_Words.ok hmix n t u h
end

section
set_option linter.unusedVariables false
set_option linter.unusedSimpArgs false
set_option maxRecDepth 100000
open Go Go.Abs Go.Proofs
noncomputable section
/-! q09_Words -/
noncomputable def q09_Words.C (n : Nat) : Ctx := ⟨Try.prog, (fun _ => .any), fun f => match f with
  | _ => none⟩
def q09_Words.live : Nat → List Nat × List Nat := fun k => match k with
  | _ => ([], [])
def q09_Words.jlive : Nat → List Nat × List Nat := fun k => match k with
  | _ => ([], [])
noncomputable def q09_Words.A (n : Nat) : Ann := ⟨Try.f36.ntmps, 0, q09_Words.live, [], [none], fun k => match k with
  | _ => none, q09_Words.jlive, lookJ []⟩
def q09_Words.g {α : Type} (mk0 : Int → α) (n : Nat) (a0 : Int) : Option α :=
  if ((Int.tmod a0 32) != 0) = true then
    some (mk0 (Go.IntKind.wrap .u64 ((Go.IntKind.wrap .u64 (Int.tdiv a0 32)) + 1)))
  else
    some (mk0 (Go.IntKind.wrap .u64 (Int.tdiv a0 32)))
def q09_Words.m (n : Nat) (t : Int) : Option Int := q09_Words.g (fun a0 => a0) n t
def q09_Words.pat : List AV → Blks → Option Int
  | [(.int .u64 a0)], [] => some a0
  | _, _ => none
def q09_Words.shape (t : Int) : List AV × Blks := ([(.int .u64 t)], [])
def q09_Words.res : Int → AV × Blks
  | u => (Prod.mk (.int .u64 u) [])
def q09_Words.resK {R : Type} (u : Int) (K : AV → Blks → Option R) : Option R := (fun p : AV × Blks => K p.1 p.2) (Prod.mk (.int .u64 u) [])
def q09_Words.c (n : Nat) : Abs.Callee := .mk' [] [none] q09_Words.pat (q09_Words.m n) q09_Words.resK
end
end

section
set_option linter.unusedVariables false
set_option linter.unusedSimpArgs false
set_option maxRecDepth 100000
open Go Go.Abs Go.Proofs
/-! q09_Words -/
theorem q09_Words.gmap {α β : Type} (h : β → α) (mk0 : Int → β) (n : Nat) (a0 : Int) : q09_Words.g (fun a0 => (h (mk0 a0))) n a0 = (q09_Words.g mk0 n a0).map h := by
  unfold q09_Words.g
  exact (ite_map rfl rfl)
theorem q09_Words.run (n : Nat) (a0 : Int) : runF (q09_Words.C n) (q09_Words.A n) n Try.f36 [(.int .u64 a0)] [] (fun v o => some (v, o)) = q09_Words.g (fun a0 => ((Prod.mk (.int .u64 a0) []) : AV × Blks)) n a0 := by kernel_rfl
theorem q09_Words.call (hmix : Try.prog.follows .mixedOrders = true) (n : Nat) (t : Int) (u) (h : q09_Words.m n t = some u) : FnC Try.prog (fun _ => .any) 36 (q09_Words.shape t).1 (q09_Words.shape t).2 (q09_Words.res u).1 (q09_Words.res u).2 := by
  have hg : ∀ f m, (q09_Words.C n).Γ f = some m → CalleeS Try.prog (fun _ => .any) f m := by
    intro f m hm
    unfold q09_Words.C at hm
    simp only at hm
    first
    | (cases hm; done)
    | (split at hm <;> first
    | (cases hm; done))
  have hb : Try.f36.body = some (Try.f36.body.getD .skip) := by kernel_rfl
  refine runF_calls (C := q09_Words.C n) (A := q09_Words.A n) (n := n) (fn := Try.f36) hg hmix Try.func36 hb ?_ ?_ (by decide) rfl rfl (by show 1 ≤ Try.f36.ntmps; decide) ?_
  · rw [show loopsIn (Try.f36.body.getD .skip) = [] by kernel_rfl]
    intro b hb m hm
    simp only [List.mem_cons, List.not_mem_nil, or_false] at hb

  · intro a ha m hm
    have hm' := lookJ_mem (show lookJ [] (jkey a) = some m from hm)
    simp only [List.mem_cons, List.not_mem_nil, or_false, Prod.mk.injEq] at hm'

  · rw [show runF (q09_Words.C n) (q09_Words.A n) n Try.f36 (q09_Words.shape t).1 (q09_Words.shape t).2 (fun v o => some (v, o)) = _ from q09_Words.run n t]
    have e := q09_Words.gmap q09_Words.res (fun a0 => a0) n t
    unfold q09_Words.m at h
    rw [h] at e
    exact e
theorem q09_Words.ok (hmix : Try.prog.follows .mixedOrders = true) (n : Nat) (t : Int) (u) (h : q09_Words.m n t = some u) : FnOK Try.prog (fun _ => .any) 36 (q09_Words.shape t).1 (q09_Words.shape t).2 (q09_Words.res u).1 (q09_Words.res u).2 :=
  (q09_Words.call hmix n t u h).ok Try.func36 (by decide) (by kernel_rfl)
theorem q09_Words.s (hmix : Try.prog.follows .mixedOrders = true) (n : Nat) : CalleeS Try.prog (fun _ => .any) 36 (q09_Words.c n) :=
  CalleeS.of (res := q09_Words.res) (shape := q09_Words.shape) (fun R u K => rfl) (fun args lent t h => by
    unfold q09_Words.pat at h
    split at h
    · cases h; rfl
    · cases h) fun t u h => q09_Words.ok hmix n t u h
end

section
set_option linter.unusedVariables false
set_option linter.unusedSimpArgs false
set_option maxRecDepth 100000
open Go Go.Abs Go.Proofs
noncomputable section
/-! fees_Memory -/
noncomputable def fees_Memory.C (n : Nat) : Ctx := ⟨Try.prog, (fun _ => .any), fun f => match f with
  | 35 => some (fees_Words.c n)
  | _ => none⟩
def fees_Memory.live : Nat → List Nat × List Nat := fun k => match k with
  | _ => ([], [])
def fees_Memory.jlive : Nat → List Nat × List Nat := fun k => match k with
  | _ => ([], [])
noncomputable def fees_Memory.A (n : Nat) : Ann := ⟨Try.f37.ntmps, 0, fees_Memory.live, [], [none], fun k => match k with
  | _ => none, fees_Memory.jlive, lookJ []⟩
def fees_Memory.g {α : Type} (mk0 : Int → α) (n : Nat) (a0 : Int) : Option α :=
  if (decide (a0 > 4294967296)) = true then
    some (mk0 18446744073709551615)
  else
    bindO (fees_Words.m n a0) fun r4 =>
      some (mk0 (Go.IntKind.wrap .u64 ((Go.IntKind.wrap .u64 (3 * r4)) + (Go.Abs.ishr .u64 (Go.IntKind.wrap .u64 (r4 * r4)) 9))))
def fees_Memory.m (n : Nat) (t : Int) : Option Int := fees_Memory.g (fun a0 => a0) n t
def fees_Memory.pat : List AV → Blks → Option Int
  | [(.int .u64 a0)], [] => some a0
  | _, _ => none
def fees_Memory.shape (t : Int) : List AV × Blks := ([(.int .u64 t)], [])
def fees_Memory.res : Int → AV × Blks
  | u => (Prod.mk (.int .u64 u) [])
def fees_Memory.resK {R : Type} (u : Int) (K : AV → Blks → Option R) : Option R := (fun p : AV × Blks => K p.1 p.2) (Prod.mk (.int .u64 u) [])
def fees_Memory.c (n : Nat) : Abs.Callee := .mk' [] [none] fees_Memory.pat (fees_Memory.m n) fees_Memory.resK
end
end

section
set_option linter.unusedVariables false
set_option linter.unusedSimpArgs false
set_option maxRecDepth 100000
open Go Go.Abs Go.Proofs
/-! fees_Memory -/
theorem fees_Memory.gmap {α β : Type} (h : β → α) (mk0 : Int → β) (n : Nat) (a0 : Int) : fees_Memory.g (fun a0 => (h (mk0 a0))) n a0 = (fees_Memory.g mk0 n a0).map h := by
  unfold fees_Memory.g
  exact (ite_map rfl (bindO_map fun r4 => rfl))
theorem fees_Memory.run (n : Nat) (a0 : Int) : runF (fees_Memory.C n) (fees_Memory.A n) n Try.f37 [(.int .u64 a0)] [] (fun v o => some (v, o)) = fees_Memory.g (fun a0 => ((Prod.mk (.int .u64 a0) []) : AV × Blks)) n a0 := by kernel_rfl
theorem fees_Memory.call (hmix : Try.prog.follows .mixedOrders = true) (n : Nat) (t : Int) (u) (h : fees_Memory.m n t = some u) : FnC Try.prog (fun _ => .any) 37 (fees_Memory.shape t).1 (fees_Memory.shape t).2 (fees_Memory.res u).1 (fees_Memory.res u).2 := by
  have hg : ∀ f m, (fees_Memory.C n).Γ f = some m → CalleeS Try.prog (fun _ => .any) f m := by
    intro f m hm
    unfold fees_Memory.C at hm
    simp only at hm
    first
    | (cases hm; done)
    | (split at hm <;> first
    | (cases hm; exact fees_Words.s hmix n)
    | (cases hm; done))
  have hb : Try.f37.body = some (Try.f37.body.getD .skip) := by kernel_rfl
  refine runF_calls (C := fees_Memory.C n) (A := fees_Memory.A n) (n := n) (fn := Try.f37) hg hmix Try.func37 hb ?_ ?_ (by decide) rfl rfl (by show 1 ≤ Try.f37.ntmps; decide) ?_
  · rw [show loopsIn (Try.f37.body.getD .skip) = [] by kernel_rfl]
    intro b hb m hm
    simp only [List.mem_cons, List.not_mem_nil, or_false] at hb

  · intro a ha m hm
    have hm' := lookJ_mem (show lookJ [] (jkey a) = some m from hm)
    simp only [List.mem_cons, List.not_mem_nil, or_false, Prod.mk.injEq] at hm'

  · rw [show runF (fees_Memory.C n) (fees_Memory.A n) n Try.f37 (fees_Memory.shape t).1 (fees_Memory.shape t).2 (fun v o => some (v, o)) = _ from fees_Memory.run n t]
    have e := fees_Memory.gmap fees_Memory.res (fun a0 => a0) n t
    unfold fees_Memory.m at h
    rw [h] at e
    exact e
theorem fees_Memory.ok (hmix : Try.prog.follows .mixedOrders = true) (n : Nat) (t : Int) (u) (h : fees_Memory.m n t = some u) : FnOK Try.prog (fun _ => .any) 37 (fees_Memory.shape t).1 (fees_Memory.shape t).2 (fees_Memory.res u).1 (fees_Memory.res u).2 :=
  (fees_Memory.call hmix n t u h).ok Try.func37 (by decide) (by kernel_rfl)
theorem fees_Memory.s (hmix : Try.prog.follows .mixedOrders = true) (n : Nat) : CalleeS Try.prog (fun _ => .any) 37 (fees_Memory.c n) :=
  CalleeS.of (res := fees_Memory.res) (shape := fees_Memory.shape) (fun R u K => rfl) (fun args lent t h => by
    unfold fees_Memory.pat at h
    split at h
    · cases h; rfl
    · cases h) fun t u h => fees_Memory.ok hmix n t u h
end

section
set_option linter.unusedVariables false
set_option linter.unusedSimpArgs false
set_option maxRecDepth 100000
open Go Go.Abs Go.Proofs
noncomputable section
/-! q09_Memory -/
noncomputable def q09_Memory.C (n : Nat) : Ctx := ⟨Try.prog, (fun _ => .any), fun f => match f with
  | 36 => some (q09_Words.c n)
  | _ => none⟩
def q09_Memory.live : Nat → List Nat × List Nat := fun k => match k with
  | _ => ([], [])
def q09_Memory.jlive : Nat → List Nat × List Nat := fun k => match k with
  | _ => ([], [])
noncomputable def q09_Memory.A (n : Nat) : Ann := ⟨Try.f38.ntmps, 0, q09_Memory.live, [], [none], fun k => match k with
  | _ => none, q09_Memory.jlive, lookJ []⟩
def q09_Memory.g {α : Type} (mk0 : Int → α) (n : Nat) (a0 : Int) : Option α :=
  if (decide (a0 > 4294967296)) = true then
    some (mk0 18446744073709551615)
  else
    bindO (q09_Words.m n a0) fun r4 =>
      some (mk0 (Go.IntKind.wrap .u64 ((Go.IntKind.wrap .u64 (3 * r4)) + (Go.IntKind.wrap .u64 (Int.tdiv (Go.IntKind.wrap .u64 (r4 * r4)) 512)))))
def q09_Memory.m (n : Nat) (t : Int) : Option Int := q09_Memory.g (fun a0 => a0) n t
def q09_Memory.pat : List AV → Blks → Option Int
  | [(.int .u64 a0)], [] => some a0
  | _, _ => none
def q09_Memory.shape (t : Int) : List AV × Blks := ([(.int .u64 t)], [])
def q09_Memory.res : Int → AV × Blks
  | u => (Prod.mk (.int .u64 u) [])
def q09_Memory.resK {R : Type} (u : Int) (K : AV → Blks → Option R) : Option R := (fun p : AV × Blks => K p.1 p.2) (Prod.mk (.int .u64 u) [])
def q09_Memory.c (n : Nat) : Abs.Callee := .mk' [] [none] q09_Memory.pat (q09_Memory.m n) q09_Memory.resK
end
end

section
set_option linter.unusedVariables false
set_option linter.unusedSimpArgs false
set_option maxRecDepth 100000
open Go Go.Abs Go.Proofs
/-! q09_Memory -/
theorem q09_Memory.gmap {α β : Type} (h : β → α) (mk0 : Int → β) (n : Nat) (a0 : Int) : q09_Memory.g (fun a0 => (h (mk0 a0))) n a0 = (q09_Memory.g mk0 n a0).map h := by
  unfold q09_Memory.g
  exact (ite_map rfl (bindO_map fun r4 => rfl))
theorem q09_Memory.run (n : Nat) (a0 : Int) : runF (q09_Memory.C n) (q09_Memory.A n) n Try.f38 [(.int .u64 a0)] [] (fun v o => some (v, o)) = q09_Memory.g (fun a0 => ((Prod.mk (.int .u64 a0) []) : AV × Blks)) n a0 := by kernel_rfl
theorem q09_Memory.call (hmix : Try.prog.follows .mixedOrders = true) (n : Nat) (t : Int) (u) (h : q09_Memory.m n t = some u) : FnC Try.prog (fun _ => .any) 38 (q09_Memory.shape t).1 (q09_Memory.shape t).2 (q09_Memory.res u).1 (q09_Memory.res u).2 := by
  have hg : ∀ f m, (q09_Memory.C n).Γ f = some m → CalleeS Try.prog (fun _ => .any) f m := by
    intro f m hm
    unfold q09_Memory.C at hm
    simp only at hm
    first
    | (cases hm; done)
    | (split at hm <;> first
    | (cases hm; exact q09_Words.s hmix n)
    | (cases hm; done))
  have hb : Try.f38.body = some (Try.f38.body.getD .skip) := by kernel_rfl
  refine runF_calls (C := q09_Memory.C n) (A := q09_Memory.A n) (n := n) (fn := Try.f38) hg hmix Try.func38 hb ?_ ?_ (by decide) rfl rfl (by show 1 ≤ Try.f38.ntmps; decide) ?_
  · rw [show loopsIn (Try.f38.body.getD .skip) = [] by kernel_rfl]
    intro b hb m hm
    simp only [List.mem_cons, List.not_mem_nil, or_false] at hb

  · intro a ha m hm
    have hm' := lookJ_mem (show lookJ [] (jkey a) = some m from hm)
    simp only [List.mem_cons, List.not_mem_nil, or_false, Prod.mk.injEq] at hm'

  · rw [show runF (q09_Memory.C n) (q09_Memory.A n) n Try.f38 (q09_Memory.shape t).1 (q09_Memory.shape t).2 (fun v o => some (v, o)) = _ from q09_Memory.run n t]
    have e := q09_Memory.gmap q09_Memory.res (fun a0 => a0) n t
    unfold q09_Memory.m at h
    rw [h] at e
    exact e
theorem q09_Memory.ok (hmix : Try.prog.follows .mixedOrders = true) (n : Nat) (t : Int) (u) (h : q09_Memory.m n t = some u) : FnOK Try.prog (fun _ => .any) 38 (q09_Memory.shape t).1 (q09_Memory.shape t).2 (q09_Memory.res u).1 (q09_Memory.res u).2 :=
  (q09_Memory.call hmix n t u h).ok Try.func38 (by decide) (by kernel_rfl)
theorem q09_Memory.s (hmix : Try.prog.follows .mixedOrders = true) (n : Nat) : CalleeS Try.prog (fun _ => .any) 38 (q09_Memory.c n) :=
  CalleeS.of (res := q09_Memory.res) (shape := q09_Memory.shape) (fun R u K => rfl) (fun args lent t h => by
    unfold q09_Memory.pat at h
    split at h
    · cases h; rfl
    · cases h) fun t u h => q09_Memory.ok hmix n t u h
end

section
set_option linter.unusedVariables false
set_option linter.unusedSimpArgs false
set_option maxRecDepth 100000
open Go Go.Abs Go.Proofs
noncomputable section
/-! fees_back -/
noncomputable def fees_back.C (n : Nat) : Ctx := ⟨Try.prog, (fun _ => .any), fun f => match f with
  | _ => none⟩
def fees_back.live : Nat → List Nat × List Nat := fun k => match k with
  | _ => ([], [])
def fees_back.jlive : Nat → List Nat × List Nat := fun k => match k with
  | _ => ([], [])
noncomputable def fees_back.A (n : Nat) : Ann := ⟨Try.f59.ntmps, 0, fees_back.live, [], [none], fun k => match k with
  | _ => none, fees_back.jlive, lookJ []⟩
def fees_back.g {α : Type} (mk0 : Int → α) (n : Nat) (a0 : (List Int)) (a1 : (List Int)) (a2 : (List Int)) : Option α :=
  if (a1 == a0) = true then
    if (!(a0 == [0, 0, 0, 0])) = true then
      if (a2 == [0, 0, 0, 0]) = true then
        some (mk0 4800)
      else
        some (mk0 0)
    else
      some (mk0 0)
  else
    if (a0 == [0, 0, 0, 0]) = true then
      if (!(a2 == a0)) = true then
        some (mk0 0)
      else
        if (a0 == [0, 0, 0, 0]) = true then
          some (mk0 19900)
        else
          some (mk0 2800)
    else
      if (a1 == [0, 0, 0, 0]) = true then
        if (!(a2 == a0)) = true then
          some (mk0 (-4800))
        else
          if (a0 == [0, 0, 0, 0]) = true then
            some (mk0 15100)
          else
            some (mk0 (-2000))
      else
        if (a2 == [0, 0, 0, 0]) = true then
          if (!(a2 == a0)) = true then
            some (mk0 4800)
          else
            if (a0 == [0, 0, 0, 0]) = true then
              some (mk0 24700)
            else
              some (mk0 7600)
        else
          if (!(a2 == a0)) = true then
            some (mk0 0)
          else
            if (a0 == [0, 0, 0, 0]) = true then
              some (mk0 19900)
            else
              some (mk0 2800)
def fees_back.m (n : Nat) (t : ((List Int) × ((List Int) × (List Int)))) : Option Int := fees_back.g (fun a0 => a0) n t.1 t.2.1 t.2.2
def fees_back.pat : List AV → Blks → Option ((List Int) × ((List Int) × (List Int)))
  | [(.ints .u64 4 a0), (.ints .u64 4 a1), (.ints .u64 4 a2)], [] => some (a0, a1, a2)
  | _, _ => none
def fees_back.shape (t : ((List Int) × ((List Int) × (List Int)))) : List AV × Blks := ([(.ints .u64 4 t.1), (.ints .u64 4 t.2.1), (.ints .u64 4 t.2.2)], [])
def fees_back.res : Int → AV × Blks
  | u => (Prod.mk (.int .i64 u) [])
def fees_back.resK {R : Type} (u : Int) (K : AV → Blks → Option R) : Option R := (fun p : AV × Blks => K p.1 p.2) (Prod.mk (.int .i64 u) [])
def fees_back.c (n : Nat) : Abs.Callee := .mk' [] [none, none, none] fees_back.pat (fees_back.m n) fees_back.resK
end
end

section
set_option linter.unusedVariables false
set_option linter.unusedSimpArgs false
set_option maxRecDepth 100000
open Go Go.Abs Go.Proofs
noncomputable section
/-! fees_Store -/
noncomputable def fees_Store.C (n : Nat) : Ctx := ⟨Try.prog, (fun _ => .any), fun f => match f with
  | 59 => some (fees_back.c n)
  | _ => none⟩
def fees_Store.live : Nat → List Nat × List Nat := fun k => match k with
  | _ => ([], [])
def fees_Store.jlive : Nat → List Nat × List Nat := fun k => match k with
  | _ => ([], [])
noncomputable def fees_Store.A (n : Nat) : Ann := ⟨Try.f39.ntmps, 0, fees_Store.live, [], [none, none], fun k => match k with
  | _ => none, fees_Store.jlive, lookJ []⟩
def fees_Store.g {α : Type} (mk0 : Int → Int → α) (n : Nat) (a0 : (List Int)) (a1 : (List Int)) (a2 : (List Int)) (a3 : Bool) : Option α :=
  if a3 = true then
    if (a2 == a1) = true then
      some (mk0 2200 0)
    else
      if (!(a1 == a0)) = true then
        bindO (fees_back.m n (Prod.mk a0 (Prod.mk a1 a2))) fun r8 =>
          some (mk0 2200 r8)
      else
        if (a0 == [0, 0, 0, 0]) = true then
          bindO (fees_back.m n (Prod.mk a0 (Prod.mk a1 a2))) fun r10 =>
            some (mk0 22100 r10)
        else
          bindO (fees_back.m n (Prod.mk a0 (Prod.mk a1 a2))) fun r10 =>
            some (mk0 5000 r10)
  else
    if (a2 == a1) = true then
      some (mk0 100 0)
    else
      if (!(a1 == a0)) = true then
        bindO (fees_back.m n (Prod.mk a0 (Prod.mk a1 a2))) fun r8 =>
          some (mk0 100 r8)
      else
        if (a0 == [0, 0, 0, 0]) = true then
          bindO (fees_back.m n (Prod.mk a0 (Prod.mk a1 a2))) fun r10 =>
            some (mk0 20000 r10)
        else
          bindO (fees_back.m n (Prod.mk a0 (Prod.mk a1 a2))) fun r10 =>
            some (mk0 2900 r10)
def fees_Store.m (n : Nat) (t : ((List Int) × ((List Int) × ((List Int) × Bool)))) : Option (Int × Int) := fees_Store.g (fun a0 a1 => (a0, a1)) n t.1 t.2.1 t.2.2.1 t.2.2.2
def fees_Store.pat : List AV → Blks → Option ((List Int) × ((List Int) × ((List Int) × Bool)))
  | [(.ints .u64 4 a0), (.ints .u64 4 a1), (.ints .u64 4 a2), (.bool a3)], [] => some (a0, a1, a2, a3)
  | _, _ => none
def fees_Store.shape (t : ((List Int) × ((List Int) × ((List Int) × Bool)))) : List AV × Blks := ([(.ints .u64 4 t.1), (.ints .u64 4 t.2.1), (.ints .u64 4 t.2.2.1), (.bool t.2.2.2)], [])
def fees_Store.res : (Int × Int) → AV × Blks
  | u => (Prod.mk (.tup [(.int .u64 u.1), (.int .i64 u.2)]) [])
def fees_Store.resK {R : Type} (u : (Int × Int)) (K : AV → Blks → Option R) : Option R := (fun p : AV × Blks => K p.1 p.2) (Prod.mk (.tup [(.int .u64 u.1), (.int .i64 u.2)]) [])
def fees_Store.c (n : Nat) : Abs.Callee := .mk' [] [none, none, none, none] fees_Store.pat (fees_Store.m n) fees_Store.resK
end
end

section
set_option linter.unusedVariables false
set_option linter.unusedSimpArgs false
set_option maxRecDepth 100000
open Go Go.Abs Go.Proofs
/-! fees_back -/
theorem fees_back.gmap {α β : Type} (h : β → α) (mk0 : Int → β) (n : Nat) (a0 : (List Int)) (a1 : (List Int)) (a2 : (List Int)) : fees_back.g (fun a0 => (h (mk0 a0))) n a0 a1 a2 = (fees_back.g mk0 n a0 a1 a2).map h := by
  unfold fees_back.g
  exact (ite_map (ite_map (ite_map rfl rfl) rfl) (ite_map (ite_map rfl (ite_map rfl rfl)) (ite_map (ite_map rfl (ite_map rfl rfl)) (ite_map (ite_map rfl (ite_map rfl rfl)) (ite_map rfl (ite_map rfl rfl))))))
theorem fees_back.run (n : Nat) (a0 : (List Int)) (a1 : (List Int)) (a2 : (List Int)) : runF (fees_back.C n) (fees_back.A n) n Try.f59 [(.ints .u64 4 a0), (.ints .u64 4 a1), (.ints .u64 4 a2)] [] (fun v o => some (v, o)) = fees_back.g (fun a0 => ((Prod.mk (.int .i64 a0) []) : AV × Blks)) n a0 a1 a2 := by kernel_rfl
theorem fees_back.call (hmix : Try.prog.follows .mixedOrders = true) (n : Nat) (t : ((List Int) × ((List Int) × (List Int)))) (u) (h : fees_back.m n t = some u) : FnC Try.prog (fun _ => .any) 59 (fees_back.shape t).1 (fees_back.shape t).2 (fees_back.res u).1 (fees_back.res u).2 := by
  have hg : ∀ f m, (fees_back.C n).Γ f = some m → CalleeS Try.prog (fun _ => .any) f m := by
    intro f m hm
    unfold fees_back.C at hm
    simp only at hm
    first
    | (cases hm; done)
    | (split at hm <;> first
    | (cases hm; done))
  have hb : Try.f59.body = some (Try.f59.body.getD .skip) := by kernel_rfl
  refine runF_calls (C := fees_back.C n) (A := fees_back.A n) (n := n) (fn := Try.f59) hg hmix Try.func59 hb ?_ ?_ (by decide) rfl rfl (by show 3 ≤ Try.f59.ntmps; decide) ?_
  · rw [show loopsIn (Try.f59.body.getD .skip) = [] by kernel_rfl]
    intro b hb m hm
    simp only [List.mem_cons, List.not_mem_nil, or_false] at hb

  · intro a ha m hm
    have hm' := lookJ_mem (show lookJ [] (jkey a) = some m from hm)
    simp only [List.mem_cons, List.not_mem_nil, or_false, Prod.mk.injEq] at hm'

  · rw [show runF (fees_back.C n) (fees_back.A n) n Try.f59 (fees_back.shape t).1 (fees_back.shape t).2 (fun v o => some (v, o)) = _ from fees_back.run n t.1 t.2.1 t.2.2]
    have e := fees_back.gmap fees_back.res (fun a0 => a0) n t.1 t.2.1 t.2.2
    unfold fees_back.m at h
    rw [h] at e
    exact e
theorem fees_back.ok (hmix : Try.prog.follows .mixedOrders = true) (n : Nat) (t : ((List Int) × ((List Int) × (List Int)))) (u) (h : fees_back.m n t = some u) : FnOK Try.prog (fun _ => .any) 59 (fees_back.shape t).1 (fees_back.shape t).2 (fees_back.res u).1 (fees_back.res u).2 :=
  (fees_back.call hmix n t u h).ok Try.func59 (by decide) (by kernel_rfl)
theorem fees_back.s (hmix : Try.prog.follows .mixedOrders = true) (n : Nat) : CalleeS Try.prog (fun _ => .any) 59 (fees_back.c n) :=
  CalleeS.of (res := fees_back.res) (shape := fees_back.shape) (fun R u K => rfl) (fun args lent t h => by
    unfold fees_back.pat at h
    split at h
    · cases h; rfl
    · cases h) fun t u h => fees_back.ok hmix n t u h
end

section
set_option linter.unusedVariables false
set_option linter.unusedSimpArgs false
set_option maxRecDepth 100000
open Go Go.Abs Go.Proofs
/-! fees_Store -/
theorem fees_Store.gmap {α β : Type} (h : β → α) (mk0 : Int → Int → β) (n : Nat) (a0 : (List Int)) (a1 : (List Int)) (a2 : (List Int)) (a3 : Bool) : fees_Store.g (fun a0 a1 => (h (mk0 a0 a1))) n a0 a1 a2 a3 = (fees_Store.g mk0 n a0 a1 a2 a3).map h := by
  unfold fees_Store.g
  exact (ite_map (ite_map rfl (ite_map (bindO_map fun r8 => rfl) (ite_map (bindO_map fun r10 => rfl) (bindO_map fun r10 => rfl)))) (ite_map rfl (ite_map (bindO_map fun r8 => rfl) (ite_map (bindO_map fun r10 => rfl) (bindO_map fun r10 => rfl)))))
theorem fees_Store.run (n : Nat) (a0 : (List Int)) (a1 : (List Int)) (a2 : (List Int)) (a3 : Bool) : runF (fees_Store.C n) (fees_Store.A n) n Try.f39 [(.ints .u64 4 a0), (.ints .u64 4 a1), (.ints .u64 4 a2), (.bool a3)] [] (fun v o => some (v, o)) = fees_Store.g (fun a0 a1 => ((Prod.mk (.tup [(.int .u64 a0), (.int .i64 a1)]) []) : AV × Blks)) n a0 a1 a2 a3 := by kernel_rfl
theorem fees_Store.call (hmix : Try.prog.follows .mixedOrders = true) (n : Nat) (t : ((List Int) × ((List Int) × ((List Int) × Bool)))) (u) (h : fees_Store.m n t = some u) : FnC Try.prog (fun _ => .any) 39 (fees_Store.shape t).1 (fees_Store.shape t).2 (fees_Store.res u).1 (fees_Store.res u).2 := by
  have hg : ∀ f m, (fees_Store.C n).Γ f = some m → CalleeS Try.prog (fun _ => .any) f m := by
    intro f m hm
    unfold fees_Store.C at hm
    simp only at hm
    first
    | (cases hm; done)
    | (split at hm <;> first
    | (cases hm; exact fees_back.s hmix n)
    | (cases hm; done))
  have hb : Try.f39.body = some (Try.f39.body.getD .skip) := by kernel_rfl
  refine runF_calls (C := fees_Store.C n) (A := fees_Store.A n) (n := n) (fn := Try.f39) hg hmix Try.func39 hb ?_ ?_ (by decide) rfl rfl (by show 4 ≤ Try.f39.ntmps; decide) ?_
  · rw [show loopsIn (Try.f39.body.getD .skip) = [] by kernel_rfl]
    intro b hb m hm
    simp only [List.mem_cons, List.not_mem_nil, or_false] at hb

  · intro a ha m hm
    have hm' := lookJ_mem (show lookJ [] (jkey a) = some m from hm)
    simp only [List.mem_cons, List.not_mem_nil, or_false, Prod.mk.injEq] at hm'

  · rw [show runF (fees_Store.C n) (fees_Store.A n) n Try.f39 (fees_Store.shape t).1 (fees_Store.shape t).2 (fun v o => some (v, o)) = _ from fees_Store.run n t.1 t.2.1 t.2.2.1 t.2.2.2]
    have e := fees_Store.gmap fees_Store.res (fun a0 a1 => (a0, a1)) n t.1 t.2.1 t.2.2.1 t.2.2.2
    unfold fees_Store.m at h
    rw [h] at e
    exact e
theorem fees_Store.ok (hmix : Try.prog.follows .mixedOrders = true) (n : Nat) (t : ((List Int) × ((List Int) × ((List Int) × Bool)))) (u) (h : fees_Store.m n t = some u) : FnOK Try.prog (fun _ => .any) 39 (fees_Store.shape t).1 (fees_Store.shape t).2 (fees_Store.res u).1 (fees_Store.res u).2 :=
  (fees_Store.call hmix n t u h).ok Try.func39 (by decide) (by kernel_rfl)
theorem fees_Store.s (hmix : Try.prog.follows .mixedOrders = true) (n : Nat) : CalleeS Try.prog (fun _ => .any) 39 (fees_Store.c n) :=
  CalleeS.of (res := fees_Store.res) (shape := fees_Store.shape) (fun R u K => rfl) (fun args lent t h => by
    unfold fees_Store.pat at h
    split at h
    · cases h; rfl
    · cases h) fun t u h => fees_Store.ok hmix n t u h
end

section
set_option linter.unusedVariables false
set_option linter.unusedSimpArgs false
set_option maxRecDepth 100000
open Go Go.Abs Go.Proofs
noncomputable section
/-! q09_Store -/
noncomputable def q09_Store.C (n : Nat) : Ctx := ⟨Try.prog, (fun _ => .any), fun f => match f with
  | _ => none⟩
def q09_Store.live : Nat → List Nat × List Nat := fun k => match k with
  | _ => ([], [])
def q09_Store.jlive : Nat → List Nat × List Nat := fun k => match k with
  | _ => ([], [])
noncomputable def q09_Store.A (n : Nat) : Ann := ⟨Try.f40.ntmps, 0, q09_Store.live, [], [none, none], fun k => match k with
  | _ => none, q09_Store.jlive, lookJ []⟩
def q09_Store.g {α : Type} (mk0 : Int → Int → α) (n : Nat) (a0 : (List Int)) (a1 : (List Int)) (a2 : (List Int)) (a3 : Bool) : Option α :=
  if (!(a2 == a1)) = true then
    if (a1 == a0) = true then
      if (a0 == [0, 0, 0, 0]) = true then
        if a3 = true then
          if (a2 == a1) = true then
            some (mk0 22100 0)
          else
            if (a1 == a0) = true then
              if (!(a0 == [0, 0, 0, 0])) = true then
                if (a2 == [0, 0, 0, 0]) = true then
                  some (mk0 22100 4800)
                else
                  some (mk0 22100 0)
              else
                some (mk0 22100 0)
            else
              if (!(a0 == [0, 0, 0, 0])) = true then
                if (a1 == [0, 0, 0, 0]) = true then
                  if (a2 == a0) = true then
                    if (a0 == [0, 0, 0, 0]) = true then
                      some (mk0 22100 15100)
                    else
                      some (mk0 22100 (-2000))
                  else
                    some (mk0 22100 (-4800))
                else
                  if (a2 == [0, 0, 0, 0]) = true then
                    if (a2 == a0) = true then
                      if (a0 == [0, 0, 0, 0]) = true then
                        some (mk0 22100 24700)
                      else
                        some (mk0 22100 7600)
                    else
                      some (mk0 22100 4800)
                  else
                    if (a2 == a0) = true then
                      if (a0 == [0, 0, 0, 0]) = true then
                        some (mk0 22100 19900)
                      else
                        some (mk0 22100 2800)
                    else
                      some (mk0 22100 0)
              else
                if (a2 == a0) = true then
                  if (a0 == [0, 0, 0, 0]) = true then
                    some (mk0 22100 19900)
                  else
                    some (mk0 22100 2800)
                else
                  some (mk0 22100 0)
        else
          if (a2 == a1) = true then
            some (mk0 20000 0)
          else
            if (a1 == a0) = true then
              if (!(a0 == [0, 0, 0, 0])) = true then
                if (a2 == [0, 0, 0, 0]) = true then
                  some (mk0 20000 4800)
                else
                  some (mk0 20000 0)
              else
                some (mk0 20000 0)
            else
              if (!(a0 == [0, 0, 0, 0])) = true then
                if (a1 == [0, 0, 0, 0]) = true then
                  if (a2 == a0) = true then
                    if (a0 == [0, 0, 0, 0]) = true then
                      some (mk0 20000 15100)
                    else
                      some (mk0 20000 (-2000))
                  else
                    some (mk0 20000 (-4800))
                else
                  if (a2 == [0, 0, 0, 0]) = true then
                    if (a2 == a0) = true then
                      if (a0 == [0, 0, 0, 0]) = true then
                        some (mk0 20000 24700)
                      else
                        some (mk0 20000 7600)
                    else
                      some (mk0 20000 4800)
                  else
                    if (a2 == a0) = true then
                      if (a0 == [0, 0, 0, 0]) = true then
                        some (mk0 20000 19900)
                      else
                        some (mk0 20000 2800)
                    else
                      some (mk0 20000 0)
              else
                if (a2 == a0) = true then
                  if (a0 == [0, 0, 0, 0]) = true then
                    some (mk0 20000 19900)
                  else
                    some (mk0 20000 2800)
                else
                  some (mk0 20000 0)
      else
        if a3 = true then
          if (a2 == a1) = true then
            some (mk0 5000 0)
          else
            if (a1 == a0) = true then
              if (!(a0 == [0, 0, 0, 0])) = true then
                if (a2 == [0, 0, 0, 0]) = true then
                  some (mk0 5000 4800)
                else
                  some (mk0 5000 0)
              else
                some (mk0 5000 0)
            else
              if (!(a0 == [0, 0, 0, 0])) = true then
                if (a1 == [0, 0, 0, 0]) = true then
                  if (a2 == a0) = true then
                    if (a0 == [0, 0, 0, 0]) = true then
                      some (mk0 5000 15100)
                    else
                      some (mk0 5000 (-2000))
                  else
                    some (mk0 5000 (-4800))
                else
                  if (a2 == [0, 0, 0, 0]) = true then
                    if (a2 == a0) = true then
                      if (a0 == [0, 0, 0, 0]) = true then
                        some (mk0 5000 24700)
                      else
                        some (mk0 5000 7600)
                    else
                      some (mk0 5000 4800)
                  else
                    if (a2 == a0) = true then
                      if (a0 == [0, 0, 0, 0]) = true then
                        some (mk0 5000 19900)
                      else
                        some (mk0 5000 2800)
                    else
                      some (mk0 5000 0)
              else
                if (a2 == a0) = true then
                  if (a0 == [0, 0, 0, 0]) = true then
                    some (mk0 5000 19900)
                  else
                    some (mk0 5000 2800)
                else
                  some (mk0 5000 0)
        else
          if (a2 == a1) = true then
            some (mk0 2900 0)
          else
            if (a1 == a0) = true then
              if (!(a0 == [0, 0, 0, 0])) = true then
                if (a2 == [0, 0, 0, 0]) = true then
                  some (mk0 2900 4800)
                else
                  some (mk0 2900 0)
              else
                some (mk0 2900 0)
            else
              if (!(a0 == [0, 0, 0, 0])) = true then
                if (a1 == [0, 0, 0, 0]) = true then
                  if (a2 == a0) = true then
                    if (a0 == [0, 0, 0, 0]) = true then
                      some (mk0 2900 15100)
                    else
                      some (mk0 2900 (-2000))
                  else
                    some (mk0 2900 (-4800))
                else
                  if (a2 == [0, 0, 0, 0]) = true then
                    if (a2 == a0) = true then
                      if (a0 == [0, 0, 0, 0]) = true then
                        some (mk0 2900 24700)
                      else
                        some (mk0 2900 7600)
                    else
                      some (mk0 2900 4800)
                  else
                    if (a2 == a0) = true then
                      if (a0 == [0, 0, 0, 0]) = true then
                        some (mk0 2900 19900)
                      else
                        some (mk0 2900 2800)
                    else
                      some (mk0 2900 0)
              else
                if (a2 == a0) = true then
                  if (a0 == [0, 0, 0, 0]) = true then
                    some (mk0 2900 19900)
                  else
                    some (mk0 2900 2800)
                else
                  some (mk0 2900 0)
    else
      if a3 = true then
        if (a2 == a1) = true then
          some (mk0 2200 0)
        else
          if (a1 == a0) = true then
            if (!(a0 == [0, 0, 0, 0])) = true then
              if (a2 == [0, 0, 0, 0]) = true then
                some (mk0 2200 4800)
              else
                some (mk0 2200 0)
            else
              some (mk0 2200 0)
          else
            if (!(a0 == [0, 0, 0, 0])) = true then
              if (a1 == [0, 0, 0, 0]) = true then
                if (a2 == a0) = true then
                  if (a0 == [0, 0, 0, 0]) = true then
                    some (mk0 2200 15100)
                  else
                    some (mk0 2200 (-2000))
                else
                  some (mk0 2200 (-4800))
              else
                if (a2 == [0, 0, 0, 0]) = true then
                  if (a2 == a0) = true then
                    if (a0 == [0, 0, 0, 0]) = true then
                      some (mk0 2200 24700)
                    else
                      some (mk0 2200 7600)
                  else
                    some (mk0 2200 4800)
                else
                  if (a2 == a0) = true then
                    if (a0 == [0, 0, 0, 0]) = true then
                      some (mk0 2200 19900)
                    else
                      some (mk0 2200 2800)
                  else
                    some (mk0 2200 0)
            else
              if (a2 == a0) = true then
                if (a0 == [0, 0, 0, 0]) = true then
                  some (mk0 2200 19900)
                else
                  some (mk0 2200 2800)
              else
                some (mk0 2200 0)
      else
        if (a2 == a1) = true then
          some (mk0 100 0)
        else
          if (a1 == a0) = true then
            if (!(a0 == [0, 0, 0, 0])) = true then
              if (a2 == [0, 0, 0, 0]) = true then
                some (mk0 100 4800)
              else
                some (mk0 100 0)
            else
              some (mk0 100 0)
          else
            if (!(a0 == [0, 0, 0, 0])) = true then
              if (a1 == [0, 0, 0, 0]) = true then
                if (a2 == a0) = true then
                  if (a0 == [0, 0, 0, 0]) = true then
                    some (mk0 100 15100)
                  else
                    some (mk0 100 (-2000))
                else
                  some (mk0 100 (-4800))
              else
                if (a2 == [0, 0, 0, 0]) = true then
                  if (a2 == a0) = true then
                    if (a0 == [0, 0, 0, 0]) = true then
                      some (mk0 100 24700)
                    else
                      some (mk0 100 7600)
                  else
                    some (mk0 100 4800)
                else
                  if (a2 == a0) = true then
                    if (a0 == [0, 0, 0, 0]) = true then
                      some (mk0 100 19900)
                    else
                      some (mk0 100 2800)
                  else
                    some (mk0 100 0)
            else
              if (a2 == a0) = true then
                if (a0 == [0, 0, 0, 0]) = true then
                  some (mk0 100 19900)
                else
                  some (mk0 100 2800)
              else
                some (mk0 100 0)
  else
    if a3 = true then
      if (a2 == a1) = true then
        some (mk0 2200 0)
      else
        if (a1 == a0) = true then
          if (!(a0 == [0, 0, 0, 0])) = true then
            if (a2 == [0, 0, 0, 0]) = true then
              some (mk0 2200 4800)
            else
              some (mk0 2200 0)
          else
            some (mk0 2200 0)
        else
          if (!(a0 == [0, 0, 0, 0])) = true then
            if (a1 == [0, 0, 0, 0]) = true then
              if (a2 == a0) = true then
                if (a0 == [0, 0, 0, 0]) = true then
                  some (mk0 2200 15100)
                else
                  some (mk0 2200 (-2000))
              else
                some (mk0 2200 (-4800))
            else
              if (a2 == [0, 0, 0, 0]) = true then
                if (a2 == a0) = true then
                  if (a0 == [0, 0, 0, 0]) = true then
                    some (mk0 2200 24700)
                  else
                    some (mk0 2200 7600)
                else
                  some (mk0 2200 4800)
              else
                if (a2 == a0) = true then
                  if (a0 == [0, 0, 0, 0]) = true then
                    some (mk0 2200 19900)
                  else
                    some (mk0 2200 2800)
                else
                  some (mk0 2200 0)
          else
            if (a2 == a0) = true then
              if (a0 == [0, 0, 0, 0]) = true then
                some (mk0 2200 19900)
              else
                some (mk0 2200 2800)
            else
              some (mk0 2200 0)
    else
      if (a2 == a1) = true then
        some (mk0 100 0)
      else
        if (a1 == a0) = true then
          if (!(a0 == [0, 0, 0, 0])) = true then
            if (a2 == [0, 0, 0, 0]) = true then
              some (mk0 100 4800)
            else
              some (mk0 100 0)
          else
            some (mk0 100 0)
        else
          if (!(a0 == [0, 0, 0, 0])) = true then
            if (a1 == [0, 0, 0, 0]) = true then
              if (a2 == a0) = true then
                if (a0 == [0, 0, 0, 0]) = true then
                  some (mk0 100 15100)
                else
                  some (mk0 100 (-2000))
              else
                some (mk0 100 (-4800))
            else
              if (a2 == [0, 0, 0, 0]) = true then
                if (a2 == a0) = true then
                  if (a0 == [0, 0, 0, 0]) = true then
                    some (mk0 100 24700)
                  else
                    some (mk0 100 7600)
                else
                  some (mk0 100 4800)
              else
                if (a2 == a0) = true then
                  if (a0 == [0, 0, 0, 0]) = true then
                    some (mk0 100 19900)
                  else
                    some (mk0 100 2800)
                else
                  some (mk0 100 0)
          else
            if (a2 == a0) = true then
              if (a0 == [0, 0, 0, 0]) = true then
                some (mk0 100 19900)
              else
                some (mk0 100 2800)
            else
              some (mk0 100 0)
def q09_Store.m (n : Nat) (t : ((List Int) × ((List Int) × ((List Int) × Bool)))) : Option (Int × Int) := q09_Store.g (fun a0 a1 => (a0, a1)) n t.1 t.2.1 t.2.2.1 t.2.2.2
def q09_Store.pat : List AV → Blks → Option ((List Int) × ((List Int) × ((List Int) × Bool)))
  | [(.ints .u64 4 a0), (.ints .u64 4 a1), (.ints .u64 4 a2), (.bool a3)], [] => some (a0, a1, a2, a3)
  | _, _ => none
def q09_Store.shape (t : ((List Int) × ((List Int) × ((List Int) × Bool)))) : List AV × Blks := ([(.ints .u64 4 t.1), (.ints .u64 4 t.2.1), (.ints .u64 4 t.2.2.1), (.bool t.2.2.2)], [])
def q09_Store.res : (Int × Int) → AV × Blks
  | u => (Prod.mk (.tup [(.int .u64 u.1), (.int .i64 u.2)]) [])
def q09_Store.resK {R : Type} (u : (Int × Int)) (K : AV → Blks → Option R) : Option R := (fun p : AV × Blks => K p.1 p.2) (Prod.mk (.tup [(.int .u64 u.1), (.int .i64 u.2)]) [])
def q09_Store.c (n : Nat) : Abs.Callee := .mk' [] [none, none, none, none] q09_Store.pat (q09_Store.m n) q09_Store.resK
end
end

section
set_option linter.unusedVariables false
set_option linter.unusedSimpArgs false
set_option maxRecDepth 100000
open Go Go.Abs Go.Proofs
/-! q09_Store -/
theorem q09_Store.gmap {α β : Type} (h : β → α) (mk0 : Int → Int → β) (n : Nat) (a0 : (List Int)) (a1 : (List Int)) (a2 : (List Int)) (a3 : Bool) : q09_Store.g (fun a0 a1 => (h (mk0 a0 a1))) n a0 a1 a2 a3 = (q09_Store.g mk0 n a0 a1 a2 a3).map h := by
  unfold q09_Store.g
  exact (ite_map (ite_map (ite_map (ite_map (ite_map rfl (ite_map (ite_map (ite_map rfl rfl) rfl) (ite_map (ite_map (ite_map (ite_map rfl rfl) rfl) (ite_map (ite_map (ite_map rfl rfl) rfl) (ite_map (ite_map rfl rfl) rfl))) (ite_map (ite_map rfl rfl) rfl)))) (ite_map rfl (ite_map (ite_map (ite_map rfl rfl) rfl) (ite_map (ite_map (ite_map (ite_map rfl rfl) rfl) (ite_map (ite_map (ite_map rfl rfl) rfl) (ite_map (ite_map rfl rfl) rfl))) (ite_map (ite_map rfl rfl) rfl))))) (ite_map (ite_map rfl (ite_map (ite_map (ite_map rfl rfl) rfl) (ite_map (ite_map (ite_map (ite_map rfl rfl) rfl) (ite_map (ite_map (ite_map rfl rfl) rfl) (ite_map (ite_map rfl rfl) rfl))) (ite_map (ite_map rfl rfl) rfl)))) (ite_map rfl (ite_map (ite_map (ite_map rfl rfl) rfl) (ite_map (ite_map (ite_map (ite_map rfl rfl) rfl) (ite_map (ite_map (ite_map rfl rfl) rfl) (ite_map (ite_map rfl rfl) rfl))) (ite_map (ite_map rfl rfl) rfl)))))) (ite_map (ite_map rfl (ite_map (ite_map (ite_map rfl rfl) rfl) (ite_map (ite_map (ite_map (ite_map rfl rfl) rfl) (ite_map (ite_map (ite_map rfl rfl) rfl) (ite_map (ite_map rfl rfl) rfl))) (ite_map (ite_map rfl rfl) rfl)))) (ite_map rfl (ite_map (ite_map (ite_map rfl rfl) rfl) (ite_map (ite_map (ite_map (ite_map rfl rfl) rfl) (ite_map (ite_map (ite_map rfl rfl) rfl) (ite_map (ite_map rfl rfl) rfl))) (ite_map (ite_map rfl rfl) rfl)))))) (ite_map (ite_map rfl (ite_map (ite_map (ite_map rfl rfl) rfl) (ite_map (ite_map (ite_map (ite_map rfl rfl) rfl) (ite_map (ite_map (ite_map rfl rfl) rfl) (ite_map (ite_map rfl rfl) rfl))) (ite_map (ite_map rfl rfl) rfl)))) (ite_map rfl (ite_map (ite_map (ite_map rfl rfl) rfl) (ite_map (ite_map (ite_map (ite_map rfl rfl) rfl) (ite_map (ite_map (ite_map rfl rfl) rfl) (ite_map (ite_map rfl rfl) rfl))) (ite_map (ite_map rfl rfl) rfl))))))
theorem q09_Store.run (n : Nat) (a0 : (List Int)) (a1 : (List Int)) (a2 : (List Int)) (a3 : Bool) : runF (q09_Store.C n) (q09_Store.A n) n Try.f40 [(.ints .u64 4 a0), (.ints .u64 4 a1), (.ints .u64 4 a2), (.bool a3)] [] (fun v o => some (v, o)) = q09_Store.g (fun a0 a1 => ((Prod.mk (.tup [(.int .u64 a0), (.int .i64 a1)]) []) : AV × Blks)) n a0 a1 a2 a3 := by kernel_rfl
theorem q09_Store.call (hmix : Try.prog.follows .mixedOrders = true) (n : Nat) (t : ((List Int) × ((List Int) × ((List Int) × Bool)))) (u) (h : q09_Store.m n t = some u) : FnC Try.prog (fun _ => .any) 40 (q09_Store.shape t).1 (q09_Store.shape t).2 (q09_Store.res u).1 (q09_Store.res u).2 := by
  have hg : ∀ f m, (q09_Store.C n).Γ f = some m → CalleeS Try.prog (fun _ => .any) f m := by
    intro f m hm
    unfold q09_Store.C at hm
    simp only at hm
    first
    | (cases hm; done)
    | (split at hm <;> first
    | (cases hm; done))
  have hb : Try.f40.body = some (Try.f40.body.getD .skip) := by kernel_rfl
  refine runF_calls (C := q09_Store.C n) (A := q09_Store.A n) (n := n) (fn := Try.f40) hg hmix Try.func40 hb ?_ ?_ (by decide) rfl rfl (by show 4 ≤ Try.f40.ntmps; decide) ?_
  · rw [show loopsIn (Try.f40.body.getD .skip) = [] by kernel_rfl]
    intro b hb m hm
    simp only [List.mem_cons, List.not_mem_nil, or_false] at hb

  · intro a ha m hm
    have hm' := lookJ_mem (show lookJ [] (jkey a) = some m from hm)
    simp only [List.mem_cons, List.not_mem_nil, or_false, Prod.mk.injEq] at hm'

  · rw [show runF (q09_Store.C n) (q09_Store.A n) n Try.f40 (q09_Store.shape t).1 (q09_Store.shape t).2 (fun v o => some (v, o)) = _ from q09_Store.run n t.1 t.2.1 t.2.2.1 t.2.2.2]
    have e := q09_Store.gmap q09_Store.res (fun a0 a1 => (a0, a1)) n t.1 t.2.1 t.2.2.1 t.2.2.2
    unfold q09_Store.m at h
    rw [h] at e
    exact e
theorem q09_Store.ok (hmix : Try.prog.follows .mixedOrders = true) (n : Nat) (t : ((List Int) × ((List Int) × ((List Int) × Bool)))) (u) (h : q09_Store.m n t = some u) : FnOK Try.prog (fun _ => .any) 40 (q09_Store.shape t).1 (q09_Store.shape t).2 (q09_Store.res u).1 (q09_Store.res u).2 :=
  (q09_Store.call hmix n t u h).ok Try.func40 (by decide) (by kernel_rfl)
theorem q09_Store.s (hmix : Try.prog.follows .mixedOrders = true) (n : Nat) : CalleeS Try.prog (fun _ => .any) 40 (q09_Store.c n) :=
  CalleeS.of (res := q09_Store.res) (shape := q09_Store.shape) (fun R u K => rfl) (fun args lent t h => by
    unfold q09_Store.pat at h
    split at h
    · cases h; rfl
    · cases h) fun t u h => q09_Store.ok hmix n t u h
end

section
set_option linter.unusedVariables false
set_option linter.unusedSimpArgs false
set_option maxRecDepth 100000
open Go Go.Abs Go.Proofs
noncomputable section
/-! word_Small -/
noncomputable def word_Small.C (n : Nat) : Ctx := ⟨Try.prog, (fun _ => .any), fun f => match f with
  | _ => none⟩
def word_Small.live : Nat → List Nat × List Nat := fun k => match k with
  | _ => ([], [])
def word_Small.jlive : Nat → List Nat × List Nat := fun k => match k with
  | _ => ([], [])
noncomputable def word_Small.A (n : Nat) : Ann := ⟨Try.f54.ntmps, 0, word_Small.live, [], [none, none], fun k => match k with
  | _ => none, word_Small.jlive, lookJ []⟩
def word_Small.g {α : Type} (mk0 : Int → Bool → α) (n : Nat) (a0 : (List Int)) : Option α :=
  if ((Go.Abs.ibits Go.BinOp.or .u64 (Go.Abs.ibits Go.BinOp.or .u64 (List.getD a0 1 0) (List.getD a0 2 0)) (List.getD a0 3 0)) != 0) = true then
    some (mk0 0 false)
  else
    some (mk0 (List.getD a0 0 0) true)
def word_Small.m (n : Nat) (t : (List Int)) : Option (Int × Bool) := word_Small.g (fun a0 a1 => (a0, a1)) n t
def word_Small.pat : List AV → Blks → Option (List Int)
  | [(.ints .u64 4 a0)], [] => some a0
  | _, _ => none
def word_Small.shape (t : (List Int)) : List AV × Blks := ([(.ints .u64 4 t)], [])
def word_Small.res : (Int × Bool) → AV × Blks
  | u => (Prod.mk (.tup [(.int .u64 u.1), (.bool u.2)]) [])
def word_Small.resK {R : Type} (u : (Int × Bool)) (K : AV → Blks → Option R) : Option R := (fun p : AV × Blks => K p.1 p.2) (Prod.mk (.tup [(.int .u64 u.1), (.bool u.2)]) [])
def word_Small.c (n : Nat) : Abs.Callee := .mk' [] [none] word_Small.pat (word_Small.m n) word_Small.resK
end
end

section
set_option linter.unusedVariables false
set_option linter.unusedSimpArgs false
set_option maxRecDepth 100000
open Go Go.Abs Go.Proofs
noncomputable section
/-! fees_Keep -/
noncomputable def fees_Keep.C (n : Nat) : Ctx := ⟨Try.prog, (fun _ => .any), fun f => match f with
  | 54 => some (word_Small.c n)
  | _ => none⟩
def fees_Keep.live : Nat → List Nat × List Nat := fun k => match k with
  | _ => ([], [])
def fees_Keep.jlive : Nat → List Nat × List Nat := fun k => match k with
  | _ => ([], [])
noncomputable def fees_Keep.A (n : Nat) : Ann := ⟨Try.f41.ntmps, 0, fees_Keep.live, [], [none], fun k => match k with
  | _ => none, fees_Keep.jlive, lookJ []⟩
def fees_Keep.g {α : Type} (mk0 : Int → α) (n : Nat) (a0 : Int) (a1 : (List Int)) : Option α :=
  bindO (word_Small.m n a1) fun r2 =>
    if (Prod.snd r2) = true then
      some (mk0 (if (Go.IntKind.wrap .u64 (a0 - (Go.IntKind.wrap .u64 (Int.tdiv a0 64)))) < (Prod.fst r2) then (Go.IntKind.wrap .u64 (a0 - (Go.IntKind.wrap .u64 (Int.tdiv a0 64)))) else (Prod.fst r2)))
    else
      some (mk0 (Go.IntKind.wrap .u64 (a0 - (Go.IntKind.wrap .u64 (Int.tdiv a0 64)))))
def fees_Keep.m (n : Nat) (t : (Int × (List Int))) : Option Int := fees_Keep.g (fun a0 => a0) n t.1 t.2
def fees_Keep.pat : List AV → Blks → Option (Int × (List Int))
  | [(.int .u64 a0), (.ints .u64 4 a1)], [] => some (a0, a1)
  | _, _ => none
def fees_Keep.shape (t : (Int × (List Int))) : List AV × Blks := ([(.int .u64 t.1), (.ints .u64 4 t.2)], [])
def fees_Keep.res : Int → AV × Blks
  | u => (Prod.mk (.int .u64 u) [])
def fees_Keep.resK {R : Type} (u : Int) (K : AV → Blks → Option R) : Option R := (fun p : AV × Blks => K p.1 p.2) (Prod.mk (.int .u64 u) [])
def fees_Keep.c (n : Nat) : Abs.Callee := .mk' [] [none, none] fees_Keep.pat (fees_Keep.m n) fees_Keep.resK
end
end

section
set_option linter.unusedVariables false
set_option linter.unusedSimpArgs false
set_option maxRecDepth 100000
open Go Go.Abs Go.Proofs
/-! word_Small -/
theorem word_Small.gmap {α β : Type} (h : β → α) (mk0 : Int → Bool → β) (n : Nat) (a0 : (List Int)) : word_Small.g (fun a0 a1 => (h (mk0 a0 a1))) n a0 = (word_Small.g mk0 n a0).map h := by
  unfold word_Small.g
  exact (ite_map rfl rfl)
theorem word_Small.run (n : Nat) (a0 : (List Int)) : runF (word_Small.C n) (word_Small.A n) n Try.f54 [(.ints .u64 4 a0)] [] (fun v o => some (v, o)) = word_Small.g (fun a0 a1 => ((Prod.mk (.tup [(.int .u64 a0), (.bool a1)]) []) : AV × Blks)) n a0 := by kernel_rfl
theorem word_Small.call (hmix : Try.prog.follows .mixedOrders = true) (n : Nat) (t : (List Int)) (u) (h : word_Small.m n t = some u) : FnC Try.prog (fun _ => .any) 54 (word_Small.shape t).1 (word_Small.shape t).2 (word_Small.res u).1 (word_Small.res u).2 := by
  have hg : ∀ f m, (word_Small.C n).Γ f = some m → CalleeS Try.prog (fun _ => .any) f m := by
    intro f m hm
    unfold word_Small.C at hm
    simp only at hm
    first
    | (cases hm; done)
    | (split at hm <;> first
    | (cases hm; done))
  have hb : Try.f54.body = some (Try.f54.body.getD .skip) := by kernel_rfl
  refine runF_calls (C := word_Small.C n) (A := word_Small.A n) (n := n) (fn := Try.f54) hg hmix Try.func54 hb ?_ ?_ (by decide) rfl rfl (by show 1 ≤ Try.f54.ntmps; decide) ?_
  · rw [show loopsIn (Try.f54.body.getD .skip) = [] by kernel_rfl]
    intro b hb m hm
    simp only [List.mem_cons, List.not_mem_nil, or_false] at hb

  · intro a ha m hm
    have hm' := lookJ_mem (show lookJ [] (jkey a) = some m from hm)
    simp only [List.mem_cons, List.not_mem_nil, or_false, Prod.mk.injEq] at hm'

  · rw [show runF (word_Small.C n) (word_Small.A n) n Try.f54 (word_Small.shape t).1 (word_Small.shape t).2 (fun v o => some (v, o)) = _ from word_Small.run n t]
    have e := word_Small.gmap word_Small.res (fun a0 a1 => (a0, a1)) n t
    unfold word_Small.m at h
    rw [h] at e
    exact e
theorem word_Small.ok (hmix : Try.prog.follows .mixedOrders = true) (n : Nat) (t : (List Int)) (u) (h : word_Small.m n t = some u) : FnOK Try.prog (fun _ => .any) 54 (word_Small.shape t).1 (word_Small.shape t).2 (word_Small.res u).1 (word_Small.res u).2 :=
  (word_Small.call hmix n t u h).ok Try.func54 (by decide) (by kernel_rfl)
theorem word_Small.s (hmix : Try.prog.follows .mixedOrders = true) (n : Nat) : CalleeS Try.prog (fun _ => .any) 54 (word_Small.c n) :=
  CalleeS.of (res := word_Small.res) (shape := word_Small.shape) (fun R u K => rfl) (fun args lent t h => by
    unfold word_Small.pat at h
    split at h
    · cases h; rfl
    · cases h) fun t u h => word_Small.ok hmix n t u h
end

section
set_option linter.unusedVariables false
set_option linter.unusedSimpArgs false
set_option maxRecDepth 100000
open Go Go.Abs Go.Proofs
/-! fees_Keep -/
theorem fees_Keep.gmap {α β : Type} (h : β → α) (mk0 : Int → β) (n : Nat) (a0 : Int) (a1 : (List Int)) : fees_Keep.g (fun a0 => (h (mk0 a0))) n a0 a1 = (fees_Keep.g mk0 n a0 a1).map h := by
  unfold fees_Keep.g
  exact (bindO_map fun r2 => (ite_map rfl rfl))
theorem fees_Keep.run (n : Nat) (a0 : Int) (a1 : (List Int)) : runF (fees_Keep.C n) (fees_Keep.A n) n Try.f41 [(.int .u64 a0), (.ints .u64 4 a1)] [] (fun v o => some (v, o)) = fees_Keep.g (fun a0 => ((Prod.mk (.int .u64 a0) []) : AV × Blks)) n a0 a1 := by kernel_rfl
theorem fees_Keep.call (hmix : Try.prog.follows .mixedOrders = true) (n : Nat) (t : (Int × (List Int))) (u) (h : fees_Keep.m n t = some u) : FnC Try.prog (fun _ => .any) 41 (fees_Keep.shape t).1 (fees_Keep.shape t).2 (fees_Keep.res u).1 (fees_Keep.res u).2 := by
  have hg : ∀ f m, (fees_Keep.C n).Γ f = some m → CalleeS Try.prog (fun _ => .any) f m := by
    intro f m hm
    unfold fees_Keep.C at hm
    simp only at hm
    first
    | (cases hm; done)
    | (split at hm <;> first
    | (cases hm; exact word_Small.s hmix n)
    | (cases hm; done))
  have hb : Try.f41.body = some (Try.f41.body.getD .skip) := by kernel_rfl
  refine runF_calls (C := fees_Keep.C n) (A := fees_Keep.A n) (n := n) (fn := Try.f41) hg hmix Try.func41 hb ?_ ?_ (by decide) rfl rfl (by show 2 ≤ Try.f41.ntmps; decide) ?_
  · rw [show loopsIn (Try.f41.body.getD .skip) = [] by kernel_rfl]
    intro b hb m hm
    simp only [List.mem_cons, List.not_mem_nil, or_false] at hb

  · intro a ha m hm
    have hm' := lookJ_mem (show lookJ [] (jkey a) = some m from hm)
    simp only [List.mem_cons, List.not_mem_nil, or_false, Prod.mk.injEq] at hm'

  · rw [show runF (fees_Keep.C n) (fees_Keep.A n) n Try.f41 (fees_Keep.shape t).1 (fees_Keep.shape t).2 (fun v o => some (v, o)) = _ from fees_Keep.run n t.1 t.2]
    have e := fees_Keep.gmap fees_Keep.res (fun a0 => a0) n t.1 t.2
    unfold fees_Keep.m at h
    rw [h] at e
    exact e
theorem fees_Keep.ok (hmix : Try.prog.follows .mixedOrders = true) (n : Nat) (t : (Int × (List Int))) (u) (h : fees_Keep.m n t = some u) : FnOK Try.prog (fun _ => .any) 41 (fees_Keep.shape t).1 (fees_Keep.shape t).2 (fees_Keep.res u).1 (fees_Keep.res u).2 :=
  (fees_Keep.call hmix n t u h).ok Try.func41 (by decide) (by kernel_rfl)
theorem fees_Keep.s (hmix : Try.prog.follows .mixedOrders = true) (n : Nat) : CalleeS Try.prog (fun _ => .any) 41 (fees_Keep.c n) :=
  CalleeS.of (res := fees_Keep.res) (shape := fees_Keep.shape) (fun R u K => rfl) (fun args lent t h => by
    unfold fees_Keep.pat at h
    split at h
    · cases h; rfl
    · cases h) fun t u h => fees_Keep.ok hmix n t u h
end

section
set_option linter.unusedVariables false
set_option linter.unusedSimpArgs false
set_option maxRecDepth 100000
open Go Go.Abs Go.Proofs
noncomputable section
/-! q01_Small -/
noncomputable def q01_Small.C (n : Nat) : Ctx := ⟨Try.prog, (fun _ => .any), fun f => match f with
  | _ => none⟩
def q01_Small.live : Nat → List Nat × List Nat := fun k => match k with
  | _ => ([], [])
def q01_Small.jlive : Nat → List Nat × List Nat := fun k => match k with
  | _ => ([], [])
noncomputable def q01_Small.A (n : Nat) : Ann := ⟨Try.f55.ntmps, 0, q01_Small.live, [], [none, none], fun k => match k with
  | _ => none, q01_Small.jlive, lookJ []⟩
def q01_Small.g {α : Type} (mk0 : Int → Bool → α) (n : Nat) (a0 : (List Int)) : Option α :=
  if ((List.getD a0 1 0) != 0) = true then
    some (mk0 0 false)
  else
    if ((List.getD a0 2 0) != 0) = true then
      some (mk0 0 false)
    else
      if ((List.getD a0 3 0) != 0) = true then
        some (mk0 0 false)
      else
        some (mk0 (List.getD a0 0 0) true)
def q01_Small.m (n : Nat) (t : (List Int)) : Option (Int × Bool) := q01_Small.g (fun a0 a1 => (a0, a1)) n t
def q01_Small.pat : List AV → Blks → Option (List Int)
  | [(.ints .u64 4 a0)], [] => some a0
  | _, _ => none
def q01_Small.shape (t : (List Int)) : List AV × Blks := ([(.ints .u64 4 t)], [])
def q01_Small.res : (Int × Bool) → AV × Blks
  | u => (Prod.mk (.tup [(.int .u64 u.1), (.bool u.2)]) [])
def q01_Small.resK {R : Type} (u : (Int × Bool)) (K : AV → Blks → Option R) : Option R := (fun p : AV × Blks => K p.1 p.2) (Prod.mk (.tup [(.int .u64 u.1), (.bool u.2)]) [])
def q01_Small.c (n : Nat) : Abs.Callee := .mk' [] [none] q01_Small.pat (q01_Small.m n) q01_Small.resK
end
end

section
set_option linter.unusedVariables false
set_option linter.unusedSimpArgs false
set_option maxRecDepth 100000
open Go Go.Abs Go.Proofs
noncomputable section
/-! q09_Keep -/
noncomputable def q09_Keep.C (n : Nat) : Ctx := ⟨Try.prog, (fun _ => .any), fun f => match f with
  | 55 => some (q01_Small.c n)
  | _ => none⟩
def q09_Keep.live : Nat → List Nat × List Nat := fun k => match k with
  | _ => ([], [])
def q09_Keep.jlive : Nat → List Nat × List Nat := fun k => match k with
  | _ => ([], [])
noncomputable def q09_Keep.A (n : Nat) : Ann := ⟨Try.f43.ntmps, 0, q09_Keep.live, [], [none], fun k => match k with
  | _ => none, q09_Keep.jlive, lookJ []⟩
def q09_Keep.g {α : Type} (mk0 : Int → α) (n : Nat) (a0 : Int) (a1 : (List Int)) : Option α :=
  bindO (q01_Small.m n a1) fun r2 =>
    if (!(Prod.snd r2)) = true then
      some (mk0 (Go.IntKind.wrap .u64 (a0 - (Go.IntKind.wrap .u64 (Int.tdiv a0 64)))))
    else
      if (decide ((Prod.fst r2) > (Go.IntKind.wrap .u64 (a0 - (Go.IntKind.wrap .u64 (Int.tdiv a0 64)))))) = true then
        some (mk0 (Go.IntKind.wrap .u64 (a0 - (Go.IntKind.wrap .u64 (Int.tdiv a0 64)))))
      else
        some (mk0 (Prod.fst r2))
def q09_Keep.m (n : Nat) (t : (Int × (List Int))) : Option Int := q09_Keep.g (fun a0 => a0) n t.1 t.2
def q09_Keep.pat : List AV → Blks → Option (Int × (List Int))
  | [(.int .u64 a0), (.ints .u64 4 a1)], [] => some (a0, a1)
  | _, _ => none
def q09_Keep.shape (t : (Int × (List Int))) : List AV × Blks := ([(.int .u64 t.1), (.ints .u64 4 t.2)], [])
def q09_Keep.res : Int → AV × Blks
  | u => (Prod.mk (.int .u64 u) [])
def q09_Keep.resK {R : Type} (u : Int) (K : AV → Blks → Option R) : Option R := (fun p : AV × Blks => K p.1 p.2) (Prod.mk (.int .u64 u) [])
def q09_Keep.c (n : Nat) : Abs.Callee := .mk' [] [none, none] q09_Keep.pat (q09_Keep.m n) q09_Keep.resK
end
end

section
set_option linter.unusedVariables false
set_option linter.unusedSimpArgs false
set_option maxRecDepth 100000
open Go Go.Abs Go.Proofs
/-! q01_Small -/
theorem q01_Small.gmap {α β : Type} (h : β → α) (mk0 : Int → Bool → β) (n : Nat) (a0 : (List Int)) : q01_Small.g (fun a0 a1 => (h (mk0 a0 a1))) n a0 = (q01_Small.g mk0 n a0).map h := by
  unfold q01_Small.g
  exact (ite_map rfl (ite_map rfl (ite_map rfl rfl)))
theorem q01_Small.run (n : Nat) (a0 : (List Int)) : runF (q01_Small.C n) (q01_Small.A n) n Try.f55 [(.ints .u64 4 a0)] [] (fun v o => some (v, o)) = q01_Small.g (fun a0 a1 => ((Prod.mk (.tup [(.int .u64 a0), (.bool a1)]) []) : AV × Blks)) n a0 := by kernel_rfl
theorem q01_Small.call (hmix : Try.prog.follows .mixedOrders = true) (n : Nat) (t : (List Int)) (u) (h : q01_Small.m n t = some u) : FnC Try.prog (fun _ => .any) 55 (q01_Small.shape t).1 (q01_Small.shape t).2 (q01_Small.res u).1 (q01_Small.res u).2 := by
  have hg : ∀ f m, (q01_Small.C n).Γ f = some m → CalleeS Try.prog (fun _ => .any) f m := by
    intro f m hm
    unfold q01_Small.C at hm
    simp only at hm
    first
    | (cases hm; done)
    | (split at hm <;> first
    | (cases hm; done))
  have hb : Try.f55.body = some (Try.f55.body.getD .skip) := by kernel_rfl
  refine runF_calls (C := q01_Small.C n) (A := q01_Small.A n) (n := n) (fn := Try.f55) hg hmix Try.func55 hb ?_ ?_ (by decide) rfl rfl (by show 1 ≤ Try.f55.ntmps; decide) ?_
  · rw [show loopsIn (Try.f55.body.getD .skip) = [] by kernel_rfl]
    intro b hb m hm
    simp only [List.mem_cons, List.not_mem_nil, or_false] at hb

  · intro a ha m hm
    have hm' := lookJ_mem (show lookJ [] (jkey a) = some m from hm)
    simp only [List.mem_cons, List.not_mem_nil, or_false, Prod.mk.injEq] at hm'

  · rw [show runF (q01_Small.C n) (q01_Small.A n) n Try.f55 (q01_Small.shape t).1 (q01_Small.shape t).2 (fun v o => some (v, o)) = _ from q01_Small.run n t]
    have e := q01_Small.gmap q01_Small.res (fun a0 a1 => (a0, a1)) n t
    unfold q01_Small.m at h
    rw [h] at e
    exact e
theorem q01_Small.ok (hmix : Try.prog.follows .mixedOrders = true) (n : Nat) (t : (List Int)) (u) (h : q01_Small.m n t = some u) : FnOK Try.prog (fun _ => .any) 55 (q01_Small.shape t).1 (q01_Small.shape t).2 (q01_Small.res u).1 (q01_Small.res u).2 :=
  (q01_Small.call hmix n t u h).ok Try.func55 (by decide) (by kernel_rfl)
theorem q01_Small.s (hmix : Try.prog.follows .mixedOrders = true) (n : Nat) : CalleeS Try.prog (fun _ => .any) 55 (q01_Small.c n) :=
  CalleeS.of (res := q01_Small.res) (shape := q01_Small.shape) (fun R u K => rfl) (fun args lent t h => by
    unfold q01_Small.pat at h
    split at h
    · cases h; rfl
    · cases h) fun t u h => q01_Small.ok hmix n t u h
end

section
set_option linter.unusedVariables false
set_option linter.unusedSimpArgs false
set_option maxRecDepth 100000
open Go Go.Abs Go.Proofs
/-! q09_Keep -/
theorem q09_Keep.gmap {α β : Type} (h : β → α) (mk0 : Int → β) (n : Nat) (a0 : Int) (a1 : (List Int)) : q09_Keep.g (fun a0 => (h (mk0 a0))) n a0 a1 = (q09_Keep.g mk0 n a0 a1).map h := by
  unfold q09_Keep.g
  exact (bindO_map fun r2 => (ite_map rfl (ite_map rfl rfl)))
theorem q09_Keep.run (n : Nat) (a0 : Int) (a1 : (List Int)) : runF (q09_Keep.C n) (q09_Keep.A n) n Try.f43 [(.int .u64 a0), (.ints .u64 4 a1)] [] (fun v o => some (v, o)) = q09_Keep.g (fun a0 => ((Prod.mk (.int .u64 a0) []) : AV × Blks)) n a0 a1 := by kernel_rfl
theorem q09_Keep.call (hmix : Try.prog.follows .mixedOrders = true) (n : Nat) (t : (Int × (List Int))) (u) (h : q09_Keep.m n t = some u) : FnC Try.prog (fun _ => .any) 43 (q09_Keep.shape t).1 (q09_Keep.shape t).2 (q09_Keep.res u).1 (q09_Keep.res u).2 := by
  have hg : ∀ f m, (q09_Keep.C n).Γ f = some m → CalleeS Try.prog (fun _ => .any) f m := by
    intro f m hm
    unfold q09_Keep.C at hm
    simp only at hm
    first
    | (cases hm; done)
    | (split at hm <;> first
    | (cases hm; exact q01_Small.s hmix n)
    | (cases hm; done))
  have hb : Try.f43.body = some (Try.f43.body.getD .skip) := by kernel_rfl
  refine runF_calls (C := q09_Keep.C n) (A := q09_Keep.A n) (n := n) (fn := Try.f43) hg hmix Try.func43 hb ?_ ?_ (by decide) rfl rfl (by show 2 ≤ Try.f43.ntmps; decide) ?_
  · rw [show loopsIn (Try.f43.body.getD .skip) = [] by kernel_rfl]
    intro b hb m hm
    simp only [List.mem_cons, List.not_mem_nil, or_false] at hb

  · intro a ha m hm
    have hm' := lookJ_mem (show lookJ [] (jkey a) = some m from hm)
    simp only [List.mem_cons, List.not_mem_nil, or_false, Prod.mk.injEq] at hm'

  · rw [show runF (q09_Keep.C n) (q09_Keep.A n) n Try.f43 (q09_Keep.shape t).1 (q09_Keep.shape t).2 (fun v o => some (v, o)) = _ from q09_Keep.run n t.1 t.2]
    have e := q09_Keep.gmap q09_Keep.res (fun a0 => a0) n t.1 t.2
    unfold q09_Keep.m at h
    rw [h] at e
    exact e
theorem q09_Keep.ok (hmix : Try.prog.follows .mixedOrders = true) (n : Nat) (t : (Int × (List Int))) (u) (h : q09_Keep.m n t = some u) : FnOK Try.prog (fun _ => .any) 43 (q09_Keep.shape t).1 (q09_Keep.shape t).2 (q09_Keep.res u).1 (q09_Keep.res u).2 :=
  (q09_Keep.call hmix n t u h).ok Try.func43 (by decide) (by kernel_rfl)
theorem q09_Keep.s (hmix : Try.prog.follows .mixedOrders = true) (n : Nat) : CalleeS Try.prog (fun _ => .any) 43 (q09_Keep.c n) :=
  CalleeS.of (res := q09_Keep.res) (shape := q09_Keep.shape) (fun R u K => rfl) (fun args lent t h => by
    unfold q09_Keep.pat at h
    split at h
    · cases h; rfl
    · cases h) fun t u h => q09_Keep.ok hmix n t u h
end

section
set_option linter.unusedVariables false
set_option linter.unusedSimpArgs false
set_option maxRecDepth 100000
open Go Go.Abs Go.Proofs
noncomputable section
/-! fees_Intrinsic -/
noncomputable def fees_Intrinsic.C (n : Nat) : Ctx := ⟨Try.prog, (fun _ => .any), fun f => match f with
  | 35 => some (fees_Words.c n)
  | _ => none⟩
def fees_Intrinsic.live : Nat → List Nat × List Nat := fun k => match k with
  | 5 => ([19, 18, 17, 5], [5])
  | _ => ([], [])
def fees_Intrinsic.jlive : Nat → List Nat × List Nat := fun k => match k with
  | _ => ([], [])
def fees_Intrinsic.l5_0.r {α : Type} (mk0 : Int → α) (n : Nat) (rc : Int → Int → (List Int) → Int → Option α)  (x0 : Int) (x1 : Int) (x2 : (List Int)) (x3 : Int) : Option α :=
    if (decide (x0 < x1)) = true then
      if 0 ≤ x0 then
        if x0 < (((List.length x2) : Nat) : Int) then
          if ((List.getD x2 (Int.toNat x0) 0) == 0) = true then
            rc (Go.IntKind.wrap .i64 (x0 + 1)) x1 x2 (Go.IntKind.wrap .u64 (x3 + 4))
          else
            rc (Go.IntKind.wrap .i64 (x0 + 1)) x1 x2 (Go.IntKind.wrap .u64 (x3 + 16))
        else
          none
      else
        none
    else
      some (mk0 x3)
def fees_Intrinsic.l5_0.g {α : Type} (mk0 : Int → α) (n : Nat) : Nat → Int → Int → (List Int) → Int → Option α
  | 0, _, _, _, _ => none
  | m + 1, x0, x1, x2, x3 => fees_Intrinsic.l5_0.r mk0 n (fun y0 y1 y2 y3 => fees_Intrinsic.l5_0.g mk0 n m y0 y1 y2 y3)  x0 x1 x2 x3
def fees_Intrinsic.l5_0.m (n m : Nat) (t : (Int × (Int × ((List Int) × Int)))) : Option Int := fees_Intrinsic.l5_0.g (fun a0 => a0) n m t.1 t.2.1 t.2.2.1 t.2.2.2
def fees_Intrinsic.l5_0.pat : St → Option (Int × (Int × ((List Int) × Int)))
  | (St.mk [(.int .i64 x0), (.int .i64 x1), (.rints .u8 x2), (.int .u64 x3)] []) => some (x0, x1, x2, x3)
  | _ => none
def fees_Intrinsic.l5_0.shape (t : (Int × (Int × ((List Int) × Int)))) : St := (St.mk [(.int .i64 t.1), (.int .i64 t.2.1), (.rints .u8 t.2.2.1), (.int .u64 t.2.2.2)] [])
def fees_Intrinsic.l5_0.res : Int → Ex × St
  | u => (Prod.mk (.exit 0) (St.mk [(.int .u64 u)] []))
def fees_Intrinsic.l5_0.resK {R : Type} (u : Int) (K : Ex → St → Option R) : Option R := (fun p : Ex × St => K p.1 p.2) (Prod.mk (.exit 0) (St.mk [(.int .u64 u)] []))
noncomputable def fees_Intrinsic.A (n : Nat) : Ann := ⟨Try.f42.ntmps, 0, fees_Intrinsic.live, [(17, (.ints .u8))], [none], fun k => match k with
  | 5 => some (.mk' fees_Intrinsic.l5_0.pat (fees_Intrinsic.l5_0.m n n) fees_Intrinsic.l5_0.resK)
  | _ => none, fees_Intrinsic.jlive, lookJ []⟩
noncomputable def fees_Intrinsic.b0 : Code := (loopsIn (Try.f42.body.getD .skip)).getD 0 .skip
def fees_Intrinsic.g {α : Type} (mk0 : Int → α) (n : Nat) (a0 : (List Int)) (a1 : Bool) : Option α :=
  if a1 = true then
    bindO (fees_Words.m n (Go.IntKind.wrap .u64 (((List.length a0) : Nat) : Int))) fun r4 =>
      bindO (fees_Intrinsic.l5_0.m n n (0, (((List.length a0) : Nat) : Int), a0, (Go.IntKind.wrap .u64 (21000 + (Go.IntKind.wrap .u64 (32000 + (Go.IntKind.wrap .u64 (2 * r4)))))))) fun r6 =>
        some (mk0 r6)
  else
    bindO (fees_Intrinsic.l5_0.m n n (0, (((List.length a0) : Nat) : Int), a0, 21000)) fun r4 =>
      some (mk0 r4)
def fees_Intrinsic.m (n : Nat) (t : ((List Int) × Bool)) : Option Int := fees_Intrinsic.g (fun a0 => a0) n t.1 t.2
def fees_Intrinsic.pat : List AV → Blks → Option ((List Int) × Bool)
  | [(.rints .u8 a0), (.bool a1)], [] => some (a0, a1)
  | _, _ => none
def fees_Intrinsic.shape (t : ((List Int) × Bool)) : List AV × Blks := ([(.rints .u8 t.1), (.bool t.2)], [])
def fees_Intrinsic.res : Int → AV × Blks
  | u => (Prod.mk (.int .u64 u) [])
def fees_Intrinsic.resK {R : Type} (u : Int) (K : AV → Blks → Option R) : Option R := (fun p : AV × Blks => K p.1 p.2) (Prod.mk (.int .u64 u) [])
def fees_Intrinsic.c (n : Nat) : Abs.Callee := .mk' [] [(some (.ints .u8)), none] fees_Intrinsic.pat (fees_Intrinsic.m n) fees_Intrinsic.resK
end
end

section
set_option linter.unusedVariables false
set_option linter.unusedSimpArgs false
set_option maxRecDepth 100000
open Go Go.Abs Go.Proofs
/-! fees_Intrinsic -/
theorem fees_Intrinsic.l5_0.rmap {α β : Type} (h : β → α) (mk0 : Int → β) (n : Nat) (f : Int → Int → (List Int) → Int → Option β)  (x0 : Int) (x1 : Int) (x2 : (List Int)) (x3 : Int) : fees_Intrinsic.l5_0.r (fun a0 => (h (mk0 a0))) n (fun y0 y1 y2 y3 => (f y0 y1 y2 y3).map h) x0 x1 x2 x3 = (fees_Intrinsic.l5_0.r mk0 n f x0 x1 x2 x3).map h := by
  unfold fees_Intrinsic.l5_0.r
  exact (ite_map (ite_map (ite_map (ite_map rfl rfl) rfl) rfl) rfl)
theorem fees_Intrinsic.l5_0.gmap {α β : Type} (h : β → α) (mk0 : Int → β) (n : Nat) : ∀ (m : Nat) (x0 : Int) (x1 : Int) (x2 : (List Int)) (x3 : Int), fees_Intrinsic.l5_0.g (fun a0 => (h (mk0 a0))) n m x0 x1 x2 x3 = (fees_Intrinsic.l5_0.g mk0 n m x0 x1 x2 x3).map h
  | 0, _, _, _, _ => rfl
  | m + 1, x0, x1, x2, x3 => by
    unfold fees_Intrinsic.l5_0.g
    rw [← fees_Intrinsic.l5_0.rmap]
    congr
    · funext y0 y1 y2 y3; exact fees_Intrinsic.l5_0.gmap h mk0 n m y0 y1 y2 y3
theorem fees_Intrinsic.l5_0.pat_shape : ∀ st t, fees_Intrinsic.l5_0.pat st = some t → st = fees_Intrinsic.l5_0.shape t := by
  intro st t h
  unfold fees_Intrinsic.l5_0.pat at h
  split at h
  · cases h; rfl
  · cases h
theorem fees_Intrinsic.l5_0.round (n : Nat) (rc : St → Option (Ex × St)) (x0 : Int) (x1 : Int) (x2 : (List Int)) (x3 : Int) : roundOf (fees_Intrinsic.C n) (fees_Intrinsic.A n) n fees_Intrinsic.b0 rc ((St.mk [(.int .i64 x0), (.int .i64 x1), (.rints .u8 x2), (.int .u64 x3)] [])) = fees_Intrinsic.l5_0.r (fun a0 => ((Prod.mk (.exit 0) (St.mk [(.int .u64 a0)] [])) : Ex × St)) n (fun y0 y1 y2 y3 => rc ((St.mk [(.int .i64 y0), (.int .i64 y1), (.rints .u8 y2), (.int .u64 y3)] []))) x0 x1 x2 x3 := by kernel_rfl
theorem fees_Intrinsic.l5_0.loop' (n : Nat) : ∀ (m : Nat) (t : (Int × (Int × ((List Int) × Int)))), loopOf (roundOf (fees_Intrinsic.C n) (fees_Intrinsic.A n) n fees_Intrinsic.b0) m (fees_Intrinsic.l5_0.shape t) = fees_Intrinsic.l5_0.g (fun a0 => ((Prod.mk (.exit 0) (St.mk [(.int .u64 a0)] [])) : Ex × St)) n m t.1 t.2.1 t.2.2.1 t.2.2.2 :=
  loop_of_round (shape := fees_Intrinsic.l5_0.shape) (body := roundOf (fees_Intrinsic.C n) (fees_Intrinsic.A n) n fees_Intrinsic.b0) (g := fun m t => fees_Intrinsic.l5_0.g (fun a0 => ((Prod.mk (.exit 0) (St.mk [(.int .u64 a0)] [])) : Ex × St)) n m t.1 t.2.1 t.2.2.1 t.2.2.2) (fun t => rfl)
    fun m t ih => (fees_Intrinsic.l5_0.round n (loopOf (roundOf (fees_Intrinsic.C n) (fees_Intrinsic.A n) n fees_Intrinsic.b0) m) t.1 t.2.1 t.2.2.1 t.2.2.2).trans (congrFun (congrFun (congrFun (congrFun (congrArg (fees_Intrinsic.l5_0.r (fun a0 => ((Prod.mk (.exit 0) (St.mk [(.int .u64 a0)] [])) : Ex × St)) n) (funext fun y0 => funext fun y1 => funext fun y2 => funext fun y3 => ih (y0, y1, y2, y3))) t.1) t.2.1) t.2.2.1) t.2.2.2)
theorem fees_Intrinsic.l5_0.loop (n m : Nat) (t : (Int × (Int × ((List Int) × Int)))) : loopOf (roundOf (fees_Intrinsic.C n) (fees_Intrinsic.A n) n fees_Intrinsic.b0) m (fees_Intrinsic.l5_0.shape t) = (fees_Intrinsic.l5_0.m n m t).map fees_Intrinsic.l5_0.res :=
  (fees_Intrinsic.l5_0.loop' n m t).trans (fees_Intrinsic.l5_0.gmap fees_Intrinsic.l5_0.res (fun a0 => a0) n m t.1 t.2.1 t.2.2.1 t.2.2.2)
theorem fees_Intrinsic.gmap {α β : Type} (h : β → α) (mk0 : Int → β) (n : Nat) (a0 : (List Int)) (a1 : Bool) : fees_Intrinsic.g (fun a0 => (h (mk0 a0))) n a0 a1 = (fees_Intrinsic.g mk0 n a0 a1).map h := by
  unfold fees_Intrinsic.g
  exact (ite_map (bindO_map fun r4 => (bindO_map fun r6 => rfl)) (bindO_map fun r4 => rfl))
theorem fees_Intrinsic.run (n : Nat) (a0 : (List Int)) (a1 : Bool) : runF (fees_Intrinsic.C n) (fees_Intrinsic.A n) n Try.f42 [(.rints .u8 a0), (.bool a1)] [] (fun v o => some (v, o)) = fees_Intrinsic.g (fun a0 => ((Prod.mk (.int .u64 a0) []) : AV × Blks)) n a0 a1 := by kernel_rfl
theorem fees_Intrinsic.call (hmix : Try.prog.follows .mixedOrders = true) (n : Nat) (t : ((List Int) × Bool)) (u) (h : fees_Intrinsic.m n t = some u) : FnC Try.prog (fun _ => .any) 42 (fees_Intrinsic.shape t).1 (fees_Intrinsic.shape t).2 (fees_Intrinsic.res u).1 (fees_Intrinsic.res u).2 := by
  have hg : ∀ f m, (fees_Intrinsic.C n).Γ f = some m → CalleeS Try.prog (fun _ => .any) f m := by
    intro f m hm
    unfold fees_Intrinsic.C at hm
    simp only at hm
    first
    | (cases hm; done)
    | (split at hm <;> first
    | (cases hm; exact fees_Words.s hmix n)
    | (cases hm; done))
  have hb : Try.f42.body = some (Try.f42.body.getD .skip) := by kernel_rfl
  refine runF_calls (C := fees_Intrinsic.C n) (A := fees_Intrinsic.A n) (n := n) (fn := Try.f42) hg hmix Try.func42 hb ?_ ?_ (by decide) rfl rfl (by show 2 ≤ Try.f42.ntmps; decide) ?_
  · rw [show loopsIn (Try.f42.body.getD .skip) = [fees_Intrinsic.b0] by kernel_rfl]
    intro b hb m hm
    simp only [List.mem_cons, List.not_mem_nil, or_false] at hb
    rcases hb with rfl
    · have e : (fees_Intrinsic.A n).loop (key fees_Intrinsic.b0) = some (.mk' fees_Intrinsic.l5_0.pat (fees_Intrinsic.l5_0.m n n) fees_Intrinsic.l5_0.resK) := by rw [show key fees_Intrinsic.b0 = 5 by kernel_rfl]; rfl
      rw [e] at hm
      cases hm
      exact LoopS.of (res := fees_Intrinsic.l5_0.res) (fun R u K => rfl) fees_Intrinsic.l5_0.pat_shape fun t => fees_Intrinsic.l5_0.loop n n t
  · intro a ha m hm
    have hm' := lookJ_mem (show lookJ [] (jkey a) = some m from hm)
    simp only [List.mem_cons, List.not_mem_nil, or_false, Prod.mk.injEq] at hm'

  · rw [show runF (fees_Intrinsic.C n) (fees_Intrinsic.A n) n Try.f42 (fees_Intrinsic.shape t).1 (fees_Intrinsic.shape t).2 (fun v o => some (v, o)) = _ from fees_Intrinsic.run n t.1 t.2]
    have e := fees_Intrinsic.gmap fees_Intrinsic.res (fun a0 => a0) n t.1 t.2
    unfold fees_Intrinsic.m at h
    rw [h] at e
    exact e
theorem fees_Intrinsic.ok (hmix : Try.prog.follows .mixedOrders = true) (n : Nat) (t : ((List Int) × Bool)) (u) (h : fees_Intrinsic.m n t = some u) : FnOK Try.prog (fun _ => .any) 42 (fees_Intrinsic.shape t).1 (fees_Intrinsic.shape t).2 (fees_Intrinsic.res u).1 (fees_Intrinsic.res u).2 :=
  (fees_Intrinsic.call hmix n t u h).ok Try.func42 (by decide) (by kernel_rfl)
theorem fees_Intrinsic.s (hmix : Try.prog.follows .mixedOrders = true) (n : Nat) : CalleeS Try.prog (fun _ => .any) 42 (fees_Intrinsic.c n) :=
  CalleeS.of (res := fees_Intrinsic.res) (shape := fees_Intrinsic.shape) (fun R u K => rfl) (fun args lent t h => by
    unfold fees_Intrinsic.pat at h
    split at h
    · cases h; rfl
    · cases h) fun t u h => fees_Intrinsic.ok hmix n t u h
end

section
set_option linter.unusedVariables false
set_option linter.unusedSimpArgs false
set_option maxRecDepth 100000
open Go Go.Abs Go.Proofs
noncomputable section
/-! q09_Intrinsic -/
noncomputable def q09_Intrinsic.C (n : Nat) : Ctx := ⟨Try.prog, (fun _ => .any), fun f => match f with
  | 36 => some (q09_Words.c n)
  | _ => none⟩
def q09_Intrinsic.live : Nat → List Nat × List Nat := fun k => match k with
  | 3 => ([6, 0, 5, 1], [1, 5, 0])
  | _ => ([], [])
def q09_Intrinsic.jlive : Nat → List Nat × List Nat := fun k => match k with
  | _ => ([], [])
def q09_Intrinsic.l3_0.r {α : Type} (mk0 : Bool → Int → (List Int) → α) (n : Nat) (rc : Int → (List Int) → Int → Bool → Option α)  (x0 : Int) (x1 : (List Int)) (x2 : Int) (x3 : Bool) : Option α :=
    if (decide (x0 < (((List.length x1) : Nat) : Int))) = true then
      if 0 ≤ x0 then
        if x0 < (((List.length x1) : Nat) : Int) then
          if ((List.getD x1 (Int.toNat x0) 0) == 0) = true then
            rc (Go.IntKind.wrap .i64 (x0 + 1)) x1 (Go.IntKind.wrap .u64 (x2 + 4)) x3
          else
            rc (Go.IntKind.wrap .i64 (x0 + 1)) x1 (Go.IntKind.wrap .u64 (x2 + 16)) x3
        else
          none
      else
        none
    else
      some (mk0 x3 x2 x1)
def q09_Intrinsic.l3_0.g {α : Type} (mk0 : Bool → Int → (List Int) → α) (n : Nat) : Nat → Int → (List Int) → Int → Bool → Option α
  | 0, _, _, _, _ => none
  | m + 1, x0, x1, x2, x3 => q09_Intrinsic.l3_0.r mk0 n (fun y0 y1 y2 y3 => q09_Intrinsic.l3_0.g mk0 n m y0 y1 y2 y3)  x0 x1 x2 x3
def q09_Intrinsic.l3_0.m (n m : Nat) (t : (Int × ((List Int) × (Int × Bool)))) : Option (Bool × (Int × (List Int))) := q09_Intrinsic.l3_0.g (fun a0 a1 a2 => (a0, a1, a2)) n m t.1 t.2.1 t.2.2.1 t.2.2.2
def q09_Intrinsic.l3_0.pat : St → Option (Int × ((List Int) × (Int × Bool)))
  | (St.mk [(.int .i64 x0), (.rints .u8 x1), (.int .u64 x2), (.bool x3)] []) => some (x0, x1, x2, x3)
  | _ => none
def q09_Intrinsic.l3_0.shape (t : (Int × ((List Int) × (Int × Bool)))) : St := (St.mk [(.int .i64 t.1), (.rints .u8 t.2.1), (.int .u64 t.2.2.1), (.bool t.2.2.2)] [])
def q09_Intrinsic.l3_0.res : (Bool × (Int × (List Int))) → Ex × St
  | u => (Prod.mk (.exit 0) (St.mk [(.bool u.1), (.int .u64 u.2.1), (.rints .u8 u.2.2)] []))
def q09_Intrinsic.l3_0.resK {R : Type} (u : (Bool × (Int × (List Int)))) (K : Ex → St → Option R) : Option R := (fun p : Ex × St => K p.1 p.2) (Prod.mk (.exit 0) (St.mk [(.bool u.1), (.int .u64 u.2.1), (.rints .u8 u.2.2)] []))
noncomputable def q09_Intrinsic.A (n : Nat) : Ann := ⟨Try.f44.ntmps, 0, q09_Intrinsic.live, [(0, (.ints .u8))], [none], fun k => match k with
  | 3 => some (.mk' q09_Intrinsic.l3_0.pat (q09_Intrinsic.l3_0.m n n) q09_Intrinsic.l3_0.resK)
  | _ => none, q09_Intrinsic.jlive, lookJ []⟩
noncomputable def q09_Intrinsic.b0 : Code := (loopsIn (Try.f44.body.getD .skip)).getD 0 .skip
def q09_Intrinsic.g {α : Type} (mk0 : Int → α) (n : Nat) (a0 : (List Int)) (a1 : Bool) : Option α :=
  bindO (q09_Intrinsic.l3_0.m n n (0, a0, 21000, a1)) fun r2 =>
    if (Prod.fst r2) = true then
      bindO (q09_Words.m n (Go.IntKind.wrap .u64 (((List.length (Prod.snd (Prod.snd r2))) : Nat) : Int))) fun r6 =>
        some (mk0 (Go.IntKind.wrap .u64 ((Prod.fst (Prod.snd r2)) + (Go.IntKind.wrap .u64 (32000 + (Go.IntKind.wrap .u64 (2 * r6)))))))
    else
      some (mk0 (Prod.fst (Prod.snd r2)))
def q09_Intrinsic.m (n : Nat) (t : ((List Int) × Bool)) : Option Int := q09_Intrinsic.g (fun a0 => a0) n t.1 t.2
def q09_Intrinsic.pat : List AV → Blks → Option ((List Int) × Bool)
  | [(.rints .u8 a0), (.bool a1)], [] => some (a0, a1)
  | _, _ => none
def q09_Intrinsic.shape (t : ((List Int) × Bool)) : List AV × Blks := ([(.rints .u8 t.1), (.bool t.2)], [])
def q09_Intrinsic.res : Int → AV × Blks
  | u => (Prod.mk (.int .u64 u) [])
def q09_Intrinsic.resK {R : Type} (u : Int) (K : AV → Blks → Option R) : Option R := (fun p : AV × Blks => K p.1 p.2) (Prod.mk (.int .u64 u) [])
def q09_Intrinsic.c (n : Nat) : Abs.Callee := .mk' [] [(some (.ints .u8)), none] q09_Intrinsic.pat (q09_Intrinsic.m n) q09_Intrinsic.resK
end
end

section
set_option linter.unusedVariables false
set_option linter.unusedSimpArgs false
set_option maxRecDepth 100000
open Go Go.Abs Go.Proofs
/-! q09_Intrinsic -/
theorem q09_Intrinsic.l3_0.rmap {α β : Type} (h : β → α) (mk0 : Bool → Int → (List Int) → β) (n : Nat) (f : Int → (List Int) → Int → Bool → Option β)  (x0 : Int) (x1 : (List Int)) (x2 : Int) (x3 : Bool) : q09_Intrinsic.l3_0.r (fun a0 a1 a2 => (h (mk0 a0 a1 a2))) n (fun y0 y1 y2 y3 => (f y0 y1 y2 y3).map h) x0 x1 x2 x3 = (q09_Intrinsic.l3_0.r mk0 n f x0 x1 x2 x3).map h := by
  unfold q09_Intrinsic.l3_0.r
  exact (ite_map (ite_map (ite_map (ite_map rfl rfl) rfl) rfl) rfl)
theorem q09_Intrinsic.l3_0.gmap {α β : Type} (h : β → α) (mk0 : Bool → Int → (List Int) → β) (n : Nat) : ∀ (m : Nat) (x0 : Int) (x1 : (List Int)) (x2 : Int) (x3 : Bool), q09_Intrinsic.l3_0.g (fun a0 a1 a2 => (h (mk0 a0 a1 a2))) n m x0 x1 x2 x3 = (q09_Intrinsic.l3_0.g mk0 n m x0 x1 x2 x3).map h
  | 0, _, _, _, _ => rfl
  | m + 1, x0, x1, x2, x3 => by
    unfold q09_Intrinsic.l3_0.g
    rw [← q09_Intrinsic.l3_0.rmap]
    congr
    · funext y0 y1 y2 y3; exact q09_Intrinsic.l3_0.gmap h mk0 n m y0 y1 y2 y3
theorem q09_Intrinsic.l3_0.pat_shape : ∀ st t, q09_Intrinsic.l3_0.pat st = some t → st = q09_Intrinsic.l3_0.shape t := by
  intro st t h
  unfold q09_Intrinsic.l3_0.pat at h
  split at h
  · cases h; rfl
  · cases h
theorem q09_Intrinsic.l3_0.round (n : Nat) (rc : St → Option (Ex × St)) (x0 : Int) (x1 : (List Int)) (x2 : Int) (x3 : Bool) : roundOf (q09_Intrinsic.C n) (q09_Intrinsic.A n) n q09_Intrinsic.b0 rc ((St.mk [(.int .i64 x0), (.rints .u8 x1), (.int .u64 x2), (.bool x3)] [])) = q09_Intrinsic.l3_0.r (fun a0 a1 a2 => ((Prod.mk (.exit 0) (St.mk [(.bool a0), (.int .u64 a1), (.rints .u8 a2)] [])) : Ex × St)) n (fun y0 y1 y2 y3 => rc ((St.mk [(.int .i64 y0), (.rints .u8 y1), (.int .u64 y2), (.bool y3)] []))) x0 x1 x2 x3 := by kernel_rfl
theorem q09_Intrinsic.l3_0.loop' (n : Nat) : ∀ (m : Nat) (t : (Int × ((List Int) × (Int × Bool)))), loopOf (roundOf (q09_Intrinsic.C n) (q09_Intrinsic.A n) n q09_Intrinsic.b0) m (q09_Intrinsic.l3_0.shape t) = q09_Intrinsic.l3_0.g (fun a0 a1 a2 => ((Prod.mk (.exit 0) (St.mk [(.bool a0), (.int .u64 a1), (.rints .u8 a2)] [])) : Ex × St)) n m t.1 t.2.1 t.2.2.1 t.2.2.2 :=
  loop_of_round (shape := q09_Intrinsic.l3_0.shape) (body := roundOf (q09_Intrinsic.C n) (q09_Intrinsic.A n) n q09_Intrinsic.b0) (g := fun m t => q09_Intrinsic.l3_0.g (fun a0 a1 a2 => ((Prod.mk (.exit 0) (St.mk [(.bool a0), (.int .u64 a1), (.rints .u8 a2)] [])) : Ex × St)) n m t.1 t.2.1 t.2.2.1 t.2.2.2) (fun t => rfl)
    fun m t ih => (q09_Intrinsic.l3_0.round n (loopOf (roundOf (q09_Intrinsic.C n) (q09_Intrinsic.A n) n q09_Intrinsic.b0) m) t.1 t.2.1 t.2.2.1 t.2.2.2).trans (congrFun (congrFun (congrFun (congrFun (congrArg (q09_Intrinsic.l3_0.r (fun a0 a1 a2 => ((Prod.mk (.exit 0) (St.mk [(.bool a0), (.int .u64 a1), (.rints .u8 a2)] [])) : Ex × St)) n) (funext fun y0 => funext fun y1 => funext fun y2 => funext fun y3 => ih (y0, y1, y2, y3))) t.1) t.2.1) t.2.2.1) t.2.2.2)
theorem q09_Intrinsic.l3_0.loop (n m : Nat) (t : (Int × ((List Int) × (Int × Bool)))) : loopOf (roundOf (q09_Intrinsic.C n) (q09_Intrinsic.A n) n q09_Intrinsic.b0) m (q09_Intrinsic.l3_0.shape t) = (q09_Intrinsic.l3_0.m n m t).map q09_Intrinsic.l3_0.res :=
  (q09_Intrinsic.l3_0.loop' n m t).trans (q09_Intrinsic.l3_0.gmap q09_Intrinsic.l3_0.res (fun a0 a1 a2 => (a0, a1, a2)) n m t.1 t.2.1 t.2.2.1 t.2.2.2)
theorem q09_Intrinsic.gmap {α β : Type} (h : β → α) (mk0 : Int → β) (n : Nat) (a0 : (List Int)) (a1 : Bool) : q09_Intrinsic.g (fun a0 => (h (mk0 a0))) n a0 a1 = (q09_Intrinsic.g mk0 n a0 a1).map h := by
  unfold q09_Intrinsic.g
  exact (bindO_map fun r2 => (ite_map (bindO_map fun r6 => rfl) rfl))
theorem q09_Intrinsic.run (n : Nat) (a0 : (List Int)) (a1 : Bool) : runF (q09_Intrinsic.C n) (q09_Intrinsic.A n) n Try.f44 [(.rints .u8 a0), (.bool a1)] [] (fun v o => some (v, o)) = q09_Intrinsic.g (fun a0 => ((Prod.mk (.int .u64 a0) []) : AV × Blks)) n a0 a1 := by kernel_rfl
theorem q09_Intrinsic.call (hmix : Try.prog.follows .mixedOrders = true) (n : Nat) (t : ((List Int) × Bool)) (u) (h : q09_Intrinsic.m n t = some u) : FnC Try.prog (fun _ => .any) 44 (q09_Intrinsic.shape t).1 (q09_Intrinsic.shape t).2 (q09_Intrinsic.res u).1 (q09_Intrinsic.res u).2 := by
  have hg : ∀ f m, (q09_Intrinsic.C n).Γ f = some m → CalleeS Try.prog (fun _ => .any) f m := by
    intro f m hm
    unfold q09_Intrinsic.C at hm
    simp only at hm
    first
    | (cases hm; done)
    | (split at hm <;> first
    | (cases hm; exact q09_Words.s hmix n)
    | (cases hm; done))
  have hb : Try.f44.body = some (Try.f44.body.getD .skip) := by kernel_rfl
  refine runF_calls (C := q09_Intrinsic.C n) (A := q09_Intrinsic.A n) (n := n) (fn := Try.f44) hg hmix Try.func44 hb ?_ ?_ (by decide) rfl rfl (by show 2 ≤ Try.f44.ntmps; decide) ?_
  · rw [show loopsIn (Try.f44.body.getD .skip) = [q09_Intrinsic.b0] by kernel_rfl]
    intro b hb m hm
    simp only [List.mem_cons, List.not_mem_nil, or_false] at hb
    rcases hb with rfl
    · have e : (q09_Intrinsic.A n).loop (key q09_Intrinsic.b0) = some (.mk' q09_Intrinsic.l3_0.pat (q09_Intrinsic.l3_0.m n n) q09_Intrinsic.l3_0.resK) := by rw [show key q09_Intrinsic.b0 = 3 by kernel_rfl]; rfl
      rw [e] at hm
      cases hm
      exact LoopS.of (res := q09_Intrinsic.l3_0.res) (fun R u K => rfl) q09_Intrinsic.l3_0.pat_shape fun t => q09_Intrinsic.l3_0.loop n n t
  · intro a ha m hm
    have hm' := lookJ_mem (show lookJ [] (jkey a) = some m from hm)
    simp only [List.mem_cons, List.not_mem_nil, or_false, Prod.mk.injEq] at hm'

  · rw [show runF (q09_Intrinsic.C n) (q09_Intrinsic.A n) n Try.f44 (q09_Intrinsic.shape t).1 (q09_Intrinsic.shape t).2 (fun v o => some (v, o)) = _ from q09_Intrinsic.run n t.1 t.2]
    have e := q09_Intrinsic.gmap q09_Intrinsic.res (fun a0 => a0) n t.1 t.2
    unfold q09_Intrinsic.m at h
    rw [h] at e
    exact e
theorem q09_Intrinsic.ok (hmix : Try.prog.follows .mixedOrders = true) (n : Nat) (t : ((List Int) × Bool)) (u) (h : q09_Intrinsic.m n t = some u) : FnOK Try.prog (fun _ => .any) 44 (q09_Intrinsic.shape t).1 (q09_Intrinsic.shape t).2 (q09_Intrinsic.res u).1 (q09_Intrinsic.res u).2 :=
  (q09_Intrinsic.call hmix n t u h).ok Try.func44 (by decide) (by kernel_rfl)
theorem q09_Intrinsic.s (hmix : Try.prog.follows .mixedOrders = true) (n : Nat) : CalleeS Try.prog (fun _ => .any) 44 (q09_Intrinsic.c n) :=
  CalleeS.of (res := q09_Intrinsic.res) (shape := q09_Intrinsic.shape) (fun R u K => rfl) (fun args lent t h => by
    unfold q09_Intrinsic.pat at h
    split at h
    · cases h; rfl
    · cases h) fun t u h => q09_Intrinsic.ok hmix n t u h
end

section
set_option linter.unusedVariables false
set_option linter.unusedSimpArgs false
set_option maxRecDepth 100000
open Go Go.Abs Go.Proofs
noncomputable section
/-! fees_Back -/
noncomputable def fees_Back.C (n : Nat) : Ctx := ⟨Try.prog, (fun _ => .any), fun f => match f with
  | _ => none⟩
def fees_Back.live : Nat → List Nat × List Nat := fun k => match k with
  | _ => ([], [])
def fees_Back.jlive : Nat → List Nat × List Nat := fun k => match k with
  | _ => ([], [])
noncomputable def fees_Back.A (n : Nat) : Ann := ⟨Try.f45.ntmps, 0, fees_Back.live, [], [none], fun k => match k with
  | _ => none, fees_Back.jlive, lookJ []⟩
def fees_Back.g {α : Type} (mk0 : Int → α) (n : Nat) (a0 : Int) (a1 : Int) : Option α :=
  some (mk0 (if a1 < (Go.IntKind.wrap .u64 (Int.tdiv a0 5)) then a1 else (Go.IntKind.wrap .u64 (Int.tdiv a0 5))))
def fees_Back.m (n : Nat) (t : (Int × Int)) : Option Int := fees_Back.g (fun a0 => a0) n t.1 t.2
def fees_Back.pat : List AV → Blks → Option (Int × Int)
  | [(.int .u64 a0), (.int .u64 a1)], [] => some (a0, a1)
  | _, _ => none
def fees_Back.shape (t : (Int × Int)) : List AV × Blks := ([(.int .u64 t.1), (.int .u64 t.2)], [])
def fees_Back.res : Int → AV × Blks
  | u => (Prod.mk (.int .u64 u) [])
def fees_Back.resK {R : Type} (u : Int) (K : AV → Blks → Option R) : Option R := (fun p : AV × Blks => K p.1 p.2) (Prod.mk (.int .u64 u) [])
def fees_Back.c (n : Nat) : Abs.Callee := .mk' [] [none, none] fees_Back.pat (fees_Back.m n) fees_Back.resK
end
end

section
set_option linter.unusedVariables false
set_option linter.unusedSimpArgs false
set_option maxRecDepth 100000
open Go Go.Abs Go.Proofs
/-! fees_Back -/
theorem fees_Back.gmap {α β : Type} (h : β → α) (mk0 : Int → β) (n : Nat) (a0 : Int) (a1 : Int) : fees_Back.g (fun a0 => (h (mk0 a0))) n a0 a1 = (fees_Back.g mk0 n a0 a1).map h := by
  unfold fees_Back.g
  exact rfl
theorem fees_Back.run (n : Nat) (a0 : Int) (a1 : Int) : runF (fees_Back.C n) (fees_Back.A n) n Try.f45 [(.int .u64 a0), (.int .u64 a1)] [] (fun v o => some (v, o)) = fees_Back.g (fun a0 => ((Prod.mk (.int .u64 a0) []) : AV × Blks)) n a0 a1 := by kernel_rfl
theorem fees_Back.call (hmix : Try.prog.follows .mixedOrders = true) (n : Nat) (t : (Int × Int)) (u) (h : fees_Back.m n t = some u) : FnC Try.prog (fun _ => .any) 45 (fees_Back.shape t).1 (fees_Back.shape t).2 (fees_Back.res u).1 (fees_Back.res u).2 := by
  have hg : ∀ f m, (fees_Back.C n).Γ f = some m → CalleeS Try.prog (fun _ => .any) f m := by
    intro f m hm
    unfold fees_Back.C at hm
    simp only at hm
    first
    | (cases hm; done)
    | (split at hm <;> first
    | (cases hm; done))
  have hb : Try.f45.body = some (Try.f45.body.getD .skip) := by kernel_rfl
  refine runF_calls (C := fees_Back.C n) (A := fees_Back.A n) (n := n) (fn := Try.f45) hg hmix Try.func45 hb ?_ ?_ (by decide) rfl rfl (by show 2 ≤ Try.f45.ntmps; decide) ?_
  · rw [show loopsIn (Try.f45.body.getD .skip) = [] by kernel_rfl]
    intro b hb m hm
    simp only [List.mem_cons, List.not_mem_nil, or_false] at hb

  · intro a ha m hm
    have hm' := lookJ_mem (show lookJ [] (jkey a) = some m from hm)
    simp only [List.mem_cons, List.not_mem_nil, or_false, Prod.mk.injEq] at hm'

  · rw [show runF (fees_Back.C n) (fees_Back.A n) n Try.f45 (fees_Back.shape t).1 (fees_Back.shape t).2 (fun v o => some (v, o)) = _ from fees_Back.run n t.1 t.2]
    have e := fees_Back.gmap fees_Back.res (fun a0 => a0) n t.1 t.2
    unfold fees_Back.m at h
    rw [h] at e
    exact e
theorem fees_Back.ok (hmix : Try.prog.follows .mixedOrders = true) (n : Nat) (t : (Int × Int)) (u) (h : fees_Back.m n t = some u) : FnOK Try.prog (fun _ => .any) 45 (fees_Back.shape t).1 (fees_Back.shape t).2 (fees_Back.res u).1 (fees_Back.res u).2 :=
  (fees_Back.call hmix n t u h).ok Try.func45 (by decide) (by kernel_rfl)
theorem fees_Back.s (hmix : Try.prog.follows .mixedOrders = true) (n : Nat) : CalleeS Try.prog (fun _ => .any) 45 (fees_Back.c n) :=
  CalleeS.of (res := fees_Back.res) (shape := fees_Back.shape) (fun R u K => rfl) (fun args lent t h => by
    unfold fees_Back.pat at h
    split at h
    · cases h; rfl
    · cases h) fun t u h => fees_Back.ok hmix n t u h
end

section
set_option linter.unusedVariables false
set_option linter.unusedSimpArgs false
set_option maxRecDepth 100000
open Go Go.Abs Go.Proofs
noncomputable section
/-! q09_Back -/
noncomputable def q09_Back.C (n : Nat) : Ctx := ⟨Try.prog, (fun _ => .any), fun f => match f with
  | _ => none⟩
def q09_Back.live : Nat → List Nat × List Nat := fun k => match k with
  | _ => ([], [])
def q09_Back.jlive : Nat → List Nat × List Nat := fun k => match k with
  | _ => ([], [])
noncomputable def q09_Back.A (n : Nat) : Ann := ⟨Try.f46.ntmps, 0, q09_Back.live, [], [none], fun k => match k with
  | _ => none, q09_Back.jlive, lookJ []⟩
def q09_Back.g {α : Type} (mk0 : Int → α) (n : Nat) (a0 : Int) (a1 : Int) : Option α :=
  some (mk0 (if (Go.IntKind.wrap .u64 (Int.tdiv a0 5)) < a1 then (Go.IntKind.wrap .u64 (Int.tdiv a0 5)) else a1))
def q09_Back.m (n : Nat) (t : (Int × Int)) : Option Int := q09_Back.g (fun a0 => a0) n t.1 t.2
def q09_Back.pat : List AV → Blks → Option (Int × Int)
  | [(.int .u64 a0), (.int .u64 a1)], [] => some (a0, a1)
  | _, _ => none
def q09_Back.shape (t : (Int × Int)) : List AV × Blks := ([(.int .u64 t.1), (.int .u64 t.2)], [])
def q09_Back.res : Int → AV × Blks
  | u => (Prod.mk (.int .u64 u) [])
def q09_Back.resK {R : Type} (u : Int) (K : AV → Blks → Option R) : Option R := (fun p : AV × Blks => K p.1 p.2) (Prod.mk (.int .u64 u) [])
def q09_Back.c (n : Nat) : Abs.Callee := .mk' [] [none, none] q09_Back.pat (q09_Back.m n) q09_Back.resK
end
end

section
set_option linter.unusedVariables false
set_option linter.unusedSimpArgs false
set_option maxRecDepth 100000
open Go Go.Abs Go.Proofs
/-! q09_Back -/
theorem q09_Back.gmap {α β : Type} (h : β → α) (mk0 : Int → β) (n : Nat) (a0 : Int) (a1 : Int) : q09_Back.g (fun a0 => (h (mk0 a0))) n a0 a1 = (q09_Back.g mk0 n a0 a1).map h := by
  unfold q09_Back.g
  exact rfl
theorem q09_Back.run (n : Nat) (a0 : Int) (a1 : Int) : runF (q09_Back.C n) (q09_Back.A n) n Try.f46 [(.int .u64 a0), (.int .u64 a1)] [] (fun v o => some (v, o)) = q09_Back.g (fun a0 => ((Prod.mk (.int .u64 a0) []) : AV × Blks)) n a0 a1 := by kernel_rfl
theorem q09_Back.call (hmix : Try.prog.follows .mixedOrders = true) (n : Nat) (t : (Int × Int)) (u) (h : q09_Back.m n t = some u) : FnC Try.prog (fun _ => .any) 46 (q09_Back.shape t).1 (q09_Back.shape t).2 (q09_Back.res u).1 (q09_Back.res u).2 := by
  have hg : ∀ f m, (q09_Back.C n).Γ f = some m → CalleeS Try.prog (fun _ => .any) f m := by
    intro f m hm
    unfold q09_Back.C at hm
    simp only at hm
    first
    | (cases hm; done)
    | (split at hm <;> first
    | (cases hm; done))
  have hb : Try.f46.body = some (Try.f46.body.getD .skip) := by kernel_rfl
  refine runF_calls (C := q09_Back.C n) (A := q09_Back.A n) (n := n) (fn := Try.f46) hg hmix Try.func46 hb ?_ ?_ (by decide) rfl rfl (by show 2 ≤ Try.f46.ntmps; decide) ?_
  · rw [show loopsIn (Try.f46.body.getD .skip) = [] by kernel_rfl]
    intro b hb m hm
    simp only [List.mem_cons, List.not_mem_nil, or_false] at hb

  · intro a ha m hm
    have hm' := lookJ_mem (show lookJ [] (jkey a) = some m from hm)
    simp only [List.mem_cons, List.not_mem_nil, or_false, Prod.mk.injEq] at hm'

  · rw [show runF (q09_Back.C n) (q09_Back.A n) n Try.f46 (q09_Back.shape t).1 (q09_Back.shape t).2 (fun v o => some (v, o)) = _ from q09_Back.run n t.1 t.2]
    have e := q09_Back.gmap q09_Back.res (fun a0 => a0) n t.1 t.2
    unfold q09_Back.m at h
    rw [h] at e
    exact e
theorem q09_Back.ok (hmix : Try.prog.follows .mixedOrders = true) (n : Nat) (t : (Int × Int)) (u) (h : q09_Back.m n t = some u) : FnOK Try.prog (fun _ => .any) 46 (q09_Back.shape t).1 (q09_Back.shape t).2 (q09_Back.res u).1 (q09_Back.res u).2 :=
  (q09_Back.call hmix n t u h).ok Try.func46 (by decide) (by kernel_rfl)
theorem q09_Back.s (hmix : Try.prog.follows .mixedOrders = true) (n : Nat) : CalleeS Try.prog (fun _ => .any) 46 (q09_Back.c n) :=
  CalleeS.of (res := q09_Back.res) (shape := q09_Back.shape) (fun R u K => rfl) (fun args lent t h => by
    unfold q09_Back.pat at h
    split at h
    · cases h; rfl
    · cases h) fun t u h => q09_Back.ok hmix n t u h
end

section
set_option linter.unusedVariables false
set_option linter.unusedSimpArgs false
set_option maxRecDepth 100000
open Go Go.Abs Go.Proofs
noncomputable section
/-! l09_known -/
noncomputable def l09_known.C (n : Nat) : Ctx := ⟨Try.prog, (fun _ => .any), fun f => match f with
  | 39 => some (fees_Store.c n)
  | 37 => some (fees_Memory.c n)
  | 33 => some (fees_Exp.c n)
  | 41 => some (fees_Keep.c n)
  | 42 => some (fees_Intrinsic.c n)
  | 31 => some (fees_Base.c n)
  | _ => none⟩
def l09_known.live : Nat → List Nat × List Nat := fun k => match k with
  | _ => ([], [])
def l09_known.jlive : Nat → List Nat × List Nat := fun k => match k with
  | _ => ([], [])
noncomputable def l09_known.A (n : Nat) : Ann := ⟨Try.f30.ntmps, 0, l09_known.live, [], [none], fun k => match k with
  | _ => none, l09_known.jlive, lookJ []⟩
def l09_known.g {α : Type} (mk0 : Bool → α) (n : Nat)  : Option α :=
  bindO (fees_Store.m n (Prod.mk [0, 0, 0, 0] (Prod.mk [0, 0, 0, 0] (Prod.mk [1, 0, 0, 0] true)))) fun r2 =>
    bindO (fees_Store.m n (Prod.mk [5, 0, 0, 0] (Prod.mk [0, 0, 0, 0] (Prod.mk [5, 0, 0, 0] false)))) fun r4 =>
      bindO (fees_Memory.m n 32) fun r6 =>
        if (r6 == 3) = true then
          bindO (fees_Memory.m n 1024) fun r10 =>
            if (r10 == 98) = true then
              bindO (fees_Memory.m n 33) fun r14 =>
                if (r14 == 6) = true then
                  bindO (fees_Exp.m n [256, 0, 0, 0]) fun r18 =>
                    if (r18 == 100) = true then
                      if ((Prod.fst r2) == 22100) = true then
                        if ((Prod.snd r2) == 0) = true then
                          if ((Prod.fst r4) == 100) = true then
                            if ((Prod.snd r4) == (-2000)) = true then
                              bindO (fees_Keep.m n (Prod.mk 6400 [18446744073709551615, 18446744073709551615, 18446744073709551615, 18446744073709551615])) fun r30 =>
                                if (r30 == 6300) = true then
                                  bindO (fees_Intrinsic.m n (Prod.mk [0, 1] false)) fun r34 =>
                                    if (r34 == 21020) = true then
                                      bindO (fees_Base.m n 84) fun r38 =>
                                        if (r38 == 0) = true then
                                          bindO (fees_Base.m n 161) fun r42 =>
                                            some (mk0 (r42 == 750))
                                        else
                                          some (mk0 false)
                                    else
                                      some (mk0 false)
                                else
                                  some (mk0 false)
                            else
                              some (mk0 false)
                          else
                            some (mk0 false)
                        else
                          some (mk0 false)
                      else
                        some (mk0 false)
                    else
                      some (mk0 false)
                else
                  some (mk0 false)
            else
              some (mk0 false)
        else
          some (mk0 false)
def l09_known.m (n : Nat) (t : Unit) : Option Bool := l09_known.g (fun a0 => a0) n 
def l09_known.pat : List AV → Blks → Option Unit
  | [], [] => some ()
  | _, _ => none
def l09_known.shape (t : Unit) : List AV × Blks := ([], [])
def l09_known.res : Bool → AV × Blks
  | u => (Prod.mk (.bool u) [])
def l09_known.resK {R : Type} (u : Bool) (K : AV → Blks → Option R) : Option R := (fun p : AV × Blks => K p.1 p.2) (Prod.mk (.bool u) [])
def l09_known.c (n : Nat) : Abs.Callee := .mk' [] [] l09_known.pat (l09_known.m n) l09_known.resK
end
end

section
set_option linter.unusedVariables false
set_option linter.unusedSimpArgs false
set_option maxRecDepth 100000
open Go Go.Abs Go.Proofs
/-! l09_known -/
theorem l09_known.gmap {α β : Type} (h : β → α) (mk0 : Bool → β) (n : Nat)  : l09_known.g (fun a0 => (h (mk0 a0))) n  = (l09_known.g mk0 n ).map h := by
  unfold l09_known.g
  exact (bindO_map fun r2 => (bindO_map fun r4 => (bindO_map fun r6 => (ite_map (bindO_map fun r10 => (ite_map (bindO_map fun r14 => (ite_map (bindO_map fun r18 => (ite_map (ite_map (ite_map (ite_map (ite_map (bindO_map fun r30 => (ite_map (bindO_map fun r34 => (ite_map (bindO_map fun r38 => (ite_map (bindO_map fun r42 => rfl) rfl)) rfl)) rfl)) rfl) rfl) rfl) rfl) rfl)) rfl)) rfl)) rfl))))
theorem l09_known.run (n : Nat)  : runF (l09_known.C n) (l09_known.A n) n Try.f30 [] [] (fun v o => some (v, o)) = l09_known.g (fun a0 => ((Prod.mk (.bool a0) []) : AV × Blks)) n  := by kernel_rfl
theorem l09_known.call (hmix : Try.prog.follows .mixedOrders = true) (n : Nat) (t : Unit) (u) (h : l09_known.m n t = some u) : FnC Try.prog (fun _ => .any) 30 (l09_known.shape t).1 (l09_known.shape t).2 (l09_known.res u).1 (l09_known.res u).2 := by
  have hg : ∀ f m, (l09_known.C n).Γ f = some m → CalleeS Try.prog (fun _ => .any) f m := by
    intro f m hm
    unfold l09_known.C at hm
    simp only at hm
    first
    | (cases hm; done)
    | (split at hm <;> first
    | (cases hm; exact fees_Store.s hmix n)
    | (cases hm; exact fees_Memory.s hmix n)
    | (cases hm; exact fees_Exp.s hmix n)
    | (cases hm; exact fees_Keep.s hmix n)
    | (cases hm; exact fees_Intrinsic.s hmix n)
    | (cases hm; exact fees_Base.s hmix n)
    | (cases hm; done))
  have hb : Try.f30.body = some (Try.f30.body.getD .skip) := by kernel_rfl
  refine runF_calls (C := l09_known.C n) (A := l09_known.A n) (n := n) (fn := Try.f30) hg hmix Try.func30 hb ?_ ?_ (by decide) rfl rfl (by show 0 ≤ Try.f30.ntmps; decide) ?_
  · rw [show loopsIn (Try.f30.body.getD .skip) = [] by kernel_rfl]
    intro b hb m hm
    simp only [List.mem_cons, List.not_mem_nil, or_false] at hb

  · intro a ha m hm
    have hm' := lookJ_mem (show lookJ [] (jkey a) = some m from hm)
    simp only [List.mem_cons, List.not_mem_nil, or_false, Prod.mk.injEq] at hm'

  · rw [show runF (l09_known.C n) (l09_known.A n) n Try.f30 (l09_known.shape t).1 (l09_known.shape t).2 (fun v o => some (v, o)) = _ from l09_known.run n ]
    have e := l09_known.gmap l09_known.res (fun a0 => a0) n 
    unfold l09_known.m at h
    rw [h] at e
    exact e
theorem l09_known.ok (hmix : Try.prog.follows .mixedOrders = true) (n : Nat) (t : Unit) (u) (h : l09_known.m n t = some u) : FnOK Try.prog (fun _ => .any) 30 (l09_known.shape t).1 (l09_known.shape t).2 (l09_known.res u).1 (l09_known.res u).2 :=
  (l09_known.call hmix n t u h).ok Try.func30 (by decide) (by kernel_rfl)
theorem l09_known.s (hmix : Try.prog.follows .mixedOrders = true) (n : Nat) : CalleeS Try.prog (fun _ => .any) 30 (l09_known.c n) :=
  CalleeS.of (res := l09_known.res) (shape := l09_known.shape) (fun R u K => rfl) (fun args lent t h => by
    unfold l09_known.pat at h
    split at h
    · cases h; rfl
    · cases h) fun t u h => l09_known.ok hmix n t u h
end

section
set_option linter.unusedVariables false
set_option linter.unusedSimpArgs false
set_option maxRecDepth 100000
open Go Go.Abs Go.Proofs
noncomputable section
/-! l09_FeesRound -/
noncomputable def l09_FeesRound.C (n : Nat) : Ctx := ⟨Try.prog, (fun _ => .any), fun f => match f with
  | 30 => some (l09_known.c n)
  | 39 => some (fees_Store.c n)
  | _ => none⟩
def l09_FeesRound.live : Nat → List Nat × List Nat := fun k => match k with
  | 7 => ([8, 1, 2, 5, 6, 7], [7, 6])
  | _ => ([], [])
def l09_FeesRound.jlive : Nat → List Nat × List Nat := fun k => match k with
  | _ => ([], [])
def l09_FeesRound.l7_0.r {α : Type} (mk0 : Int → Int → α) (n : Nat) (rc : Int → (List AV) → Int → Int → (List Int) → (List Int) → Option α)  (x0 : Int) (x1 : (List AV)) (x2 : Int) (x3 : Int) (x4 : (List Int)) (x5 : (List Int)) : Option α :=
    if (decide (x0 ≤ (((List.length x1) : Nat) : Int))) = true then
      if (decide (x0 < (((List.length x1) : Nat) : Int))) = true then
        if 0 ≤ x0 then
          if x0 < (((List.length x1) : Nat) : Int) then
            bindO (Go.Abs.tkInts .u64 4 (List.getD x1 (Int.toNat x0) Go.Abs.AV.any)) fun r12 =>
              bindO (fees_Store.m n (Prod.mk x4 (Prod.mk x5 (Prod.mk r12 (x0 == 0))))) fun r14 =>
                rc (Go.IntKind.wrap .i64 (x0 + 1)) x1 (Go.IntKind.wrap .u64 (x2 + (Prod.fst r14))) (Go.IntKind.wrap .i64 (x3 + (Prod.snd r14))) x4 r12
          else
            none
        else
          none
      else
        bindO (fees_Store.m n (Prod.mk x4 (Prod.mk x5 (Prod.mk x4 (x0 == 0))))) fun r8 =>
          rc (Go.IntKind.wrap .i64 (x0 + 1)) x1 (Go.IntKind.wrap .u64 (x2 + (Prod.fst r8))) (Go.IntKind.wrap .i64 (x3 + (Prod.snd r8))) x4 x4
    else
      some (mk0 x3 x2)
def l09_FeesRound.l7_0.g {α : Type} (mk0 : Int → Int → α) (n : Nat) : Nat → Int → (List AV) → Int → Int → (List Int) → (List Int) → Option α
  | 0, _, _, _, _, _, _ => none
  | m + 1, x0, x1, x2, x3, x4, x5 => l09_FeesRound.l7_0.r mk0 n (fun y0 y1 y2 y3 y4 y5 => l09_FeesRound.l7_0.g mk0 n m y0 y1 y2 y3 y4 y5)  x0 x1 x2 x3 x4 x5
def l09_FeesRound.l7_0.m (n m : Nat) (t : (Int × ((List AV) × (Int × (Int × ((List Int) × (List Int))))))) : Option (Int × Int) := l09_FeesRound.l7_0.g (fun a0 a1 => (a0, a1)) n m t.1 t.2.1 t.2.2.1 t.2.2.2.1 t.2.2.2.2.1 t.2.2.2.2.2
def l09_FeesRound.l7_0.pat : St → Option (Int × ((List AV) × (Int × (Int × ((List Int) × (List Int))))))
  | (St.mk [(.int .i64 x0), (.robjs 33 4 x1), (.ptr 0 []), (.ptr 1 []), (.int .u64 x2), (.int .i64 x3)] [(some (.var (.ints .u64 4 x4))), (some (.var (.ints .u64 4 x5)))]) => some (x0, x1, x2, x3, x4, x5)
  | _ => none
def l09_FeesRound.l7_0.shape (t : (Int × ((List AV) × (Int × (Int × ((List Int) × (List Int))))))) : St := (St.mk [(.int .i64 t.1), (.robjs 33 4 t.2.1), (.ptr 0 []), (.ptr 1 []), (.int .u64 t.2.2.1), (.int .i64 t.2.2.2.1)] [(some (.var (.ints .u64 4 t.2.2.2.2.1))), (some (.var (.ints .u64 4 t.2.2.2.2.2)))])
def l09_FeesRound.l7_0.res : (Int × Int) → Ex × St
  | u => (Prod.mk (.exit 0) (St.mk [(.int .i64 u.1), (.int .u64 u.2)] []))
def l09_FeesRound.l7_0.resK {R : Type} (u : (Int × Int)) (K : Ex → St → Option R) : Option R := (fun p : Ex × St => K p.1 p.2) (Prod.mk (.exit 0) (St.mk [(.int .i64 u.1), (.int .u64 u.2)] []))
noncomputable def l09_FeesRound.A (n : Nat) : Ann := ⟨Try.f12.ntmps, 0, l09_FeesRound.live, [(1, (.objs 33 4))], [none], fun k => match k with
  | 7 => some (.mk' l09_FeesRound.l7_0.pat (l09_FeesRound.l7_0.m n n) l09_FeesRound.l7_0.resK)
  | _ => none, l09_FeesRound.jlive, lookJ []⟩
noncomputable def l09_FeesRound.b0 : Code := (loopsIn (Try.f12.body.getD .skip)).getD 0 .skip
def l09_FeesRound.g {α : Type} (mk0 : Bool → α) (n : Nat) (a0 : (List Int)) (a1 : (List AV)) : Option α :=
  if (decide ((((List.length a1) : Nat) : Int) > 50)) = true then
    bindO (l09_known.m n Unit.unit) fun r4 =>
      some (mk0 r4)
  else
    bindO (l09_known.m n Unit.unit) fun r4 =>
      if (!r4) = true then
        bindO (l09_known.m n Unit.unit) fun r8 =>
          some (mk0 r8)
      else
        bindO (l09_FeesRound.l7_0.m n n (0, a1, 0, 0, a0, a0)) fun r8 =>
          if (decide ((Prod.fst r8) ≥ 0)) = true then
            some (mk0 (decide ((Go.IntKind.wrap .u64 (Prod.fst r8)) ≤ (Prod.snd r8))))
          else
            some (mk0 false)
def l09_FeesRound.m (n : Nat) (t : ((List Int) × (List AV))) : Option Bool := l09_FeesRound.g (fun a0 => a0) n t.1 t.2
def l09_FeesRound.pat : List AV → Blks → Option ((List Int) × (List AV))
  | [(.ints .u64 4 a0), (.robjs 33 4 a1)], [] => some (a0, a1)
  | _, _ => none
def l09_FeesRound.shape (t : ((List Int) × (List AV))) : List AV × Blks := ([(.ints .u64 4 t.1), (.robjs 33 4 t.2)], [])
def l09_FeesRound.res : Bool → AV × Blks
  | u => (Prod.mk (.bool u) [])
def l09_FeesRound.resK {R : Type} (u : Bool) (K : AV → Blks → Option R) : Option R := (fun p : AV × Blks => K p.1 p.2) (Prod.mk (.bool u) [])
def l09_FeesRound.c (n : Nat) : Abs.Callee := .mk' [] [none, (some (.objs 33 4))] l09_FeesRound.pat (l09_FeesRound.m n) l09_FeesRound.resK
end
end

section
set_option linter.unusedVariables false
set_option linter.unusedSimpArgs false
set_option maxRecDepth 100000
open Go Go.Abs Go.Proofs
/-! l09_FeesRound -/
theorem l09_FeesRound.l7_0.rmap {α β : Type} (h : β → α) (mk0 : Int → Int → β) (n : Nat) (f : Int → (List AV) → Int → Int → (List Int) → (List Int) → Option β)  (x0 : Int) (x1 : (List AV)) (x2 : Int) (x3 : Int) (x4 : (List Int)) (x5 : (List Int)) : l09_FeesRound.l7_0.r (fun a0 a1 => (h (mk0 a0 a1))) n (fun y0 y1 y2 y3 y4 y5 => (f y0 y1 y2 y3 y4 y5).map h) x0 x1 x2 x3 x4 x5 = (l09_FeesRound.l7_0.r mk0 n f x0 x1 x2 x3 x4 x5).map h := by
  unfold l09_FeesRound.l7_0.r
  exact (ite_map (ite_map (ite_map (ite_map (bindO_map fun r12 => (bindO_map fun r14 => rfl)) rfl) rfl) (bindO_map fun r8 => rfl)) rfl)
theorem l09_FeesRound.l7_0.gmap {α β : Type} (h : β → α) (mk0 : Int → Int → β) (n : Nat) : ∀ (m : Nat) (x0 : Int) (x1 : (List AV)) (x2 : Int) (x3 : Int) (x4 : (List Int)) (x5 : (List Int)), l09_FeesRound.l7_0.g (fun a0 a1 => (h (mk0 a0 a1))) n m x0 x1 x2 x3 x4 x5 = (l09_FeesRound.l7_0.g mk0 n m x0 x1 x2 x3 x4 x5).map h
  | 0, _, _, _, _, _, _ => rfl
  | m + 1, x0, x1, x2, x3, x4, x5 => by
    unfold l09_FeesRound.l7_0.g
    rw [← l09_FeesRound.l7_0.rmap]
    congr
    · funext y0 y1 y2 y3 y4 y5; exact l09_FeesRound.l7_0.gmap h mk0 n m y0 y1 y2 y3 y4 y5
theorem l09_FeesRound.l7_0.pat_shape : ∀ st t, l09_FeesRound.l7_0.pat st = some t → st = l09_FeesRound.l7_0.shape t := by
  intro st t h
  unfold l09_FeesRound.l7_0.pat at h
  split at h
  · cases h; rfl
  · cases h
theorem l09_FeesRound.l7_0.round (n : Nat) (rc : St → Option (Ex × St)) (x0 : Int) (x1 : (List AV)) (x2 : Int) (x3 : Int) (x4 : (List Int)) (x5 : (List Int)) : roundOf (l09_FeesRound.C n) (l09_FeesRound.A n) n l09_FeesRound.b0 rc ((St.mk [(.int .i64 x0), (.robjs 33 4 x1), (.ptr 0 []), (.ptr 1 []), (.int .u64 x2), (.int .i64 x3)] [(some (.var (.ints .u64 4 x4))), (some (.var (.ints .u64 4 x5)))])) = l09_FeesRound.l7_0.r (fun a0 a1 => ((Prod.mk (.exit 0) (St.mk [(.int .i64 a0), (.int .u64 a1)] [])) : Ex × St)) n (fun y0 y1 y2 y3 y4 y5 => rc ((St.mk [(.int .i64 y0), (.robjs 33 4 y1), (.ptr 0 []), (.ptr 1 []), (.int .u64 y2), (.int .i64 y3)] [(some (.var (.ints .u64 4 y4))), (some (.var (.ints .u64 4 y5)))]))) x0 x1 x2 x3 x4 x5 := by kernel_rfl
theorem l09_FeesRound.l7_0.loop' (n : Nat) : ∀ (m : Nat) (t : (Int × ((List AV) × (Int × (Int × ((List Int) × (List Int))))))), loopOf (roundOf (l09_FeesRound.C n) (l09_FeesRound.A n) n l09_FeesRound.b0) m (l09_FeesRound.l7_0.shape t) = l09_FeesRound.l7_0.g (fun a0 a1 => ((Prod.mk (.exit 0) (St.mk [(.int .i64 a0), (.int .u64 a1)] [])) : Ex × St)) n m t.1 t.2.1 t.2.2.1 t.2.2.2.1 t.2.2.2.2.1 t.2.2.2.2.2 :=
  loop_of_round (shape := l09_FeesRound.l7_0.shape) (body := roundOf (l09_FeesRound.C n) (l09_FeesRound.A n) n l09_FeesRound.b0) (g := fun m t => l09_FeesRound.l7_0.g (fun a0 a1 => ((Prod.mk (.exit 0) (St.mk [(.int .i64 a0), (.int .u64 a1)] [])) : Ex × St)) n m t.1 t.2.1 t.2.2.1 t.2.2.2.1 t.2.2.2.2.1 t.2.2.2.2.2) (fun t => rfl)
    fun m t ih => (l09_FeesRound.l7_0.round n (loopOf (roundOf (l09_FeesRound.C n) (l09_FeesRound.A n) n l09_FeesRound.b0) m) t.1 t.2.1 t.2.2.1 t.2.2.2.1 t.2.2.2.2.1 t.2.2.2.2.2).trans (congrFun (congrFun (congrFun (congrFun (congrFun (congrFun (congrArg (l09_FeesRound.l7_0.r (fun a0 a1 => ((Prod.mk (.exit 0) (St.mk [(.int .i64 a0), (.int .u64 a1)] [])) : Ex × St)) n) (funext fun y0 => funext fun y1 => funext fun y2 => funext fun y3 => funext fun y4 => funext fun y5 => ih (y0, y1, y2, y3, y4, y5))) t.1) t.2.1) t.2.2.1) t.2.2.2.1) t.2.2.2.2.1) t.2.2.2.2.2)
theorem l09_FeesRound.l7_0.loop (n m : Nat) (t : (Int × ((List AV) × (Int × (Int × ((List Int) × (List Int))))))) : loopOf (roundOf (l09_FeesRound.C n) (l09_FeesRound.A n) n l09_FeesRound.b0) m (l09_FeesRound.l7_0.shape t) = (l09_FeesRound.l7_0.m n m t).map l09_FeesRound.l7_0.res :=
  (l09_FeesRound.l7_0.loop' n m t).trans (l09_FeesRound.l7_0.gmap l09_FeesRound.l7_0.res (fun a0 a1 => (a0, a1)) n m t.1 t.2.1 t.2.2.1 t.2.2.2.1 t.2.2.2.2.1 t.2.2.2.2.2)
theorem l09_FeesRound.gmap {α β : Type} (h : β → α) (mk0 : Bool → β) (n : Nat) (a0 : (List Int)) (a1 : (List AV)) : l09_FeesRound.g (fun a0 => (h (mk0 a0))) n a0 a1 = (l09_FeesRound.g mk0 n a0 a1).map h := by
  unfold l09_FeesRound.g
  exact (ite_map (bindO_map fun r4 => rfl) (bindO_map fun r4 => (ite_map (bindO_map fun r8 => rfl) (bindO_map fun r8 => (ite_map rfl rfl)))))
theorem l09_FeesRound.run (n : Nat) (a0 : (List Int)) (a1 : (List AV)) : runF (l09_FeesRound.C n) (l09_FeesRound.A n) n Try.f12 [(.ints .u64 4 a0), (.robjs 33 4 a1)] [] (fun v o => some (v, o)) = l09_FeesRound.g (fun a0 => ((Prod.mk (.bool a0) []) : AV × Blks)) n a0 a1 := by kernel_rfl
theorem l09_FeesRound.call (hmix : Try.prog.follows .mixedOrders = true) (n : Nat) (t : ((List Int) × (List AV))) (u) (h : l09_FeesRound.m n t = some u) : FnC Try.prog (fun _ => .any) 12 (l09_FeesRound.shape t).1 (l09_FeesRound.shape t).2 (l09_FeesRound.res u).1 (l09_FeesRound.res u).2 := by
  have hg : ∀ f m, (l09_FeesRound.C n).Γ f = some m → CalleeS Try.prog (fun _ => .any) f m := by
    intro f m hm
    unfold l09_FeesRound.C at hm
    simp only at hm
    first
    | (cases hm; done)
    | (split at hm <;> first
    | (cases hm; exact l09_known.s hmix n)
    | (cases hm; exact fees_Store.s hmix n)
    | (cases hm; done))
  have hb : Try.f12.body = some (Try.f12.body.getD .skip) := by kernel_rfl
  refine runF_calls (C := l09_FeesRound.C n) (A := l09_FeesRound.A n) (n := n) (fn := Try.f12) hg hmix Try.func12 hb ?_ ?_ (by decide) rfl rfl (by show 2 ≤ Try.f12.ntmps; decide) ?_
  · rw [show loopsIn (Try.f12.body.getD .skip) = [l09_FeesRound.b0] by kernel_rfl]
    intro b hb m hm
    simp only [List.mem_cons, List.not_mem_nil, or_false] at hb
    rcases hb with rfl
    · have e : (l09_FeesRound.A n).loop (key l09_FeesRound.b0) = some (.mk' l09_FeesRound.l7_0.pat (l09_FeesRound.l7_0.m n n) l09_FeesRound.l7_0.resK) := by rw [show key l09_FeesRound.b0 = 7 by kernel_rfl]; rfl
      rw [e] at hm
      cases hm
      exact LoopS.of (res := l09_FeesRound.l7_0.res) (fun R u K => rfl) l09_FeesRound.l7_0.pat_shape fun t => l09_FeesRound.l7_0.loop n n t
  · intro a ha m hm
    have hm' := lookJ_mem (show lookJ [] (jkey a) = some m from hm)
    simp only [List.mem_cons, List.not_mem_nil, or_false, Prod.mk.injEq] at hm'

  · rw [show runF (l09_FeesRound.C n) (l09_FeesRound.A n) n Try.f12 (l09_FeesRound.shape t).1 (l09_FeesRound.shape t).2 (fun v o => some (v, o)) = _ from l09_FeesRound.run n t.1 t.2]
    have e := l09_FeesRound.gmap l09_FeesRound.res (fun a0 => a0) n t.1 t.2
    unfold l09_FeesRound.m at h
    rw [h] at e
    exact e
theorem l09_FeesRound.ok (hmix : Try.prog.follows .mixedOrders = true) (n : Nat) (t : ((List Int) × (List AV))) (u) (h : l09_FeesRound.m n t = some u) : FnOK Try.prog (fun _ => .any) 12 (l09_FeesRound.shape t).1 (l09_FeesRound.shape t).2 (l09_FeesRound.res u).1 (l09_FeesRound.res u).2 :=
  (l09_FeesRound.call hmix n t u h).ok Try.func12 (by decide) (by kernel_rfl)
theorem l09_FeesRound.s (hmix : Try.prog.follows .mixedOrders = true) (n : Nat) : CalleeS Try.prog (fun _ => .any) 12 (l09_FeesRound.c n) :=
  CalleeS.of (res := l09_FeesRound.res) (shape := l09_FeesRound.shape) (fun R u K => rfl) (fun args lent t h => by
    unfold l09_FeesRound.pat at h
    split at h
    · cases h; rfl
    · cases h) fun t u h => l09_FeesRound.ok hmix n t u h
end
