/- The row of the law AbiEncodes: whatever the arguments, its function answers true, and they read as they did. No condition. -/
import Derived.Test.YtehhocoldpdijaaDoorAbsF6
import Derived.Test.YtehhocoldpdijaaDoorPuAbiEncodes1
import Derived.Test.YtehhocoldpdijaaDoorFnAbiEncodes3
import Derived.Test.YtehhocoldpdijaaDoorRows
import Derived.Test.YtehhocoldpdijaaDoorTie
import Derived.Test.YtehhocoldpdijaaDoorCards
import Derived.Lay
import Derived.SevenTiedAt
set_option linter.unusedVariables false
namespace Go.Proofs.YtehhocoldpdijaaDoor.abiEncodes
open Go Go.Abs Go.RowKit Go.ChangeShapes
theorem own : ownKnob Tryd.prog.godebug = none := by kernel_rfl
theorem laidOut : laidOutB Tryd.prog = true := by kernel_rfl
theorem hmix : Tryd.prog.follows .mixedOrders = true := by kernel_rfl
def types : List Nat := [22, 69, 4, 32, 30, 26, 5, 9]
noncomputable def fs69 : Array Field := match Tryd.prog.underlying 69 with | some (.struct fs) => fs | _ => #[]
theorem ty69 : fs69.toList.map (·.type) = [4, 32, 26] := by kernel_rfl
theorem glob (W : World) (h : laidMet Tryd.prog Rows.abiEncodesRow.laid W) : Glob abiG (E0 W) := by
  obtain ⟨ps, hL, _⟩ := h
  obtain ⟨g0, t0, c0, f0, p0, q0, a0, b0, d0, e0, hL, _⟩ := hL
  obtain ⟨g1, t1, c1, f1, p1, q1, a1, b1, d1, e1, hL, _⟩ := hL
  obtain ⟨g2, t2, c2, f2, p2, q2, a2, b2, d2, e2, hL, _⟩ := hL
  obtain rfl : g0 = 2 := Option.some.inj (a0.symm.trans (by kernel_rfl))
  obtain rfl : t0 = 161 := Option.some.inj (b0.symm.trans (by kernel_rfl))
  have v0 := glob_ints a0 d0 (cells_of_ints (n := 24) (e := 30) (k := .u64) (l := kecKeys) (by kernel_rfl) (by kernel_rfl) (by kernel_rfl) (by kernel_rfl) rfl e0) rfl
  obtain rfl : g1 = 4 := Option.some.inj (a1.symm.trans (by kernel_rfl))
  obtain rfl : t1 = 165 := Option.some.inj (b1.symm.trans (by kernel_rfl))
  have v1 := glob_ints a1 d1 (cells_of_ints (n := 24) (e := 3) (k := .i64) (l := kecTurns) (by kernel_rfl) (by kernel_rfl) (by kernel_rfl) (by kernel_rfl) rfl e1) rfl
  obtain rfl : g2 = 3 := Option.some.inj (a2.symm.trans (by kernel_rfl))
  obtain rfl : t2 = 165 := Option.some.inj (b2.symm.trans (by kernel_rfl))
  have v2 := glob_ints a2 d2 (cells_of_ints (n := 24) (e := 3) (k := .i64) (l := kecTo) (by kernel_rfl) (by kernel_rfl) (by kernel_rfl) (by kernel_rfl) rfl e2) rfl
  exact fun g => match g with
    | 0 => trivial
    | 1 => trivial
    | 2 => v0
    | 3 => v2
    | 4 => v1
    | _ + 5 => trivial
theorem main (av : List AV) (h : AVTs Tryd.prog Tryd.f3.params.toList av) : FnC Tryd.prog abiG 3 av [] (.bool true) [] := by
  rw [show Tryd.f3.params.toList = [22, 9] by kernel_rfl] at h
  obtain ⟨y0, r0, rfl, h0, q0⟩ := h.cons_inv
  obtain ⟨y1, r1, rfl, h1, q1⟩ := q0.cons_inv
  obtain rfl := q1.nil_inv
  obtain ⟨x2, rfl, w2⟩ := AVT.robjs_inv (e := 69) (w := 6) h0 (by kernel_rfl) (by kernel_rfl) (of_decide_eq_true (by kernel_rfl)) (by kernel_rfl)
  have v2 : x2.length ≤ 140737488351232 ∧ ∀ z ∈ x2, ∃ c0 c1 c2, z = AV.agg [.bool c0, .ints .u64 4 c1, .rints .u8 c2] ∧ InA .u64 4 c1 ∧ InS .u8 c2 := ⟨w2.1, fun z hz => by
    obtain ⟨x3, rfl, g3⟩ := AVT.struct_inv (fs := fs69) (w2.2 z hz) (by kernel_rfl)
    rw [ty69] at g3
    obtain ⟨y4, r4, rfl, h4, q4⟩ := g3.cons_inv
    obtain ⟨y5, r5, rfl, h5, q5⟩ := q4.cons_inv
    obtain ⟨y6, r6, rfl, h6, q6⟩ := q5.cons_inv
    obtain rfl := q6.nil_inv
    obtain ⟨x7, rfl⟩ := AVT.bool_inv h4 (by kernel_rfl)
    obtain ⟨x8, rfl, w8⟩ := AVT.ints_inv (n := 4) (e := 30) (k := .u64) h5 (by kernel_rfl) (by kernel_rfl)
    obtain ⟨x9, rfl, w9⟩ := AVT.rints_inv (e := 5) (k := .u8) h6 (by kernel_rfl) (by kernel_rfl) (of_decide_eq_true (by kernel_rfl))
    exact ⟨x7, x8, x9, rfl, w8, w9⟩⟩
  obtain ⟨x10, rfl, w10⟩ := AVT.str_inv h1 (by kernel_rfl)
  obtain ⟨n, hn⟩ := Go.Abs.Pure.AbiEncodes x2 v2 x10 w10
  exact l05_AbiEncodes.call hmix n (x2, x10) true hn
set_option maxRecDepth 100000 in
theorem lifted (os : Os) (started : os.Started) (H : Type) (enc : TypeId × Value → H) :
    ReturnsInHanded {} Tryd.checked os 3 .any (fun w args => (Rows.abiEncodesSpec.pre enc Tryd.prog Tryd.f3 [] false w args ∧ laidMetH Tryd.prog Rows.abiEncodesRow.laid w) ∧ sizedMet enc Tryd.prog Tryd.f3 (OpenSpec.ofChange Rows.abiEncodesSpec) false w args) (Rows.abiEncodesSpec.post enc Tryd.prog Tryd.f3 false true false false) :=
  law_lifted_laid (C := Tryd.checked) (s := Rows.abiEncodesSpec) (G := abiG) (rt := 4) Rows.abiEncodesRow.laid (fun t => types.contains t) own started (by kernel_rfl) Tryd.func3
    (ChangeSpec.witness_shaped (enc := enc) (C := Tryd.checked) (os := os) (X := fun w _ => laidMetH Tryd.prog Rows.abiEncodesRow.laid w) false (World.laidAll Tryd.prog os Rows.abiEncodesRow.laid) #[.slice none 0 0, .string ByteArray.empty] 8 (World.laidAll_os _ _ _) (World.shaped_of_ZipB (by kernel_rfl) (by kernel_rfl)) (by kernel_rfl) (by kernel_rfl) (by kernel_rfl)
      (by rw [MakeChecks.laidMetH_plain _ _ _ (by kernel_rfl)]; exact laidMet_laidAll _ (by kernel_rfl) (by kernel_rfl)))
    (by kernel_rfl) laidOut (among (by kernel_rfl)) (fun t ht => by
      have key : (Tryd.f3.params.toList.all fun t => types.contains t && Tryd.prog.readableRec t && decide (t < Tryd.prog.types.size)) = true := by kernel_rfl
      have := List.all_eq_true.1 key t ht
      simp only [Bool.and_eq_true, decide_eq_true_eq] at this
      exact ⟨this.1.1, this.1.2, this.2⟩) rfl
    (fun ds hds => by
      rw [show Tryd.f3.params.size = 2 by kernel_rfl] at hds
      match ds, hds with
      | [d0, d1], _ => rfl) (by kernel_rfl) (by kernel_rfl) glob main
theorem over : Rows.abiEncodesRow.holds Tryd.pinned (OpenSpec.ofChange Rows.abiEncodesSpec) :=
  OpenClaim.holds_of_wide 3 Tryd.f3 rfl rfl rfl rfl rfl rfl rfl ⟨rfl, rfl, rfl, rfl, rfl⟩ rfl rfl rfl rfl rfl (by kernel_rfl) Tryd.func3 (by kernel_rfl)
    (of_decide_eq_true (by kernel_rfl)) (by unfold Func.isWrapper; first | (rw [if_pos (by decide +kernel)]; kernel_rfl) | (rw [if_neg (by decide +kernel)]; exact ⟨rfl, rfl⟩))
    (fun os started H enc _ => lifted os started H enc)
end Go.Proofs.YtehhocoldpdijaaDoor.abiEncodes
namespace Go.Proofs.YtehhocoldpdijaaDoor
/-- The row, under a short name, for the claim. -/
theorem abiEncodes_holds : Rows.AbiEncodesSaid := abiEncodes.over
/-- The tied card, for the claim. -/
theorem abiEncodes_card : Rows.AbiEncodesCardSaid :=
  Claim7.holds_tied_plain_at .later [] [.data, .data, .data] true (true, "c51760bd8f969763d386844ba8af162d84ed9ffb862fc9d378e5688836d4c569") true
    abiEncodes_holds (fun _ h => by cases h) (by kernel_rfl) (fun _ h => by cases h) abiEncodes_row_tie rfl ⟨rfl, rfl⟩ (by kernel_rfl) rfl
    (fun f fn hf hfn => by
      obtain rfl : f = 3 := Option.some.inj ((show Tryd.prog.funcNamed Rows.abiEncodesRow.func = some 3 by kernel_rfl).symm.trans hf) |>.symm
      obtain rfl : fn = Tryd.f3 := (Option.some.inj (Tryd.func3.symm.trans hfn)).symm
      refine ⟨by kernel_rfl, fun j t ht => ?_⟩
      have key : (Tryd.f3.params.toList.all fun t => Tryd.prog.wantsStandIn t == false) = true := by kernel_rfl
      have := List.all_eq_true.1 key t (by simpa using Array.mem_of_getElem? ht)
      have q : Tryd.prog.wantsStandIn t = false := by simpa using this
      exact q)
    (by kernel_rfl)
end Go.Proofs.YtehhocoldpdijaaDoor
#print axioms Go.Proofs.YtehhocoldpdijaaDoor.abiEncodes_card
