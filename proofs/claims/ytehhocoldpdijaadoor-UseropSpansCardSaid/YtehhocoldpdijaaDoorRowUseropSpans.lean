/- The row of the law UseropSpans: whatever the arguments, its function answers true, and they read as they did. No condition. -/
import Derived.Test.YtehhocoldpdijaaDoorAbsF6
import Derived.Test.YtehhocoldpdijaaDoorPuUseropSpans1
import Derived.Test.YtehhocoldpdijaaDoorFnUseropSpans3
import Derived.Test.YtehhocoldpdijaaDoorRows
import Derived.Test.YtehhocoldpdijaaDoorTie
import Derived.Test.YtehhocoldpdijaaDoorCards
import Derived.Lay
import Derived.SevenTiedAt
set_option linter.unusedVariables false
namespace Go.Proofs.YtehhocoldpdijaaDoor.useropSpans
open Go Go.Abs Go.RowKit Go.ChangeShapes
theorem own : ownKnob Tryd.prog.godebug = none := by kernel_rfl
theorem laidOut : laidOutB Tryd.prog = true := by kernel_rfl
theorem hmix : Tryd.prog.follows .mixedOrders = true := by kernel_rfl
def types : List Nat := [32, 30, 34, 4]
noncomputable def fs34 : Array Field := match Tryd.prog.underlying 34 with | some (.struct fs) => fs | _ => #[]
theorem ty34 : fs34.toList.map (·.type) = [4, 30, 30] := by kernel_rfl
theorem glob (W : World) (h : laidMet Tryd.prog Rows.useropSpansRow.laid W) : Glob abiG (E0 W) := by
  obtain ⟨ps, hL, _⟩ := h
  obtain ⟨g0, t0, c0, f0, p0, q0, a0, b0, d0, e0, hL, _⟩ := hL
  obtain ⟨g1, t1, c1, f1, p1, q1, a1, b1, d1, e1, hL, _⟩ := hL
  obtain ⟨g2, t2, c2, f2, p2, q2, a2, b2, d2, e2, hL, _⟩ := hL
  obtain rfl : g0 = 2 := Option.some.inj (a0.symm.trans (by kernel_rfl))
  obtain rfl : t0 = 161 := Option.some.inj (b0.symm.trans (by kernel_rfl))
  have v0 := glob_ints a0 d0 (cells_of_ints (n := 24) (e := 30) (k := .u64) (l := kecKeys) (by kernel_rfl) (by kernel_rfl) (by kernel_rfl) (by kernel_rfl) rfl e0) rfl
  obtain rfl : g1 = 4 := Option.some.inj (a1.symm.trans (by kernel_rfl))
  obtain rfl : t1 = 165 := Option.some.inj (b1.symm.trans (by kernel_rfl))
  have v1 := glob_ints a1 d1 (cells_of_ints (n := 24) (e := 3) (k := .i64) (l := kecTurns) (by kernel_rfl) (by kernel_rfl) (by kernel_rfl) (by kernel_rfl) rfl e1) rfl
  obtain rfl : g2 = 3 := Option.some.inj (a2.symm.trans (by kernel_rfl))
  obtain rfl : t2 = 165 := Option.some.inj (b2.symm.trans (by kernel_rfl))
  have v2 := glob_ints a2 d2 (cells_of_ints (n := 24) (e := 3) (k := .i64) (l := kecTo) (by kernel_rfl) (by kernel_rfl) (by kernel_rfl) (by kernel_rfl) rfl e2) rfl
  exact fun g => match g with
    | 0 => trivial
    | 1 => trivial
    | 2 => v0
    | 3 => v2
    | 4 => v1
    | _ + 5 => trivial
theorem main (av : List AV) (h : AVTs Tryd.prog Tryd.f4.params.toList av) : FnC Tryd.prog abiG 4 av [] (.bool true) [] := by
  rw [show Tryd.f4.params.toList = [32, 34, 30] by kernel_rfl] at h
  obtain ⟨y0, r0, rfl, h0, q0⟩ := h.cons_inv
  obtain ⟨y1, r1, rfl, h1, q1⟩ := q0.cons_inv
  obtain ⟨y2, r2, rfl, h2, q2⟩ := q1.cons_inv
  obtain rfl := q2.nil_inv
  obtain ⟨x3, rfl, w3⟩ := AVT.ints_inv (n := 4) (e := 30) (k := .u64) h0 (by kernel_rfl) (by kernel_rfl)
  obtain ⟨x4, rfl, g4⟩ := AVT.struct_inv (fs := fs34) h1 (by kernel_rfl)
  rw [ty34] at g4
  obtain ⟨y5, r5, rfl, h5, q5⟩ := g4.cons_inv
  obtain ⟨y6, r6, rfl, h6, q6⟩ := q5.cons_inv
  obtain ⟨y7, r7, rfl, h7, q7⟩ := q6.cons_inv
  obtain rfl := q7.nil_inv
  obtain ⟨x8, rfl⟩ := AVT.bool_inv h5 (by kernel_rfl)
  obtain ⟨x9, rfl, w9⟩ := AVT.int_inv (k := .u64) h6 (by kernel_rfl)
  obtain ⟨x10, rfl, w10⟩ := AVT.int_inv (k := .u64) h7 (by kernel_rfl)
  obtain ⟨x11, rfl, w11⟩ := AVT.int_inv (k := .u64) h2 (by kernel_rfl)
  obtain ⟨n, hn⟩ := Go.Abs.Pure.UseropSpans x3 w3 x8 x9 w9 x10 w10 x11 w11
  exact l15_UseropSpans.call hmix n (x3, x8, x9, x10, x11) true hn
set_option maxRecDepth 100000 in
theorem lifted (os : Os) (started : os.Started) (H : Type) (enc : TypeId × Value → H) :
    ReturnsInHanded {} Tryd.checked os 4 .any (fun w args => (Rows.useropSpansSpec.pre enc Tryd.prog Tryd.f4 [] false w args ∧ laidMetH Tryd.prog Rows.useropSpansRow.laid w) ∧ sizedMet enc Tryd.prog Tryd.f4 (OpenSpec.ofChange Rows.useropSpansSpec) false w args) (Rows.useropSpansSpec.post enc Tryd.prog Tryd.f4 false true false false) :=
  law_lifted_laid (C := Tryd.checked) (s := Rows.useropSpansSpec) (G := abiG) (rt := 4) Rows.useropSpansRow.laid (fun t => types.contains t) own started (by kernel_rfl) Tryd.func4
    (ChangeSpec.witness_shaped (enc := enc) (C := Tryd.checked) (os := os) (X := fun w _ => laidMetH Tryd.prog Rows.useropSpansRow.laid w) false (World.laidAll Tryd.prog os Rows.useropSpansRow.laid) #[.agg #[.int .u64 0, .int .u64 0, .int .u64 0, .int .u64 0], .agg #[.bool false, .int .u64 0, .int .u64 0], .int .u64 0] 8 (World.laidAll_os _ _ _) (World.shaped_of_ZipB (by kernel_rfl) (by kernel_rfl)) (by kernel_rfl) (by kernel_rfl) (by kernel_rfl)
      (by rw [MakeChecks.laidMetH_plain _ _ _ (by kernel_rfl)]; exact laidMet_laidAll _ (by kernel_rfl) (by kernel_rfl)))
    (by kernel_rfl) laidOut (among (by kernel_rfl)) (fun t ht => by
      have key : (Tryd.f4.params.toList.all fun t => types.contains t && Tryd.prog.readableRec t && decide (t < Tryd.prog.types.size)) = true := by kernel_rfl
      have := List.all_eq_true.1 key t ht
      simp only [Bool.and_eq_true, decide_eq_true_eq] at this
      exact ⟨this.1.1, this.1.2, this.2⟩) rfl
    (fun ds hds => by
      rw [show Tryd.f4.params.size = 3 by kernel_rfl] at hds
      match ds, hds with
      | [d0, d1, d2], _ => rfl) (by kernel_rfl) (by kernel_rfl) glob main
theorem over : Rows.useropSpansRow.holds Tryd.pinned (OpenSpec.ofChange Rows.useropSpansSpec) :=
  OpenClaim.holds_of_wide 4 Tryd.f4 rfl rfl rfl rfl rfl rfl rfl ⟨rfl, rfl, rfl, rfl, rfl⟩ rfl rfl rfl rfl rfl (by kernel_rfl) Tryd.func4 (by kernel_rfl)
    (of_decide_eq_true (by kernel_rfl)) (by unfold Func.isWrapper; first | (rw [if_pos (by decide +kernel)]; kernel_rfl) | (rw [if_neg (by decide +kernel)]; exact ⟨rfl, rfl⟩))
    (fun os started H enc _ => lifted os started H enc)
end Go.Proofs.YtehhocoldpdijaaDoor.useropSpans
namespace Go.Proofs.YtehhocoldpdijaaDoor
/-- The row, under a short name, for the claim. -/
theorem useropSpans_holds : Rows.UseropSpansSaid := useropSpans.over
/-- The tied card, for the claim. -/
theorem useropSpans_card : Rows.UseropSpansCardSaid :=
  Claim7.holds_tied_plain_at .later [] [.data, .data, .data] true (true, "c51760bd8f969763d386844ba8af162d84ed9ffb862fc9d378e5688836d4c569") true
    useropSpans_holds (fun _ h => by cases h) (by kernel_rfl) (fun _ h => by cases h) useropSpans_row_tie rfl ⟨rfl, rfl⟩ (by kernel_rfl) rfl
    (fun f fn hf hfn => by
      obtain rfl : f = 4 := Option.some.inj ((show Tryd.prog.funcNamed Rows.useropSpansRow.func = some 4 by kernel_rfl).symm.trans hf) |>.symm
      obtain rfl : fn = Tryd.f4 := (Option.some.inj (Tryd.func4.symm.trans hfn)).symm
      refine ⟨by kernel_rfl, fun j t ht => ?_⟩
      have key : (Tryd.f4.params.toList.all fun t => Tryd.prog.wantsStandIn t == false) = true := by kernel_rfl
      have := List.all_eq_true.1 key t (by simpa using Array.mem_of_getElem? ht)
      have q : Tryd.prog.wantsStandIn t = false := by simpa using this
      exact q)
    (by kernel_rfl)
end Go.Proofs.YtehhocoldpdijaaDoor
#print axioms Go.Proofs.YtehhocoldpdijaaDoor.useropSpans_card
