/- The row of the law RulesQuiet: whatever the arguments, its function answers true, and they read as they did. No condition. -/
import Derived.Test.YtkknbhapkdgcjaaDoorAbsM7
import Derived.Test.YtkknbhapkdgcjaaDoorPuRulesQuiet1
import Derived.Test.YtkknbhapkdgcjaaDoorFnRulesQuiet4
import Derived.Test.YtkknbhapkdgcjaaDoorRows
import Derived.Test.YtkknbhapkdgcjaaDoorTie
import Derived.Test.YtkknbhapkdgcjaaDoorCards
import Derived.Lay
import Derived.SevenTiedAt
set_option linter.unusedVariables false
namespace Go.Proofs.YtkknbhapkdgcjaaDoor.rulesQuiet
open Go Go.Abs Go.RowKit Go.ChangeShapes
theorem own : ownKnob Tryd.prog.godebug = none := by kernel_rfl
theorem laidOut : laidOutB Tryd.prog = true := by kernel_rfl
theorem hmix : Tryd.prog.follows .mixedOrders = true := by kernel_rfl
def types : List Nat := [30, 24, 5, 27, 25, 4, 28, 43]
noncomputable def fs30 : Array Field := match Tryd.prog.underlying 30 with | some (.struct fs) => fs | _ => #[]
theorem ty30 : fs30.toList.map (·.type) = [24, 27, 4, 24, 28, 28, 25, 25, 25, 27, 27, 4, 24, 25, 25, 28, 28] := by kernel_rfl
theorem glob (W : World) (h : laidMet Tryd.prog Rows.rulesQuietRow.laid W) : Glob kecG (E0 W) := by
  obtain ⟨ps, hL, _⟩ := h
  obtain ⟨g0, t0, c0, f0, p0, q0, a0, b0, d0, e0, hL, _⟩ := hL
  obtain ⟨g1, t1, c1, f1, p1, q1, a1, b1, d1, e1, hL, _⟩ := hL
  obtain ⟨g2, t2, c2, f2, p2, q2, a2, b2, d2, e2, hL, _⟩ := hL
  obtain rfl : g0 = 0 := Option.some.inj (a0.symm.trans (by kernel_rfl))
  obtain rfl : t0 = 146 := Option.some.inj (b0.symm.trans (by kernel_rfl))
  have v0 := glob_ints a0 d0 (cells_of_ints (n := 24) (e := 25) (k := .u64) (l := kecKeys) (by kernel_rfl) (by kernel_rfl) (by kernel_rfl) (by kernel_rfl) rfl e0) rfl
  obtain rfl : g1 = 2 := Option.some.inj (a1.symm.trans (by kernel_rfl))
  obtain rfl : t1 = 149 := Option.some.inj (b1.symm.trans (by kernel_rfl))
  have v1 := glob_ints a1 d1 (cells_of_ints (n := 24) (e := 3) (k := .i64) (l := kecTurns) (by kernel_rfl) (by kernel_rfl) (by kernel_rfl) (by kernel_rfl) rfl e1) rfl
  obtain rfl : g2 = 1 := Option.some.inj (a2.symm.trans (by kernel_rfl))
  obtain rfl : t2 = 149 := Option.some.inj (b2.symm.trans (by kernel_rfl))
  have v2 := glob_ints a2 d2 (cells_of_ints (n := 24) (e := 3) (k := .i64) (l := kecTo) (by kernel_rfl) (by kernel_rfl) (by kernel_rfl) (by kernel_rfl) rfl e2) rfl
  exact .plain (fun g => match g with
    | 0 => v0
    | 1 => v2
    | 2 => v1
    | _ + 3 => trivial) fun g tF ts k he => by unfold kecG at he; split at he <;> cases he
theorem main (av : List AV) (h : AVTs Tryd.prog Tryd.f4.params.toList av) : FnC Tryd.prog kecG 4 av [] (.bool true) [] := by
  rw [show Tryd.f4.params.toList = [30, 28, 43, 5] by kernel_rfl] at h
  obtain ⟨y0, r0, rfl, h0, q0⟩ := h.cons_inv
  obtain ⟨y1, r1, rfl, h1, q1⟩ := q0.cons_inv
  obtain ⟨y2, r2, rfl, h2, q2⟩ := q1.cons_inv
  obtain ⟨y3, r3, rfl, h3, q3⟩ := q2.cons_inv
  obtain rfl := q3.nil_inv
  obtain ⟨x4, rfl, g4⟩ := AVT.struct_inv (fs := fs30) h0 (by kernel_rfl)
  rw [ty30] at g4
  obtain ⟨y5, r5, rfl, h5, q5⟩ := g4.cons_inv
  obtain ⟨y6, r6, rfl, h6, q6⟩ := q5.cons_inv
  obtain ⟨y7, r7, rfl, h7, q7⟩ := q6.cons_inv
  obtain ⟨y8, r8, rfl, h8, q8⟩ := q7.cons_inv
  obtain ⟨y9, r9, rfl, h9, q9⟩ := q8.cons_inv
  obtain ⟨y10, r10, rfl, h10, q10⟩ := q9.cons_inv
  obtain ⟨y11, r11, rfl, h11, q11⟩ := q10.cons_inv
  obtain ⟨y12, r12, rfl, h12, q12⟩ := q11.cons_inv
  obtain ⟨y13, r13, rfl, h13, q13⟩ := q12.cons_inv
  obtain ⟨y14, r14, rfl, h14, q14⟩ := q13.cons_inv
  obtain ⟨y15, r15, rfl, h15, q15⟩ := q14.cons_inv
  obtain ⟨y16, r16, rfl, h16, q16⟩ := q15.cons_inv
  obtain ⟨y17, r17, rfl, h17, q17⟩ := q16.cons_inv
  obtain ⟨y18, r18, rfl, h18, q18⟩ := q17.cons_inv
  obtain ⟨y19, r19, rfl, h19, q19⟩ := q18.cons_inv
  obtain ⟨y20, r20, rfl, h20, q20⟩ := q19.cons_inv
  obtain ⟨y21, r21, rfl, h21, q21⟩ := q20.cons_inv
  obtain rfl := q21.nil_inv
  obtain ⟨x22, rfl, w22⟩ := AVT.ints_inv (n := 20) (e := 5) (k := .u8) h5 (by kernel_rfl) (by kernel_rfl)
  obtain ⟨x23, rfl, w23⟩ := AVT.ints_inv (n := 4) (e := 25) (k := .u64) h6 (by kernel_rfl) (by kernel_rfl)
  obtain ⟨x24, rfl⟩ := AVT.bool_inv h7 (by kernel_rfl)
  obtain ⟨x25, rfl, w25⟩ := AVT.ints_inv (n := 20) (e := 5) (k := .u8) h8 (by kernel_rfl) (by kernel_rfl)
  obtain ⟨x26, rfl, w26⟩ := AVT.rints_inv (e := 5) (k := .u8) h9 (by kernel_rfl) (by kernel_rfl) (of_decide_eq_true (by kernel_rfl))
  obtain ⟨x27, rfl, w27⟩ := AVT.rints_inv (e := 5) (k := .u8) h10 (by kernel_rfl) (by kernel_rfl) (of_decide_eq_true (by kernel_rfl))
  obtain ⟨x28, rfl, w28⟩ := AVT.int_inv (k := .u64) h11 (by kernel_rfl)
  obtain ⟨x29, rfl, w29⟩ := AVT.int_inv (k := .u64) h12 (by kernel_rfl)
  obtain ⟨x30, rfl, w30⟩ := AVT.int_inv (k := .u64) h13 (by kernel_rfl)
  obtain ⟨x31, rfl, w31⟩ := AVT.ints_inv (n := 4) (e := 25) (k := .u64) h14 (by kernel_rfl) (by kernel_rfl)
  obtain ⟨x32, rfl, w32⟩ := AVT.ints_inv (n := 4) (e := 25) (k := .u64) h15 (by kernel_rfl) (by kernel_rfl)
  obtain ⟨x33, rfl⟩ := AVT.bool_inv h16 (by kernel_rfl)
  obtain ⟨x34, rfl, w34⟩ := AVT.ints_inv (n := 20) (e := 5) (k := .u8) h17 (by kernel_rfl) (by kernel_rfl)
  obtain ⟨x35, rfl, w35⟩ := AVT.int_inv (k := .u64) h18 (by kernel_rfl)
  obtain ⟨x36, rfl, w36⟩ := AVT.int_inv (k := .u64) h19 (by kernel_rfl)
  obtain ⟨x37, rfl, w37⟩ := AVT.rints_inv (e := 5) (k := .u8) h20 (by kernel_rfl) (by kernel_rfl) (of_decide_eq_true (by kernel_rfl))
  obtain ⟨x38, rfl, w38⟩ := AVT.rints_inv (e := 5) (k := .u8) h21 (by kernel_rfl) (by kernel_rfl) (of_decide_eq_true (by kernel_rfl))
  obtain ⟨x39, rfl, w39⟩ := AVT.rints_inv (e := 5) (k := .u8) h1 (by kernel_rfl) (by kernel_rfl) (of_decide_eq_true (by kernel_rfl))
  obtain ⟨x40, rfl, w40⟩ := AVT.robjs_inv (e := 4) (w := 1) h2 (by kernel_rfl) (by kernel_rfl) (of_decide_eq_true (by kernel_rfl)) (by kernel_rfl)
  have v40 : x40.length ≤ 140737488351232 ∧ ∀ z ∈ x40, ∃ c0, z = AV.bool c0 := ⟨w40.1, fun z hz => AVT.bool_inv (w40.2 z hz) (by kernel_rfl)⟩
  obtain ⟨x41, rfl, w41⟩ := AVT.int_inv (k := .u8) h3 (by kernel_rfl)
  obtain ⟨n, hn⟩ := Go.Abs.Pure.RulesQuiet x22 w22 x23 w23 x24 x25 w25 x26 w26 x27 w27 x28 w28 x29 w29 x30 w30 x31 w31 x32 w32 x33 x34 w34 x35 w35 x36 w36 x37 w37 x38 w38 x39 w39 x40 v40 x41 w41
  exact Fac.call hmix n (x22, x23, x24, x25, x26, x27, x28, x29, x30, x31, x32, x33, x34, x35, x36, x37, x38, x39, x40, x41) true hn
set_option maxRecDepth 100000 in
theorem lifted (os : Os) (started : os.Started) (H : Type) (enc : TypeId × Value → H) :
    ReturnsInHanded {} Tryd.checked os 4 .any (fun w args => (Rows.rulesQuietSpec.pre enc Tryd.prog Tryd.f4 [] false w args ∧ laidMetH Tryd.prog Rows.rulesQuietRow.laid w) ∧ sizedMet enc Tryd.prog Tryd.f4 (OpenSpec.ofChange Rows.rulesQuietSpec) false w args) (Rows.rulesQuietSpec.post enc Tryd.prog Tryd.f4 false true false false) :=
  law_lifted_laid (C := Tryd.checked) (s := Rows.rulesQuietSpec) (G := kecG) (rt := 4) Rows.rulesQuietRow.laid (fun t => types.contains t) own started (by kernel_rfl) Tryd.func4
    (ChangeSpec.witness_shaped (enc := enc) (C := Tryd.checked) (os := os) (X := fun w _ => laidMetH Tryd.prog Rows.rulesQuietRow.laid w) false (World.laidAll Tryd.prog os Rows.rulesQuietRow.laid) #[.agg #[.int .u8 0, .int .u8 0, .int .u8 0, .int .u8 0, .int .u8 0, .int .u8 0, .int .u8 0, .int .u8 0, .int .u8 0, .int .u8 0, .int .u8 0, .int .u8 0, .int .u8 0, .int .u8 0, .int .u8 0, .int .u8 0, .int .u8 0, .int .u8 0, .int .u8 0, .int .u8 0, .int .u64 0, .int .u64 0, .int .u64 0, .int .u64 0, .bool false, .int .u8 0, .int .u8 0, .int .u8 0, .int .u8 0, .int .u8 0, .int .u8 0, .int .u8 0, .int .u8 0, .int .u8 0, .int .u8 0, .int .u8 0, .int .u8 0, .int .u8 0, .int .u8 0, .int .u8 0, .int .u8 0, .int .u8 0, .int .u8 0, .int .u8 0, .int .u8 0, .slice none 0 0, .slice none 0 0, .int .u64 0, .int .u64 0, .int .u64 0, .int .u64 0, .int .u64 0, .int .u64 0, .int .u64 0, .int .u64 0, .int .u64 0, .int .u64 0, .int .u64 0, .bool false, .int .u8 0, .int .u8 0, .int .u8 0, .int .u8 0, .int .u8 0, .int .u8 0, .int .u8 0, .int .u8 0, .int .u8 0, .int .u8 0, .int .u8 0, .int .u8 0, .int .u8 0, .int .u8 0, .int .u8 0, .int .u8 0, .int .u8 0, .int .u8 0, .int .u8 0, .int .u8 0, .int .u64 0, .int .u64 0, .slice none 0 0, .slice none 0 0], .slice none 0 0, .slice none 0 0, .int .u8 0] 8 (World.laidAll_os _ _ _) (World.shaped_of_ZipB (by kernel_rfl) (by kernel_rfl)) (by kernel_rfl) (by kernel_rfl) (by kernel_rfl)
      (by rw [MakeChecks.laidMetH_plain _ _ _ (by kernel_rfl)]; exact laidMet_laidAll _ (by kernel_rfl) (by kernel_rfl)))
    (by kernel_rfl) laidOut (among (by kernel_rfl)) (fun t ht => by
      have key : (Tryd.f4.params.toList.all fun t => types.contains t && Tryd.prog.readableRec t && decide (t < Tryd.prog.types.size)) = true := by kernel_rfl
      have := List.all_eq_true.1 key t ht
      simp only [Bool.and_eq_true, decide_eq_true_eq] at this
      exact ⟨this.1.1, this.1.2, this.2⟩) rfl
    (fun ds hds => by
      rw [show Tryd.f4.params.size = 4 by kernel_rfl] at hds
      match ds, hds with
      | [d0, d1, d2, d3], _ => rfl) (by kernel_rfl) (by kernel_rfl) glob main
theorem over : Rows.rulesQuietRow.holds Tryd.pinned (OpenSpec.ofChange Rows.rulesQuietSpec) :=
  OpenClaim.holds_of_wide 4 Tryd.f4 rfl rfl rfl rfl rfl rfl rfl ⟨rfl, rfl, rfl, rfl, rfl⟩ rfl rfl rfl rfl rfl (by kernel_rfl) Tryd.func4 (by kernel_rfl)
    (of_decide_eq_true (by kernel_rfl)) (by unfold Func.isWrapper; first | (rw [if_pos (by decide +kernel)]; kernel_rfl) | (rw [if_neg (by decide +kernel)]; exact ⟨rfl, rfl⟩))
    (fun os started H enc _ => lifted os started H enc)
end Go.Proofs.YtkknbhapkdgcjaaDoor.rulesQuiet
namespace Go.Proofs.YtkknbhapkdgcjaaDoor
/-- The row, under a short name, for the claim. -/
theorem rulesQuiet_holds : Rows.RulesQuietSaid := rulesQuiet.over
/-- The tied card, for the claim. -/
theorem rulesQuiet_card : Rows.RulesQuietCardSaid :=
  Claim7.holds_tied_plain_at .later [] [.data, .data, .data] true (true, "1736bc1c7ef0d21acd9bd10f9bdbc25cba89b77da8890352548dd748e989ef91") false
    rulesQuiet_holds (fun _ h => by cases h) (by kernel_rfl) (fun _ h => by cases h) rulesQuiet_row_tie rfl ⟨rfl, rfl⟩ (by kernel_rfl) rfl
    (fun f fn hf hfn => by
      obtain rfl : f = 4 := Option.some.inj ((show Tryd.prog.funcNamed Rows.rulesQuietRow.func = some 4 by kernel_rfl).symm.trans hf) |>.symm
      obtain rfl : fn = Tryd.f4 := (Option.some.inj (Tryd.func4.symm.trans hfn)).symm
      refine ⟨by kernel_rfl, fun j t ht => ?_⟩
      have key : (Tryd.f4.params.toList.all fun t => Tryd.prog.wantsStandIn t == false) = true := by kernel_rfl
      have := List.all_eq_true.1 key t (by simpa using Array.mem_of_getElem? ht)
      have q : Tryd.prog.wantsStandIn t = false := by simpa using this
      exact q)
    (by kernel_rfl)
end Go.Proofs.YtkknbhapkdgcjaaDoor
#print axioms Go.Proofs.YtkknbhapkdgcjaaDoor.rulesQuiet_card
