/- The row of the law UseropSigned: whatever the arguments, its function answers true, and they read as they did. No condition. -/
import Derived.Test.YtehhocoldpdijaaDoorAbsG6
import Derived.Test.YtehhocoldpdijaaDoorPuUseropSigned1
import Derived.Test.YtehhocoldpdijaaDoorFnUseropSigned3
import Derived.Test.YtehhocoldpdijaaDoorRows
import Derived.Test.YtehhocoldpdijaaDoorTie
import Derived.Test.YtehhocoldpdijaaDoorCards
import Derived.Lay
import Derived.SevenTiedAt
set_option linter.unusedVariables false
namespace Go.Proofs.YtehhocoldpdijaaDoor.useropSigned
open Go Go.Abs Go.RowKit Go.ChangeShapes
theorem own : ownKnob Tryd.prog.godebug = none := by kernel_rfl
theorem laidOut : laidOutB Tryd.prog = true := by kernel_rfl
theorem hmix : Tryd.prog.follows .mixedOrders = true := by kernel_rfl
def types : List Nat := [41, 39, 5, 32, 30, 4, 26]
noncomputable def fs41 : Array Field := match Tryd.prog.underlying 41 with | some (.struct fs) => fs | _ => #[]
theorem ty41 : fs41.toList.map (·.type) = [39, 32, 4, 39, 26, 26, 30, 30, 30, 32, 32, 4, 39, 30, 30, 26, 26] := by kernel_rfl
theorem glob (W : World) (h : laidMet Tryd.prog Rows.useropSignedRow.laid W) : Glob abiG (E0 W) := by
  obtain ⟨ps, hL, _⟩ := h
  obtain ⟨g0, t0, c0, f0, p0, q0, a0, b0, d0, e0, hL, _⟩ := hL
  obtain ⟨g1, t1, c1, f1, p1, q1, a1, b1, d1, e1, hL, _⟩ := hL
  obtain ⟨g2, t2, c2, f2, p2, q2, a2, b2, d2, e2, hL, _⟩ := hL
  obtain rfl : g0 = 2 := Option.some.inj (a0.symm.trans (by kernel_rfl))
  obtain rfl : t0 = 161 := Option.some.inj (b0.symm.trans (by kernel_rfl))
  have v0 := glob_ints a0 d0 (cells_of_ints (n := 24) (e := 30) (k := .u64) (l := kecKeys) (by kernel_rfl) (by kernel_rfl) (by kernel_rfl) (by kernel_rfl) rfl e0) rfl
  obtain rfl : g1 = 4 := Option.some.inj (a1.symm.trans (by kernel_rfl))
  obtain rfl : t1 = 165 := Option.some.inj (b1.symm.trans (by kernel_rfl))
  have v1 := glob_ints a1 d1 (cells_of_ints (n := 24) (e := 3) (k := .i64) (l := kecTurns) (by kernel_rfl) (by kernel_rfl) (by kernel_rfl) (by kernel_rfl) rfl e1) rfl
  obtain rfl : g2 = 3 := Option.some.inj (a2.symm.trans (by kernel_rfl))
  obtain rfl : t2 = 165 := Option.some.inj (b2.symm.trans (by kernel_rfl))
  have v2 := glob_ints a2 d2 (cells_of_ints (n := 24) (e := 3) (k := .i64) (l := kecTo) (by kernel_rfl) (by kernel_rfl) (by kernel_rfl) (by kernel_rfl) rfl e2) rfl
  exact fun g => match g with
    | 0 => trivial
    | 1 => trivial
    | 2 => v0
    | 3 => v2
    | 4 => v1
    | _ + 5 => trivial
theorem main (av : List AV) (h : AVTs Tryd.prog Tryd.f7.params.toList av) : FnC Tryd.prog abiG 7 av [] (.bool true) [] := by
  rw [show Tryd.f7.params.toList = [41, 41, 32] by kernel_rfl] at h
  obtain ⟨y0, r0, rfl, h0, q0⟩ := h.cons_inv
  obtain ⟨y1, r1, rfl, h1, q1⟩ := q0.cons_inv
  obtain ⟨y2, r2, rfl, h2, q2⟩ := q1.cons_inv
  obtain rfl := q2.nil_inv
  obtain ⟨x3, rfl, g3⟩ := AVT.struct_inv (fs := fs41) h0 (by kernel_rfl)
  rw [ty41] at g3
  obtain ⟨y4, r4, rfl, h4, q4⟩ := g3.cons_inv
  obtain ⟨y5, r5, rfl, h5, q5⟩ := q4.cons_inv
  obtain ⟨y6, r6, rfl, h6, q6⟩ := q5.cons_inv
  obtain ⟨y7, r7, rfl, h7, q7⟩ := q6.cons_inv
  obtain ⟨y8, r8, rfl, h8, q8⟩ := q7.cons_inv
  obtain ⟨y9, r9, rfl, h9, q9⟩ := q8.cons_inv
  obtain ⟨y10, r10, rfl, h10, q10⟩ := q9.cons_inv
  obtain ⟨y11, r11, rfl, h11, q11⟩ := q10.cons_inv
  obtain ⟨y12, r12, rfl, h12, q12⟩ := q11.cons_inv
  obtain ⟨y13, r13, rfl, h13, q13⟩ := q12.cons_inv
  obtain ⟨y14, r14, rfl, h14, q14⟩ := q13.cons_inv
  obtain ⟨y15, r15, rfl, h15, q15⟩ := q14.cons_inv
  obtain ⟨y16, r16, rfl, h16, q16⟩ := q15.cons_inv
  obtain ⟨y17, r17, rfl, h17, q17⟩ := q16.cons_inv
  obtain ⟨y18, r18, rfl, h18, q18⟩ := q17.cons_inv
  obtain ⟨y19, r19, rfl, h19, q19⟩ := q18.cons_inv
  obtain ⟨y20, r20, rfl, h20, q20⟩ := q19.cons_inv
  obtain rfl := q20.nil_inv
  obtain ⟨x21, rfl, w21⟩ := AVT.ints_inv (n := 20) (e := 5) (k := .u8) h4 (by kernel_rfl) (by kernel_rfl)
  obtain ⟨x22, rfl, w22⟩ := AVT.ints_inv (n := 4) (e := 30) (k := .u64) h5 (by kernel_rfl) (by kernel_rfl)
  obtain ⟨x23, rfl⟩ := AVT.bool_inv h6 (by kernel_rfl)
  obtain ⟨x24, rfl, w24⟩ := AVT.ints_inv (n := 20) (e := 5) (k := .u8) h7 (by kernel_rfl) (by kernel_rfl)
  obtain ⟨x25, rfl, w25⟩ := AVT.rints_inv (e := 5) (k := .u8) h8 (by kernel_rfl) (by kernel_rfl) (of_decide_eq_true (by kernel_rfl))
  obtain ⟨x26, rfl, w26⟩ := AVT.rints_inv (e := 5) (k := .u8) h9 (by kernel_rfl) (by kernel_rfl) (of_decide_eq_true (by kernel_rfl))
  obtain ⟨x27, rfl, w27⟩ := AVT.int_inv (k := .u64) h10 (by kernel_rfl)
  obtain ⟨x28, rfl, w28⟩ := AVT.int_inv (k := .u64) h11 (by kernel_rfl)
  obtain ⟨x29, rfl, w29⟩ := AVT.int_inv (k := .u64) h12 (by kernel_rfl)
  obtain ⟨x30, rfl, w30⟩ := AVT.ints_inv (n := 4) (e := 30) (k := .u64) h13 (by kernel_rfl) (by kernel_rfl)
  obtain ⟨x31, rfl, w31⟩ := AVT.ints_inv (n := 4) (e := 30) (k := .u64) h14 (by kernel_rfl) (by kernel_rfl)
  obtain ⟨x32, rfl⟩ := AVT.bool_inv h15 (by kernel_rfl)
  obtain ⟨x33, rfl, w33⟩ := AVT.ints_inv (n := 20) (e := 5) (k := .u8) h16 (by kernel_rfl) (by kernel_rfl)
  obtain ⟨x34, rfl, w34⟩ := AVT.int_inv (k := .u64) h17 (by kernel_rfl)
  obtain ⟨x35, rfl, w35⟩ := AVT.int_inv (k := .u64) h18 (by kernel_rfl)
  obtain ⟨x36, rfl, w36⟩ := AVT.rints_inv (e := 5) (k := .u8) h19 (by kernel_rfl) (by kernel_rfl) (of_decide_eq_true (by kernel_rfl))
  obtain ⟨x37, rfl, w37⟩ := AVT.rints_inv (e := 5) (k := .u8) h20 (by kernel_rfl) (by kernel_rfl) (of_decide_eq_true (by kernel_rfl))
  obtain ⟨x38, rfl, g38⟩ := AVT.struct_inv (fs := fs41) h1 (by kernel_rfl)
  rw [ty41] at g38
  obtain ⟨y39, r39, rfl, h39, q39⟩ := g38.cons_inv
  obtain ⟨y40, r40, rfl, h40, q40⟩ := q39.cons_inv
  obtain ⟨y41, r41, rfl, h41, q41⟩ := q40.cons_inv
  obtain ⟨y42, r42, rfl, h42, q42⟩ := q41.cons_inv
  obtain ⟨y43, r43, rfl, h43, q43⟩ := q42.cons_inv
  obtain ⟨y44, r44, rfl, h44, q44⟩ := q43.cons_inv
  obtain ⟨y45, r45, rfl, h45, q45⟩ := q44.cons_inv
  obtain ⟨y46, r46, rfl, h46, q46⟩ := q45.cons_inv
  obtain ⟨y47, r47, rfl, h47, q47⟩ := q46.cons_inv
  obtain ⟨y48, r48, rfl, h48, q48⟩ := q47.cons_inv
  obtain ⟨y49, r49, rfl, h49, q49⟩ := q48.cons_inv
  obtain ⟨y50, r50, rfl, h50, q50⟩ := q49.cons_inv
  obtain ⟨y51, r51, rfl, h51, q51⟩ := q50.cons_inv
  obtain ⟨y52, r52, rfl, h52, q52⟩ := q51.cons_inv
  obtain ⟨y53, r53, rfl, h53, q53⟩ := q52.cons_inv
  obtain ⟨y54, r54, rfl, h54, q54⟩ := q53.cons_inv
  obtain ⟨y55, r55, rfl, h55, q55⟩ := q54.cons_inv
  obtain rfl := q55.nil_inv
  obtain ⟨x56, rfl, w56⟩ := AVT.ints_inv (n := 20) (e := 5) (k := .u8) h39 (by kernel_rfl) (by kernel_rfl)
  obtain ⟨x57, rfl, w57⟩ := AVT.ints_inv (n := 4) (e := 30) (k := .u64) h40 (by kernel_rfl) (by kernel_rfl)
  obtain ⟨x58, rfl⟩ := AVT.bool_inv h41 (by kernel_rfl)
  obtain ⟨x59, rfl, w59⟩ := AVT.ints_inv (n := 20) (e := 5) (k := .u8) h42 (by kernel_rfl) (by kernel_rfl)
  obtain ⟨x60, rfl, w60⟩ := AVT.rints_inv (e := 5) (k := .u8) h43 (by kernel_rfl) (by kernel_rfl) (of_decide_eq_true (by kernel_rfl))
  obtain ⟨x61, rfl, w61⟩ := AVT.rints_inv (e := 5) (k := .u8) h44 (by kernel_rfl) (by kernel_rfl) (of_decide_eq_true (by kernel_rfl))
  obtain ⟨x62, rfl, w62⟩ := AVT.int_inv (k := .u64) h45 (by kernel_rfl)
  obtain ⟨x63, rfl, w63⟩ := AVT.int_inv (k := .u64) h46 (by kernel_rfl)
  obtain ⟨x64, rfl, w64⟩ := AVT.int_inv (k := .u64) h47 (by kernel_rfl)
  obtain ⟨x65, rfl, w65⟩ := AVT.ints_inv (n := 4) (e := 30) (k := .u64) h48 (by kernel_rfl) (by kernel_rfl)
  obtain ⟨x66, rfl, w66⟩ := AVT.ints_inv (n := 4) (e := 30) (k := .u64) h49 (by kernel_rfl) (by kernel_rfl)
  obtain ⟨x67, rfl⟩ := AVT.bool_inv h50 (by kernel_rfl)
  obtain ⟨x68, rfl, w68⟩ := AVT.ints_inv (n := 20) (e := 5) (k := .u8) h51 (by kernel_rfl) (by kernel_rfl)
  obtain ⟨x69, rfl, w69⟩ := AVT.int_inv (k := .u64) h52 (by kernel_rfl)
  obtain ⟨x70, rfl, w70⟩ := AVT.int_inv (k := .u64) h53 (by kernel_rfl)
  obtain ⟨x71, rfl, w71⟩ := AVT.rints_inv (e := 5) (k := .u8) h54 (by kernel_rfl) (by kernel_rfl) (of_decide_eq_true (by kernel_rfl))
  obtain ⟨x72, rfl, w72⟩ := AVT.rints_inv (e := 5) (k := .u8) h55 (by kernel_rfl) (by kernel_rfl) (of_decide_eq_true (by kernel_rfl))
  obtain ⟨x73, rfl, w73⟩ := AVT.ints_inv (n := 4) (e := 30) (k := .u64) h2 (by kernel_rfl) (by kernel_rfl)
  obtain ⟨n, hn⟩ := Go.Abs.Pure.UseropSigned x21 w21 x22 w22 x23 x24 w24 x25 w25 x26 w26 x27 w27 x28 w28 x29 w29 x30 w30 x31 w31 x32 x33 w33 x34 w34 x35 w35 x36 w36 x37 w37 x56 w56 x57 w57 x58 x59 w59 x60 w60 x61 w61 x62 w62 x63 w63 x64 w64 x65 w65 x66 w66 x67 x68 w68 x69 w69 x70 w70 x71 w71 x72 w72 x73 w73
  exact Fi.call hmix n (x21, x22, x23, x24, x25, x26, x27, x28, x29, x30, x31, x32, x33, x34, x35, x36, x37, x56, x57, x58, x59, x60, x61, x62, x63, x64, x65, x66, x67, x68, x69, x70, x71, x72, x73) true hn
set_option maxRecDepth 100000 in
theorem lifted (os : Os) (started : os.Started) (H : Type) (enc : TypeId × Value → H) :
    ReturnsInHanded {} Tryd.checked os 7 .any (fun w args => (Rows.useropSignedSpec.pre enc Tryd.prog Tryd.f7 [] false w args ∧ laidMetH Tryd.prog Rows.useropSignedRow.laid w) ∧ sizedMet enc Tryd.prog Tryd.f7 (OpenSpec.ofChange Rows.useropSignedSpec) false w args) (Rows.useropSignedSpec.post enc Tryd.prog Tryd.f7 false true false false) :=
  law_lifted_laid (C := Tryd.checked) (s := Rows.useropSignedSpec) (G := abiG) (rt := 4) Rows.useropSignedRow.laid (fun t => types.contains t) own started (by kernel_rfl) Tryd.func7
    (ChangeSpec.witness_shaped (enc := enc) (C := Tryd.checked) (os := os) (X := fun w _ => laidMetH Tryd.prog Rows.useropSignedRow.laid w) false (World.laidAll Tryd.prog os Rows.useropSignedRow.laid) #[.agg #[.int .u8 0, .int .u8 0, .int .u8 0, .int .u8 0, .int .u8 0, .int .u8 0, .int .u8 0, .int .u8 0, .int .u8 0, .int .u8 0, .int .u8 0, .int .u8 0, .int .u8 0, .int .u8 0, .int .u8 0, .int .u8 0, .int .u8 0, .int .u8 0, .int .u8 0, .int .u8 0, .int .u64 0, .int .u64 0, .int .u64 0, .int .u64 0, .bool false, .int .u8 0, .int .u8 0, .int .u8 0, .int .u8 0, .int .u8 0, .int .u8 0, .int .u8 0, .int .u8 0, .int .u8 0, .int .u8 0, .int .u8 0, .int .u8 0, .int .u8 0, .int .u8 0, .int .u8 0, .int .u8 0, .int .u8 0, .int .u8 0, .int .u8 0, .int .u8 0, .slice none 0 0, .slice none 0 0, .int .u64 0, .int .u64 0, .int .u64 0, .int .u64 0, .int .u64 0, .int .u64 0, .int .u64 0, .int .u64 0, .int .u64 0, .int .u64 0, .int .u64 0, .bool false, .int .u8 0, .int .u8 0, .int .u8 0, .int .u8 0, .int .u8 0, .int .u8 0, .int .u8 0, .int .u8 0, .int .u8 0, .int .u8 0, .int .u8 0, .int .u8 0, .int .u8 0, .int .u8 0, .int .u8 0, .int .u8 0, .int .u8 0, .int .u8 0, .int .u8 0, .int .u8 0, .int .u64 0, .int .u64 0, .slice none 0 0, .slice none 0 0], .agg #[.int .u8 0, .int .u8 0, .int .u8 0, .int .u8 0, .int .u8 0, .int .u8 0, .int .u8 0, .int .u8 0, .int .u8 0, .int .u8 0, .int .u8 0, .int .u8 0, .int .u8 0, .int .u8 0, .int .u8 0, .int .u8 0, .int .u8 0, .int .u8 0, .int .u8 0, .int .u8 0, .int .u64 0, .int .u64 0, .int .u64 0, .int .u64 0, .bool false, .int .u8 0, .int .u8 0, .int .u8 0, .int .u8 0, .int .u8 0, .int .u8 0, .int .u8 0, .int .u8 0, .int .u8 0, .int .u8 0, .int .u8 0, .int .u8 0, .int .u8 0, .int .u8 0, .int .u8 0, .int .u8 0, .int .u8 0, .int .u8 0, .int .u8 0, .int .u8 0, .slice none 0 0, .slice none 0 0, .int .u64 0, .int .u64 0, .int .u64 0, .int .u64 0, .int .u64 0, .int .u64 0, .int .u64 0, .int .u64 0, .int .u64 0, .int .u64 0, .int .u64 0, .bool false, .int .u8 0, .int .u8 0, .int .u8 0, .int .u8 0, .int .u8 0, .int .u8 0, .int .u8 0, .int .u8 0, .int .u8 0, .int .u8 0, .int .u8 0, .int .u8 0, .int .u8 0, .int .u8 0, .int .u8 0, .int .u8 0, .int .u8 0, .int .u8 0, .int .u8 0, .int .u8 0, .int .u64 0, .int .u64 0, .slice none 0 0, .slice none 0 0], .agg #[.int .u64 0, .int .u64 0, .int .u64 0, .int .u64 0]] 8 (World.laidAll_os _ _ _) (World.shaped_of_ZipB (by kernel_rfl) (by kernel_rfl)) (by kernel_rfl) (by kernel_rfl) (by kernel_rfl)
      (by rw [MakeChecks.laidMetH_plain _ _ _ (by kernel_rfl)]; exact laidMet_laidAll _ (by kernel_rfl) (by kernel_rfl)))
    (by kernel_rfl) laidOut (among (by kernel_rfl)) (fun t ht => by
      have key : (Tryd.f7.params.toList.all fun t => types.contains t && Tryd.prog.readableRec t && decide (t < Tryd.prog.types.size)) = true := by kernel_rfl
      have := List.all_eq_true.1 key t ht
      simp only [Bool.and_eq_true, decide_eq_true_eq] at this
      exact ⟨this.1.1, this.1.2, this.2⟩) rfl
    (fun ds hds => by
      rw [show Tryd.f7.params.size = 3 by kernel_rfl] at hds
      match ds, hds with
      | [d0, d1, d2], _ => rfl) (by kernel_rfl) (by kernel_rfl) glob main
theorem over : Rows.useropSignedRow.holds Tryd.pinned (OpenSpec.ofChange Rows.useropSignedSpec) :=
  OpenClaim.holds_of_wide 7 Tryd.f7 rfl rfl rfl rfl rfl rfl rfl ⟨rfl, rfl, rfl, rfl, rfl⟩ rfl rfl rfl rfl rfl (by kernel_rfl) Tryd.func7 (by kernel_rfl)
    (of_decide_eq_true (by kernel_rfl)) (by unfold Func.isWrapper; first | (rw [if_pos (by decide +kernel)]; kernel_rfl) | (rw [if_neg (by decide +kernel)]; exact ⟨rfl, rfl⟩))
    (fun os started H enc _ => lifted os started H enc)
end Go.Proofs.YtehhocoldpdijaaDoor.useropSigned
namespace Go.Proofs.YtehhocoldpdijaaDoor
/-- The row, under a short name, for the claim. -/
theorem useropSigned_holds : Rows.UseropSignedSaid := useropSigned.over
/-- The tied card, for the claim. -/
theorem useropSigned_card : Rows.UseropSignedCardSaid :=
  Claim7.holds_tied_plain_at .later [] [.data, .data, .data] true (true, "c51760bd8f969763d386844ba8af162d84ed9ffb862fc9d378e5688836d4c569") true
    useropSigned_holds (fun _ h => by cases h) (by kernel_rfl) (fun _ h => by cases h) useropSigned_row_tie rfl ⟨rfl, rfl⟩ (by kernel_rfl) rfl
    (fun f fn hf hfn => by
      obtain rfl : f = 7 := Option.some.inj ((show Tryd.prog.funcNamed Rows.useropSignedRow.func = some 7 by kernel_rfl).symm.trans hf) |>.symm
      obtain rfl : fn = Tryd.f7 := (Option.some.inj (Tryd.func7.symm.trans hfn)).symm
      refine ⟨by kernel_rfl, fun j t ht => ?_⟩
      have key : (Tryd.f7.params.toList.all fun t => Tryd.prog.wantsStandIn t == false) = true := by kernel_rfl
      have := List.all_eq_true.1 key t (by simpa using Array.mem_of_getElem? ht)
      have q : Tryd.prog.wantsStandIn t = false := by simpa using this
      exact q)
    (by kernel_rfl)
end Go.Proofs.YtehhocoldpdijaaDoor
#print axioms Go.Proofs.YtehhocoldpdijaaDoor.useropSigned_card
