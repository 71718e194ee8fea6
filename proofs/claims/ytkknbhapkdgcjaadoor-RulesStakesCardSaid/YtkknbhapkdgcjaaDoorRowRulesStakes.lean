/- The row of the law RulesStakes: whatever the arguments, its function answers true, and they read as they did. No condition. -/
import Derived.Test.YtkknbhapkdgcjaaDoorAbsP8
import Derived.Test.YtkknbhapkdgcjaaDoorPuRulesStakes1
import Derived.Test.YtkknbhapkdgcjaaDoorFnRulesStakes7
import Derived.Test.YtkknbhapkdgcjaaDoorRows
import Derived.Test.YtkknbhapkdgcjaaDoorTie
import Derived.Test.YtkknbhapkdgcjaaDoorCards
import Derived.Lay
import Derived.SevenTiedAt
set_option linter.unusedVariables false
namespace Go.Proofs.YtkknbhapkdgcjaaDoor.rulesStakes
open Go Go.Abs Go.RowKit Go.ChangeShapes
theorem own : ownKnob Tryd.prog.godebug = none := by kernel_rfl
theorem laidOut : laidOutB Tryd.prog = true := by kernel_rfl
theorem hmix : Tryd.prog.follows .mixedOrders = true := by kernel_rfl
def types : List Nat := [22, 72, 24, 5, 70, 25, 27, 28, 68, 77, 30, 4]
noncomputable def fs72 : Array Field := match Tryd.prog.underlying 72 with | some (.struct fs) => fs | _ => #[]
theorem ty72 : fs72.toList.map (·.type) = [24, 70] := by kernel_rfl
noncomputable def fs70 : Array Field := match Tryd.prog.underlying 70 with | some (.struct fs) => fs | _ => #[]
theorem ty70 : fs70.toList.map (·.type) = [25, 27, 28, 68] := by kernel_rfl
noncomputable def fs77 : Array Field := match Tryd.prog.underlying 77 with | some (.struct fs) => fs | _ => #[]
theorem ty77 : fs77.toList.map (·.type) = [27, 27] := by kernel_rfl
noncomputable def fs30 : Array Field := match Tryd.prog.underlying 30 with | some (.struct fs) => fs | _ => #[]
theorem ty30 : fs30.toList.map (·.type) = [24, 27, 4, 24, 28, 28, 25, 25, 25, 27, 27, 4, 24, 25, 25, 28, 28] := by kernel_rfl
theorem glob (W : World) (h : laidMet Tryd.prog Rows.rulesStakesRow.laid W) : Glob kecG (E0 W) := by
 obtain ⟨ps, hL, _⟩ := h
 obtain ⟨g0, t0, c0, f0, p0, q0, a0, b0, d0, e0, hL, _⟩ := hL
 obtain ⟨g1, t1, c1, f1, p1, q1, a1, b1, d1, e1, hL, _⟩ := hL
 obtain ⟨g2, t2, c2, f2, p2, q2, a2, b2, d2, e2, hL, _⟩ := hL
 obtain rfl : g0 = 0 := Option.some.inj (a0.symm.trans (by kernel_rfl))
 obtain rfl : t0 = 146 := Option.some.inj (b0.symm.trans (by kernel_rfl))
 have v0 := glob_ints a0 d0 (cells_of_ints (n := 24) (e := 25) (k := .u64) (l := kecKeys) (by kernel_rfl) (by kernel_rfl) (by kernel_rfl) (by kernel_rfl) rfl e0) rfl
 obtain rfl : g1 = 2 := Option.some.inj (a1.symm.trans (by kernel_rfl))
 obtain rfl : t1 = 149 := Option.some.inj (b1.symm.trans (by kernel_rfl))
 have v1 := glob_ints a1 d1 (cells_of_ints (n := 24) (e := 3) (k := .i64) (l := kecTurns) (by kernel_rfl) (by kernel_rfl) (by kernel_rfl) (by kernel_rfl) rfl e1) rfl
 obtain rfl : g2 = 1 := Option.some.inj (a2.symm.trans (by kernel_rfl))
 obtain rfl : t2 = 149 := Option.some.inj (b2.symm.trans (by kernel_rfl))
 have v2 := glob_ints a2 d2 (cells_of_ints (n := 24) (e := 3) (k := .i64) (l := kecTo) (by kernel_rfl) (by kernel_rfl) (by kernel_rfl) (by kernel_rfl) rfl e2) rfl
 exact .plain (fun g => match g with
  | 0 => v0
  | 1 => v2
  | 2 => v1
  | _ + 3 => trivial) fun g tF ts k he => by unfold kecG at he; split at he <;> cases he
theorem main (av : List AV) (h : AVTs Tryd.prog Tryd.f6.params.toList av) : FnC Tryd.prog kecG 6 av [] (.bool true) [] := by
 rw [show Tryd.f6.params.toList = [22, 30, 5] by kernel_rfl] at h
 obtain ⟨y0, r0, rfl, h0, q0⟩ := h.cons_inv
 obtain ⟨y1, r1, rfl, h1, q1⟩ := q0.cons_inv
 obtain ⟨y2, r2, rfl, h2, q2⟩ := q1.cons_inv
 obtain rfl := q2.nil_inv
 obtain ⟨x3, rfl, w3⟩ := AVT.robjs_inv (e := 72) (w := 27) h0 (by kernel_rfl) (by kernel_rfl) (of_decide_eq_true (by kernel_rfl)) (by kernel_rfl)
 have v3 : x3.length ≤ 140737488351232 ∧ ∀ z ∈ x3, ∃ c0 c1 c2 c3 c4, z = AV.agg [.ints .u8 20 c0, .agg [.int .u64 c1, .ints .u64 4 c2, .rints .u8 c3, .robjs 77 8 c4]] ∧ InA .u8 20 c0 ∧ InK .u64 c1 ∧ InA .u64 4 c2 ∧ InS .u8 c3 ∧ (c4.length ≤ 140737488351232 ∧ ∀ z ∈ c4, ∃ c0 c1, z = AV.agg [.ints .u64 4 c0, .ints .u64 4 c1] ∧ InA .u64 4 c0 ∧ InA .u64 4 c1) := ⟨w3.1, fun z hz => by
  obtain ⟨x4, rfl, g4⟩ := AVT.struct_inv (fs := fs72) (w3.2 z hz) (by kernel_rfl)
  rw [ty72] at g4
  obtain ⟨y5, r5, rfl, h5, q5⟩ := g4.cons_inv
  obtain ⟨y6, r6, rfl, h6, q6⟩ := q5.cons_inv
  obtain rfl := q6.nil_inv
  obtain ⟨x7, rfl, w7⟩ := AVT.ints_inv (n := 20) (e := 5) (k := .u8) h5 (by kernel_rfl) (by kernel_rfl)
  obtain ⟨x8, rfl, g8⟩ := AVT.struct_inv (fs := fs70) h6 (by kernel_rfl)
  rw [ty70] at g8
  obtain ⟨y9, r9, rfl, h9, q9⟩ := g8.cons_inv
  obtain ⟨y10, r10, rfl, h10, q10⟩ := q9.cons_inv
  obtain ⟨y11, r11, rfl, h11, q11⟩ := q10.cons_inv
  obtain ⟨y12, r12, rfl, h12, q12⟩ := q11.cons_inv
  obtain rfl := q12.nil_inv
  obtain ⟨x13, rfl, w13⟩ := AVT.int_inv (k := .u64) h9 (by kernel_rfl)
  obtain ⟨x14, rfl, w14⟩ := AVT.ints_inv (n := 4) (e := 25) (k := .u64) h10 (by kernel_rfl) (by kernel_rfl)
  obtain ⟨x15, rfl, w15⟩ := AVT.rints_inv (e := 5) (k := .u8) h11 (by kernel_rfl) (by kernel_rfl) (of_decide_eq_true (by kernel_rfl))
  obtain ⟨x16, rfl, w16⟩ := AVT.robjs_inv (e := 77) (w := 8) h12 (by kernel_rfl) (by kernel_rfl) (of_decide_eq_true (by kernel_rfl)) (by kernel_rfl)
  have v16 : x16.length ≤ 140737488351232 ∧ ∀ z ∈ x16, ∃ c0 c1, z = AV.agg [.ints .u64 4 c0, .ints .u64 4 c1] ∧ InA .u64 4 c0 ∧ InA .u64 4 c1 := ⟨w16.1, fun z hz => by
   obtain ⟨x17, rfl, g17⟩ := AVT.struct_inv (fs := fs77) (w16.2 z hz) (by kernel_rfl)
   rw [ty77] at g17
   obtain ⟨y18, r18, rfl, h18, q18⟩ := g17.cons_inv
   obtain ⟨y19, r19, rfl, h19, q19⟩ := q18.cons_inv
   obtain rfl := q19.nil_inv
   obtain ⟨x20, rfl, w20⟩ := AVT.ints_inv (n := 4) (e := 25) (k := .u64) h18 (by kernel_rfl) (by kernel_rfl)
   obtain ⟨x21, rfl, w21⟩ := AVT.ints_inv (n := 4) (e := 25) (k := .u64) h19 (by kernel_rfl) (by kernel_rfl)
   exact ⟨x20, x21, rfl, w20, w21⟩⟩
  exact ⟨x7, x13, x14, x15, x16, rfl, w7, w13, w14, w15, v16⟩⟩
 obtain ⟨x22, rfl, g22⟩ := AVT.struct_inv (fs := fs30) h1 (by kernel_rfl)
 rw [ty30] at g22
 obtain ⟨y23, r23, rfl, h23, q23⟩ := g22.cons_inv
 obtain ⟨y24, r24, rfl, h24, q24⟩ := q23.cons_inv
 obtain ⟨y25, r25, rfl, h25, q25⟩ := q24.cons_inv
 obtain ⟨y26, r26, rfl, h26, q26⟩ := q25.cons_inv
 obtain ⟨y27, r27, rfl, h27, q27⟩ := q26.cons_inv
 obtain ⟨y28, r28, rfl, h28, q28⟩ := q27.cons_inv
 obtain ⟨y29, r29, rfl, h29, q29⟩ := q28.cons_inv
 obtain ⟨y30, r30, rfl, h30, q30⟩ := q29.cons_inv
 obtain ⟨y31, r31, rfl, h31, q31⟩ := q30.cons_inv
 obtain ⟨y32, r32, rfl, h32, q32⟩ := q31.cons_inv
 obtain ⟨y33, r33, rfl, h33, q33⟩ := q32.cons_inv
 obtain ⟨y34, r34, rfl, h34, q34⟩ := q33.cons_inv
 obtain ⟨y35, r35, rfl, h35, q35⟩ := q34.cons_inv
 obtain ⟨y36, r36, rfl, h36, q36⟩ := q35.cons_inv
 obtain ⟨y37, r37, rfl, h37, q37⟩ := q36.cons_inv
 obtain ⟨y38, r38, rfl, h38, q38⟩ := q37.cons_inv
 obtain ⟨y39, r39, rfl, h39, q39⟩ := q38.cons_inv
 obtain rfl := q39.nil_inv
 obtain ⟨x40, rfl, w40⟩ := AVT.ints_inv (n := 20) (e := 5) (k := .u8) h23 (by kernel_rfl) (by kernel_rfl)
 obtain ⟨x41, rfl, w41⟩ := AVT.ints_inv (n := 4) (e := 25) (k := .u64) h24 (by kernel_rfl) (by kernel_rfl)
 obtain ⟨x42, rfl⟩ := AVT.bool_inv h25 (by kernel_rfl)
 obtain ⟨x43, rfl, w43⟩ := AVT.ints_inv (n := 20) (e := 5) (k := .u8) h26 (by kernel_rfl) (by kernel_rfl)
 obtain ⟨x44, rfl, w44⟩ := AVT.rints_inv (e := 5) (k := .u8) h27 (by kernel_rfl) (by kernel_rfl) (of_decide_eq_true (by kernel_rfl))
 obtain ⟨x45, rfl, w45⟩ := AVT.rints_inv (e := 5) (k := .u8) h28 (by kernel_rfl) (by kernel_rfl) (of_decide_eq_true (by kernel_rfl))
 obtain ⟨x46, rfl, w46⟩ := AVT.int_inv (k := .u64) h29 (by kernel_rfl)
 obtain ⟨x47, rfl, w47⟩ := AVT.int_inv (k := .u64) h30 (by kernel_rfl)
 obtain ⟨x48, rfl, w48⟩ := AVT.int_inv (k := .u64) h31 (by kernel_rfl)
 obtain ⟨x49, rfl, w49⟩ := AVT.ints_inv (n := 4) (e := 25) (k := .u64) h32 (by kernel_rfl) (by kernel_rfl)
 obtain ⟨x50, rfl, w50⟩ := AVT.ints_inv (n := 4) (e := 25) (k := .u64) h33 (by kernel_rfl) (by kernel_rfl)
 obtain ⟨x51, rfl⟩ := AVT.bool_inv h34 (by kernel_rfl)
 obtain ⟨x52, rfl, w52⟩ := AVT.ints_inv (n := 20) (e := 5) (k := .u8) h35 (by kernel_rfl) (by kernel_rfl)
 obtain ⟨x53, rfl, w53⟩ := AVT.int_inv (k := .u64) h36 (by kernel_rfl)
 obtain ⟨x54, rfl, w54⟩ := AVT.int_inv (k := .u64) h37 (by kernel_rfl)
 obtain ⟨x55, rfl, w55⟩ := AVT.rints_inv (e := 5) (k := .u8) h38 (by kernel_rfl) (by kernel_rfl) (of_decide_eq_true (by kernel_rfl))
 obtain ⟨x56, rfl, w56⟩ := AVT.rints_inv (e := 5) (k := .u8) h39 (by kernel_rfl) (by kernel_rfl) (of_decide_eq_true (by kernel_rfl))
 obtain ⟨x57, rfl, w57⟩ := AVT.int_inv (k := .u8) h2 (by kernel_rfl)
 obtain ⟨n, hn⟩ := Go.Abs.Pure.RulesStakes x3 v3 x40 w40 x41 w41 x42 x43 w43 x44 w44 x45 w45 x46 w46 x47 w47 x48 w48 x49 w49 x50 w50 x51 x52 w52 x53 w53 x54 w54 x55 w55 x56 w56 x57 w57
 exact Fai.call hmix n (x3, x40, x41, x42, x43, x44, x45, x46, x47, x48, x49, x50, x51, x52, x53, x54, x55, x56, x57) true hn
set_option maxRecDepth 100000 in
theorem lifted (os : Os) (started : os.Started) (H : Type) (enc : TypeId × Value → H) :
  ReturnsInHanded {} Tryd.checked os 6 .any (fun w args => (Rows.rulesStakesSpec.pre enc Tryd.prog Tryd.f6 [] false w args ∧ laidMetH Tryd.prog Rows.rulesStakesRow.laid w) ∧ sizedMet enc Tryd.prog Tryd.f6 (OpenSpec.ofChange Rows.rulesStakesSpec) false w args) (Rows.rulesStakesSpec.post enc Tryd.prog Tryd.f6 false true false false) :=
 law_lifted_laid (C := Tryd.checked) (s := Rows.rulesStakesSpec) (G := kecG) (rt := 4) Rows.rulesStakesRow.laid (fun t => types.contains t) own started (by kernel_rfl) Tryd.func6
  (ChangeSpec.witness_shaped (enc := enc) (C := Tryd.checked) (os := os) (X := fun w _ => laidMetH Tryd.prog Rows.rulesStakesRow.laid w) false (World.laidAll Tryd.prog os Rows.rulesStakesRow.laid) #[.slice none 0 0, .agg #[.int .u8 0, .int .u8 0, .int .u8 0, .int .u8 0, .int .u8 0, .int .u8 0, .int .u8 0, .int .u8 0, .int .u8 0, .int .u8 0, .int .u8 0, .int .u8 0, .int .u8 0, .int .u8 0, .int .u8 0, .int .u8 0, .int .u8 0, .int .u8 0, .int .u8 0, .int .u8 0, .int .u64 0, .int .u64 0, .int .u64 0, .int .u64 0, .bool false, .int .u8 0, .int .u8 0, .int .u8 0, .int .u8 0, .int .u8 0, .int .u8 0, .int .u8 0, .int .u8 0, .int .u8 0, .int .u8 0, .int .u8 0, .int .u8 0, .int .u8 0, .int .u8 0, .int .u8 0, .int .u8 0, .int .u8 0, .int .u8 0, .int .u8 0, .int .u8 0, .slice none 0 0, .slice none 0 0, .int .u64 0, .int .u64 0, .int .u64 0, .int .u64 0, .int .u64 0, .int .u64 0, .int .u64 0, .int .u64 0, .int .u64 0, .int .u64 0, .int .u64 0, .bool false, .int .u8 0, .int .u8 0, .int .u8 0, .int .u8 0, .int .u8 0, .int .u8 0, .int .u8 0, .int .u8 0, .int .u8 0, .int .u8 0, .int .u8 0, .int .u8 0, .int .u8 0, .int .u8 0, .int .u8 0, .int .u8 0, .int .u8 0, .int .u8 0, .int .u8 0, .int .u8 0, .int .u64 0, .int .u64 0, .slice none 0 0, .slice none 0 0], .int .u8 0] 8 (World.laidAll_os _ _ _) (World.shaped_of_ZipB (by kernel_rfl) (by kernel_rfl)) (by kernel_rfl) (by kernel_rfl) (by kernel_rfl)
   (by rw [MakeChecks.laidMetH_plain _ _ _ (by kernel_rfl)]; exact laidMet_laidAll _ (by kernel_rfl) (by kernel_rfl)))
  (by kernel_rfl) laidOut (among (by kernel_rfl)) (fun t ht => by
   have key : (Tryd.f6.params.toList.all fun t => types.contains t && Tryd.prog.readableRec t && decide (t < Tryd.prog.types.size)) = true := by kernel_rfl
   have := List.all_eq_true.1 key t ht
   simp only [Bool.and_eq_true, decide_eq_true_eq] at this
   exact ⟨this.1.1, this.1.2, this.2⟩) rfl
  (fun ds hds => by
   rw [show Tryd.f6.params.size = 3 by kernel_rfl] at hds
   match ds, hds with
   | [d0, d1, d2], _ => rfl) (by kernel_rfl) (by kernel_rfl) glob main
theorem over : Rows.rulesStakesRow.holds Tryd.pinned (OpenSpec.ofChange Rows.rulesStakesSpec) :=
 OpenClaim.holds_of_wide 6 Tryd.f6 rfl rfl rfl rfl rfl rfl rfl ⟨rfl, rfl, rfl, rfl, rfl⟩ rfl rfl rfl rfl rfl (by kernel_rfl) Tryd.func6 (by kernel_rfl)
  (of_decide_eq_true (by kernel_rfl)) (by unfold Func.isWrapper; first | (rw [if_pos (by decide +kernel)]; kernel_rfl) | (rw [if_neg (by decide +kernel)]; exact ⟨rfl, rfl⟩))
  (fun os started H enc _ => lifted os started H enc)
end Go.Proofs.YtkknbhapkdgcjaaDoor.rulesStakes
namespace Go.Proofs.YtkknbhapkdgcjaaDoor
/-- The row, under a short name, for the claim. -/
theorem rulesStakes_holds : Rows.RulesStakesSaid := rulesStakes.over
/-- The tied card, for the claim. -/
theorem rulesStakes_card : Rows.RulesStakesCardSaid :=
 Claim7.holds_tied_plain_at .later [] [.data, .data, .data] true (true, "1736bc1c7ef0d21acd9bd10f9bdbc25cba89b77da8890352548dd748e989ef91") false
  rulesStakes_holds (fun _ h => by cases h) (by kernel_rfl) (fun _ h => by cases h) rulesStakes_row_tie rfl ⟨rfl, rfl⟩ (by kernel_rfl) rfl
  (fun f fn hf hfn => by
   obtain rfl : f = 6 := Option.some.inj ((show Tryd.prog.funcNamed Rows.rulesStakesRow.func = some 6 by kernel_rfl).symm.trans hf) |>.symm
   obtain rfl : fn = Tryd.f6 := (Option.some.inj (Tryd.func6.symm.trans hfn)).symm
   refine ⟨by kernel_rfl, fun j t ht => ?_⟩
   have key : (Tryd.f6.params.toList.all fun t => Tryd.prog.wantsStandIn t == false) = true := by kernel_rfl
   have := List.all_eq_true.1 key t (by simpa using Array.mem_of_getElem? ht)
   have q : Tryd.prog.wantsStandIn t = false := by simpa using this
   exact q)
  (by kernel_rfl)
end Go.Proofs.YtkknbhapkdgcjaaDoor
#print axioms Go.Proofs.YtkknbhapkdgcjaaDoor.rulesStakes_card
