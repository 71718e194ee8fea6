/- The row of the law RulesMore: whatever the arguments, its function answers true, and they read as they did. No condition. -/
import Derived.Test.YtkknbhapkdgcjaaDoorAbsO8
import Derived.Test.YtkknbhapkdgcjaaDoorPuRulesMore1
import Derived.Test.YtkknbhapkdgcjaaDoorFnRulesMore4
import Derived.Test.YtkknbhapkdgcjaaDoorRows
import Derived.Test.YtkknbhapkdgcjaaDoorTie
import Derived.Test.YtkknbhapkdgcjaaDoorCards
import Derived.Lay
import Derived.SevenTiedAt
set_option linter.unusedVariables false
namespace Go.Proofs.YtkknbhapkdgcjaaDoor.rulesMore
open Go Go.Abs Go.RowKit Go.ChangeShapes
theorem own : ownKnob Tryd.prog.godebug = none := by kernel_rfl
theorem laidOut : laidOutB Tryd.prog = true := by kernel_rfl
theorem hmix : Tryd.prog.follows .mixedOrders = true := by kernel_rfl
def types : List Nat := [22, 72, 24, 5, 70, 25, 27, 28, 68, 77, 30, 4, 31, 47, 3, 45, 32]
noncomputable def fs72 : Array Field := match Tryd.prog.underlying 72 with | some (.struct fs) => fs | _ => #[]
theorem ty72 : fs72.toList.map (·.type) = [24, 70] := by kernel_rfl
noncomputable def fs70 : Array Field := match Tryd.prog.underlying 70 with | some (.struct fs) => fs | _ => #[]
theorem ty70 : fs70.toList.map (·.type) = [25, 27, 28, 68] := by kernel_rfl
noncomputable def fs77 : Array Field := match Tryd.prog.underlying 77 with | some (.struct fs) => fs | _ => #[]
theorem ty77 : fs77.toList.map (·.type) = [27, 27] := by kernel_rfl
noncomputable def fs30 : Array Field := match Tryd.prog.underlying 30 with | some (.struct fs) => fs | _ => #[]
theorem ty30 : fs30.toList.map (·.type) = [24, 27, 4, 24, 28, 28, 25, 25, 25, 27, 27, 4, 24, 25, 25, 28, 28] := by kernel_rfl
noncomputable def fs47 : Array Field := match Tryd.prog.underlying 47 with | some (.struct fs) => fs | _ => #[]
theorem ty47 : fs47.toList.map (·.type) = [5, 3, 24, 27, 27, 28, 45] := by kernel_rfl
theorem arr_inv {P : Program} {t n e : Nat} {a : AV} (h : AVT P t a) (hu : P.underlying t = some (.array n e)) (he : (match P.underlying e with | some (.int _) => false | _ => true) = true) : ∃ l, a = .agg l ∧ l.length = n ∧ ∀ x ∈ l, AVT P e x := by
  cases h with
  | arr hu' he' l hl hw => rw [hu] at hu'; cases hu'; exact ⟨l, rfl, hl, hw⟩
  | ints hu' he' l hl hw => rw [hu] at hu'; cases hu'; rw [he'] at he; cases he
  | _ => simp_all
theorem glob (W : World) (h : laidMet Tryd.prog Rows.rulesMoreRow.laid W) : Glob kecG (E0 W) := by
  obtain ⟨ps, hL, _⟩ := h
  obtain ⟨g0, t0, c0, f0, p0, q0, a0, b0, d0, e0, hL, _⟩ := hL
  obtain ⟨g1, t1, c1, f1, p1, q1, a1, b1, d1, e1, hL, _⟩ := hL
  obtain ⟨g2, t2, c2, f2, p2, q2, a2, b2, d2, e2, hL, _⟩ := hL
  obtain rfl : g0 = 0 := Option.some.inj (a0.symm.trans (by kernel_rfl))
  obtain rfl : t0 = 146 := Option.some.inj (b0.symm.trans (by kernel_rfl))
  have v0 := glob_ints a0 d0 (cells_of_ints (n := 24) (e := 25) (k := .u64) (l := kecKeys) (by kernel_rfl) (by kernel_rfl) (by kernel_rfl) (by kernel_rfl) rfl e0) rfl
  obtain rfl : g1 = 2 := Option.some.inj (a1.symm.trans (by kernel_rfl))
  obtain rfl : t1 = 149 := Option.some.inj (b1.symm.trans (by kernel_rfl))
  have v1 := glob_ints a1 d1 (cells_of_ints (n := 24) (e := 3) (k := .i64) (l := kecTurns) (by kernel_rfl) (by kernel_rfl) (by kernel_rfl) (by kernel_rfl) rfl e1) rfl
  obtain rfl : g2 = 1 := Option.some.inj (a2.symm.trans (by kernel_rfl))
  obtain rfl : t2 = 149 := Option.some.inj (b2.symm.trans (by kernel_rfl))
  have v2 := glob_ints a2 d2 (cells_of_ints (n := 24) (e := 3) (k := .i64) (l := kecTo) (by kernel_rfl) (by kernel_rfl) (by kernel_rfl) (by kernel_rfl) rfl e2) rfl
  exact .plain (fun g => match g with
    | 0 => v0
    | 1 => v2
    | 2 => v1
    | _ + 3 => trivial) fun g tF ts k he => by unfold kecG at he; split at he <;> cases he
theorem main (av : List AV) (h : AVTs Tryd.prog Tryd.f3.params.toList av) : FnC Tryd.prog kecG 3 av [] (.bool true) [] := by
  rw [show Tryd.f3.params.toList = [22, 30, 31, 32, 5] by kernel_rfl] at h
  obtain ⟨y0, r0, rfl, h0, q0⟩ := h.cons_inv
  obtain ⟨y1, r1, rfl, h1, q1⟩ := q0.cons_inv
  obtain ⟨y2, r2, rfl, h2, q2⟩ := q1.cons_inv
  obtain ⟨y3, r3, rfl, h3, q3⟩ := q2.cons_inv
  obtain ⟨y4, r4, rfl, h4, q4⟩ := q3.cons_inv
  obtain rfl := q4.nil_inv
  obtain ⟨x5, rfl, w5⟩ := AVT.robjs_inv (e := 72) (w := 27) h0 (by kernel_rfl) (by kernel_rfl) (of_decide_eq_true (by kernel_rfl)) (by kernel_rfl)
  have v5 : x5.length ≤ 140737488351232 ∧ ∀ z ∈ x5, ∃ c0 c1 c2 c3 c4, z = AV.agg [.ints .u8 20 c0, .agg [.int .u64 c1, .ints .u64 4 c2, .rints .u8 c3, .robjs 77 8 c4]] ∧ InA .u8 20 c0 ∧ InK .u64 c1 ∧ InA .u64 4 c2 ∧ InS .u8 c3 ∧ (c4.length ≤ 140737488351232 ∧ ∀ z ∈ c4, ∃ c0 c1, z = AV.agg [.ints .u64 4 c0, .ints .u64 4 c1] ∧ InA .u64 4 c0 ∧ InA .u64 4 c1) := ⟨w5.1, fun z hz => by
    obtain ⟨x6, rfl, g6⟩ := AVT.struct_inv (fs := fs72) (w5.2 z hz) (by kernel_rfl)
    rw [ty72] at g6
    obtain ⟨y7, r7, rfl, h7, q7⟩ := g6.cons_inv
    obtain ⟨y8, r8, rfl, h8, q8⟩ := q7.cons_inv
    obtain rfl := q8.nil_inv
    obtain ⟨x9, rfl, w9⟩ := AVT.ints_inv (n := 20) (e := 5) (k := .u8) h7 (by kernel_rfl) (by kernel_rfl)
    obtain ⟨x10, rfl, g10⟩ := AVT.struct_inv (fs := fs70) h8 (by kernel_rfl)
    rw [ty70] at g10
    obtain ⟨y11, r11, rfl, h11, q11⟩ := g10.cons_inv
    obtain ⟨y12, r12, rfl, h12, q12⟩ := q11.cons_inv
    obtain ⟨y13, r13, rfl, h13, q13⟩ := q12.cons_inv
    obtain ⟨y14, r14, rfl, h14, q14⟩ := q13.cons_inv
    obtain rfl := q14.nil_inv
    obtain ⟨x15, rfl, w15⟩ := AVT.int_inv (k := .u64) h11 (by kernel_rfl)
    obtain ⟨x16, rfl, w16⟩ := AVT.ints_inv (n := 4) (e := 25) (k := .u64) h12 (by kernel_rfl) (by kernel_rfl)
    obtain ⟨x17, rfl, w17⟩ := AVT.rints_inv (e := 5) (k := .u8) h13 (by kernel_rfl) (by kernel_rfl) (of_decide_eq_true (by kernel_rfl))
    obtain ⟨x18, rfl, w18⟩ := AVT.robjs_inv (e := 77) (w := 8) h14 (by kernel_rfl) (by kernel_rfl) (of_decide_eq_true (by kernel_rfl)) (by kernel_rfl)
    have v18 : x18.length ≤ 140737488351232 ∧ ∀ z ∈ x18, ∃ c0 c1, z = AV.agg [.ints .u64 4 c0, .ints .u64 4 c1] ∧ InA .u64 4 c0 ∧ InA .u64 4 c1 := ⟨w18.1, fun z hz => by
      obtain ⟨x19, rfl, g19⟩ := AVT.struct_inv (fs := fs77) (w18.2 z hz) (by kernel_rfl)
      rw [ty77] at g19
      obtain ⟨y20, r20, rfl, h20, q20⟩ := g19.cons_inv
      obtain ⟨y21, r21, rfl, h21, q21⟩ := q20.cons_inv
      obtain rfl := q21.nil_inv
      obtain ⟨x22, rfl, w22⟩ := AVT.ints_inv (n := 4) (e := 25) (k := .u64) h20 (by kernel_rfl) (by kernel_rfl)
      obtain ⟨x23, rfl, w23⟩ := AVT.ints_inv (n := 4) (e := 25) (k := .u64) h21 (by kernel_rfl) (by kernel_rfl)
      exact ⟨x22, x23, rfl, w22, w23⟩⟩
    exact ⟨x9, x15, x16, x17, x18, rfl, w9, w15, w16, w17, v18⟩⟩
  obtain ⟨x24, rfl, g24⟩ := AVT.struct_inv (fs := fs30) h1 (by kernel_rfl)
  rw [ty30] at g24
  obtain ⟨y25, r25, rfl, h25, q25⟩ := g24.cons_inv
  obtain ⟨y26, r26, rfl, h26, q26⟩ := q25.cons_inv
  obtain ⟨y27, r27, rfl, h27, q27⟩ := q26.cons_inv
  obtain ⟨y28, r28, rfl, h28, q28⟩ := q27.cons_inv
  obtain ⟨y29, r29, rfl, h29, q29⟩ := q28.cons_inv
  obtain ⟨y30, r30, rfl, h30, q30⟩ := q29.cons_inv
  obtain ⟨y31, r31, rfl, h31, q31⟩ := q30.cons_inv
  obtain ⟨y32, r32, rfl, h32, q32⟩ := q31.cons_inv
  obtain ⟨y33, r33, rfl, h33, q33⟩ := q32.cons_inv
  obtain ⟨y34, r34, rfl, h34, q34⟩ := q33.cons_inv
  obtain ⟨y35, r35, rfl, h35, q35⟩ := q34.cons_inv
  obtain ⟨y36, r36, rfl, h36, q36⟩ := q35.cons_inv
  obtain ⟨y37, r37, rfl, h37, q37⟩ := q36.cons_inv
  obtain ⟨y38, r38, rfl, h38, q38⟩ := q37.cons_inv
  obtain ⟨y39, r39, rfl, h39, q39⟩ := q38.cons_inv
  obtain ⟨y40, r40, rfl, h40, q40⟩ := q39.cons_inv
  obtain ⟨y41, r41, rfl, h41, q41⟩ := q40.cons_inv
  obtain rfl := q41.nil_inv
  obtain ⟨x42, rfl, w42⟩ := AVT.ints_inv (n := 20) (e := 5) (k := .u8) h25 (by kernel_rfl) (by kernel_rfl)
  obtain ⟨x43, rfl, w43⟩ := AVT.ints_inv (n := 4) (e := 25) (k := .u64) h26 (by kernel_rfl) (by kernel_rfl)
  obtain ⟨x44, rfl⟩ := AVT.bool_inv h27 (by kernel_rfl)
  obtain ⟨x45, rfl, w45⟩ := AVT.ints_inv (n := 20) (e := 5) (k := .u8) h28 (by kernel_rfl) (by kernel_rfl)
  obtain ⟨x46, rfl, w46⟩ := AVT.rints_inv (e := 5) (k := .u8) h29 (by kernel_rfl) (by kernel_rfl) (of_decide_eq_true (by kernel_rfl))
  obtain ⟨x47, rfl, w47⟩ := AVT.rints_inv (e := 5) (k := .u8) h30 (by kernel_rfl) (by kernel_rfl) (of_decide_eq_true (by kernel_rfl))
  obtain ⟨x48, rfl, w48⟩ := AVT.int_inv (k := .u64) h31 (by kernel_rfl)
  obtain ⟨x49, rfl, w49⟩ := AVT.int_inv (k := .u64) h32 (by kernel_rfl)
  obtain ⟨x50, rfl, w50⟩ := AVT.int_inv (k := .u64) h33 (by kernel_rfl)
  obtain ⟨x51, rfl, w51⟩ := AVT.ints_inv (n := 4) (e := 25) (k := .u64) h34 (by kernel_rfl) (by kernel_rfl)
  obtain ⟨x52, rfl, w52⟩ := AVT.ints_inv (n := 4) (e := 25) (k := .u64) h35 (by kernel_rfl) (by kernel_rfl)
  obtain ⟨x53, rfl⟩ := AVT.bool_inv h36 (by kernel_rfl)
  obtain ⟨x54, rfl, w54⟩ := AVT.ints_inv (n := 20) (e := 5) (k := .u8) h37 (by kernel_rfl) (by kernel_rfl)
  obtain ⟨x55, rfl, w55⟩ := AVT.int_inv (k := .u64) h38 (by kernel_rfl)
  obtain ⟨x56, rfl, w56⟩ := AVT.int_inv (k := .u64) h39 (by kernel_rfl)
  obtain ⟨x57, rfl, w57⟩ := AVT.rints_inv (e := 5) (k := .u8) h40 (by kernel_rfl) (by kernel_rfl) (of_decide_eq_true (by kernel_rfl))
  obtain ⟨x58, rfl, w58⟩ := AVT.rints_inv (e := 5) (k := .u8) h41 (by kernel_rfl) (by kernel_rfl) (of_decide_eq_true (by kernel_rfl))
  obtain ⟨x59, rfl, w59⟩ := AVT.robjs_inv (e := 47) (w := 32) h2 (by kernel_rfl) (by kernel_rfl) (of_decide_eq_true (by kernel_rfl)) (by kernel_rfl)
  have v59 : x59.length ≤ 140737488351232 ∧ ∀ z ∈ x59, ∃ c0 c1 c2 c3 c4 c5 c6, z = AV.agg [.int .u8 c0, .int .i64 c1, .ints .u8 20 c2, .ints .u64 4 c3, .ints .u64 4 c4, .rints .u8 c5, .int .u16 c6] ∧ InK .u8 c0 ∧ InK .i64 c1 ∧ InA .u8 20 c2 ∧ InA .u64 4 c3 ∧ InA .u64 4 c4 ∧ InS .u8 c5 ∧ InK .u16 c6 := ⟨w59.1, fun z hz => by
    obtain ⟨x60, rfl, g60⟩ := AVT.struct_inv (fs := fs47) (w59.2 z hz) (by kernel_rfl)
    rw [ty47] at g60
    obtain ⟨y61, r61, rfl, h61, q61⟩ := g60.cons_inv
    obtain ⟨y62, r62, rfl, h62, q62⟩ := q61.cons_inv
    obtain ⟨y63, r63, rfl, h63, q63⟩ := q62.cons_inv
    obtain ⟨y64, r64, rfl, h64, q64⟩ := q63.cons_inv
    obtain ⟨y65, r65, rfl, h65, q65⟩ := q64.cons_inv
    obtain ⟨y66, r66, rfl, h66, q66⟩ := q65.cons_inv
    obtain ⟨y67, r67, rfl, h67, q67⟩ := q66.cons_inv
    obtain rfl := q67.nil_inv
    obtain ⟨x68, rfl, w68⟩ := AVT.int_inv (k := .u8) h61 (by kernel_rfl)
    obtain ⟨x69, rfl, w69⟩ := AVT.int_inv (k := .i64) h62 (by kernel_rfl)
    obtain ⟨x70, rfl, w70⟩ := AVT.ints_inv (n := 20) (e := 5) (k := .u8) h63 (by kernel_rfl) (by kernel_rfl)
    obtain ⟨x71, rfl, w71⟩ := AVT.ints_inv (n := 4) (e := 25) (k := .u64) h64 (by kernel_rfl) (by kernel_rfl)
    obtain ⟨x72, rfl, w72⟩ := AVT.ints_inv (n := 4) (e := 25) (k := .u64) h65 (by kernel_rfl) (by kernel_rfl)
    obtain ⟨x73, rfl, w73⟩ := AVT.rints_inv (e := 5) (k := .u8) h66 (by kernel_rfl) (by kernel_rfl) (of_decide_eq_true (by kernel_rfl))
    obtain ⟨x74, rfl, w74⟩ := AVT.int_inv (k := .u16) h67 (by kernel_rfl)
    exact ⟨x68, x69, x70, x71, x72, x73, x74, rfl, w68, w69, w70, w71, w72, w73, w74⟩⟩
  obtain ⟨x75, rfl, l75, g75⟩ := arr_inv (n := 4) (e := 4) h3 (by kernel_rfl) (by kernel_rfl)
  obtain ⟨y76, y77, y78, y79, rfl⟩ : ∃ y76 y77 y78 y79, x75 = [y76, y77, y78, y79] := by
    match x75, l75 with
    | [y76, y77, y78, y79], _ => exact ⟨y76, y77, y78, y79, rfl⟩
  have h76 := g75 y76 (by simp)
  have h77 := g75 y77 (by simp)
  have h78 := g75 y78 (by simp)
  have h79 := g75 y79 (by simp)
  obtain ⟨x80, rfl⟩ := AVT.bool_inv h76 (by kernel_rfl)
  obtain ⟨x81, rfl⟩ := AVT.bool_inv h77 (by kernel_rfl)
  obtain ⟨x82, rfl⟩ := AVT.bool_inv h78 (by kernel_rfl)
  obtain ⟨x83, rfl⟩ := AVT.bool_inv h79 (by kernel_rfl)
  obtain ⟨x84, rfl, w84⟩ := AVT.int_inv (k := .u8) h4 (by kernel_rfl)
  obtain ⟨n, hn⟩ := Go.Abs.Pure.RulesMore x5 v5 x42 w42 x43 w43 x44 x45 w45 x46 w46 x47 w47 x48 w48 x49 w49 x50 w50 x51 w51 x52 w52 x53 x54 w54 x55 w55 x56 w56 x57 w57 x58 w58 x59 v59 x80 x81 x82 x83 x84 w84
  exact Fag.call hmix n (x5, x42, x43, x44, x45, x46, x47, x48, x49, x50, x51, x52, x53, x54, x55, x56, x57, x58, x59, x80, x81, x82, x83, x84) true hn
set_option maxRecDepth 100000 in
theorem lifted (os : Os) (started : os.Started) (H : Type) (enc : TypeId × Value → H) :
    ReturnsInHanded {} Tryd.checked os 3 .any (fun w args => (Rows.rulesMoreSpec.pre enc Tryd.prog Tryd.f3 [] false w args ∧ laidMetH Tryd.prog Rows.rulesMoreRow.laid w) ∧ sizedMet enc Tryd.prog Tryd.f3 (OpenSpec.ofChange Rows.rulesMoreSpec) false w args) (Rows.rulesMoreSpec.post enc Tryd.prog Tryd.f3 false true false false) :=
  law_lifted_laid (C := Tryd.checked) (s := Rows.rulesMoreSpec) (G := kecG) (rt := 4) Rows.rulesMoreRow.laid (fun t => types.contains t) own started (by kernel_rfl) Tryd.func3
    (ChangeSpec.witness_shaped (enc := enc) (C := Tryd.checked) (os := os) (X := fun w _ => laidMetH Tryd.prog Rows.rulesMoreRow.laid w) false (World.laidAll Tryd.prog os Rows.rulesMoreRow.laid) #[.slice none 0 0, .agg #[.int .u8 0, .int .u8 0, .int .u8 0, .int .u8 0, .int .u8 0, .int .u8 0, .int .u8 0, .int .u8 0, .int .u8 0, .int .u8 0, .int .u8 0, .int .u8 0, .int .u8 0, .int .u8 0, .int .u8 0, .int .u8 0, .int .u8 0, .int .u8 0, .int .u8 0, .int .u8 0, .int .u64 0, .int .u64 0, .int .u64 0, .int .u64 0, .bool false, .int .u8 0, .int .u8 0, .int .u8 0, .int .u8 0, .int .u8 0, .int .u8 0, .int .u8 0, .int .u8 0, .int .u8 0, .int .u8 0, .int .u8 0, .int .u8 0, .int .u8 0, .int .u8 0, .int .u8 0, .int .u8 0, .int .u8 0, .int .u8 0, .int .u8 0, .int .u8 0, .slice none 0 0, .slice none 0 0, .int .u64 0, .int .u64 0, .int .u64 0, .int .u64 0, .int .u64 0, .int .u64 0, .int .u64 0, .int .u64 0, .int .u64 0, .int .u64 0, .int .u64 0, .bool false, .int .u8 0, .int .u8 0, .int .u8 0, .int .u8 0, .int .u8 0, .int .u8 0, .int .u8 0, .int .u8 0, .int .u8 0, .int .u8 0, .int .u8 0, .int .u8 0, .int .u8 0, .int .u8 0, .int .u8 0, .int .u8 0, .int .u8 0, .int .u8 0, .int .u8 0, .int .u8 0, .int .u64 0, .int .u64 0, .slice none 0 0, .slice none 0 0], .slice none 0 0, .agg #[.bool false, .bool false, .bool false, .bool false], .int .u8 0] 8 (World.laidAll_os _ _ _) (World.shaped_of_ZipB (by kernel_rfl) (by kernel_rfl)) (by kernel_rfl) (by kernel_rfl) (by kernel_rfl)
      (by rw [MakeChecks.laidMetH_plain _ _ _ (by kernel_rfl)]; exact laidMet_laidAll _ (by kernel_rfl) (by kernel_rfl)))
    (by kernel_rfl) laidOut (among (by kernel_rfl)) (fun t ht => by
      have key : (Tryd.f3.params.toList.all fun t => types.contains t && Tryd.prog.readableRec t && decide (t < Tryd.prog.types.size)) = true := by kernel_rfl
      have := List.all_eq_true.1 key t ht
      simp only [Bool.and_eq_true, decide_eq_true_eq] at this
      exact ⟨this.1.1, this.1.2, this.2⟩) rfl
    (fun ds hds => by
      rw [show Tryd.f3.params.size = 5 by kernel_rfl] at hds
      match ds, hds with
      | [d0, d1, d2, d3, d4], _ => rfl) (by kernel_rfl) (by kernel_rfl) glob main
theorem over : Rows.rulesMoreRow.holds Tryd.pinned (OpenSpec.ofChange Rows.rulesMoreSpec) :=
  OpenClaim.holds_of_wide 3 Tryd.f3 rfl rfl rfl rfl rfl rfl rfl ⟨rfl, rfl, rfl, rfl, rfl⟩ rfl rfl rfl rfl rfl (by kernel_rfl) Tryd.func3 (by kernel_rfl)
    (of_decide_eq_true (by kernel_rfl)) (by unfold Func.isWrapper; first | (rw [if_pos (by decide +kernel)]; kernel_rfl) | (rw [if_neg (by decide +kernel)]; exact ⟨rfl, rfl⟩))
    (fun os started H enc _ => lifted os started H enc)
end Go.Proofs.YtkknbhapkdgcjaaDoor.rulesMore
namespace Go.Proofs.YtkknbhapkdgcjaaDoor
/-- The row, under a short name, for the claim. -/
theorem rulesMore_holds : Rows.RulesMoreSaid := rulesMore.over
/-- The tied card, for the claim. -/
theorem rulesMore_card : Rows.RulesMoreCardSaid :=
  Claim7.holds_tied_plain_at .later [] [.data, .data, .data] true (true, "1736bc1c7ef0d21acd9bd10f9bdbc25cba89b77da8890352548dd748e989ef91") false
    rulesMore_holds (fun _ h => by cases h) (by kernel_rfl) (fun _ h => by cases h) rulesMore_row_tie rfl ⟨rfl, rfl⟩ (by kernel_rfl) rfl
    (fun f fn hf hfn => by
      obtain rfl : f = 3 := Option.some.inj ((show Tryd.prog.funcNamed Rows.rulesMoreRow.func = some 3 by kernel_rfl).symm.trans hf) |>.symm
      obtain rfl : fn = Tryd.f3 := (Option.some.inj (Tryd.func3.symm.trans hfn)).symm
      refine ⟨by kernel_rfl, fun j t ht => ?_⟩
      have key : (Tryd.f3.params.toList.all fun t => Tryd.prog.wantsStandIn t == false) = true := by kernel_rfl
      have := List.all_eq_true.1 key t (by simpa using Array.mem_of_getElem? ht)
      have q : Tryd.prog.wantsStandIn t = false := by simpa using this
      exact q)
    (by kernel_rfl)
end Go.Proofs.YtkknbhapkdgcjaaDoor
#print axioms Go.Proofs.YtkknbhapkdgcjaaDoor.rulesMore_card
