/- The row of the law RulesEach: whatever the arguments, its function answers true, and they read as they did. No condition. -/
import Derived.Test.YtkknbhapkdgcjaaDoorAbsN8
import Derived.Test.YtkknbhapkdgcjaaDoorPuRulesEach1
import Derived.Test.YtkknbhapkdgcjaaDoorFnRulesEach4
import Derived.Test.YtkknbhapkdgcjaaDoorRows
import Derived.Test.YtkknbhapkdgcjaaDoorTie
import Derived.Test.YtkknbhapkdgcjaaDoorCards
import Derived.Lay
import Derived.SevenTiedAt
set_option linter.unusedVariables false
namespace Go.Proofs.YtkknbhapkdgcjaaDoor.rulesEach
open Go Go.Abs Go.RowKit Go.ChangeShapes
theorem own : ownKnob Tryd.prog.godebug = none := by kernel_rfl
theorem laidOut : laidOutB Tryd.prog = true := by kernel_rfl
theorem hmix : Tryd.prog.follows .mixedOrders = true := by kernel_rfl
def types : List Nat := [22, 72, 24, 5, 70, 25, 27, 28, 68, 77, 30, 4, 31, 47, 3, 45, 32]
noncomputable def fs72 : Array Field := match Tryd.prog.underlying 72 with | some (.struct fs) => fs | _ => #[]
theorem ty72 : fs72.toList.map (·.type) = [24, 70] := by kernel_rfl
noncomputable def fs70 : Array Field := match Tryd.prog.underlying 70 with | some (.struct fs) => fs | _ => #[]
theorem ty70 : fs70.toList.map (·.type) = [25, 27, 28, 68] := by kernel_rfl
noncomputable def fs77 : Array Field := match Tryd.prog.underlying 77 with | some (.struct fs) => fs | _ => #[]
theorem ty77 : fs77.toList.map (·.type) = [27, 27] := by kernel_rfl
noncomputable def fs30 : Array Field := match Tryd.prog.underlying 30 with | some (.struct fs) => fs | _ => #[]
theorem ty30 : fs30.toList.map (·.type) = [24, 27, 4, 24, 28, 28, 25, 25, 25, 27, 27, 4, 24, 25, 25, 28, 28] := by kernel_rfl
noncomputable def fs47 : Array Field := match Tryd.prog.underlying 47 with | some (.struct fs) => fs | _ => #[]
theorem ty47 : fs47.toList.map (·.type) = [5, 3, 24, 27, 27, 28, 45] := by kernel_rfl
theorem arr_inv {P : Program} {t n e : Nat} {a : AV} (h : AVT P t a) (hu : P.underlying t = some (.array n e)) (he : (match P.underlying e with | some (.int _) => false | _ => true) = true) : ∃ l, a = .agg l ∧ l.length = n ∧ ∀ x ∈ l, AVT P e x := by
  cases h with
  | arr hu' he' l hl hw => rw [hu] at hu'; cases hu'; exact ⟨l, rfl, hl, hw⟩
  | ints hu' he' l hl hw => rw [hu] at hu'; cases hu'; rw [he'] at he; cases he
  | _ => simp_all
theorem glob (W : World) (h : laidMet Tryd.prog Rows.rulesEachRow.laid W) : Glob kecG (E0 W) := by
  obtain ⟨ps, hL, _⟩ := h
  obtain ⟨g0, t0, c0, f0, p0, q0, a0, b0, d0, e0, hL, _⟩ := hL
  obtain ⟨g1, t1, c1, f1, p1, q1, a1, b1, d1, e1, hL, _⟩ := hL
  obtain ⟨g2, t2, c2, f2, p2, q2, a2, b2, d2, e2, hL, _⟩ := hL
  obtain rfl : g0 = 0 := Option.some.inj (a0.symm.trans (by kernel_rfl))
  obtain rfl : t0 = 146 := Option.some.inj (b0.symm.trans (by kernel_rfl))
  have v0 := glob_ints a0 d0 (cells_of_ints (n := 24) (e := 25) (k := .u64) (l := kecKeys) (by kernel_rfl) (by kernel_rfl) (by kernel_rfl) (by kernel_rfl) rfl e0) rfl
  obtain rfl : g1 = 2 := Option.some.inj (a1.symm.trans (by kernel_rfl))
  obtain rfl : t1 = 149 := Option.some.inj (b1.symm.trans (by kernel_rfl))
  have v1 := glob_ints a1 d1 (cells_of_ints (n := 24) (e := 3) (k := .i64) (l := kecTurns) (by kernel_rfl) (by kernel_rfl) (by kernel_rfl) (by kernel_rfl) rfl e1) rfl
  obtain rfl : g2 = 1 := Option.some.inj (a2.symm.trans (by kernel_rfl))
  obtain rfl : t2 = 149 := Option.some.inj (b2.symm.trans (by kernel_rfl))
  have v2 := glob_ints a2 d2 (cells_of_ints (n := 24) (e := 3) (k := .i64) (l := kecTo) (by kernel_rfl) (by kernel_rfl) (by kernel_rfl) (by kernel_rfl) rfl e2) rfl
  exact .plain (fun g => match g with
    | 0 => v0
    | 1 => v2
    | 2 => v1
    | _ + 3 => trivial) fun g tF ts k he => by unfold kecG at he; split at he <;> cases he
theorem main (av : List AV) (h : AVTs Tryd.prog Tryd.f5.params.toList av) : FnC Tryd.prog kecG 5 av [] (.bool true) [] := by
  rw [show Tryd.f5.params.toList = [22, 30, 31, 31, 31, 32] by kernel_rfl] at h
  obtain ⟨y0, r0, rfl, h0, q0⟩ := h.cons_inv
  obtain ⟨y1, r1, rfl, h1, q1⟩ := q0.cons_inv
  obtain ⟨y2, r2, rfl, h2, q2⟩ := q1.cons_inv
  obtain ⟨y3, r3, rfl, h3, q3⟩ := q2.cons_inv
  obtain ⟨y4, r4, rfl, h4, q4⟩ := q3.cons_inv
  obtain ⟨y5, r5, rfl, h5, q5⟩ := q4.cons_inv
  obtain rfl := q5.nil_inv
  obtain ⟨x6, rfl, w6⟩ := AVT.robjs_inv (e := 72) (w := 27) h0 (by kernel_rfl) (by kernel_rfl) (of_decide_eq_true (by kernel_rfl)) (by kernel_rfl)
  have v6 : x6.length ≤ 140737488351232 ∧ ∀ z ∈ x6, ∃ c0 c1 c2 c3 c4, z = AV.agg [.ints .u8 20 c0, .agg [.int .u64 c1, .ints .u64 4 c2, .rints .u8 c3, .robjs 77 8 c4]] ∧ InA .u8 20 c0 ∧ InK .u64 c1 ∧ InA .u64 4 c2 ∧ InS .u8 c3 ∧ (c4.length ≤ 140737488351232 ∧ ∀ z ∈ c4, ∃ c0 c1, z = AV.agg [.ints .u64 4 c0, .ints .u64 4 c1] ∧ InA .u64 4 c0 ∧ InA .u64 4 c1) := ⟨w6.1, fun z hz => by
    obtain ⟨x7, rfl, g7⟩ := AVT.struct_inv (fs := fs72) (w6.2 z hz) (by kernel_rfl)
    rw [ty72] at g7
    obtain ⟨y8, r8, rfl, h8, q8⟩ := g7.cons_inv
    obtain ⟨y9, r9, rfl, h9, q9⟩ := q8.cons_inv
    obtain rfl := q9.nil_inv
    obtain ⟨x10, rfl, w10⟩ := AVT.ints_inv (n := 20) (e := 5) (k := .u8) h8 (by kernel_rfl) (by kernel_rfl)
    obtain ⟨x11, rfl, g11⟩ := AVT.struct_inv (fs := fs70) h9 (by kernel_rfl)
    rw [ty70] at g11
    obtain ⟨y12, r12, rfl, h12, q12⟩ := g11.cons_inv
    obtain ⟨y13, r13, rfl, h13, q13⟩ := q12.cons_inv
    obtain ⟨y14, r14, rfl, h14, q14⟩ := q13.cons_inv
    obtain ⟨y15, r15, rfl, h15, q15⟩ := q14.cons_inv
    obtain rfl := q15.nil_inv
    obtain ⟨x16, rfl, w16⟩ := AVT.int_inv (k := .u64) h12 (by kernel_rfl)
    obtain ⟨x17, rfl, w17⟩ := AVT.ints_inv (n := 4) (e := 25) (k := .u64) h13 (by kernel_rfl) (by kernel_rfl)
    obtain ⟨x18, rfl, w18⟩ := AVT.rints_inv (e := 5) (k := .u8) h14 (by kernel_rfl) (by kernel_rfl) (of_decide_eq_true (by kernel_rfl))
    obtain ⟨x19, rfl, w19⟩ := AVT.robjs_inv (e := 77) (w := 8) h15 (by kernel_rfl) (by kernel_rfl) (of_decide_eq_true (by kernel_rfl)) (by kernel_rfl)
    have v19 : x19.length ≤ 140737488351232 ∧ ∀ z ∈ x19, ∃ c0 c1, z = AV.agg [.ints .u64 4 c0, .ints .u64 4 c1] ∧ InA .u64 4 c0 ∧ InA .u64 4 c1 := ⟨w19.1, fun z hz => by
      obtain ⟨x20, rfl, g20⟩ := AVT.struct_inv (fs := fs77) (w19.2 z hz) (by kernel_rfl)
      rw [ty77] at g20
      obtain ⟨y21, r21, rfl, h21, q21⟩ := g20.cons_inv
      obtain ⟨y22, r22, rfl, h22, q22⟩ := q21.cons_inv
      obtain rfl := q22.nil_inv
      obtain ⟨x23, rfl, w23⟩ := AVT.ints_inv (n := 4) (e := 25) (k := .u64) h21 (by kernel_rfl) (by kernel_rfl)
      obtain ⟨x24, rfl, w24⟩ := AVT.ints_inv (n := 4) (e := 25) (k := .u64) h22 (by kernel_rfl) (by kernel_rfl)
      exact ⟨x23, x24, rfl, w23, w24⟩⟩
    exact ⟨x10, x16, x17, x18, x19, rfl, w10, w16, w17, w18, v19⟩⟩
  obtain ⟨x25, rfl, g25⟩ := AVT.struct_inv (fs := fs30) h1 (by kernel_rfl)
  rw [ty30] at g25
  obtain ⟨y26, r26, rfl, h26, q26⟩ := g25.cons_inv
  obtain ⟨y27, r27, rfl, h27, q27⟩ := q26.cons_inv
  obtain ⟨y28, r28, rfl, h28, q28⟩ := q27.cons_inv
  obtain ⟨y29, r29, rfl, h29, q29⟩ := q28.cons_inv
  obtain ⟨y30, r30, rfl, h30, q30⟩ := q29.cons_inv
  obtain ⟨y31, r31, rfl, h31, q31⟩ := q30.cons_inv
  obtain ⟨y32, r32, rfl, h32, q32⟩ := q31.cons_inv
  obtain ⟨y33, r33, rfl, h33, q33⟩ := q32.cons_inv
  obtain ⟨y34, r34, rfl, h34, q34⟩ := q33.cons_inv
  obtain ⟨y35, r35, rfl, h35, q35⟩ := q34.cons_inv
  obtain ⟨y36, r36, rfl, h36, q36⟩ := q35.cons_inv
  obtain ⟨y37, r37, rfl, h37, q37⟩ := q36.cons_inv
  obtain ⟨y38, r38, rfl, h38, q38⟩ := q37.cons_inv
  obtain ⟨y39, r39, rfl, h39, q39⟩ := q38.cons_inv
  obtain ⟨y40, r40, rfl, h40, q40⟩ := q39.cons_inv
  obtain ⟨y41, r41, rfl, h41, q41⟩ := q40.cons_inv
  obtain ⟨y42, r42, rfl, h42, q42⟩ := q41.cons_inv
  obtain rfl := q42.nil_inv
  obtain ⟨x43, rfl, w43⟩ := AVT.ints_inv (n := 20) (e := 5) (k := .u8) h26 (by kernel_rfl) (by kernel_rfl)
  obtain ⟨x44, rfl, w44⟩ := AVT.ints_inv (n := 4) (e := 25) (k := .u64) h27 (by kernel_rfl) (by kernel_rfl)
  obtain ⟨x45, rfl⟩ := AVT.bool_inv h28 (by kernel_rfl)
  obtain ⟨x46, rfl, w46⟩ := AVT.ints_inv (n := 20) (e := 5) (k := .u8) h29 (by kernel_rfl) (by kernel_rfl)
  obtain ⟨x47, rfl, w47⟩ := AVT.rints_inv (e := 5) (k := .u8) h30 (by kernel_rfl) (by kernel_rfl) (of_decide_eq_true (by kernel_rfl))
  obtain ⟨x48, rfl, w48⟩ := AVT.rints_inv (e := 5) (k := .u8) h31 (by kernel_rfl) (by kernel_rfl) (of_decide_eq_true (by kernel_rfl))
  obtain ⟨x49, rfl, w49⟩ := AVT.int_inv (k := .u64) h32 (by kernel_rfl)
  obtain ⟨x50, rfl, w50⟩ := AVT.int_inv (k := .u64) h33 (by kernel_rfl)
  obtain ⟨x51, rfl, w51⟩ := AVT.int_inv (k := .u64) h34 (by kernel_rfl)
  obtain ⟨x52, rfl, w52⟩ := AVT.ints_inv (n := 4) (e := 25) (k := .u64) h35 (by kernel_rfl) (by kernel_rfl)
  obtain ⟨x53, rfl, w53⟩ := AVT.ints_inv (n := 4) (e := 25) (k := .u64) h36 (by kernel_rfl) (by kernel_rfl)
  obtain ⟨x54, rfl⟩ := AVT.bool_inv h37 (by kernel_rfl)
  obtain ⟨x55, rfl, w55⟩ := AVT.ints_inv (n := 20) (e := 5) (k := .u8) h38 (by kernel_rfl) (by kernel_rfl)
  obtain ⟨x56, rfl, w56⟩ := AVT.int_inv (k := .u64) h39 (by kernel_rfl)
  obtain ⟨x57, rfl, w57⟩ := AVT.int_inv (k := .u64) h40 (by kernel_rfl)
  obtain ⟨x58, rfl, w58⟩ := AVT.rints_inv (e := 5) (k := .u8) h41 (by kernel_rfl) (by kernel_rfl) (of_decide_eq_true (by kernel_rfl))
  obtain ⟨x59, rfl, w59⟩ := AVT.rints_inv (e := 5) (k := .u8) h42 (by kernel_rfl) (by kernel_rfl) (of_decide_eq_true (by kernel_rfl))
  obtain ⟨x60, rfl, w60⟩ := AVT.robjs_inv (e := 47) (w := 32) h2 (by kernel_rfl) (by kernel_rfl) (of_decide_eq_true (by kernel_rfl)) (by kernel_rfl)
  have v60 : x60.length ≤ 140737488351232 ∧ ∀ z ∈ x60, ∃ c0 c1 c2 c3 c4 c5 c6, z = AV.agg [.int .u8 c0, .int .i64 c1, .ints .u8 20 c2, .ints .u64 4 c3, .ints .u64 4 c4, .rints .u8 c5, .int .u16 c6] ∧ InK .u8 c0 ∧ InK .i64 c1 ∧ InA .u8 20 c2 ∧ InA .u64 4 c3 ∧ InA .u64 4 c4 ∧ InS .u8 c5 ∧ InK .u16 c6 := ⟨w60.1, fun z hz => by
    obtain ⟨x61, rfl, g61⟩ := AVT.struct_inv (fs := fs47) (w60.2 z hz) (by kernel_rfl)
    rw [ty47] at g61
    obtain ⟨y62, r62, rfl, h62, q62⟩ := g61.cons_inv
    obtain ⟨y63, r63, rfl, h63, q63⟩ := q62.cons_inv
    obtain ⟨y64, r64, rfl, h64, q64⟩ := q63.cons_inv
    obtain ⟨y65, r65, rfl, h65, q65⟩ := q64.cons_inv
    obtain ⟨y66, r66, rfl, h66, q66⟩ := q65.cons_inv
    obtain ⟨y67, r67, rfl, h67, q67⟩ := q66.cons_inv
    obtain ⟨y68, r68, rfl, h68, q68⟩ := q67.cons_inv
    obtain rfl := q68.nil_inv
    obtain ⟨x69, rfl, w69⟩ := AVT.int_inv (k := .u8) h62 (by kernel_rfl)
    obtain ⟨x70, rfl, w70⟩ := AVT.int_inv (k := .i64) h63 (by kernel_rfl)
    obtain ⟨x71, rfl, w71⟩ := AVT.ints_inv (n := 20) (e := 5) (k := .u8) h64 (by kernel_rfl) (by kernel_rfl)
    obtain ⟨x72, rfl, w72⟩ := AVT.ints_inv (n := 4) (e := 25) (k := .u64) h65 (by kernel_rfl) (by kernel_rfl)
    obtain ⟨x73, rfl, w73⟩ := AVT.ints_inv (n := 4) (e := 25) (k := .u64) h66 (by kernel_rfl) (by kernel_rfl)
    obtain ⟨x74, rfl, w74⟩ := AVT.rints_inv (e := 5) (k := .u8) h67 (by kernel_rfl) (by kernel_rfl) (of_decide_eq_true (by kernel_rfl))
    obtain ⟨x75, rfl, w75⟩ := AVT.int_inv (k := .u16) h68 (by kernel_rfl)
    exact ⟨x69, x70, x71, x72, x73, x74, x75, rfl, w69, w70, w71, w72, w73, w74, w75⟩⟩
  obtain ⟨x76, rfl, w76⟩ := AVT.robjs_inv (e := 47) (w := 32) h3 (by kernel_rfl) (by kernel_rfl) (of_decide_eq_true (by kernel_rfl)) (by kernel_rfl)
  have v76 : x76.length ≤ 140737488351232 ∧ ∀ z ∈ x76, ∃ c0 c1 c2 c3 c4 c5 c6, z = AV.agg [.int .u8 c0, .int .i64 c1, .ints .u8 20 c2, .ints .u64 4 c3, .ints .u64 4 c4, .rints .u8 c5, .int .u16 c6] ∧ InK .u8 c0 ∧ InK .i64 c1 ∧ InA .u8 20 c2 ∧ InA .u64 4 c3 ∧ InA .u64 4 c4 ∧ InS .u8 c5 ∧ InK .u16 c6 := ⟨w76.1, fun z hz => by
    obtain ⟨x77, rfl, g77⟩ := AVT.struct_inv (fs := fs47) (w76.2 z hz) (by kernel_rfl)
    rw [ty47] at g77
    obtain ⟨y78, r78, rfl, h78, q78⟩ := g77.cons_inv
    obtain ⟨y79, r79, rfl, h79, q79⟩ := q78.cons_inv
    obtain ⟨y80, r80, rfl, h80, q80⟩ := q79.cons_inv
    obtain ⟨y81, r81, rfl, h81, q81⟩ := q80.cons_inv
    obtain ⟨y82, r82, rfl, h82, q82⟩ := q81.cons_inv
    obtain ⟨y83, r83, rfl, h83, q83⟩ := q82.cons_inv
    obtain ⟨y84, r84, rfl, h84, q84⟩ := q83.cons_inv
    obtain rfl := q84.nil_inv
    obtain ⟨x85, rfl, w85⟩ := AVT.int_inv (k := .u8) h78 (by kernel_rfl)
    obtain ⟨x86, rfl, w86⟩ := AVT.int_inv (k := .i64) h79 (by kernel_rfl)
    obtain ⟨x87, rfl, w87⟩ := AVT.ints_inv (n := 20) (e := 5) (k := .u8) h80 (by kernel_rfl) (by kernel_rfl)
    obtain ⟨x88, rfl, w88⟩ := AVT.ints_inv (n := 4) (e := 25) (k := .u64) h81 (by kernel_rfl) (by kernel_rfl)
    obtain ⟨x89, rfl, w89⟩ := AVT.ints_inv (n := 4) (e := 25) (k := .u64) h82 (by kernel_rfl) (by kernel_rfl)
    obtain ⟨x90, rfl, w90⟩ := AVT.rints_inv (e := 5) (k := .u8) h83 (by kernel_rfl) (by kernel_rfl) (of_decide_eq_true (by kernel_rfl))
    obtain ⟨x91, rfl, w91⟩ := AVT.int_inv (k := .u16) h84 (by kernel_rfl)
    exact ⟨x85, x86, x87, x88, x89, x90, x91, rfl, w85, w86, w87, w88, w89, w90, w91⟩⟩
  obtain ⟨x92, rfl, w92⟩ := AVT.robjs_inv (e := 47) (w := 32) h4 (by kernel_rfl) (by kernel_rfl) (of_decide_eq_true (by kernel_rfl)) (by kernel_rfl)
  have v92 : x92.length ≤ 140737488351232 ∧ ∀ z ∈ x92, ∃ c0 c1 c2 c3 c4 c5 c6, z = AV.agg [.int .u8 c0, .int .i64 c1, .ints .u8 20 c2, .ints .u64 4 c3, .ints .u64 4 c4, .rints .u8 c5, .int .u16 c6] ∧ InK .u8 c0 ∧ InK .i64 c1 ∧ InA .u8 20 c2 ∧ InA .u64 4 c3 ∧ InA .u64 4 c4 ∧ InS .u8 c5 ∧ InK .u16 c6 := ⟨w92.1, fun z hz => by
    obtain ⟨x93, rfl, g93⟩ := AVT.struct_inv (fs := fs47) (w92.2 z hz) (by kernel_rfl)
    rw [ty47] at g93
    obtain ⟨y94, r94, rfl, h94, q94⟩ := g93.cons_inv
    obtain ⟨y95, r95, rfl, h95, q95⟩ := q94.cons_inv
    obtain ⟨y96, r96, rfl, h96, q96⟩ := q95.cons_inv
    obtain ⟨y97, r97, rfl, h97, q97⟩ := q96.cons_inv
    obtain ⟨y98, r98, rfl, h98, q98⟩ := q97.cons_inv
    obtain ⟨y99, r99, rfl, h99, q99⟩ := q98.cons_inv
    obtain ⟨y100, r100, rfl, h100, q100⟩ := q99.cons_inv
    obtain rfl := q100.nil_inv
    obtain ⟨x101, rfl, w101⟩ := AVT.int_inv (k := .u8) h94 (by kernel_rfl)
    obtain ⟨x102, rfl, w102⟩ := AVT.int_inv (k := .i64) h95 (by kernel_rfl)
    obtain ⟨x103, rfl, w103⟩ := AVT.ints_inv (n := 20) (e := 5) (k := .u8) h96 (by kernel_rfl) (by kernel_rfl)
    obtain ⟨x104, rfl, w104⟩ := AVT.ints_inv (n := 4) (e := 25) (k := .u64) h97 (by kernel_rfl) (by kernel_rfl)
    obtain ⟨x105, rfl, w105⟩ := AVT.ints_inv (n := 4) (e := 25) (k := .u64) h98 (by kernel_rfl) (by kernel_rfl)
    obtain ⟨x106, rfl, w106⟩ := AVT.rints_inv (e := 5) (k := .u8) h99 (by kernel_rfl) (by kernel_rfl) (of_decide_eq_true (by kernel_rfl))
    obtain ⟨x107, rfl, w107⟩ := AVT.int_inv (k := .u16) h100 (by kernel_rfl)
    exact ⟨x101, x102, x103, x104, x105, x106, x107, rfl, w101, w102, w103, w104, w105, w106, w107⟩⟩
  obtain ⟨x108, rfl, l108, g108⟩ := arr_inv (n := 4) (e := 4) h5 (by kernel_rfl) (by kernel_rfl)
  obtain ⟨y109, y110, y111, y112, rfl⟩ : ∃ y109 y110 y111 y112, x108 = [y109, y110, y111, y112] := by
    match x108, l108 with
    | [y109, y110, y111, y112], _ => exact ⟨y109, y110, y111, y112, rfl⟩
  have h109 := g108 y109 (by simp)
  have h110 := g108 y110 (by simp)
  have h111 := g108 y111 (by simp)
  have h112 := g108 y112 (by simp)
  obtain ⟨x113, rfl⟩ := AVT.bool_inv h109 (by kernel_rfl)
  obtain ⟨x114, rfl⟩ := AVT.bool_inv h110 (by kernel_rfl)
  obtain ⟨x115, rfl⟩ := AVT.bool_inv h111 (by kernel_rfl)
  obtain ⟨x116, rfl⟩ := AVT.bool_inv h112 (by kernel_rfl)
  obtain ⟨n, hn⟩ := Go.Abs.Pure.RulesEach x6 v6 x43 w43 x44 w44 x45 x46 w46 x47 w47 x48 w48 x49 w49 x50 w50 x51 w51 x52 w52 x53 w53 x54 x55 w55 x56 w56 x57 w57 x58 w58 x59 w59 x60 v60 x76 v76 x92 v92 x113 x114 x115 x116
  exact Fag.call hmix n (x6, x43, x44, x45, x46, x47, x48, x49, x50, x51, x52, x53, x54, x55, x56, x57, x58, x59, x60, x76, x92, x113, x114, x115, x116) true hn
set_option maxRecDepth 100000 in
theorem lifted (os : Os) (started : os.Started) (H : Type) (enc : TypeId × Value → H) :
    ReturnsInHanded {} Tryd.checked os 5 .any (fun w args => (Rows.rulesEachSpec.pre enc Tryd.prog Tryd.f5 [] false w args ∧ laidMetH Tryd.prog Rows.rulesEachRow.laid w) ∧ sizedMet enc Tryd.prog Tryd.f5 (OpenSpec.ofChange Rows.rulesEachSpec) false w args) (Rows.rulesEachSpec.post enc Tryd.prog Tryd.f5 false true false false) :=
  law_lifted_laid (C := Tryd.checked) (s := Rows.rulesEachSpec) (G := kecG) (rt := 4) Rows.rulesEachRow.laid (fun t => types.contains t) own started (by kernel_rfl) Tryd.func5
    (ChangeSpec.witness_shaped (enc := enc) (C := Tryd.checked) (os := os) (X := fun w _ => laidMetH Tryd.prog Rows.rulesEachRow.laid w) false (World.laidAll Tryd.prog os Rows.rulesEachRow.laid) #[.slice none 0 0, .agg #[.int .u8 0, .int .u8 0, .int .u8 0, .int .u8 0, .int .u8 0, .int .u8 0, .int .u8 0, .int .u8 0, .int .u8 0, .int .u8 0, .int .u8 0, .int .u8 0, .int .u8 0, .int .u8 0, .int .u8 0, .int .u8 0, .int .u8 0, .int .u8 0, .int .u8 0, .int .u8 0, .int .u64 0, .int .u64 0, .int .u64 0, .int .u64 0, .bool false, .int .u8 0, .int .u8 0, .int .u8 0, .int .u8 0, .int .u8 0, .int .u8 0, .int .u8 0, .int .u8 0, .int .u8 0, .int .u8 0, .int .u8 0, .int .u8 0, .int .u8 0, .int .u8 0, .int .u8 0, .int .u8 0, .int .u8 0, .int .u8 0, .int .u8 0, .int .u8 0, .slice none 0 0, .slice none 0 0, .int .u64 0, .int .u64 0, .int .u64 0, .int .u64 0, .int .u64 0, .int .u64 0, .int .u64 0, .int .u64 0, .int .u64 0, .int .u64 0, .int .u64 0, .bool false, .int .u8 0, .int .u8 0, .int .u8 0, .int .u8 0, .int .u8 0, .int .u8 0, .int .u8 0, .int .u8 0, .int .u8 0, .int .u8 0, .int .u8 0, .int .u8 0, .int .u8 0, .int .u8 0, .int .u8 0, .int .u8 0, .int .u8 0, .int .u8 0, .int .u8 0, .int .u8 0, .int .u64 0, .int .u64 0, .slice none 0 0, .slice none 0 0], .slice none 0 0, .slice none 0 0, .slice none 0 0, .agg #[.bool false, .bool false, .bool false, .bool false]] 8 (World.laidAll_os _ _ _) (World.shaped_of_ZipB (by kernel_rfl) (by kernel_rfl)) (by kernel_rfl) (by kernel_rfl) (by kernel_rfl)
      (by rw [MakeChecks.laidMetH_plain _ _ _ (by kernel_rfl)]; exact laidMet_laidAll _ (by kernel_rfl) (by kernel_rfl)))
    (by kernel_rfl) laidOut (among (by kernel_rfl)) (fun t ht => by
      have key : (Tryd.f5.params.toList.all fun t => types.contains t && Tryd.prog.readableRec t && decide (t < Tryd.prog.types.size)) = true := by kernel_rfl
      have := List.all_eq_true.1 key t ht
      simp only [Bool.and_eq_true, decide_eq_true_eq] at this
      exact ⟨this.1.1, this.1.2, this.2⟩) rfl
    (fun ds hds => by
      rw [show Tryd.f5.params.size = 6 by kernel_rfl] at hds
      match ds, hds with
      | [d0, d1, d2, d3, d4, d5], _ => rfl) (by kernel_rfl) (by kernel_rfl) glob main
theorem over : Rows.rulesEachRow.holds Tryd.pinned (OpenSpec.ofChange Rows.rulesEachSpec) :=
  OpenClaim.holds_of_wide 5 Tryd.f5 rfl rfl rfl rfl rfl rfl rfl ⟨rfl, rfl, rfl, rfl, rfl⟩ rfl rfl rfl rfl rfl (by kernel_rfl) Tryd.func5 (by kernel_rfl)
    (of_decide_eq_true (by kernel_rfl)) (by unfold Func.isWrapper; first | (rw [if_pos (by decide +kernel)]; kernel_rfl) | (rw [if_neg (by decide +kernel)]; exact ⟨rfl, rfl⟩))
    (fun os started H enc _ => lifted os started H enc)
end Go.Proofs.YtkknbhapkdgcjaaDoor.rulesEach
namespace Go.Proofs.YtkknbhapkdgcjaaDoor
/-- The row, under a short name, for the claim. -/
theorem rulesEach_holds : Rows.RulesEachSaid := rulesEach.over
/-- The tied card, for the claim. -/
theorem rulesEach_card : Rows.RulesEachCardSaid :=
  Claim7.holds_tied_plain_at .later [] [.data, .data, .data] true (true, "1736bc1c7ef0d21acd9bd10f9bdbc25cba89b77da8890352548dd748e989ef91") false
    rulesEach_holds (fun _ h => by cases h) (by kernel_rfl) (fun _ h => by cases h) rulesEach_row_tie rfl ⟨rfl, rfl⟩ (by kernel_rfl) rfl
    (fun f fn hf hfn => by
      obtain rfl : f = 5 := Option.some.inj ((show Tryd.prog.funcNamed Rows.rulesEachRow.func = some 5 by kernel_rfl).symm.trans hf) |>.symm
      obtain rfl : fn = Tryd.f5 := (Option.some.inj (Tryd.func5.symm.trans hfn)).symm
      refine ⟨by kernel_rfl, fun j t ht => ?_⟩
      have key : (Tryd.f5.params.toList.all fun t => Tryd.prog.wantsStandIn t == false) = true := by kernel_rfl
      have := List.all_eq_true.1 key t (by simpa using Array.mem_of_getElem? ht)
      have q : Tryd.prog.wantsStandIn t = false := by simpa using this
      exact q)
    (by kernel_rfl)
end Go.Proofs.YtkknbhapkdgcjaaDoor
#print axioms Go.Proofs.YtkknbhapkdgcjaaDoor.rulesEach_card
