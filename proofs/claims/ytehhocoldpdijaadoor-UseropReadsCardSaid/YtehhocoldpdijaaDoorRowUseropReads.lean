/- The row of the law UseropReads: whatever the arguments, its function answers true, and they read as they did. No condition. -/
import Derived.Test.YtehhocoldpdijaaDoorAbsR6
import Derived.Test.YtehhocoldpdijaaDoorPuUseropReads1
import Derived.Test.YtehhocoldpdijaaDoorFnUseropReads3
import Derived.Test.YtehhocoldpdijaaDoorRows
import Derived.Test.YtehhocoldpdijaaDoorTie
import Derived.Test.YtehhocoldpdijaaDoorCards
import Derived.Lay
import Derived.SevenTiedAt
set_option linter.unusedVariables false
namespace Go.Proofs.YtehhocoldpdijaaDoor.useropReads
open Go Go.Abs Go.RowKit Go.ChangeShapes
theorem own : ownKnob Tryd.prog.godebug = none := by kernel_rfl
theorem laidOut : laidOutB Tryd.prog = true := by kernel_rfl
theorem hmix : Tryd.prog.follows .mixedOrders = true := by kernel_rfl
def types : List Nat := [41, 39, 5, 32, 30, 4, 26]
noncomputable def fs41 : Array Field := match Tryd.prog.underlying 41 with | some (.struct fs) => fs | _ => #[]
theorem ty41 : fs41.toList.map (·.type) = [39, 32, 4, 39, 26, 26, 30, 30, 30, 32, 32, 4, 39, 30, 30, 26, 26] := by kernel_rfl
theorem plainL : (Rows.useropReadsRow.laid.filter fun x => x.2.handleName?.isNone) = [("quaestor/keccak.keys", Rows.laid_quaestor_keccak_keys), ("quaestor/keccak.turns", Rows.laid_quaestor_keccak_turns), ("quaestor/keccak.to", Rows.laid_quaestor_keccak_to), ("quaestor/abi.errEnd", Rows.laid_quaestor_abi_errEnd)] := by kernel_rfl
theorem star : "*" ++ "errors.errorString" = "*errors.errorString" := by decide
theorem row166 (u : TypeId) (h : Tryd.prog.typeName? 3 u = some "*errors.errorString") : u = 166 :=
  typeName_ptr_named (nm := "errors.errorString") (by rw [star]; kernel_rfl) (by kernel_rfl) (by decide) u (by rw [star]; exact h)
noncomputable def laidW (os : Os) : World := (handWorld Tryd.prog os 0 (.iface 148 (.agg #[.pointer (some ⟨5, 100, none⟩)]))).layVars Tryd.prog (Rows.useropReadsRow.laid.filter fun x => x.2.handleName?.isNone)
theorem glob (W : World) (h : laidMetH Tryd.prog Rows.useropReadsRow.laid W) : Glob abiG (E0 W) := by
  have vH := glob_handle (name := "errors.errorType") (d := Rows.laid_errors_errorType) (nm := [101, 114, 114, 111, 114]) (u := 148) (ty := 100) (g := 0) (V := (.iface 148 (.agg #[.pointer (some ⟨5, 100, none⟩)]))) h (List.mem_filter.2 ⟨.head _, rfl⟩) rfl rfl (by kernel_rfl) (by kernel_rfl) (by kernel_rfl) (by kernel_rfl) rfl rfl
  have hP := (laidMetH_iff.1 h).1
  rw [plainL] at hP
  obtain ⟨ps, hL, _⟩ := hP
  obtain ⟨g0, t0, c0, f0, p0, q0, a0, b0, d0, e0, hL, _⟩ := hL
  obtain ⟨g1, t1, c1, f1, p1, q1, a1, b1, d1, e1, hL, _⟩ := hL
  obtain ⟨g2, t2, c2, f2, p2, q2, a2, b2, d2, e2, hL, _⟩ := hL
  obtain rfl : g0 = 2 := Option.some.inj (a0.symm.trans (by kernel_rfl))
  obtain rfl : t0 = 161 := Option.some.inj (b0.symm.trans (by kernel_rfl))
  have v0 := glob_ints a0 d0 (cells_of_ints (n := 24) (e := 30) (k := .u64) (l := kecKeys) (by kernel_rfl) (by kernel_rfl) (by kernel_rfl) (by kernel_rfl) rfl e0) rfl
  obtain rfl : g1 = 4 := Option.some.inj (a1.symm.trans (by kernel_rfl))
  obtain rfl : t1 = 165 := Option.some.inj (b1.symm.trans (by kernel_rfl))
  have v1 := glob_ints a1 d1 (cells_of_ints (n := 24) (e := 3) (k := .i64) (l := kecTurns) (by kernel_rfl) (by kernel_rfl) (by kernel_rfl) (by kernel_rfl) rfl e1) rfl
  obtain rfl : g2 = 3 := Option.some.inj (a2.symm.trans (by kernel_rfl))
  obtain rfl : t2 = 165 := Option.some.inj (b2.symm.trans (by kernel_rfl))
  have v2 := glob_ints a2 d2 (cells_of_ints (n := 24) (e := 3) (k := .i64) (l := kecTo) (by kernel_rfl) (by kernel_rfl) (by kernel_rfl) (by kernel_rfl) rfl e2) rfl
  obtain ⟨g9, t9, c9, f9, p9, q9, a9, b9, d9, e9, hL, _⟩ := hL
  obtain rfl : g9 = 1 := Option.some.inj (a9.symm.trans (by kernel_rfl))
  obtain rfl : t9 = 100 := Option.some.inj (b9.symm.trans (by kernel_rfl))
  have vE := glob_iface a9 d9 Tryd.underlying100 row166 e9
  exact fun g => match g with
    | 0 => vH
    | 1 => vE
    | 2 => v0
    | 3 => v2
    | 4 => v1
    | _ + 5 => trivial
theorem main (av : List AV) (h : AVTs Tryd.prog Tryd.f16.params.toList av) : FnC Tryd.prog abiG 16 av [] (.bool true) [] := by
  rw [show Tryd.f16.params.toList = [41, 32, 32] by kernel_rfl] at h
  obtain ⟨y0, r0, rfl, h0, q0⟩ := h.cons_inv
  obtain ⟨y1, r1, rfl, h1, q1⟩ := q0.cons_inv
  obtain ⟨y2, r2, rfl, h2, q2⟩ := q1.cons_inv
  obtain rfl := q2.nil_inv
  obtain ⟨x3, rfl, g3⟩ := AVT.struct_inv (fs := fs41) h0 (by kernel_rfl)
  rw [ty41] at g3
  obtain ⟨y4, r4, rfl, h4, q4⟩ := g3.cons_inv
  obtain ⟨y5, r5, rfl, h5, q5⟩ := q4.cons_inv
  obtain ⟨y6, r6, rfl, h6, q6⟩ := q5.cons_inv
  obtain ⟨y7, r7, rfl, h7, q7⟩ := q6.cons_inv
  obtain ⟨y8, r8, rfl, h8, q8⟩ := q7.cons_inv
  obtain ⟨y9, r9, rfl, h9, q9⟩ := q8.cons_inv
  obtain ⟨y10, r10, rfl, h10, q10⟩ := q9.cons_inv
  obtain ⟨y11, r11, rfl, h11, q11⟩ := q10.cons_inv
  obtain ⟨y12, r12, rfl, h12, q12⟩ := q11.cons_inv
  obtain ⟨y13, r13, rfl, h13, q13⟩ := q12.cons_inv
  obtain ⟨y14, r14, rfl, h14, q14⟩ := q13.cons_inv
  obtain ⟨y15, r15, rfl, h15, q15⟩ := q14.cons_inv
  obtain ⟨y16, r16, rfl, h16, q16⟩ := q15.cons_inv
  obtain ⟨y17, r17, rfl, h17, q17⟩ := q16.cons_inv
  obtain ⟨y18, r18, rfl, h18, q18⟩ := q17.cons_inv
  obtain ⟨y19, r19, rfl, h19, q19⟩ := q18.cons_inv
  obtain ⟨y20, r20, rfl, h20, q20⟩ := q19.cons_inv
  obtain rfl := q20.nil_inv
  obtain ⟨x21, rfl, w21⟩ := AVT.ints_inv (n := 20) (e := 5) (k := .u8) h4 (by kernel_rfl) (by kernel_rfl)
  obtain ⟨x22, rfl, w22⟩ := AVT.ints_inv (n := 4) (e := 30) (k := .u64) h5 (by kernel_rfl) (by kernel_rfl)
  obtain ⟨x23, rfl⟩ := AVT.bool_inv h6 (by kernel_rfl)
  obtain ⟨x24, rfl, w24⟩ := AVT.ints_inv (n := 20) (e := 5) (k := .u8) h7 (by kernel_rfl) (by kernel_rfl)
  obtain ⟨x25, rfl, w25⟩ := AVT.rints_inv (e := 5) (k := .u8) h8 (by kernel_rfl) (by kernel_rfl) (of_decide_eq_true (by kernel_rfl))
  obtain ⟨x26, rfl, w26⟩ := AVT.rints_inv (e := 5) (k := .u8) h9 (by kernel_rfl) (by kernel_rfl) (of_decide_eq_true (by kernel_rfl))
  obtain ⟨x27, rfl, w27⟩ := AVT.int_inv (k := .u64) h10 (by kernel_rfl)
  obtain ⟨x28, rfl, w28⟩ := AVT.int_inv (k := .u64) h11 (by kernel_rfl)
  obtain ⟨x29, rfl, w29⟩ := AVT.int_inv (k := .u64) h12 (by kernel_rfl)
  obtain ⟨x30, rfl, w30⟩ := AVT.ints_inv (n := 4) (e := 30) (k := .u64) h13 (by kernel_rfl) (by kernel_rfl)
  obtain ⟨x31, rfl, w31⟩ := AVT.ints_inv (n := 4) (e := 30) (k := .u64) h14 (by kernel_rfl) (by kernel_rfl)
  obtain ⟨x32, rfl⟩ := AVT.bool_inv h15 (by kernel_rfl)
  obtain ⟨x33, rfl, w33⟩ := AVT.ints_inv (n := 20) (e := 5) (k := .u8) h16 (by kernel_rfl) (by kernel_rfl)
  obtain ⟨x34, rfl, w34⟩ := AVT.int_inv (k := .u64) h17 (by kernel_rfl)
  obtain ⟨x35, rfl, w35⟩ := AVT.int_inv (k := .u64) h18 (by kernel_rfl)
  obtain ⟨x36, rfl, w36⟩ := AVT.rints_inv (e := 5) (k := .u8) h19 (by kernel_rfl) (by kernel_rfl) (of_decide_eq_true (by kernel_rfl))
  obtain ⟨x37, rfl, w37⟩ := AVT.rints_inv (e := 5) (k := .u8) h20 (by kernel_rfl) (by kernel_rfl) (of_decide_eq_true (by kernel_rfl))
  obtain ⟨x38, rfl, w38⟩ := AVT.ints_inv (n := 4) (e := 30) (k := .u64) h1 (by kernel_rfl) (by kernel_rfl)
  obtain ⟨x39, rfl, w39⟩ := AVT.ints_inv (n := 4) (e := 30) (k := .u64) h2 (by kernel_rfl) (by kernel_rfl)
  obtain ⟨n, hn⟩ := Go.Abs.Pure.UseropReads x21 w21 x22 w22 x23 x24 w24 x25 w25 x26 w26 x27 w27 x28 w28 x29 w29 x30 w30 x31 w31 x32 x33 w33 x34 w34 x35 w35 x36 w36 x37 w37 x38 w38 x39 w39
  exact Fk.call hmix n (x21, x22, x23, x24, x25, x26, x27, x28, x29, x30, x31, x32, x33, x34, x35, x36, x37, x38, x39) true hn
set_option maxRecDepth 100000 in
theorem lifted (os : Os) (started : os.Started) (H : Type) (enc : TypeId × Value → H) :
    ReturnsInHanded {} Tryd.checked os 16 .any (fun w args => (Rows.useropReadsSpec.pre enc Tryd.prog Tryd.f16 [] false w args ∧ laidMetH Tryd.prog Rows.useropReadsRow.laid w) ∧ sizedMet enc Tryd.prog Tryd.f16 (OpenSpec.ofChange Rows.useropReadsSpec) false w args) (Rows.useropReadsSpec.post enc Tryd.prog Tryd.f16 false true false false) :=
  law_lifted_laidH (C := Tryd.checked) (s := Rows.useropReadsSpec) (G := abiG) (rt := 4) Rows.useropReadsRow.laid (fun t => types.contains t) own started (by kernel_rfl) Tryd.func16
    (ChangeSpec.witness_shaped (enc := enc) (C := Tryd.checked) (os := os) (X := fun w _ => laidMetH Tryd.prog Rows.useropReadsRow.laid w) false (laidW os) #[.agg #[.int .u8 0, .int .u8 0, .int .u8 0, .int .u8 0, .int .u8 0, .int .u8 0, .int .u8 0, .int .u8 0, .int .u8 0, .int .u8 0, .int .u8 0, .int .u8 0, .int .u8 0, .int .u8 0, .int .u8 0, .int .u8 0, .int .u8 0, .int .u8 0, .int .u8 0, .int .u8 0, .int .u64 0, .int .u64 0, .int .u64 0, .int .u64 0, .bool false, .int .u8 0, .int .u8 0, .int .u8 0, .int .u8 0, .int .u8 0, .int .u8 0, .int .u8 0, .int .u8 0, .int .u8 0, .int .u8 0, .int .u8 0, .int .u8 0, .int .u8 0, .int .u8 0, .int .u8 0, .int .u8 0, .int .u8 0, .int .u8 0, .int .u8 0, .int .u8 0, .slice none 0 0, .slice none 0 0, .int .u64 0, .int .u64 0, .int .u64 0, .int .u64 0, .int .u64 0, .int .u64 0, .int .u64 0, .int .u64 0, .int .u64 0, .int .u64 0, .int .u64 0, .bool false, .int .u8 0, .int .u8 0, .int .u8 0, .int .u8 0, .int .u8 0, .int .u8 0, .int .u8 0, .int .u8 0, .int .u8 0, .int .u8 0, .int .u8 0, .int .u8 0, .int .u8 0, .int .u8 0, .int .u8 0, .int .u8 0, .int .u8 0, .int .u8 0, .int .u8 0, .int .u8 0, .int .u64 0, .int .u64 0, .slice none 0 0, .slice none 0 0], .agg #[.int .u64 0, .int .u64 0, .int .u64 0, .int .u64 0], .agg #[.int .u64 0, .int .u64 0, .int .u64 0, .int .u64 0]] 8 (World.layVars_os _ _ _) (World.shaped_of_ZipB (by kernel_rfl) (by kernel_rfl)) (by kernel_rfl) (by kernel_rfl) (by kernel_rfl)
      (laidMetH_of_parts (laidMet_from _ (by kernel_rfl) (by kernel_rfl)) (by kernel_rfl)))
    laidOut (among (by kernel_rfl)) (fun t ht => by
      have key : (Tryd.f16.params.toList.all fun t => types.contains t && Tryd.prog.readableRec t && decide (t < Tryd.prog.types.size)) = true := by kernel_rfl
      have := List.all_eq_true.1 key t ht
      simp only [Bool.and_eq_true, decide_eq_true_eq] at this
      exact ⟨this.1.1, this.1.2, this.2⟩) rfl
    (fun ds hds => by
      rw [show Tryd.f16.params.size = 3 by kernel_rfl] at hds
      match ds, hds with
      | [d0, d1, d2], _ => rfl) (by kernel_rfl) (by kernel_rfl) glob main
theorem over : Rows.useropReadsRow.holds Tryd.pinned (OpenSpec.ofChange Rows.useropReadsSpec) :=
  OpenClaim.holds_of_wide 16 Tryd.f16 rfl rfl rfl rfl rfl rfl rfl ⟨rfl, rfl, rfl, rfl, rfl⟩ rfl rfl rfl rfl rfl (by kernel_rfl) Tryd.func16 (by kernel_rfl)
    (of_decide_eq_true (by kernel_rfl)) (by unfold Func.isWrapper; first | (rw [if_pos (by decide +kernel)]; kernel_rfl) | (rw [if_neg (by decide +kernel)]; exact ⟨rfl, rfl⟩))
    (fun os started H enc _ => lifted os started H enc)
end Go.Proofs.YtehhocoldpdijaaDoor.useropReads
namespace Go.Proofs.YtehhocoldpdijaaDoor
/-- The row, under a short name, for the claim. -/
theorem useropReads_holds : Rows.UseropReadsSaid := useropReads.over
/-- The tied card, for the claim. -/
theorem useropReads_card : Rows.UseropReadsCardSaid :=
  Claim7.holds_tied_plain_at .later [] [.handle, .data, .data, .data, .sentinel] true (true, "c51760bd8f969763d386844ba8af162d84ed9ffb862fc9d378e5688836d4c569") true
    useropReads_holds (fun _ h => by cases h) (by kernel_rfl) (fun _ h => by cases h) useropReads_row_tie rfl ⟨rfl, rfl⟩ (by kernel_rfl) rfl
    (fun f fn hf hfn => by
      obtain rfl : f = 16 := Option.some.inj ((show Tryd.prog.funcNamed Rows.useropReadsRow.func = some 16 by kernel_rfl).symm.trans hf) |>.symm
      obtain rfl : fn = Tryd.f16 := (Option.some.inj (Tryd.func16.symm.trans hfn)).symm
      refine ⟨by kernel_rfl, fun j t ht => ?_⟩
      have key : (Tryd.f16.params.toList.all fun t => Tryd.prog.wantsStandIn t == false) = true := by kernel_rfl
      have := List.all_eq_true.1 key t (by simpa using Array.mem_of_getElem? ht)
      have q : Tryd.prog.wantsStandIn t = false := by simpa using this
      exact q)
    (by kernel_rfl)
end Go.Proofs.YtehhocoldpdijaaDoor
#print axioms Go.Proofs.YtehhocoldpdijaaDoor.useropReads_card
