/- The row of the law AbiSelectors: whatever the arguments, its function answers true, and they read as they did. No condition. -/
import Derived.Test.YtehhocoldpdijaaDoorAbsH6
import Derived.Test.YtehhocoldpdijaaDoorPuAbiSelectors1
import Derived.Test.YtehhocoldpdijaaDoorFnAbiSelectors2
import Derived.Test.YtehhocoldpdijaaDoorRows
import Derived.Test.YtehhocoldpdijaaDoorTie
import Derived.Test.YtehhocoldpdijaaDoorCards
import Derived.Lay
import Derived.SevenTiedAt
set_option linter.unusedVariables false
namespace Go.Proofs.YtehhocoldpdijaaDoor.abiSelectors
open Go Go.Abs Go.RowKit Go.ChangeShapes
theorem own : ownKnob Tryd.prog.godebug = none := by kernel_rfl
theorem laidOut : laidOutB Tryd.prog = true := by kernel_rfl
theorem hmix : Tryd.prog.follows .mixedOrders = true := by kernel_rfl
def types : List Nat := [9, 22, 69, 4, 32, 30, 26, 5]
noncomputable def fs69 : Array Field := match Tryd.prog.underlying 69 with | some (.struct fs) => fs | _ => #[]
theorem ty69 : fs69.toList.map (·.type) = [4, 32, 26] := by kernel_rfl
theorem plainL : (Rows.abiSelectorsRow.laid.filter fun x => x.2.handleName?.isNone) = [("quaestor/keccak.keys", Rows.laid_quaestor_keccak_keys), ("quaestor/keccak.turns", Rows.laid_quaestor_keccak_turns), ("quaestor/keccak.to", Rows.laid_quaestor_keccak_to), ("quaestor/abi.errEnd", Rows.laid_quaestor_abi_errEnd)] := by kernel_rfl
theorem star : "*" ++ "errors.errorString" = "*errors.errorString" := by decide
theorem row166 (u : TypeId) (h : Tryd.prog.typeName? 3 u = some "*errors.errorString") : u = 166 :=
  typeName_ptr_named (nm := "errors.errorString") (by rw [star]; kernel_rfl) (by kernel_rfl) (by decide) u (by rw [star]; exact h)
noncomputable def laidW (os : Os) : World := (handWorld Tryd.prog os 0 (.iface 148 (.agg #[.pointer (some ⟨5, 100, none⟩)]))).layVars Tryd.prog (Rows.abiSelectorsRow.laid.filter fun x => x.2.handleName?.isNone)
theorem glob (W : World) (h : laidMetH Tryd.prog Rows.abiSelectorsRow.laid W) : Glob abiG (E0 W) := by
  have vH := glob_handle (name := "errors.errorType") (d := Rows.laid_errors_errorType) (nm := [101, 114, 114, 111, 114]) (u := 148) (ty := 100) (g := 0) (V := (.iface 148 (.agg #[.pointer (some ⟨5, 100, none⟩)]))) h (List.mem_filter.2 ⟨.head _, rfl⟩) rfl rfl (by kernel_rfl) (by kernel_rfl) (by kernel_rfl) (by kernel_rfl) rfl rfl
  have hP := (laidMetH_iff.1 h).1
  rw [plainL] at hP
  obtain ⟨ps, hL, _⟩ := hP
  obtain ⟨g0, t0, c0, f0, p0, q0, a0, b0, d0, e0, hL, _⟩ := hL
  obtain ⟨g1, t1, c1, f1, p1, q1, a1, b1, d1, e1, hL, _⟩ := hL
  obtain ⟨g2, t2, c2, f2, p2, q2, a2, b2, d2, e2, hL, _⟩ := hL
  obtain rfl : g0 = 2 := Option.some.inj (a0.symm.trans (by kernel_rfl))
  obtain rfl : t0 = 161 := Option.some.inj (b0.symm.trans (by kernel_rfl))
  have v0 := glob_ints a0 d0 (cells_of_ints (n := 24) (e := 30) (k := .u64) (l := kecKeys) (by kernel_rfl) (by kernel_rfl) (by kernel_rfl) (by kernel_rfl) rfl e0) rfl
  obtain rfl : g1 = 4 := Option.some.inj (a1.symm.trans (by kernel_rfl))
  obtain rfl : t1 = 165 := Option.some.inj (b1.symm.trans (by kernel_rfl))
  have v1 := glob_ints a1 d1 (cells_of_ints (n := 24) (e := 3) (k := .i64) (l := kecTurns) (by kernel_rfl) (by kernel_rfl) (by kernel_rfl) (by kernel_rfl) rfl e1) rfl
  obtain rfl : g2 = 3 := Option.some.inj (a2.symm.trans (by kernel_rfl))
  obtain rfl : t2 = 165 := Option.some.inj (b2.symm.trans (by kernel_rfl))
  have v2 := glob_ints a2 d2 (cells_of_ints (n := 24) (e := 3) (k := .i64) (l := kecTo) (by kernel_rfl) (by kernel_rfl) (by kernel_rfl) (by kernel_rfl) rfl e2) rfl
  obtain ⟨g9, t9, c9, f9, p9, q9, a9, b9, d9, e9, hL, _⟩ := hL
  obtain rfl : g9 = 1 := Option.some.inj (a9.symm.trans (by kernel_rfl))
  obtain rfl : t9 = 100 := Option.some.inj (b9.symm.trans (by kernel_rfl))
  have vE := glob_iface a9 d9 Tryd.underlying100 row166 e9
  exact fun g => match g with
    | 0 => vH
    | 1 => vE
    | 2 => v0
    | 3 => v2
    | 4 => v1
    | _ + 5 => trivial
theorem main (av : List AV) (h : AVTs Tryd.prog Tryd.f14.params.toList av) : FnC Tryd.prog abiG 14 av [] (.bool true) [] := by
  rw [show Tryd.f14.params.toList = [9, 22] by kernel_rfl] at h
  obtain ⟨y0, r0, rfl, h0, q0⟩ := h.cons_inv
  obtain ⟨y1, r1, rfl, h1, q1⟩ := q0.cons_inv
  obtain rfl := q1.nil_inv
  obtain ⟨x2, rfl, w2⟩ := AVT.str_inv h0 (by kernel_rfl)
  obtain ⟨x3, rfl, w3⟩ := AVT.robjs_inv (e := 69) (w := 6) h1 (by kernel_rfl) (by kernel_rfl) (of_decide_eq_true (by kernel_rfl)) (by kernel_rfl)
  have v3 : x3.length ≤ 140737488351232 ∧ ∀ z ∈ x3, ∃ c0 c1 c2, z = AV.agg [.bool c0, .ints .u64 4 c1, .rints .u8 c2] ∧ InA .u64 4 c1 ∧ InS .u8 c2 := ⟨w3.1, fun z hz => by
    obtain ⟨x4, rfl, g4⟩ := AVT.struct_inv (fs := fs69) (w3.2 z hz) (by kernel_rfl)
    rw [ty69] at g4
    obtain ⟨y5, r5, rfl, h5, q5⟩ := g4.cons_inv
    obtain ⟨y6, r6, rfl, h6, q6⟩ := q5.cons_inv
    obtain ⟨y7, r7, rfl, h7, q7⟩ := q6.cons_inv
    obtain rfl := q7.nil_inv
    obtain ⟨x8, rfl⟩ := AVT.bool_inv h5 (by kernel_rfl)
    obtain ⟨x9, rfl, w9⟩ := AVT.ints_inv (n := 4) (e := 30) (k := .u64) h6 (by kernel_rfl) (by kernel_rfl)
    obtain ⟨x10, rfl, w10⟩ := AVT.rints_inv (e := 5) (k := .u8) h7 (by kernel_rfl) (by kernel_rfl) (of_decide_eq_true (by kernel_rfl))
    exact ⟨x8, x9, x10, rfl, w9, w10⟩⟩
  obtain ⟨n, hn⟩ := Go.Abs.Pure.AbiSelectors x2 w2 x3 v3
  exact Fh.call hmix n (x2, x3) true hn
set_option maxRecDepth 100000 in
theorem lifted (os : Os) (started : os.Started) (H : Type) (enc : TypeId × Value → H) :
    ReturnsInHanded {} Tryd.checked os 14 .any (fun w args => (Rows.abiSelectorsSpec.pre enc Tryd.prog Tryd.f14 [] false w args ∧ laidMetH Tryd.prog Rows.abiSelectorsRow.laid w) ∧ sizedMet enc Tryd.prog Tryd.f14 (OpenSpec.ofChange Rows.abiSelectorsSpec) false w args) (Rows.abiSelectorsSpec.post enc Tryd.prog Tryd.f14 false true false false) :=
  law_lifted_laidH (C := Tryd.checked) (s := Rows.abiSelectorsSpec) (G := abiG) (rt := 4) Rows.abiSelectorsRow.laid (fun t => types.contains t) own started (by kernel_rfl) Tryd.func14
    (ChangeSpec.witness_shaped (enc := enc) (C := Tryd.checked) (os := os) (X := fun w _ => laidMetH Tryd.prog Rows.abiSelectorsRow.laid w) false (laidW os) #[.string ByteArray.empty, .slice none 0 0] 8 (World.layVars_os _ _ _) (World.shaped_of_ZipB (by kernel_rfl) (by kernel_rfl)) (by kernel_rfl) (by kernel_rfl) (by kernel_rfl)
      (laidMetH_of_parts (laidMet_from _ (by kernel_rfl) (by kernel_rfl)) (by kernel_rfl)))
    laidOut (among (by kernel_rfl)) (fun t ht => by
      have key : (Tryd.f14.params.toList.all fun t => types.contains t && Tryd.prog.readableRec t && decide (t < Tryd.prog.types.size)) = true := by kernel_rfl
      have := List.all_eq_true.1 key t ht
      simp only [Bool.and_eq_true, decide_eq_true_eq] at this
      exact ⟨this.1.1, this.1.2, this.2⟩) rfl
    (fun ds hds => by
      rw [show Tryd.f14.params.size = 2 by kernel_rfl] at hds
      match ds, hds with
      | [d0, d1], _ => rfl) (by kernel_rfl) (by kernel_rfl) glob main
theorem over : Rows.abiSelectorsRow.holds Tryd.pinned (OpenSpec.ofChange Rows.abiSelectorsSpec) :=
  OpenClaim.holds_of_wide 14 Tryd.f14 rfl rfl rfl rfl rfl rfl rfl ⟨rfl, rfl, rfl, rfl, rfl⟩ rfl rfl rfl rfl rfl (by kernel_rfl) Tryd.func14 (by kernel_rfl)
    (of_decide_eq_true (by kernel_rfl)) (by unfold Func.isWrapper; first | (rw [if_pos (by decide +kernel)]; kernel_rfl) | (rw [if_neg (by decide +kernel)]; exact ⟨rfl, rfl⟩))
    (fun os started H enc _ => lifted os started H enc)
end Go.Proofs.YtehhocoldpdijaaDoor.abiSelectors
namespace Go.Proofs.YtehhocoldpdijaaDoor
/-- The row, under a short name, for the claim. -/
theorem abiSelectors_holds : Rows.AbiSelectorsSaid := abiSelectors.over
/-- The tied card, for the claim. -/
theorem abiSelectors_card : Rows.AbiSelectorsCardSaid :=
  Claim7.holds_tied_plain_at .later [] [.handle, .data, .data, .data, .sentinel] true (true, "c51760bd8f969763d386844ba8af162d84ed9ffb862fc9d378e5688836d4c569") true
    abiSelectors_holds (fun _ h => by cases h) (by kernel_rfl) (fun _ h => by cases h) abiSelectors_row_tie rfl ⟨rfl, rfl⟩ (by kernel_rfl) rfl
    (fun f fn hf hfn => by
      obtain rfl : f = 14 := Option.some.inj ((show Tryd.prog.funcNamed Rows.abiSelectorsRow.func = some 14 by kernel_rfl).symm.trans hf) |>.symm
      obtain rfl : fn = Tryd.f14 := (Option.some.inj (Tryd.func14.symm.trans hfn)).symm
      refine ⟨by kernel_rfl, fun j t ht => ?_⟩
      have key : (Tryd.f14.params.toList.all fun t => Tryd.prog.wantsStandIn t == false) = true := by kernel_rfl
      have := List.all_eq_true.1 key t (by simpa using Array.mem_of_getElem? ht)
      have q : Tryd.prog.wantsStandIn t = false := by simpa using this
      exact q)
    (by kernel_rfl)
end Go.Proofs.YtehhocoldpdijaaDoor
#print axioms Go.Proofs.YtehhocoldpdijaaDoor.abiSelectors_card
