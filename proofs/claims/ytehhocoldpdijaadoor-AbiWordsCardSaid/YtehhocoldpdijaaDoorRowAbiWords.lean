/- The row of the law AbiWords: whatever the arguments, its function answers true, and they read as they did. No condition. -/
import Derived.Test.YtehhocoldpdijaaDoorAbsW6
import Derived.Test.YtehhocoldpdijaaDoorPuAbiWords1
import Derived.Test.YtehhocoldpdijaaDoorFnAbiWords2
import Derived.Test.YtehhocoldpdijaaDoorRows
import Derived.Test.YtehhocoldpdijaaDoorTie
import Derived.Test.YtehhocoldpdijaaDoorCards
import Derived.Lay
import Derived.SevenTiedAt
set_option linter.unusedVariables false
namespace Go.Proofs.YtehhocoldpdijaaDoor.abiWords
open Go Go.Abs Go.RowKit Go.ChangeShapes
theorem own : ownKnob Tryd.prog.godebug = none := by kernel_rfl
theorem laidOut : laidOutB Tryd.prog = true := by kernel_rfl
theorem hmix : Tryd.prog.follows .mixedOrders = true := by kernel_rfl
def types : List Nat := [71, 32, 30]
theorem plainL : (Rows.abiWordsRow.laid.filter fun x => x.2.handleName?.isNone) = [("quaestor/keccak.keys", Rows.laid_quaestor_keccak_keys), ("quaestor/keccak.turns", Rows.laid_quaestor_keccak_turns), ("quaestor/keccak.to", Rows.laid_quaestor_keccak_to), ("quaestor/abi.errEnd", Rows.laid_quaestor_abi_errEnd)] := by kernel_rfl
theorem star : "*" ++ "errors.errorString" = "*errors.errorString" := by decide
theorem row166 (u : TypeId) (h : Tryd.prog.typeName? 3 u = some "*errors.errorString") : u = 166 :=
  typeName_ptr_named (nm := "errors.errorString") (by rw [star]; kernel_rfl) (by kernel_rfl) (by decide) u (by rw [star]; exact h)
noncomputable def laidW (os : Os) : World := (handWorld Tryd.prog os 0 (.iface 148 (.agg #[.pointer (some ⟨5, 100, none⟩)]))).layVars Tryd.prog (Rows.abiWordsRow.laid.filter fun x => x.2.handleName?.isNone)
theorem glob (W : World) (h : laidMetH Tryd.prog Rows.abiWordsRow.laid W) : Glob abiG (E0 W) := by
  have vH := glob_handle (name := "errors.errorType") (d := Rows.laid_errors_errorType) (nm := [101, 114, 114, 111, 114]) (u := 148) (ty := 100) (g := 0) (V := (.iface 148 (.agg #[.pointer (some ⟨5, 100, none⟩)]))) h (List.mem_filter.2 ⟨.head _, rfl⟩) rfl rfl (by kernel_rfl) (by kernel_rfl) (by kernel_rfl) (by kernel_rfl) rfl rfl
  have hP := (laidMetH_iff.1 h).1
  rw [plainL] at hP
  obtain ⟨ps, hL, _⟩ := hP
  obtain ⟨g0, t0, c0, f0, p0, q0, a0, b0, d0, e0, hL, _⟩ := hL
  obtain ⟨g1, t1, c1, f1, p1, q1, a1, b1, d1, e1, hL, _⟩ := hL
  obtain ⟨g2, t2, c2, f2, p2, q2, a2, b2, d2, e2, hL, _⟩ := hL
  obtain rfl : g0 = 2 := Option.some.inj (a0.symm.trans (by kernel_rfl))
  obtain rfl : t0 = 161 := Option.some.inj (b0.symm.trans (by kernel_rfl))
  have v0 := glob_ints a0 d0 (cells_of_ints (n := 24) (e := 30) (k := .u64) (l := kecKeys) (by kernel_rfl) (by kernel_rfl) (by kernel_rfl) (by kernel_rfl) rfl e0) rfl
  obtain rfl : g1 = 4 := Option.some.inj (a1.symm.trans (by kernel_rfl))
  obtain rfl : t1 = 165 := Option.some.inj (b1.symm.trans (by kernel_rfl))
  have v1 := glob_ints a1 d1 (cells_of_ints (n := 24) (e := 3) (k := .i64) (l := kecTurns) (by kernel_rfl) (by kernel_rfl) (by kernel_rfl) (by kernel_rfl) rfl e1) rfl
  obtain rfl : g2 = 3 := Option.some.inj (a2.symm.trans (by kernel_rfl))
  obtain rfl : t2 = 165 := Option.some.inj (b2.symm.trans (by kernel_rfl))
  have v2 := glob_ints a2 d2 (cells_of_ints (n := 24) (e := 3) (k := .i64) (l := kecTo) (by kernel_rfl) (by kernel_rfl) (by kernel_rfl) (by kernel_rfl) rfl e2) rfl
  obtain ⟨g9, t9, c9, f9, p9, q9, a9, b9, d9, e9, hL, _⟩ := hL
  obtain rfl : g9 = 1 := Option.some.inj (a9.symm.trans (by kernel_rfl))
  obtain rfl : t9 = 100 := Option.some.inj (b9.symm.trans (by kernel_rfl))
  have vE := glob_iface a9 d9 Tryd.underlying100 row166 e9
  exact fun g => match g with
    | 0 => vH
    | 1 => vE
    | 2 => v0
    | 3 => v2
    | 4 => v1
    | _ + 5 => trivial
theorem main (av : List AV) (h : AVTs Tryd.prog Tryd.f12.params.toList av) : FnC Tryd.prog abiG 12 av [] (.bool true) [] := by
  rw [show Tryd.f12.params.toList = [71] by kernel_rfl] at h
  obtain ⟨y0, r0, rfl, h0, q0⟩ := h.cons_inv
  obtain rfl := q0.nil_inv
  obtain ⟨x1, rfl, w1⟩ := AVT.robjs_inv (e := 32) (w := 4) h0 (by kernel_rfl) (by kernel_rfl) (of_decide_eq_true (by kernel_rfl)) (by kernel_rfl)
  have v1 : x1.length ≤ 140737488351232 ∧ ∀ x ∈ x1, ∃ r, x = AV.ints .u64 4 r ∧ InA .u64 4 r := ⟨w1.1, fun x hx => AVT.ints_inv (n := 4) (e := 30) (k := .u64) (w1.2 x hx) (by kernel_rfl) (by kernel_rfl)⟩
  obtain ⟨n, hn⟩ := Go.Abs.Pure.AbiWords x1 v1
  exact Fq.call hmix n x1 true hn
set_option maxRecDepth 100000 in
theorem lifted (os : Os) (started : os.Started) (H : Type) (enc : TypeId × Value → H) :
    ReturnsInHanded {} Tryd.checked os 12 .any (fun w args => (Rows.abiWordsSpec.pre enc Tryd.prog Tryd.f12 [] false w args ∧ laidMetH Tryd.prog Rows.abiWordsRow.laid w) ∧ sizedMet enc Tryd.prog Tryd.f12 (OpenSpec.ofChange Rows.abiWordsSpec) false w args) (Rows.abiWordsSpec.post enc Tryd.prog Tryd.f12 false true false false) :=
  law_lifted_laidH (C := Tryd.checked) (s := Rows.abiWordsSpec) (G := abiG) (rt := 4) Rows.abiWordsRow.laid (fun t => types.contains t) own started (by kernel_rfl) Tryd.func12
    (ChangeSpec.witness_shaped (enc := enc) (C := Tryd.checked) (os := os) (X := fun w _ => laidMetH Tryd.prog Rows.abiWordsRow.laid w) false (laidW os) #[.slice none 0 0] 8 (World.layVars_os _ _ _) (World.shaped_of_ZipB (by kernel_rfl) (by kernel_rfl)) (by kernel_rfl) (by kernel_rfl) (by kernel_rfl)
      (laidMetH_of_parts (laidMet_from _ (by kernel_rfl) (by kernel_rfl)) (by kernel_rfl)))
    laidOut (among (by kernel_rfl)) (fun t ht => by
      have key : (Tryd.f12.params.toList.all fun t => types.contains t && Tryd.prog.readableRec t && decide (t < Tryd.prog.types.size)) = true := by kernel_rfl
      have := List.all_eq_true.1 key t ht
      simp only [Bool.and_eq_true, decide_eq_true_eq] at this
      exact ⟨this.1.1, this.1.2, this.2⟩) rfl
    (fun ds hds => by
      rw [show Tryd.f12.params.size = 1 by kernel_rfl] at hds
      match ds, hds with
      | [d0], _ => rfl) (by kernel_rfl) (by kernel_rfl) glob main
theorem over : Rows.abiWordsRow.holds Tryd.pinned (OpenSpec.ofChange Rows.abiWordsSpec) :=
  OpenClaim.holds_of_wide 12 Tryd.f12 rfl rfl rfl rfl rfl rfl rfl ⟨rfl, rfl, rfl, rfl, rfl⟩ rfl rfl rfl rfl rfl (by kernel_rfl) Tryd.func12 (by kernel_rfl)
    (of_decide_eq_true (by kernel_rfl)) (by unfold Func.isWrapper; first | (rw [if_pos (by decide +kernel)]; kernel_rfl) | (rw [if_neg (by decide +kernel)]; exact ⟨rfl, rfl⟩))
    (fun os started H enc _ => lifted os started H enc)
end Go.Proofs.YtehhocoldpdijaaDoor.abiWords
namespace Go.Proofs.YtehhocoldpdijaaDoor
/-- The row, under a short name, for the claim. -/
theorem abiWords_holds : Rows.AbiWordsSaid := abiWords.over
/-- The tied card, for the claim. -/
theorem abiWords_card : Rows.AbiWordsCardSaid :=
  Claim7.holds_tied_plain_at .later [] [.handle, .data, .data, .data, .sentinel] true (true, "c51760bd8f969763d386844ba8af162d84ed9ffb862fc9d378e5688836d4c569") true
    abiWords_holds (fun _ h => by cases h) (by kernel_rfl) (fun _ h => by cases h) abiWords_row_tie rfl ⟨rfl, rfl⟩ (by kernel_rfl) rfl
    (fun f fn hf hfn => by
      obtain rfl : f = 12 := Option.some.inj ((show Tryd.prog.funcNamed Rows.abiWordsRow.func = some 12 by kernel_rfl).symm.trans hf) |>.symm
      obtain rfl : fn = Tryd.f12 := (Option.some.inj (Tryd.func12.symm.trans hfn)).symm
      refine ⟨by kernel_rfl, fun j t ht => ?_⟩
      have key : (Tryd.f12.params.toList.all fun t => Tryd.prog.wantsStandIn t == false) = true := by kernel_rfl
      have := List.all_eq_true.1 key t (by simpa using Array.mem_of_getElem? ht)
      have q : Tryd.prog.wantsStandIn t = false := by simpa using this
      exact q)
    (by kernel_rfl)
end Go.Proofs.YtehhocoldpdijaaDoor
#print axioms Go.Proofs.YtehhocoldpdijaaDoor.abiWords_card
