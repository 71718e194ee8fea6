/- The row of the law RlpBack: whatever the arguments, its function answers true, and they read as they did. No condition. -/
import Derived.Test.YtddcgjbaiojmcaaDoorAbsL7
import Derived.Test.YtddcgjbaiojmcaaDoorPuRlpBack1
import Derived.Test.YtddcgjbaiojmcaaDoorFnRlpBack2
import Derived.Test.YtddcgjbaiojmcaaDoorRows
import Derived.Test.YtddcgjbaiojmcaaDoorTie
import Derived.Test.YtddcgjbaiojmcaaDoorCards
import Derived.Lay
import Derived.SevenTiedAt
set_option linter.unusedVariables false
namespace Go.Proofs.YtddcgjbaiojmcaaDoor.rlpBack
open Go Go.Abs Go.RowKit Go.ChangeShapes
theorem own : ownKnob Tryd.prog.godebug = none := by kernel_rfl
theorem laidOut : laidOutB Tryd.prog = true := by kernel_rfl
theorem hmix : Tryd.prog.follows .mixedOrders = true := by kernel_rfl
def types : List Nat := [25, 4, 22, 5, 23]
noncomputable def fs25 : Array Field := match Tryd.prog.underlying 25 with | some (.struct fs) => fs | _ => #[]
theorem ty25 : fs25.toList.map (·.type) = [4, 22, 23] := by kernel_rfl
theorem glob (W : World) (h : laidMet Tryd.prog Rows.rlpBackRow.laid W) : Glob rlpG (E0 W) := globS W h
theorem main (av : List AV) (h : AVTs Tryd.prog Tryd.f5.params.toList av) : FnC Tryd.prog rlpG 5 av [] (.bool true) [] := by
  rw [show Tryd.f5.params.toList = [25, 5] by kernel_rfl] at h
  obtain ⟨y0, r0, rfl, h0, q0⟩ := h.cons_inv
  obtain ⟨y1, r1, rfl, h1, q1⟩ := q0.cons_inv
  obtain rfl := q1.nil_inv
  obtain ⟨x2, rfl, g2⟩ := AVT.struct_inv (fs := fs25) h0 (by kernel_rfl)
  rw [ty25] at g2
  obtain ⟨y3, r3, rfl, h3, q3⟩ := g2.cons_inv
  obtain ⟨y4, r4, rfl, h4, q4⟩ := q3.cons_inv
  obtain ⟨y5, r5, rfl, h5, q5⟩ := q4.cons_inv
  obtain rfl := q5.nil_inv
  obtain ⟨x6, rfl⟩ := AVT.bool_inv h3 (by kernel_rfl)
  obtain ⟨x7, rfl, w7⟩ := AVT.rints_inv (e := 5) (k := .u8) h4 (by kernel_rfl) (by kernel_rfl) (of_decide_eq_true (by kernel_rfl))
  obtain ⟨x8, rfl, w8⟩ := AVT.robjs_inv (e := 25) (w := 3) h5 (by kernel_rfl) (by kernel_rfl) (of_decide_eq_true (by kernel_rfl)) (by kernel_rfl)
  have v8 := Go.Abs.Pure.items_rep w8
  obtain ⟨x9, rfl, w9⟩ := AVT.int_inv (k := .u8) h1 (by kernel_rfl)
  obtain ⟨n, hn⟩ := Go.Abs.Pure.RlpBack x6 x7 w7 x8 v8 x9 w9
  exact Fe.call hmix n (x6, x7, x8, x9) true hn
set_option maxRecDepth 100000 in
theorem lifted (os : Os) (started : os.Started) (H : Type) (enc : TypeId × Value → H) :
    ReturnsInHanded {} Tryd.checked os 5 .any (fun w args => (Rows.rlpBackSpec.pre enc Tryd.prog Tryd.f5 [] false w args ∧ laidMetH Tryd.prog Rows.rlpBackRow.laid w) ∧ sizedMet enc Tryd.prog Tryd.f5 (OpenSpec.ofChange Rows.rlpBackSpec) false w args) (Rows.rlpBackSpec.post enc Tryd.prog Tryd.f5 false true false false) :=
  law_lifted_laid (C := Tryd.checked) (s := Rows.rlpBackSpec) (G := rlpG) (rt := 4) Rows.rlpBackRow.laid (fun t => types.contains t) own started (by kernel_rfl) Tryd.func5
    (ChangeSpec.witness_shaped (enc := enc) (C := Tryd.checked) (os := os) (X := fun w _ => laidMetH Tryd.prog Rows.rlpBackRow.laid w) false (World.laidAll Tryd.prog os Rows.rlpBackRow.laid) #[.agg #[.bool false, .slice none 0 0, .slice none 0 0], .int .u8 0] 8 (World.laidAll_os _ _ _) (World.shaped_of_ZipB (by kernel_rfl) (by kernel_rfl)) (by kernel_rfl) (by kernel_rfl) (by kernel_rfl)
      (by rw [MakeChecks.laidMetH_plain _ _ _ (by kernel_rfl)]; exact laidMet_laidAll _ (by kernel_rfl) (by kernel_rfl)))
    (by kernel_rfl) laidOut (among (by kernel_rfl)) (fun t ht => by
      have key : (Tryd.f5.params.toList.all fun t => types.contains t && Tryd.prog.readableRec t && decide (t < Tryd.prog.types.size)) = true := by kernel_rfl
      have := List.all_eq_true.1 key t ht
      simp only [Bool.and_eq_true, decide_eq_true_eq] at this
      exact ⟨this.1.1, this.1.2, this.2⟩) rfl
    (fun ds hds => by
      rw [show Tryd.f5.params.size = 2 by kernel_rfl] at hds
      match ds, hds with
      | [d0, d1], _ => rfl) (by kernel_rfl) (by kernel_rfl) glob main
theorem over : Rows.rlpBackRow.holds Tryd.pinned (OpenSpec.ofChange Rows.rlpBackSpec) :=
  OpenClaim.holds_of_wide 5 Tryd.f5 rfl rfl rfl rfl rfl rfl rfl ⟨rfl, rfl, rfl, rfl, rfl⟩ rfl rfl rfl rfl rfl (by kernel_rfl) Tryd.func5 (by kernel_rfl)
    (of_decide_eq_true (by kernel_rfl)) (by unfold Func.isWrapper; first | (rw [if_pos (by decide +kernel)]; kernel_rfl) | (rw [if_neg (by decide +kernel)]; exact ⟨rfl, rfl⟩))
    (fun os started H enc _ => lifted os started H enc)
end Go.Proofs.YtddcgjbaiojmcaaDoor.rlpBack
namespace Go.Proofs.YtddcgjbaiojmcaaDoor
/-- The row, under a short name, for the claim. -/
theorem rlpBack_holds : Rows.RlpBackSaid := rlpBack.over
/-- The tied card, for the claim. -/
theorem rlpBack_card : Rows.RlpBackCardSaid :=
  Claim7.holds_tied_plain_at .later [] [.sentinel, .sentinel, .sentinel] true (true, "cb79f52a2001134c984bf87e7843f333d62a290fad45d9cfe1ed96bc0e7b30f3") true
    rlpBack_holds (fun _ h => by cases h) (by kernel_rfl) (fun _ h => by cases h) rlpBack_row_tie rfl ⟨rfl, rfl⟩ (by kernel_rfl) rfl
    (fun f fn hf hfn => by
      obtain rfl : f = 5 := Option.some.inj ((show Tryd.prog.funcNamed Rows.rlpBackRow.func = some 5 by kernel_rfl).symm.trans hf) |>.symm
      obtain rfl : fn = Tryd.f5 := (Option.some.inj (Tryd.func5.symm.trans hfn)).symm
      refine ⟨by kernel_rfl, fun j t ht => ?_⟩
      have key : (Tryd.f5.params.toList.all fun t => Tryd.prog.wantsStandIn t == false) = true := by kernel_rfl
      have := List.all_eq_true.1 key t (by simpa using Array.mem_of_getElem? ht)
      have q : Tryd.prog.wantsStandIn t = false := by simpa using this
      exact q)
    (by kernel_rfl)
end Go.Proofs.YtddcgjbaiojmcaaDoor
#print axioms Go.Proofs.YtddcgjbaiojmcaaDoor.rlpBack_card
