/- The row of the law RlpDecodes: whatever the arguments, its function answers true, and they read as they did. No condition. -/
import Derived.Test.YtddcgjbaiojmcaaDoorAbsL7
import Derived.Test.YtddcgjbaiojmcaaDoorPuRlpDecodes1
import Derived.Test.YtddcgjbaiojmcaaDoorFnRlpDecodes2
import Derived.Test.YtddcgjbaiojmcaaDoorRows
import Derived.Test.YtddcgjbaiojmcaaDoorTie
import Derived.Test.YtddcgjbaiojmcaaDoorCards
import Derived.Lay
import Derived.SevenTiedAt
set_option linter.unusedVariables false
namespace Go.Proofs.YtddcgjbaiojmcaaDoor.rlpDecodes
open Go Go.Abs Go.RowKit Go.ChangeShapes
theorem own : ownKnob Tryd.prog.godebug = none := by kernel_rfl
theorem laidOut : laidOutB Tryd.prog = true := by kernel_rfl
theorem hmix : Tryd.prog.follows .mixedOrders = true := by kernel_rfl
def types : List Nat := [22, 5]
theorem glob (W : World) (h : laidMet Tryd.prog Rows.rlpDecodesRow.laid W) : Glob rlpG (E0 W) := globS W h
theorem main (av : List AV) (h : AVTs Tryd.prog Tryd.f4.params.toList av) : FnC Tryd.prog rlpG 4 av [] (.bool true) [] := by
  rw [show Tryd.f4.params.toList = [22] by kernel_rfl] at h
  obtain ⟨y0, r0, rfl, h0, q0⟩ := h.cons_inv
  obtain rfl := q0.nil_inv
  obtain ⟨x1, rfl, w1⟩ := AVT.rints_inv (e := 5) (k := .u8) h0 (by kernel_rfl) (by kernel_rfl) (of_decide_eq_true (by kernel_rfl))
  obtain ⟨n, hn⟩ := Go.Abs.Pure.RlpDecodes x1 w1
  exact Fc.call hmix n x1 true hn
set_option maxRecDepth 100000 in
theorem lifted (os : Os) (started : os.Started) (H : Type) (enc : TypeId × Value → H) :
    ReturnsInHanded {} Tryd.checked os 4 .any (fun w args => (Rows.rlpDecodesSpec.pre enc Tryd.prog Tryd.f4 [] false w args ∧ laidMetH Tryd.prog Rows.rlpDecodesRow.laid w) ∧ sizedMet enc Tryd.prog Tryd.f4 (OpenSpec.ofChange Rows.rlpDecodesSpec) false w args) (Rows.rlpDecodesSpec.post enc Tryd.prog Tryd.f4 false true false false) :=
  law_lifted_laid (C := Tryd.checked) (s := Rows.rlpDecodesSpec) (G := rlpG) (rt := 4) Rows.rlpDecodesRow.laid (fun t => types.contains t) own started (by kernel_rfl) Tryd.func4
    (ChangeSpec.witness_shaped (enc := enc) (C := Tryd.checked) (os := os) (X := fun w _ => laidMetH Tryd.prog Rows.rlpDecodesRow.laid w) false (World.laidAll Tryd.prog os Rows.rlpDecodesRow.laid) #[.slice none 0 0] 8 (World.laidAll_os _ _ _) (World.shaped_of_ZipB (by kernel_rfl) (by kernel_rfl)) (by kernel_rfl) (by kernel_rfl) (by kernel_rfl)
      (by rw [MakeChecks.laidMetH_plain _ _ _ (by kernel_rfl)]; exact laidMet_laidAll _ (by kernel_rfl) (by kernel_rfl)))
    (by kernel_rfl) laidOut (among (by kernel_rfl)) (fun t ht => by
      have key : (Tryd.f4.params.toList.all fun t => types.contains t && Tryd.prog.readableRec t && decide (t < Tryd.prog.types.size)) = true := by kernel_rfl
      have := List.all_eq_true.1 key t ht
      simp only [Bool.and_eq_true, decide_eq_true_eq] at this
      exact ⟨this.1.1, this.1.2, this.2⟩) rfl
    (fun ds hds => by
      rw [show Tryd.f4.params.size = 1 by kernel_rfl] at hds
      match ds, hds with
      | [d0], _ => rfl) (by kernel_rfl) (by kernel_rfl) glob main
theorem over : Rows.rlpDecodesRow.holds Tryd.pinned (OpenSpec.ofChange Rows.rlpDecodesSpec) :=
  OpenClaim.holds_of_wide 4 Tryd.f4 rfl rfl rfl rfl rfl rfl rfl ⟨rfl, rfl, rfl, rfl, rfl⟩ rfl rfl rfl rfl rfl (by kernel_rfl) Tryd.func4 (by kernel_rfl)
    (of_decide_eq_true (by kernel_rfl)) (by unfold Func.isWrapper; first | (rw [if_pos (by decide +kernel)]; kernel_rfl) | (rw [if_neg (by decide +kernel)]; exact ⟨rfl, rfl⟩))
    (fun os started H enc _ => lifted os started H enc)
end Go.Proofs.YtddcgjbaiojmcaaDoor.rlpDecodes
namespace Go.Proofs.YtddcgjbaiojmcaaDoor
/-- The row, under a short name, for the claim. -/
theorem rlpDecodes_holds : Rows.RlpDecodesSaid := rlpDecodes.over
/-- The tied card, for the claim. -/
theorem rlpDecodes_card : Rows.RlpDecodesCardSaid :=
  Claim7.holds_tied_plain_at .later [] [.sentinel, .sentinel, .sentinel] true (true, "cb79f52a2001134c984bf87e7843f333d62a290fad45d9cfe1ed96bc0e7b30f3") true
    rlpDecodes_holds (fun _ h => by cases h) (by kernel_rfl) (fun _ h => by cases h) rlpDecodes_row_tie rfl ⟨rfl, rfl⟩ (by kernel_rfl) rfl
    (fun f fn hf hfn => by
      obtain rfl : f = 4 := Option.some.inj ((show Tryd.prog.funcNamed Rows.rlpDecodesRow.func = some 4 by kernel_rfl).symm.trans hf) |>.symm
      obtain rfl : fn = Tryd.f4 := (Option.some.inj (Tryd.func4.symm.trans hfn)).symm
      refine ⟨by kernel_rfl, fun j t ht => ?_⟩
      have key : (Tryd.f4.params.toList.all fun t => Tryd.prog.wantsStandIn t == false) = true := by kernel_rfl
      have := List.all_eq_true.1 key t (by simpa using Array.mem_of_getElem? ht)
      have q : Tryd.prog.wantsStandIn t = false := by simpa using this
      exact q)
    (by kernel_rfl)
end Go.Proofs.YtddcgjbaiojmcaaDoor
#print axioms Go.Proofs.YtddcgjbaiojmcaaDoor.rlpDecodes_card
