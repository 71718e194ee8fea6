/- The row of the law RlpNumbers: whatever the arguments, its function answers true, and they read as they did. No condition. -/
import Derived.Test.YtddcgjbaiojmcaaDoorAbsL7
import Derived.Test.YtddcgjbaiojmcaaDoorPuRlpNumbers1
import Derived.Test.YtddcgjbaiojmcaaDoorFnRlpNumbers1
import Derived.Test.YtddcgjbaiojmcaaDoorRows
import Derived.Test.YtddcgjbaiojmcaaDoorTie
import Derived.Test.YtddcgjbaiojmcaaDoorCards
import Derived.Lay
import Derived.SevenTiedAt
set_option linter.unusedVariables false
namespace Go.Proofs.YtddcgjbaiojmcaaDoor.rlpNumbers
open Go Go.Abs Go.RowKit Go.ChangeShapes
theorem own : ownKnob Tryd.prog.godebug = none := by kernel_rfl
theorem laidOut : laidOutB Tryd.prog = true := by kernel_rfl
theorem hmix : Tryd.prog.follows .mixedOrders = true := by kernel_rfl
def types : List Nat := [26]
theorem glob (W : World) (h : laidMet Tryd.prog Rows.rlpNumbersRow.laid W) : Glob rlpG (E0 W) := globS W h
theorem main (av : List AV) (h : AVTs Tryd.prog Tryd.f8.params.toList av) : FnC Tryd.prog rlpG 8 av [] (.bool true) [] := by
  rw [show Tryd.f8.params.toList = [26] by kernel_rfl] at h
  obtain ⟨y0, r0, rfl, h0, q0⟩ := h.cons_inv
  obtain rfl := q0.nil_inv
  obtain ⟨x1, rfl, w1⟩ := AVT.int_inv (k := .u64) h0 (by kernel_rfl)
  obtain ⟨n, hn⟩ := Go.Abs.Pure.RlpNumbers x1 w1
  exact Fc.call hmix n x1 true hn
set_option maxRecDepth 100000 in
theorem lifted (os : Os) (started : os.Started) (H : Type) (enc : TypeId × Value → H) :
    ReturnsInHanded {} Tryd.checked os 8 .any (fun w args => (Rows.rlpNumbersSpec.pre enc Tryd.prog Tryd.f8 [] false w args ∧ laidMetH Tryd.prog Rows.rlpNumbersRow.laid w) ∧ sizedMet enc Tryd.prog Tryd.f8 (OpenSpec.ofChange Rows.rlpNumbersSpec) false w args) (Rows.rlpNumbersSpec.post enc Tryd.prog Tryd.f8 false true false false) :=
  law_lifted_laid (C := Tryd.checked) (s := Rows.rlpNumbersSpec) (G := rlpG) (rt := 4) Rows.rlpNumbersRow.laid (fun t => types.contains t) own started (by kernel_rfl) Tryd.func8
    (ChangeSpec.witness_shaped (enc := enc) (C := Tryd.checked) (os := os) (X := fun w _ => laidMetH Tryd.prog Rows.rlpNumbersRow.laid w) false (World.laidAll Tryd.prog os Rows.rlpNumbersRow.laid) #[.int .u64 0] 8 (World.laidAll_os _ _ _) (World.shaped_of_ZipB (by kernel_rfl) (by kernel_rfl)) (by kernel_rfl) (by kernel_rfl) (by kernel_rfl)
      (by rw [MakeChecks.laidMetH_plain _ _ _ (by kernel_rfl)]; exact laidMet_laidAll _ (by kernel_rfl) (by kernel_rfl)))
    (by kernel_rfl) laidOut (among (by kernel_rfl)) (fun t ht => by
      have key : (Tryd.f8.params.toList.all fun t => types.contains t && Tryd.prog.readableRec t && decide (t < Tryd.prog.types.size)) = true := by kernel_rfl
      have := List.all_eq_true.1 key t ht
      simp only [Bool.and_eq_true, decide_eq_true_eq] at this
      exact ⟨this.1.1, this.1.2, this.2⟩) rfl
    (fun ds hds => by
      rw [show Tryd.f8.params.size = 1 by kernel_rfl] at hds
      match ds, hds with
      | [d0], _ => rfl) (by kernel_rfl) (by kernel_rfl) glob main
theorem over : Rows.rlpNumbersRow.holds Tryd.pinned (OpenSpec.ofChange Rows.rlpNumbersSpec) :=
  OpenClaim.holds_of_wide 8 Tryd.f8 rfl rfl rfl rfl rfl rfl rfl ⟨rfl, rfl, rfl, rfl, rfl⟩ rfl rfl rfl rfl rfl (by kernel_rfl) Tryd.func8 (by kernel_rfl)
    (of_decide_eq_true (by kernel_rfl)) (by unfold Func.isWrapper; first | (rw [if_pos (by decide +kernel)]; kernel_rfl) | (rw [if_neg (by decide +kernel)]; exact ⟨rfl, rfl⟩))
    (fun os started H enc _ => lifted os started H enc)
end Go.Proofs.YtddcgjbaiojmcaaDoor.rlpNumbers
namespace Go.Proofs.YtddcgjbaiojmcaaDoor
/-- The row, under a short name, for the claim. -/
theorem rlpNumbers_holds : Rows.RlpNumbersSaid := rlpNumbers.over
/-- The tied card, for the claim. -/
theorem rlpNumbers_card : Rows.RlpNumbersCardSaid :=
  Claim7.holds_tied_plain_at .later [] [.sentinel, .sentinel, .sentinel] true (true, "cb79f52a2001134c984bf87e7843f333d62a290fad45d9cfe1ed96bc0e7b30f3") true
    rlpNumbers_holds (fun _ h => by cases h) (by kernel_rfl) (fun _ h => by cases h) rlpNumbers_row_tie rfl ⟨rfl, rfl⟩ (by kernel_rfl) rfl
    (fun f fn hf hfn => by
      obtain rfl : f = 8 := Option.some.inj ((show Tryd.prog.funcNamed Rows.rlpNumbersRow.func = some 8 by kernel_rfl).symm.trans hf) |>.symm
      obtain rfl : fn = Tryd.f8 := (Option.some.inj (Tryd.func8.symm.trans hfn)).symm
      refine ⟨by kernel_rfl, fun j t ht => ?_⟩
      have key : (Tryd.f8.params.toList.all fun t => Tryd.prog.wantsStandIn t == false) = true := by kernel_rfl
      have := List.all_eq_true.1 key t (by simpa using Array.mem_of_getElem? ht)
      have q : Tryd.prog.wantsStandIn t = false := by simpa using this
      exact q)
    (by kernel_rfl)
end Go.Proofs.YtddcgjbaiojmcaaDoor
#print axioms Go.Proofs.YtddcgjbaiojmcaaDoor.rlpNumbers_card
