/- The row of the law RlpLists: whatever the arguments, its function answers true, and they read as they did. No condition. -/
import Derived.Test.YtddcgjbaiojmcaaDoorAbsL7
import Derived.Test.YtddcgjbaiojmcaaDoorPuRlpLists1
import Derived.Test.YtddcgjbaiojmcaaDoorFnRlpLists1
import Derived.Test.YtddcgjbaiojmcaaDoorRows
import Derived.Test.YtddcgjbaiojmcaaDoorTie
import Derived.Test.YtddcgjbaiojmcaaDoorCards
import Derived.Lay
import Derived.SevenTiedAt
set_option linter.unusedVariables false
namespace Go.Proofs.YtddcgjbaiojmcaaDoor.rlpLists
open Go Go.Abs Go.RowKit Go.ChangeShapes
theorem own : ownKnob Tryd.prog.godebug = none := by kernel_rfl
theorem laidOut : laidOutB Tryd.prog = true := by kernel_rfl
theorem hmix : Tryd.prog.follows .mixedOrders = true := by kernel_rfl
def types : List Nat := [23, 25, 4, 22, 5]
noncomputable def fs25 : Array Field := match Tryd.prog.underlying 25 with | some (.struct fs) => fs | _ => #[]
theorem ty25 : fs25.toList.map (·.type) = [4, 22, 23] := by kernel_rfl
theorem glob (W : World) (h : laidMet Tryd.prog Rows.rlpListsRow.laid W) : Glob rlpG (E0 W) := globS W h
theorem main (av : List AV) (h : AVTs Tryd.prog Tryd.f7.params.toList av) : FnC Tryd.prog rlpG 7 av [] (.bool true) [] := by
  rw [show Tryd.f7.params.toList = [23, 25] by kernel_rfl] at h
  obtain ⟨y0, r0, rfl, h0, q0⟩ := h.cons_inv
  obtain ⟨y1, r1, rfl, h1, q1⟩ := q0.cons_inv
  obtain rfl := q1.nil_inv
  obtain ⟨x2, rfl, w2⟩ := AVT.robjs_inv (e := 25) (w := 3) h0 (by kernel_rfl) (by kernel_rfl) (of_decide_eq_true (by kernel_rfl)) (by kernel_rfl)
  have v2 := Go.Abs.Pure.items_rep w2
  obtain ⟨x3, rfl, g3⟩ := AVT.struct_inv (fs := fs25) h1 (by kernel_rfl)
  rw [ty25] at g3
  obtain ⟨y4, r4, rfl, h4, q4⟩ := g3.cons_inv
  obtain ⟨y5, r5, rfl, h5, q5⟩ := q4.cons_inv
  obtain ⟨y6, r6, rfl, h6, q6⟩ := q5.cons_inv
  obtain rfl := q6.nil_inv
  obtain ⟨x7, rfl⟩ := AVT.bool_inv h4 (by kernel_rfl)
  obtain ⟨x8, rfl, w8⟩ := AVT.rints_inv (e := 5) (k := .u8) h5 (by kernel_rfl) (by kernel_rfl) (of_decide_eq_true (by kernel_rfl))
  obtain ⟨x9, rfl, w9⟩ := AVT.robjs_inv (e := 25) (w := 3) h6 (by kernel_rfl) (by kernel_rfl) (of_decide_eq_true (by kernel_rfl)) (by kernel_rfl)
  have v9 := Go.Abs.Pure.items_rep w9
  obtain ⟨n, hn⟩ := Go.Abs.Pure.RlpLists x2 v2 x7 x8 w8 x9 v9
  exact Fe.call hmix n (x2, x7, x8, x9) true hn
set_option maxRecDepth 100000 in
theorem lifted (os : Os) (started : os.Started) (H : Type) (enc : TypeId × Value → H) :
    ReturnsInHanded {} Tryd.checked os 7 .any (fun w args => (Rows.rlpListsSpec.pre enc Tryd.prog Tryd.f7 [] false w args ∧ laidMetH Tryd.prog Rows.rlpListsRow.laid w) ∧ sizedMet enc Tryd.prog Tryd.f7 (OpenSpec.ofChange Rows.rlpListsSpec) false w args) (Rows.rlpListsSpec.post enc Tryd.prog Tryd.f7 false true false false) :=
  law_lifted_laid (C := Tryd.checked) (s := Rows.rlpListsSpec) (G := rlpG) (rt := 4) Rows.rlpListsRow.laid (fun t => types.contains t) own started (by kernel_rfl) Tryd.func7
    (ChangeSpec.witness_shaped (enc := enc) (C := Tryd.checked) (os := os) (X := fun w _ => laidMetH Tryd.prog Rows.rlpListsRow.laid w) false (World.laidAll Tryd.prog os Rows.rlpListsRow.laid) #[.slice none 0 0, .agg #[.bool false, .slice none 0 0, .slice none 0 0]] 8 (World.laidAll_os _ _ _) (World.shaped_of_ZipB (by kernel_rfl) (by kernel_rfl)) (by kernel_rfl) (by kernel_rfl) (by kernel_rfl)
      (by rw [MakeChecks.laidMetH_plain _ _ _ (by kernel_rfl)]; exact laidMet_laidAll _ (by kernel_rfl) (by kernel_rfl)))
    (by kernel_rfl) laidOut (among (by kernel_rfl)) (fun t ht => by
      have key : (Tryd.f7.params.toList.all fun t => types.contains t && Tryd.prog.readableRec t && decide (t < Tryd.prog.types.size)) = true := by kernel_rfl
      have := List.all_eq_true.1 key t ht
      simp only [Bool.and_eq_true, decide_eq_true_eq] at this
      exact ⟨this.1.1, this.1.2, this.2⟩) rfl
    (fun ds hds => by
      rw [show Tryd.f7.params.size = 2 by kernel_rfl] at hds
      match ds, hds with
      | [d0, d1], _ => rfl) (by kernel_rfl) (by kernel_rfl) glob main
theorem over : Rows.rlpListsRow.holds Tryd.pinned (OpenSpec.ofChange Rows.rlpListsSpec) :=
  OpenClaim.holds_of_wide 7 Tryd.f7 rfl rfl rfl rfl rfl rfl rfl ⟨rfl, rfl, rfl, rfl, rfl⟩ rfl rfl rfl rfl rfl (by kernel_rfl) Tryd.func7 (by kernel_rfl)
    (of_decide_eq_true (by kernel_rfl)) (by unfold Func.isWrapper; first | (rw [if_pos (by decide +kernel)]; kernel_rfl) | (rw [if_neg (by decide +kernel)]; exact ⟨rfl, rfl⟩))
    (fun os started H enc _ => lifted os started H enc)
end Go.Proofs.YtddcgjbaiojmcaaDoor.rlpLists
namespace Go.Proofs.YtddcgjbaiojmcaaDoor
/-- The row, under a short name, for the claim. -/
theorem rlpLists_holds : Rows.RlpListsSaid := rlpLists.over
/-- The tied card, for the claim. -/
theorem rlpLists_card : Rows.RlpListsCardSaid :=
  Claim7.holds_tied_plain_at .later [] [.sentinel, .sentinel, .sentinel] true (true, "cb79f52a2001134c984bf87e7843f333d62a290fad45d9cfe1ed96bc0e7b30f3") true
    rlpLists_holds (fun _ h => by cases h) (by kernel_rfl) (fun _ h => by cases h) rlpLists_row_tie rfl ⟨rfl, rfl⟩ (by kernel_rfl) rfl
    (fun f fn hf hfn => by
      obtain rfl : f = 7 := Option.some.inj ((show Tryd.prog.funcNamed Rows.rlpListsRow.func = some 7 by kernel_rfl).symm.trans hf) |>.symm
      obtain rfl : fn = Tryd.f7 := (Option.some.inj (Tryd.func7.symm.trans hfn)).symm
      refine ⟨by kernel_rfl, fun j t ht => ?_⟩
      have key : (Tryd.f7.params.toList.all fun t => Tryd.prog.wantsStandIn t == false) = true := by kernel_rfl
      have := List.all_eq_true.1 key t (by simpa using Array.mem_of_getElem? ht)
      have q : Tryd.prog.wantsStandIn t = false := by simpa using this
      exact q)
    (by kernel_rfl)
end Go.Proofs.YtddcgjbaiojmcaaDoor
#print axioms Go.Proofs.YtddcgjbaiojmcaaDoor.rlpLists_card
