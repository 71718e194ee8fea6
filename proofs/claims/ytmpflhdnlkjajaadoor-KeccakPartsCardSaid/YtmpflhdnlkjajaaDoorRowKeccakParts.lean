/- The row of the law KeccakParts: whatever the arguments, its function answers true, and they read as they did. No condition. -/
import Derived.Test.YtmpflhdnlkjajaaDoorAbsE6
import Derived.Test.YtmpflhdnlkjajaaDoorPuKeccakParts1
import Derived.Test.YtmpflhdnlkjajaaDoorFnKeccakParts2
import Derived.Test.YtmpflhdnlkjajaaDoorRows
import Derived.Test.YtmpflhdnlkjajaaDoorTie
import Derived.Test.YtmpflhdnlkjajaaDoorCards
import Derived.Lay
import Derived.SevenTiedAt
set_option linter.unusedVariables false
namespace Go.Proofs.YtmpflhdnlkjajaaDoor.keccakParts
open Go Go.Abs Go.RowKit Go.ChangeShapes
theorem own : ownKnob Tryd.prog.godebug = none := by kernel_rfl
theorem laidOut : laidOutB Tryd.prog = true := by kernel_rfl
theorem hmix : Tryd.prog.follows .mixedOrders = true := by kernel_rfl
def types : List Nat := [29, 26, 24]
theorem glob (W : World) (h : laidMet Tryd.prog Rows.keccakPartsRow.laid W) : Glob kecG (E0 W) := by
  obtain ⟨ps, hL, _⟩ := h
  obtain ⟨g0, t0, c0, f0, p0, q0, a0, b0, d0, e0, hL, _⟩ := hL
  obtain ⟨g1, t1, c1, f1, p1, q1, a1, b1, d1, e1, hL, _⟩ := hL
  obtain ⟨g2, t2, c2, f2, p2, q2, a2, b2, d2, e2, hL, _⟩ := hL
  obtain rfl : g0 = 0 := Option.some.inj (a0.symm.trans (by kernel_rfl))
  obtain rfl : t0 = 48 := Option.some.inj (b0.symm.trans (by kernel_rfl))
  have v0 := glob_ints a0 d0 (cells_of_ints (n := 24) (e := 24) (k := .u64) (l := kecKeys) (by kernel_rfl) (by kernel_rfl) (by kernel_rfl) (by kernel_rfl) rfl e0) rfl
  obtain rfl : g1 = 2 := Option.some.inj (a1.symm.trans (by kernel_rfl))
  obtain rfl : t1 = 50 := Option.some.inj (b1.symm.trans (by kernel_rfl))
  have v1 := glob_ints a1 d1 (cells_of_ints (n := 24) (e := 3) (k := .i64) (l := kecTurns) (by kernel_rfl) (by kernel_rfl) (by kernel_rfl) (by kernel_rfl) rfl e1) rfl
  obtain rfl : g2 = 1 := Option.some.inj (a2.symm.trans (by kernel_rfl))
  obtain rfl : t2 = 50 := Option.some.inj (b2.symm.trans (by kernel_rfl))
  have v2 := glob_ints a2 d2 (cells_of_ints (n := 24) (e := 3) (k := .i64) (l := kecTo) (by kernel_rfl) (by kernel_rfl) (by kernel_rfl) (by kernel_rfl) rfl e2) rfl
  exact fun g => match g with
    | 0 => v0
    | 1 => v2
    | 2 => v1
    | _ + 3 => trivial
theorem main (av : List AV) (h : AVTs Tryd.prog Tryd.f5.params.toList av) : FnC Tryd.prog kecG 5 av [] (.bool true) [] := by
  rw [show Tryd.f5.params.toList = [29, 29] by kernel_rfl] at h
  obtain ⟨y0, r0, rfl, h0, q0⟩ := h.cons_inv
  obtain ⟨y1, r1, rfl, h1, q1⟩ := q0.cons_inv
  obtain rfl := q1.nil_inv
  obtain ⟨x2, rfl, w2⟩ := AVT.robjs_inv (e := 26) (w := 4) h0 (by kernel_rfl) (by kernel_rfl) (of_decide_eq_true (by kernel_rfl)) (by kernel_rfl)
  have v2 : x2.length ≤ 140737488351232 ∧ ∀ x ∈ x2, ∃ r, x = AV.ints .u64 4 r ∧ InA .u64 4 r := ⟨w2.1, fun x hx => AVT.ints_inv (n := 4) (e := 24) (k := .u64) (w2.2 x hx) (by kernel_rfl) (by kernel_rfl)⟩
  obtain ⟨x3, rfl, w3⟩ := AVT.robjs_inv (e := 26) (w := 4) h1 (by kernel_rfl) (by kernel_rfl) (of_decide_eq_true (by kernel_rfl)) (by kernel_rfl)
  have v3 : x3.length ≤ 140737488351232 ∧ ∀ x ∈ x3, ∃ r, x = AV.ints .u64 4 r ∧ InA .u64 4 r := ⟨w3.1, fun x hx => AVT.ints_inv (n := 4) (e := 24) (k := .u64) (w3.2 x hx) (by kernel_rfl) (by kernel_rfl)⟩
  obtain ⟨n, hn⟩ := Go.Abs.Pure.KeccakParts x2 v2 x3 v3
  exact l02_KeccakParts.call hmix n (x2, x3) true hn
set_option maxRecDepth 100000 in
theorem lifted (os : Os) (started : os.Started) (H : Type) (enc : TypeId × Value → H) :
    ReturnsInHanded {} Tryd.checked os 5 .any (fun w args => (Rows.keccakPartsSpec.pre enc Tryd.prog Tryd.f5 [] false w args ∧ laidMetH Tryd.prog Rows.keccakPartsRow.laid w) ∧ sizedMet enc Tryd.prog Tryd.f5 (OpenSpec.ofChange Rows.keccakPartsSpec) false w args) (Rows.keccakPartsSpec.post enc Tryd.prog Tryd.f5 false true false false) :=
  law_lifted_laid (C := Tryd.checked) (s := Rows.keccakPartsSpec) (G := kecG) (rt := 4) Rows.keccakPartsRow.laid (fun t => types.contains t) own started (by kernel_rfl) Tryd.func5
    (ChangeSpec.witness_shaped (enc := enc) (C := Tryd.checked) (os := os) (X := fun w _ => laidMetH Tryd.prog Rows.keccakPartsRow.laid w) false (World.laidAll Tryd.prog os Rows.keccakPartsRow.laid) #[.slice none 0 0, .slice none 0 0] 8 (World.laidAll_os _ _ _) (World.shaped_of_ZipB (by kernel_rfl) (by kernel_rfl)) (by kernel_rfl) (by kernel_rfl) (by kernel_rfl)
      (by rw [MakeChecks.laidMetH_plain _ _ _ (by kernel_rfl)]; exact laidMet_laidAll _ (by kernel_rfl) (by kernel_rfl)))
    (by kernel_rfl) laidOut (among (by kernel_rfl)) (fun t ht => by
      have key : (Tryd.f5.params.toList.all fun t => types.contains t && Tryd.prog.readableRec t && decide (t < Tryd.prog.types.size)) = true := by kernel_rfl
      have := List.all_eq_true.1 key t ht
      simp only [Bool.and_eq_true, decide_eq_true_eq] at this
      exact ⟨this.1.1, this.1.2, this.2⟩) rfl
    (fun ds hds => by
      rw [show Tryd.f5.params.size = 2 by kernel_rfl] at hds
      match ds, hds with
      | [d0, d1], _ => rfl) (by kernel_rfl) (by kernel_rfl) glob main
theorem over : Rows.keccakPartsRow.holds Tryd.pinned (OpenSpec.ofChange Rows.keccakPartsSpec) :=
  OpenClaim.holds_of_wide 5 Tryd.f5 rfl rfl rfl rfl rfl rfl rfl ⟨rfl, rfl, rfl, rfl, rfl⟩ rfl rfl rfl rfl rfl (by kernel_rfl) Tryd.func5 (by kernel_rfl)
    (of_decide_eq_true (by kernel_rfl)) (by unfold Func.isWrapper; first | (rw [if_pos (by decide +kernel)]; kernel_rfl) | (rw [if_neg (by decide +kernel)]; exact ⟨rfl, rfl⟩))
    (fun os started H enc _ => lifted os started H enc)
end Go.Proofs.YtmpflhdnlkjajaaDoor.keccakParts
namespace Go.Proofs.YtmpflhdnlkjajaaDoor
/-- The row, under a short name, for the claim. -/
theorem keccakParts_holds : Rows.KeccakPartsSaid := keccakParts.over
/-- The tied card, for the claim. -/
theorem keccakParts_card : Rows.KeccakPartsCardSaid :=
  Claim7.holds_tied_plain_at .later [] [.data, .data, .data] true (true, "1723ce0b03ce6712b84afb7681f4f297f9b2cf96198afd303efa85ef45587184") false
    keccakParts_holds (fun _ h => by cases h) (by kernel_rfl) (fun _ h => by cases h) keccakParts_row_tie rfl ⟨rfl, rfl⟩ (by kernel_rfl) rfl
    (fun f fn hf hfn => by
      obtain rfl : f = 5 := Option.some.inj ((show Tryd.prog.funcNamed Rows.keccakPartsRow.func = some 5 by kernel_rfl).symm.trans hf) |>.symm
      obtain rfl : fn = Tryd.f5 := (Option.some.inj (Tryd.func5.symm.trans hfn)).symm
      refine ⟨by kernel_rfl, fun j t ht => ?_⟩
      have key : (Tryd.f5.params.toList.all fun t => Tryd.prog.wantsStandIn t == false) = true := by kernel_rfl
      have := List.all_eq_true.1 key t (by simpa using Array.mem_of_getElem? ht)
      have q : Tryd.prog.wantsStandIn t = false := by simpa using this
      exact q)
    (by kernel_rfl)
end Go.Proofs.YtmpflhdnlkjajaaDoor
#print axioms Go.Proofs.YtmpflhdnlkjajaaDoor.keccakParts_card
