/- The row of the law DeskNonces: whatever the arguments, its function answers true, and they read as they did. No condition. -/
import Derived.Test.YtkknbhapkdgcjaaGreatDoorAbsQ8
import Derived.Test.YtkknbhapkdgcjaaGreatDoorPuDeskNonces1
import Derived.Test.YtkknbhapkdgcjaaGreatDoorFnDeskNonces5
import Derived.Test.YtkknbhapkdgcjaaGreatDoorRows
import Derived.Test.YtkknbhapkdgcjaaGreatDoorTie
import Derived.Test.YtkknbhapkdgcjaaGreatDoorCards
import Derived.Lay
import Derived.SevenTiedAt
set_option linter.unusedVariables false
namespace Go.Proofs.YtkknbhapkdgcjaaGreatDoor.deskNonces
open Go Go.Abs Go.RowKit Go.ChangeShapes
theorem own : ownKnob Tryz.prog.godebug = none := by kernel_rfl
theorem laidOut : laidOutB Tryz.prog = true := by kernel_rfl
theorem hmix : Tryz.prog.follows .mixedOrders = true := by kernel_rfl
def types : List Nat := [23, 5, 26, 24]
noncomputable def laidW (os : Os) : World := (handWorld Tryz.prog os 3 (.iface 158 (.agg #[.pointer (some ⟨8, 91, none⟩)]))).layVars Tryz.prog (Rows.deskNoncesRow.laid.filter fun x => x.2.handleName?.isNone)
theorem glob (W : World) (h : laidMetH Tryz.prog Rows.deskNoncesRow.laid W) : Glob dskG (E0 W) := globZ W h
theorem main (av : List AV) (h : AVTs Tryz.prog Tryz.f3.params.toList av) : FnC Tryz.prog dskG 3 av [] (.bool true) [] := by
 rw [show Tryz.f3.params.toList = [23, 26, 5, 23, 26] by kernel_rfl] at h
 obtain ⟨y0, r0, rfl, h0, q0⟩ := h.cons_inv
 obtain ⟨y1, r1, rfl, h1, q1⟩ := q0.cons_inv
 obtain ⟨y2, r2, rfl, h2, q2⟩ := q1.cons_inv
 obtain ⟨y3, r3, rfl, h3, q3⟩ := q2.cons_inv
 obtain ⟨y4, r4, rfl, h4, q4⟩ := q3.cons_inv
 obtain rfl := q4.nil_inv
 obtain ⟨x5, rfl, w5⟩ := AVT.ints_inv (n := 20) (e := 5) (k := .u8) h0 (by kernel_rfl) (by kernel_rfl)
 obtain ⟨x6, rfl, w6⟩ := AVT.ints_inv (n := 4) (e := 24) (k := .u64) h1 (by kernel_rfl) (by kernel_rfl)
 obtain ⟨x7, rfl, w7⟩ := AVT.int_inv (k := .u8) h2 (by kernel_rfl)
 obtain ⟨x8, rfl, w8⟩ := AVT.ints_inv (n := 20) (e := 5) (k := .u8) h3 (by kernel_rfl) (by kernel_rfl)
 obtain ⟨x9, rfl, w9⟩ := AVT.ints_inv (n := 4) (e := 24) (k := .u64) h4 (by kernel_rfl) (by kernel_rfl)
 obtain ⟨n, hn⟩ := Go.Abs.Pure.DeskNonces x5 w5 x6 w6 x7 w7 x8 w8 x9 w9
 exact Fv.call hmix n (x5, x6, x7, x8, x9) true hn
set_option maxRecDepth 100000 in
theorem lifted (os : Os) (started : os.Started) (H : Type) (enc : TypeId × Value → H) :
  ReturnsInHanded {} Tryz.checked os 3 .any (fun w args => (Rows.deskNoncesSpec.pre enc Tryz.prog Tryz.f3 [] false w args ∧ laidMetH Tryz.prog Rows.deskNoncesRow.laid w) ∧ sizedMet enc Tryz.prog Tryz.f3 (OpenSpec.ofChange Rows.deskNoncesSpec) false w args) (Rows.deskNoncesSpec.post enc Tryz.prog Tryz.f3 false true false false) :=
 law_lifted_laidH (C := Tryz.checked) (s := Rows.deskNoncesSpec) (G := dskG) (rt := 4) Rows.deskNoncesRow.laid (fun t => types.contains t) own started (by kernel_rfl) Tryz.func3
  (ChangeSpec.witness_shaped (enc := enc) (C := Tryz.checked) (os := os) (X := fun w _ => laidMetH Tryz.prog Rows.deskNoncesRow.laid w) false (laidW os) #[.agg #[.int .u8 0, .int .u8 0, .int .u8 0, .int .u8 0, .int .u8 0, .int .u8 0, .int .u8 0, .int .u8 0, .int .u8 0, .int .u8 0, .int .u8 0, .int .u8 0, .int .u8 0, .int .u8 0, .int .u8 0, .int .u8 0, .int .u8 0, .int .u8 0, .int .u8 0, .int .u8 0], .agg #[.int .u64 0, .int .u64 0, .int .u64 0, .int .u64 0], .int .u8 0, .agg #[.int .u8 0, .int .u8 0, .int .u8 0, .int .u8 0, .int .u8 0, .int .u8 0, .int .u8 0, .int .u8 0, .int .u8 0, .int .u8 0, .int .u8 0, .int .u8 0, .int .u8 0, .int .u8 0, .int .u8 0, .int .u8 0, .int .u8 0, .int .u8 0, .int .u8 0, .int .u8 0], .agg #[.int .u64 0, .int .u64 0, .int .u64 0, .int .u64 0]] 8 (World.layVars_os _ _ _) (World.shaped_of_ZipB (by kernel_rfl) (by kernel_rfl)) (by kernel_rfl) (by kernel_rfl) (by kernel_rfl)
   (laidMetH_of_parts (laidMet_from _ (by kernel_rfl) (by kernel_rfl)) (by kernel_rfl)))
  laidOut (among (by kernel_rfl)) (fun t ht => by
   have key : (Tryz.f3.params.toList.all fun t => types.contains t && Tryz.prog.readableRec t && decide (t < Tryz.prog.types.size)) = true := by kernel_rfl
   have := List.all_eq_true.1 key t ht
   simp only [Bool.and_eq_true, decide_eq_true_eq] at this
   exact ⟨this.1.1, this.1.2, this.2⟩) rfl
  (fun ds hds => by
   rw [show Tryz.f3.params.size = 5 by kernel_rfl] at hds
   match ds, hds with
   | [d0, d1, d2, d3, d4], _ => rfl) (by kernel_rfl) (by kernel_rfl) glob main
theorem over : Rows.deskNoncesRow.holds Tryz.pinned (OpenSpec.ofChange Rows.deskNoncesSpec) :=
 OpenClaim.holds_of_wide 3 Tryz.f3 rfl rfl rfl rfl rfl rfl rfl ⟨rfl, rfl, rfl, rfl, rfl⟩ rfl rfl rfl rfl rfl (by kernel_rfl) Tryz.func3 (by kernel_rfl)
  (of_decide_eq_true (by kernel_rfl)) (by unfold Func.isWrapper; first | (rw [if_pos (by decide +kernel)]; kernel_rfl) | (rw [if_neg (by decide +kernel)]; exact ⟨rfl, rfl⟩))
  (fun os started H enc _ => lifted os started H enc)
end Go.Proofs.YtkknbhapkdgcjaaGreatDoor.deskNonces
namespace Go.Proofs.YtkknbhapkdgcjaaGreatDoor
/-- The row, under a short name, for the claim. -/
theorem deskNonces_holds : Rows.DeskNoncesSaid := deskNonces.over
/-- The tied card, for the claim. -/
theorem deskNonces_card : Rows.DeskNoncesCardSaid :=
 Claim7.holds_tied_plain_at .later [] [.handle, .data, .data, .data, .sentinel, .sentinel, .sentinel, .sentinel] true (true, "114b0f3114e8b9731fbadd0b2ef39c3b82fe5f1b296fe9fdf95d8440a305e9b9") true
  deskNonces_holds (fun _ h => by cases h) (by kernel_rfl) (fun _ h => by cases h) deskNonces_row_tie rfl ⟨rfl, rfl⟩ (by kernel_rfl) rfl
  (fun f fn hf hfn => by
   obtain rfl : f = 3 := Option.some.inj ((show Tryz.prog.funcNamed Rows.deskNoncesRow.func = some 3 by kernel_rfl).symm.trans hf) |>.symm
   obtain rfl : fn = Tryz.f3 := (Option.some.inj (Tryz.func3.symm.trans hfn)).symm
   refine ⟨by kernel_rfl, fun j t ht => ?_⟩
   have key : (Tryz.f3.params.toList.all fun t => Tryz.prog.wantsStandIn t == false) = true := by kernel_rfl
   have := List.all_eq_true.1 key t (by simpa using Array.mem_of_getElem? ht)
   have q : Tryz.prog.wantsStandIn t = false := by simpa using this
   exact q)
  (by kernel_rfl)
end Go.Proofs.YtkknbhapkdgcjaaGreatDoor
#print axioms Go.Proofs.YtkknbhapkdgcjaaGreatDoor.deskNonces_card
