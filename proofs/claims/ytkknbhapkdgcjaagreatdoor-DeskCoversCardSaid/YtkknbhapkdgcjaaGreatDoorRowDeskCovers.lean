/- The row of the law DeskCovers: whatever the arguments, its function answers true, and they read as they did. No condition. -/
import Derived.Test.YtkknbhapkdgcjaaGreatDoorAbsC7
import Derived.Test.YtkknbhapkdgcjaaGreatDoorPuDeskCovers1
import Derived.Test.YtkknbhapkdgcjaaGreatDoorFnDeskCovers7
import Derived.Test.YtkknbhapkdgcjaaGreatDoorRows
import Derived.Test.YtkknbhapkdgcjaaGreatDoorTie
import Derived.Test.YtkknbhapkdgcjaaGreatDoorCards
import Derived.Lay
import Derived.SevenTiedAt
set_option linter.unusedVariables false
namespace Go.Proofs.YtkknbhapkdgcjaaGreatDoor.deskCovers
open Go Go.Abs Go.RowKit Go.ChangeShapes
theorem own : ownKnob Tryz.prog.godebug = none := by kernel_rfl
theorem laidOut : laidOutB Tryz.prog = true := by kernel_rfl
theorem hmix : Tryz.prog.follows .mixedOrders = true := by kernel_rfl
def types : List Nat := [33, 39, 5, 23, 26, 24, 4, 37]
noncomputable def fs39 : Array Field := match Tryz.prog.underlying 39 with | some (.struct fs) => fs | _ => #[]
theorem ty39 : fs39.toList.map (·.type) = [5, 23, 23, 26, 5, 5, 26, 26, 24, 4, 37] := by kernel_rfl
noncomputable def laidW (os : Os) : World := (zLp Tryz.prog os 3 (.iface 158 (.agg #[.pointer (some ⟨8, 91, none⟩)]))).layVars Tryz.prog (Rows.deskCoversRow.laid.filter fun x => x.2.handleName?.isNone)
theorem glob (W : World) (h : laidMetH Tryz.prog Rows.deskCoversRow.laid W) : Glob zI (E0 W) := globZ W h
theorem main (av : List AV) (h : AVTs Tryz.prog Tryz.f4.params.toList av) : FnC Tryz.prog zI 4 av [] (.bool true) [] := by
 rw [show Tryz.f4.params.toList = [33] by kernel_rfl] at h
 obtain ⟨y0, r0, rfl, h0, q0⟩ := h.cons_inv
 obtain rfl := q0.nil_inv
 obtain ⟨x1, rfl, w1⟩ := AVT.robjs_inv (e := 39) (w := 58) h0 (by kernel_rfl) (by kernel_rfl) (of_decide_eq_true (by kernel_rfl)) (by kernel_rfl)
 have v1 : x1.length ≤ 140737488351232 ∧ ∀ z ∈ x1, ∃ c0 c1 c2 c3 c4 c5 c6 c7 c8 c9 c10, z = AV.agg [.int .u8 c0, .ints .u8 20 c1, .ints .u8 20 c2, .ints .u64 4 c3, .int .u8 c4, .int .u8 c5, .ints .u64 4 c6, .ints .u64 4 c7, .int .u64 c8, .bool c9, .rints .u8 c10] ∧ InK .u8 c0 ∧ InA .u8 20 c1 ∧ InA .u8 20 c2 ∧ InA .u64 4 c3 ∧ InK .u8 c4 ∧ InK .u8 c5 ∧ InA .u64 4 c6 ∧ InA .u64 4 c7 ∧ InK .u64 c8 ∧ InS .u8 c10 := ⟨w1.1, fun z hz => by
  obtain ⟨x2, rfl, g2⟩ := AVT.struct_inv (fs := fs39) (w1.2 z hz) (by kernel_rfl)
  rw [ty39] at g2
  obtain ⟨y3, r3, rfl, h3, q3⟩ := g2.cons_inv
  obtain ⟨y4, r4, rfl, h4, q4⟩ := q3.cons_inv
  obtain ⟨y5, r5, rfl, h5, q5⟩ := q4.cons_inv
  obtain ⟨y6, r6, rfl, h6, q6⟩ := q5.cons_inv
  obtain ⟨y7, r7, rfl, h7, q7⟩ := q6.cons_inv
  obtain ⟨y8, r8, rfl, h8, q8⟩ := q7.cons_inv
  obtain ⟨y9, r9, rfl, h9, q9⟩ := q8.cons_inv
  obtain ⟨y10, r10, rfl, h10, q10⟩ := q9.cons_inv
  obtain ⟨y11, r11, rfl, h11, q11⟩ := q10.cons_inv
  obtain ⟨y12, r12, rfl, h12, q12⟩ := q11.cons_inv
  obtain ⟨y13, r13, rfl, h13, q13⟩ := q12.cons_inv
  obtain rfl := q13.nil_inv
  obtain ⟨x14, rfl, w14⟩ := AVT.int_inv (k := .u8) h3 (by kernel_rfl)
  obtain ⟨x15, rfl, w15⟩ := AVT.ints_inv (n := 20) (e := 5) (k := .u8) h4 (by kernel_rfl) (by kernel_rfl)
  obtain ⟨x16, rfl, w16⟩ := AVT.ints_inv (n := 20) (e := 5) (k := .u8) h5 (by kernel_rfl) (by kernel_rfl)
  obtain ⟨x17, rfl, w17⟩ := AVT.ints_inv (n := 4) (e := 24) (k := .u64) h6 (by kernel_rfl) (by kernel_rfl)
  obtain ⟨x18, rfl, w18⟩ := AVT.int_inv (k := .u8) h7 (by kernel_rfl)
  obtain ⟨x19, rfl, w19⟩ := AVT.int_inv (k := .u8) h8 (by kernel_rfl)
  obtain ⟨x20, rfl, w20⟩ := AVT.ints_inv (n := 4) (e := 24) (k := .u64) h9 (by kernel_rfl) (by kernel_rfl)
  obtain ⟨x21, rfl, w21⟩ := AVT.ints_inv (n := 4) (e := 24) (k := .u64) h10 (by kernel_rfl) (by kernel_rfl)
  obtain ⟨x22, rfl, w22⟩ := AVT.int_inv (k := .u64) h11 (by kernel_rfl)
  obtain ⟨x23, rfl⟩ := AVT.bool_inv h12 (by kernel_rfl)
  obtain ⟨x24, rfl, w24⟩ := AVT.rints_inv (e := 5) (k := .u8) h13 (by kernel_rfl) (by kernel_rfl) (of_decide_eq_true (by kernel_rfl))
  exact ⟨x14, x15, x16, x17, x18, x19, x20, x21, x22, x23, x24, rfl, w14, w15, w16, w17, w18, w19, w20, w21, w22, w24⟩⟩
 obtain ⟨n, hn⟩ := Go.Abs.Pure.DeskCovers x1 v1
 exact Fag.call hmix n x1 true hn
set_option maxRecDepth 100000 in
theorem lifted (os : Os) (started : os.Started) (H : Type) (enc : TypeId × Value → H) :
  ReturnsInHanded {} Tryz.checked os 4 .any (fun w args => (Rows.deskCoversSpec.pre enc Tryz.prog Tryz.f4 [] false w args ∧ laidMetH Tryz.prog Rows.deskCoversRow.laid w) ∧ sizedMet enc Tryz.prog Tryz.f4 (OpenSpec.ofChange Rows.deskCoversSpec) false w args) (Rows.deskCoversSpec.post enc Tryz.prog Tryz.f4 false true false false) :=
 zEP (C := Tryz.checked) (s := Rows.deskCoversSpec) (G := zI) (rt := 4) Rows.deskCoversRow.laid (fun t => types.contains t) own started (by kernel_rfl) Tryz.func4
  (ChangeSpec.witness_shaped (enc := enc) (C := Tryz.checked) (os := os) (X := fun w _ => laidMetH Tryz.prog Rows.deskCoversRow.laid w) false (laidW os) #[.slice none 0 0] 8 (World.layVars_os _ _ _) (World.shaped_of_ZipB (by kernel_rfl) (by kernel_rfl)) (by kernel_rfl) (by kernel_rfl) (by kernel_rfl)
   (laidMetH_of_parts (zId _ (by kernel_rfl) (by kernel_rfl)) (by kernel_rfl)))
  laidOut (zKQ (by kernel_rfl)) (fun t ht => by
   have key : (Tryz.f4.params.toList.all fun t => types.contains t && Tryz.prog.readableRec t && decide (t < Tryz.prog.types.size)) = true := by kernel_rfl
   have := List.all_eq_true.1 key t ht
   simp only [Bool.and_eq_true, decide_eq_true_eq] at this
   exact ⟨this.1.1, this.1.2, this.2⟩) rfl
  (fun ds hds => by
   rw [show Tryz.f4.params.size = 1 by kernel_rfl] at hds
   match ds, hds with
   | [d0], _ => rfl) (by kernel_rfl) (by kernel_rfl) glob main
theorem over : Rows.deskCoversRow.holds Tryz.pinned (OpenSpec.ofChange Rows.deskCoversSpec) :=
 OpenClaim.holds_of_wide 4 Tryz.f4 rfl rfl rfl rfl rfl rfl rfl ⟨rfl, rfl, rfl, rfl, rfl⟩ rfl rfl rfl rfl rfl (by kernel_rfl) Tryz.func4 (by kernel_rfl)
  (of_decide_eq_true (by kernel_rfl)) (by unfold Func.isWrapper; first | (rw [if_pos (by decide +kernel)]; kernel_rfl) | (rw [if_neg (by decide +kernel)]; exact ⟨rfl, rfl⟩))
  (fun os started H enc _ => lifted os started H enc)
end Go.Proofs.YtkknbhapkdgcjaaGreatDoor.deskCovers
namespace Go.Proofs.YtkknbhapkdgcjaaGreatDoor
/-- The row, under a short name, for the claim. -/
theorem deskCovers_holds : Rows.DeskCoversSaid := deskCovers.over
/-- The tied card, for the claim. -/
theorem deskCovers_card : Rows.DeskCoversCardSaid :=
 Claim7.holds_tied_plain_at .later [] [.handle, .data, .data, .data, .sentinel, .sentinel, .sentinel, .sentinel] true (true, "114b0f3114e8b9731fbadd0b2ef39c3b82fe5f1b296fe9fdf95d8440a305e9b9") true
  deskCovers_holds (fun _ h => by cases h) (by kernel_rfl) (fun _ h => by cases h) deskCovers_row_tie rfl ⟨rfl, rfl⟩ (by kernel_rfl) rfl
  (fun f fn hf hfn => by
   obtain rfl : f = 4 := Option.some.inj ((show Tryz.prog.funcNamed Rows.deskCoversRow.func = some 4 by kernel_rfl).symm.trans hf) |>.symm
   obtain rfl : fn = Tryz.f4 := (Option.some.inj (Tryz.func4.symm.trans hfn)).symm
   refine ⟨by kernel_rfl, fun j t ht => ?_⟩
   have key : (Tryz.f4.params.toList.all fun t => Tryz.prog.wantsStandIn t == false) = true := by kernel_rfl
   have := List.all_eq_true.1 key t (by simpa using Array.mem_of_getElem? ht)
   have q : Tryz.prog.wantsStandIn t = false := by simpa using this
   exact q)
  (by kernel_rfl)
end Go.Proofs.YtkknbhapkdgcjaaGreatDoor
#print axioms Go.Proofs.YtkknbhapkdgcjaaGreatDoor.deskCovers_card
