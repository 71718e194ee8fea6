/- The row of the law CodePushes: whatever the arguments, its function answers true, and they read as they did. No condition. -/
import Derived.Test.YtaageoambenggaaAbsG6
import Derived.Test.YtaageoambenggaaPuCodePushes1
import Derived.Test.YtaageoambenggaaFnCodePushes1
import Derived.Test.YtaageoambenggaaRows
set_option linter.unusedVariables false
namespace Go.Proofs.Ytaageoambenggaa.codePushes
open Go Go.Abs Go.RowKit Go.ChangeShapes
theorem own : ownKnob Try.prog.godebug = none := by kernel_rfl
theorem laidOut : laidOutB Try.prog = true := by kernel_rfl
theorem hmix : Try.prog.follows .mixedOrders = true := by kernel_rfl
def types : List Nat := [5, 26]
theorem main (av : List AV) (h : AVTs Try.prog Try.f6.params.toList av) : FnC Try.prog (fun _ => .any) 6 av [] (.bool true) [] := by
  rw [show Try.f6.params.toList = [5, 26, 26] by kernel_rfl] at h
  obtain ⟨y0, r0, rfl, h0, q0⟩ := h.cons_inv
  obtain ⟨y1, r1, rfl, h1, q1⟩ := q0.cons_inv
  obtain ⟨y2, r2, rfl, h2, q2⟩ := q1.cons_inv
  obtain rfl := q2.nil_inv
  obtain ⟨x3, rfl, w3⟩ := AVT.int_inv (k := .u8) h0 (by kernel_rfl)
  obtain ⟨x4, rfl, w4⟩ := AVT.rints_inv (e := 5) (k := .u8) h1 (by kernel_rfl) (by kernel_rfl) (of_decide_eq_true (by kernel_rfl))
  obtain ⟨x5, rfl, w5⟩ := AVT.rints_inv (e := 5) (k := .u8) h2 (by kernel_rfl) (by kernel_rfl) (of_decide_eq_true (by kernel_rfl))
  obtain ⟨n, hn⟩ := Go.Abs.Pure.CodePushes x3 w3 x4 w4 x5 w5
  exact Fb.call hmix n (x3, x4, x5) true hn
set_option maxRecDepth 100000 in
theorem lifted (os : Os) (started : os.Started) (H : Type) (enc : TypeId × Value → H) :
    ReturnsInHanded {} Try.checked os 6 .any (Rows.codePushesSpec.pre6 enc Try.prog Try.f6 Rows.codePushesRow.domain false) (Rows.codePushesSpec.post enc Try.prog Try.f6 false true false false) :=
  law_lifted (C := Try.checked) (s := Rows.codePushesSpec) (G := (fun _ => .any)) (rt := 4) (fun t => types.contains t) own started (by kernel_rfl) Try.func6
    (ChangeSpec.witness6 (enc := enc) (C := Try.checked) false ⟨#[], #[.int .u8 0, .slice none 0 0, .slice none 0 0], []⟩ 8 (by kernel_rfl) (by kernel_rfl) (by kernel_rfl) (by kernel_rfl))
    laidOut (among (by kernel_rfl)) (fun t ht => by
      have key : (Try.f6.params.toList.all fun t => types.contains t && Try.prog.readableRec t && decide (t < Try.prog.types.size)) = true := by kernel_rfl
      have := List.all_eq_true.1 key t ht
      simp only [Bool.and_eq_true, decide_eq_true_eq] at this
      exact ⟨this.1.1, this.1.2, this.2⟩) rfl
    (fun ds hds => by
      rw [show Try.f6.params.size = 3 by kernel_rfl] at hds
      match ds, hds with
      | [d0, d1, d2], _ => rfl) (by kernel_rfl) (by kernel_rfl) (fun W => Glob_any W) main
theorem over : Rows.codePushesRow.holds Try.pinned (OpenSpec.ofChange Rows.codePushesSpec) :=
  OpenClaim.holds_of_wide 6 Try.f6 rfl rfl rfl rfl rfl rfl rfl ⟨rfl, rfl, rfl, rfl, rfl⟩ rfl rfl rfl rfl rfl (by kernel_rfl) Try.func6 (by kernel_rfl)
    (of_decide_eq_true (by kernel_rfl)) (by unfold Func.isWrapper; first | (rw [if_pos (by decide +kernel)]; kernel_rfl) | (rw [if_neg (by decide +kernel)]; exact ⟨rfl, rfl⟩))
    (fun os started H enc _ => lifted os started H enc)
end Go.Proofs.Ytaageoambenggaa.codePushes
namespace Go.Proofs.Ytaageoambenggaa
/-- The row, under a short name, for the claim. -/
theorem codePushes_holds : Rows.CodePushesSaid := codePushes.over
end Go.Proofs.Ytaageoambenggaa
#print axioms Go.Proofs.Ytaageoambenggaa.codePushes_holds
