/- The row of the law CodeLooks: whatever the arguments, its function answers true, and they read as they did. No condition. -/
import Derived.Test.YtaageoambenggaaAbsG6
import Derived.Test.YtaageoambenggaaPuCodeLooks1
import Derived.Test.YtaageoambenggaaFnCodeLooks1
import Derived.Test.YtaageoambenggaaRows
set_option linter.unusedVariables false
namespace Go.Proofs.Ytaageoambenggaa.codeLooks
open Go Go.Abs Go.RowKit Go.ChangeShapes
theorem own : ownKnob Try.prog.godebug = none := by kernel_rfl
theorem laidOut : laidOutB Try.prog = true := by kernel_rfl
theorem hmix : Try.prog.follows .mixedOrders = true := by kernel_rfl
def types : List Nat := [26, 5, 29, 33]
theorem main (av : List AV) (h : AVTs Try.prog Try.f7.params.toList av) : FnC Try.prog (fun _ => .any) 7 av [] (.bool true) [] := by
  rw [show Try.f7.params.toList = [26, 29, 33] by kernel_rfl] at h
  obtain ⟨y0, r0, rfl, h0, q0⟩ := h.cons_inv
  obtain ⟨y1, r1, rfl, h1, q1⟩ := q0.cons_inv
  obtain ⟨y2, r2, rfl, h2, q2⟩ := q1.cons_inv
  obtain rfl := q2.nil_inv
  obtain ⟨x3, rfl, w3⟩ := AVT.rints_inv (e := 5) (k := .u8) h0 (by kernel_rfl) (by kernel_rfl) (of_decide_eq_true (by kernel_rfl))
  obtain ⟨x4, rfl, w4⟩ := AVT.int_inv (k := .u64) h1 (by kernel_rfl)
  obtain ⟨x5, rfl, w5⟩ := AVT.ints_inv (n := 4) (e := 29) (k := .u64) h2 (by kernel_rfl) (by kernel_rfl)
  obtain ⟨n, hn⟩ := Go.Abs.Pure.CodeLooks x3 w3 x4 w4 x5 w5
  exact Fc.call hmix n (x3, x4, x5) true hn
set_option maxRecDepth 100000 in
theorem lifted (os : Os) (started : os.Started) (H : Type) (enc : TypeId × Value → H) :
    ReturnsInHanded {} Try.checked os 7 .any (Rows.codeLooksSpec.pre6 enc Try.prog Try.f7 Rows.codeLooksRow.domain false) (Rows.codeLooksSpec.post enc Try.prog Try.f7 false true false false) :=
  law_lifted (C := Try.checked) (s := Rows.codeLooksSpec) (G := (fun _ => .any)) (rt := 4) (fun t => types.contains t) own started (by kernel_rfl) Try.func7
    (ChangeSpec.witness6 (enc := enc) (C := Try.checked) false ⟨#[], #[.slice none 0 0, .int .u64 0, .agg #[.int .u64 0, .int .u64 0, .int .u64 0, .int .u64 0]], []⟩ 8 (by kernel_rfl) (by kernel_rfl) (by kernel_rfl) (by kernel_rfl))
    laidOut (among (by kernel_rfl)) (fun t ht => by
      have key : (Try.f7.params.toList.all fun t => types.contains t && Try.prog.readableRec t && decide (t < Try.prog.types.size)) = true := by kernel_rfl
      have := List.all_eq_true.1 key t ht
      simp only [Bool.and_eq_true, decide_eq_true_eq] at this
      exact ⟨this.1.1, this.1.2, this.2⟩) rfl
    (fun ds hds => by
      rw [show Try.f7.params.size = 3 by kernel_rfl] at hds
      match ds, hds with
      | [d0, d1, d2], _ => rfl) (by kernel_rfl) (by kernel_rfl) (fun W => Glob_any W) main
theorem over : Rows.codeLooksRow.holds Try.pinned (OpenSpec.ofChange Rows.codeLooksSpec) :=
  OpenClaim.holds_of_wide 7 Try.f7 rfl rfl rfl rfl rfl rfl rfl ⟨rfl, rfl, rfl, rfl, rfl⟩ rfl rfl rfl rfl rfl (by kernel_rfl) Try.func7 (by kernel_rfl)
    (of_decide_eq_true (by kernel_rfl)) (by unfold Func.isWrapper; first | (rw [if_pos (by decide +kernel)]; kernel_rfl) | (rw [if_neg (by decide +kernel)]; exact ⟨rfl, rfl⟩))
    (fun os started H enc _ => lifted os started H enc)
end Go.Proofs.Ytaageoambenggaa.codeLooks
namespace Go.Proofs.Ytaageoambenggaa
/-- The row, under a short name, for the claim. -/
theorem codeLooks_holds : Rows.CodeLooksSaid := codeLooks.over
end Go.Proofs.Ytaageoambenggaa
#print axioms Go.Proofs.Ytaageoambenggaa.codeLooks_holds
