/- An executor of the model's code over abstract values, and that it is right: what it tells of a run is what the run does. No condition. -/
import Derived.Test.YtkknbhapkdgcjaaGreatDoorAbsQ8
import Derived.Maps.RangeRun
import Derived.Below
section
set_option linter.unusedVariables false
set_option linter.unusedSimpArgs false
namespace Go.Abs
open Go
section
variable {R : Type} {C : Ctx}
theorem wpList_first {P : Program} {ops : Array Oper} {Q : Exit → Act → World → Prop} {o : Oper} {rest : List Oper} {a : Act} {w W' : World} {v : Value} (hg : o.guard = none)
  (hrun : (execOp a.eval o).run P w = .ok (.value v) W') (h : wpList P ops Q rest (a.put o.dst v) W') : wpList P ops Q (o :: rest) a w :=
 wpList_plain hg fun K' hK' => by
  unfold Oper.wp
  rw [hrun]
  exact hK' _ _ h
end
end Go.Abs
end
section
set_option linter.unusedVariables false
namespace Go.Abs
open Go Go.RowKit
theorem below_cell {E : Env} {W : World} (h : Below E.w.heap.size E.w W) {b o : Nat} (hb : b < E.w.heap.size) : W.cell? ⟨b, o, none⟩ = E.w.cell? ⟨b, o, none⟩ := World.cell?_of_block (h.block b hb)
theorem below_frz {E : Env} {W : World} (h : Below E.w.heap.size E.w W) {b o : Nat} (hb : b < E.w.heap.size) : W.frozen? ⟨b, o, none⟩ = E.w.frozen? ⟨b, o, none⟩ := World.frozen?_of_block (h.block b hb)
theorem Go.below {E : Env} (m : Mem E) {W : World} (h : Below E.w.heap.size E.w W) : Go E { E with w := W } := by
 have hcell : ∀ b o, b < E.w.heap.size → Env.cell { E with w := W } b o = E.cell b o := fun b o hb => below_cell h hb
 have fr : Fr E { E with w := W } := ⟨h.os, h.tape, h.output, h.size, fun b o hb _ => hcell b o hb, fun b hb _ => h.block b hb, fun b o hb _ => below_frz h hb, fun _ _ h => .inl h, fun _ _ h => .inl h, fun _ _ h => h⟩
 have st : Step E { E with w := W } := .of_fr m fr (Nat.le_refl _) fun id _ blk hb => ⟨blk, hb, rfl, fun _ _ h => h, fun _ _ h => h⟩
 refine ⟨st, fr, fun id blk hb => ?_, m.dis, fun b o hr => ?_, m.rod⟩
 ·have k := m.ok id blk hb
  refine ⟨k.fit, k.len, fun j x hx => ?_, fun hm j hj => ?_, fun l hl => ⟨(k.mp l hl).1, (k.mp l hl).2.mono st (h.block _ (k.mp l hl).2.lt)⟩⟩
  ·obtain ⟨v, hv, hr⟩ := k.cells j x hx
   exact ⟨v, (hcell _ _ (cell_lt (by show (E.cell _ _).isSome = true; rw [hv]; rfl))).trans hv, hr.mono st⟩
  ·obtain ⟨g1, g2⟩ := k.room hm j hj
   have hlt := cell_lt g1
   exact ⟨by rw [hcell _ _ hlt]; exact g1, (below_frz h hlt).trans g2⟩
 ·exact Nat.lt_of_lt_of_le (m.roe b o hr) h.size
theorem args2 {E : Env} {x y : AV} {vs : Array Value} (h : Args E [x, y] vs) : ∃ v w, vs = #[v, w] ∧ VR E true x v ∧ VR E true y w := by
 have hs : vs.size = 2 := h.size
 have h0 := h.vr 0 _ vs[0] rfl (Array.getElem?_eq_getElem (by omega))
 have h1 := h.vr 1 _ vs[1] rfl (Array.getElem?_eq_getElem (by omega))
 refine ⟨vs[0], vs[1], ?_, h0, h1⟩
 apply Array.ext
 ·exact hs
 ·intro i hi hj
  simp at hj
  match i with
  | 0 => rfl
  | 1 => rfl
  | i + 2 => omega
end Go.Abs
end
