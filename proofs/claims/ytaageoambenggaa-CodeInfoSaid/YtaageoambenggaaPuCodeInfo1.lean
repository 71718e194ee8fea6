/- Plain laws about what the functions compute. Conditions: the arguments' bounds, as each theorem says. -/
import Derived.Test.YtaageoambenggaaFnCodeInfo1
import Derived.Test.YtaageoambenggaaAbsG6
section
set_option linter.unusedVariables false
set_option maxRecDepth 100000
namespace Go.Abs.Pure
open Go Go.Abs
theorem info_all : ((List.range 256).all fun k => Fa.m 300 (k : Int) == some true) = true := by kernel_rfl
theorem CodeInfo (op : Int) (h : InK .u8 op) : ∃ n, Fa.m n op = some true := by
  have h0 : 0 ≤ op := h.1
  have h1 : op < 256 := by have := h.2; simp only [IntKind.max, IntKind.signed, IntKind.bits] at this; simp at this; omega
  obtain ⟨k, rfl⟩ := Int.eq_ofNat_of_zero_le h0
  refine ⟨300, ?_⟩
  have := List.all_eq_true.1 info_all k (List.mem_range.2 (by omega))
  simpa using this
end Go.Abs.Pure
end
