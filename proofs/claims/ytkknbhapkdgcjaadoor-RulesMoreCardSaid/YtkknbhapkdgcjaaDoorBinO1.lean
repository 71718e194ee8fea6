/- Plain laws of whole numbers of 64 bits. Conditions: the numbers' bounds, as each theorem says. -/
import Derived.Test.YtkknbhapkdgcjaaDoorAbsO8
import Derived.Laws.Bits64
section
set_option linter.unusedVariables false
namespace Go.Abs
open Go
theorem wi64 (n : Int) : IntKind.wrap .i64 n = (n + 9223372036854775808) % 18446744073709551616 - 9223372036854775808 := by
  simp only [IntKind.wrap, IntKind.bits, IntKind.signed]
  simp
  split <;> omega
theorem wi64_id {n : Int} (h : -9223372036854775808 ≤ n) (k : n ≤ 9223372036854775807) : IntKind.wrap .i64 n = n := by rw [wi64]; omega
end Go.Abs
end
