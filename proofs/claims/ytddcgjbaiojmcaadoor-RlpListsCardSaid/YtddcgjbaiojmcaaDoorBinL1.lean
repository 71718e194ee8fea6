/- Plain laws of whole numbers of 64 bits. Conditions: the numbers' bounds, as each theorem says. -/
import Derived.Test.YtddcgjbaiojmcaaDoorAbsL7
import Derived.Laws.Bits64
section
set_option linter.unusedVariables false
namespace Go.Abs
open Go
theorem wu64 (n : Int) : IntKind.wrap .u64 n = n % 18446744073709551616 := by simp [IntKind.wrap, IntKind.bits, IntKind.signed]
theorem wu8 (n : Int) : IntKind.wrap .u8 n = n % 256 := by simp [IntKind.wrap, IntKind.bits, IntKind.signed]
theorem wi64 (n : Int) : IntKind.wrap .i64 n = (n + 9223372036854775808) % 18446744073709551616 - 9223372036854775808 := by
  simp only [IntKind.wrap, IntKind.bits, IntKind.signed]
  simp
  split <;> omega
theorem wi64_id {n : Int} (h : -9223372036854775808 ≤ n) (k : n ≤ 9223372036854775807) : IntKind.wrap .i64 n = n := by rw [wi64]; omega
theorem wu64_id {n : Int} (h : 0 ≤ n) (k : n ≤ 18446744073709551615) : IntKind.wrap .u64 n = n := by rw [wu64]; omega
theorem wu8_id {n : Int} (h : 0 ≤ n) (k : n ≤ 255) : IntKind.wrap .u8 n = n := by rw [wu8]; omega
theorem ishr_ofNat (k : IntKind) (a : Int) (b : Nat) (h : b ≤ k.bits) : ishr k a b = a / 2 ^ b := by
  unfold ishr
  rw [Int.toNat_natCast, Nat.min_eq_left h, Int.fdiv_eq_ediv_of_nonneg _ (Int.le_of_lt (Int.pow_pos (by omega)))]
end Go.Abs
end
