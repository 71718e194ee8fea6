/- Plain laws of whole numbers of 64 bits. Conditions: the numbers' bounds, as each theorem says. -/
import Derived.Test.YtkknbhapkdgcjaaGreatDoorAbsC7
import Derived.Laws.Bits64
section
set_option linter.unusedVariables false
namespace Go.Abs
open Go
theorem zGF (n : Int) : IntKind.wrap .u64 n = n % 18446744073709551616 := by simp [IntKind.wrap, IntKind.bits, IntKind.signed]
theorem wu8 (n : Int) : IntKind.wrap .u8 n = n % 256 := by simp [IntKind.wrap, IntKind.bits, IntKind.signed]
theorem zAT (n : Int) : IntKind.wrap .i64 n = (n + 9223372036854775808) % 18446744073709551616 - 9223372036854775808 := by
 simp only [IntKind.wrap, IntKind.bits, IntKind.signed]
 simp
 split <;> omega
theorem zHH {n : Int} (h : -9223372036854775808 ≤ n) (k : n ≤ 9223372036854775807) : IntKind.wrap .i64 n = n := by rw [zAT]; omega
theorem zNj {n : Int} (h : 0 ≤ n) (k : n ≤ 18446744073709551615) : IntKind.wrap .u64 n = n := by rw [zGF]; omega
theorem zDv (k : IntKind) (a : Int) (b : Nat) (h : b ≤ k.bits) : ishr k a b = a / 2 ^ b := by
 unfold ishr
 rw [Int.toNat_natCast, Nat.min_eq_left h, Int.fdiv_eq_ediv_of_nonneg _ (Int.le_of_lt (Int.pow_pos (by omega)))]
theorem zGi (k : IntKind) (a : Int) (b : Nat) (h : b ≤ k.bits) : ishl k a b = k.wrap (a * 2 ^ b) := by
 unfold ishl
 rw [Int.toNat_natCast, Nat.min_eq_left h]
theorem zMS {a : Int} (h : 0 ≤ a) (k : a < 18446744073709551616) : (BitVec.ofInt 64 a).toNat = a.toNat := by
 rw [BitVec.toNat_ofInt]; omega
theorem zMh {a b : Int} (ha : 0 ≤ a) (ka : a < 18446744073709551616) (hb : 0 ≤ b) (kb : b < 18446744073709551616) : ibits .or .u64 a b = ((a.toNat ||| b.toNat : Nat) : Int) := by
 have := Nat.or_lt_two_pow (x := a.toNat) (y := b.toNat) (n := 64) (by omega) (by omega)
 show IntKind.wrap .u64 ((BitVec.ofInt 64 a ||| BitVec.ofInt 64 b).toNat : Nat) = _
 rw [BitVec.toNat_or, zMS ha ka, zMS hb kb, zGF]
 omega
theorem zAp {a b : Int} (h : 0 ≤ a) : Int.tdiv a b = a / b := Int.tdiv_eq_ediv_of_nonneg h
theorem zAo {a b : Int} (h : 0 ≤ a) : Int.tmod a b = a % b := Int.tmod_eq_emod_of_nonneg h
end Go.Abs
end
