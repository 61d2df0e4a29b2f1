/- Numbers of 64 bits: halves, masks, bytes. No condition. -/
import Derived.Test.YtkocfcgdjjdnhaaBusSpec
import Derived.Laws.BitsAllLaws
import Derived.Laws.BitsLemmas
namespace Go.Proofs.Ytkocfcgdjjdnhaa.BW
open Go.RowKit
set_option linter.unusedVariables false
set_option linter.unusedSimpArgs false
theorem hi_nat (a : Nat) (h : a < 18446744073709551616) : a &&& 18446744069414584320 = a / 4294967296 * 4294967296 := by
  apply Nat.eq_of_testBit_eq; intro i
  rw [Nat.testBit_and, show (18446744069414584320 : Nat) = (2 ^ 32 - 1) <<< 32 from rfl, Nat.testBit_shiftLeft, Nat.testBit_two_pow_sub_one]
  rw [show a / 4294967296 * 4294967296 = (a >>> 32) <<< 32 by rw [Nat.shiftLeft_eq, Nat.shiftRight_eq_div_pow], Nat.testBit_shiftLeft, Nat.testBit_shiftRight]
  by_cases h1 : 32 ≤ i
  · rw [show 32 + (i - 32) = i by omega]
    by_cases h2 : i - 32 < 32
    · simp [h1, h2]
    · have : a.testBit i = false := Nat.testBit_lt_two_pow (Nat.lt_of_lt_of_le (show a < 2 ^ 64 by omega) (Nat.pow_le_pow_right (by decide) (by omega)))
      simp [h1, h2, this]
  · simp [h1]
theorem lo_nat (a : Nat) : a &&& 4294967295 = a % 4294967296 := by
  rw [show (4294967295 : Nat) = 2 ^ 32 - 1 from rfl, Nat.and_two_pow_sub_one_eq_mod]
section
variable (x y : Int)
theorem wraps_u64 (n : Int) (h₀ : 0 ≤ n) (h₁ : n < 2 ^ 64) : IntKind.u64.wrap n = n := by rw [IntKind.wrap_u64]; omega
theorem u64_and1 (h0 : 0 ≤ x) (h1 : x ≤ 18446744073709551615) : bits .and .u64 x 1 = x % 2 := bits_mask .u64 64 (by decide) wraps_u64 1 (by decide) x h0 (by omega)
theorem u64_and15 (h0 : 0 ≤ x) (h1 : x ≤ 18446744073709551615) : bits .and .u64 x 15 = x % 16 := bits_mask .u64 64 (by decide) wraps_u64 4 (by decide) x h0 (by omega)
theorem u64_and31 (h0 : 0 ≤ x) (h1 : x ≤ 18446744073709551615) : bits .and .u64 x 31 = x % 32 := bits_mask .u64 64 (by decide) wraps_u64 5 (by decide) x h0 (by omega)
theorem u64_andffff (h0 : 0 ≤ x) (h1 : x ≤ 18446744073709551615) : bits .and .u64 x 65535 = x % 65536 := bits_mask .u64 64 (by decide) wraps_u64 16 (by decide) x h0 (by omega)
theorem u64_andlo (h0 : 0 ≤ x) (h1 : x ≤ 18446744073709551615) : bits .and .u64 x 4294967295 = x % 4294967296 := bits_mask .u64 64 (by decide) wraps_u64 32 (by decide) x h0 (by omega)
theorem u64_andhi (h0 : 0 ≤ x) (h1 : x ≤ 18446744073709551615) : bits .and .u64 x 18446744069414584320 = x / 4294967296 * 4294967296 := by
  rw [u64_and x _ h0 (by omega) (by omega) (by omega), show (18446744069414584320 : Int).toNat = 18446744069414584320 from rfl, hi_nat _ (by omega)]; omega
theorem u64_and2 (h0 : 0 ≤ x) (h1 : x ≤ 18446744073709551615) : bits .and .u64 x 2 = x / 2 % 2 * 2 := by
  rw [u64_and x _ h0 (by omega) (by omega) (by omega)]
  have h : x.toNat &&& 2 = x.toNat % 4 &&& 2 := by
    rw [show x.toNat % 4 = x.toNat &&& 3 from (Nat.and_two_pow_sub_one_eq_mod x.toNat 2).symm, Nat.and_assoc]; rfl
  rw [show (2 : Int).toNat = 2 from rfl, h]
  rcases (show x.toNat % 4 = 0 ∨ x.toNat % 4 = 1 ∨ x.toNat % 4 = 2 ∨ x.toNat % 4 = 3 by omega) with e | e | e | e <;> rw [e] <;> simp <;> omega
theorem u64_cutlo (h0 : 0 ≤ x) (h1 : x ≤ 18446744073709551615) : bits .andNot .u64 x 4294967295 = x / 4294967296 * 4294967296 := by
  rw [u64_andNot x _ h0 (by omega) (by omega) (by omega), show 18446744073709551615 - (4294967295 : Int).toNat = 18446744069414584320 from rfl, hi_nat _ (by omega)]; omega
theorem u64_cuthi (h0 : 0 ≤ x) (h1 : x ≤ 18446744073709551615) : bits .andNot .u64 x 18446744069414584320 = x % 4294967296 := by
  rw [u64_andNot x _ h0 (by omega) (by omega) (by omega), show 18446744073709551615 - (18446744069414584320 : Int).toNat = 4294967295 from rfl, lo_nat]; omega
theorem u64_or32 (hx0 : 0 ≤ x) (hx : x % 4294967296 = 0) (hx1 : x ≤ 18446744073709551615) (hy0 : 0 ≤ y) (hy : y < 4294967296) : bits .or .u64 x y = x + y :=
  bits_join .u64 64 (by decide) wraps_u64 32 x y hx0 hx (by omega) hy0 hy (by omega)
theorem u64_or8 (hx0 : 0 ≤ x) (hx : x % 256 = 0) (hx1 : x ≤ 18446744073709551615) (hy0 : 0 ≤ y) (hy : y < 256) : bits .or .u64 x y = x + y :=
  bits_join .u64 64 (by decide) wraps_u64 8 x y hx0 hx (by omega) hy0 hy (by omega)
end
theorem lowOf_bits (was v : Int) (h0 : 0 ≤ was) (h1 : was ≤ 18446744073709551615) (g0 : 0 ≤ v) (g1 : v ≤ 18446744073709551615) : bits .or .u64 (bits .andNot .u64 was 4294967295) (bits .and .u64 v 4294967295) = lowOf was v := by
  rw [u64_cutlo was h0 h1, u64_andlo v g0 g1, u64_or32 _ _ (by omega) (by omega) (by omega) (by omega) (by omega)]; rfl
theorem highOf_bits (was v : Int) (h0 : 0 ≤ was) (h1 : was ≤ 18446744073709551615) (g0 : 0 ≤ v) (g1 : v ≤ 18446744073709551615) : bits .or .u64 (bits .andNot .u64 was 18446744069414584320) (bits .and .u64 (v * 4294967296 % 18446744073709551616) 18446744069414584320) = highOf was v := by
  rw [u64_cuthi was h0 h1, u64_andhi _ (by omega) (by omega)]
  rw [show v * 4294967296 % 18446744073709551616 / 4294967296 * 4294967296 = v % 4294967296 * 4294967296 by omega]
  have h := bits_join .u64 64 (by decide) wraps_u64 32 (v % 4294967296 * 4294967296) (was % 4294967296) (by omega) (by omega) (by omega) (by omega) (by omega) (by omega)
  have hc : bits .or .u64 (was % 4294967296) (v % 4294967296 * 4294967296) = bits .or .u64 (v % 4294967296 * 4294967296) (was % 4294967296) := by
    rw [u64_or _ _ (by omega) (by omega) (by omega) (by omega), u64_or _ _ (by omega) (by omega) (by omega) (by omega), Nat.or_comm]
  rw [hc, h]; rfl
end Go.Proofs.Ytkocfcgdjjdnhaa.BW
