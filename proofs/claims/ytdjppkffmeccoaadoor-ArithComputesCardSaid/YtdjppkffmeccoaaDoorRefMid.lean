/- The divisions of words and of halves, the program's. -/
import Derived.Test.YtdjppkffmeccoaaDoorRefOne
import Derived.Test.YtdjppkffmeccoaaDoorPureDiv
set_option linter.unusedVariables false
set_option linter.unusedSimpArgs false
namespace Go.Proofs.YtdjppkffmeccoaaDoor.Pure
open Go.RowKit Go.Proofs.YtdjppkffmeccoaaDoorW.PrintWords Go.Proofs.YtdjppkffmeccoaaDoorW.PrintMore Mth PC PL

/-- A word without its sign. -/
def mag (a : Nat) : Nat := if a < 9223372036854775808 then a else 18446744073709551616 - a
theorem mag_le (a : Nat) (ha : a < 18446744073709551616) : mag a ≤ 9223372036854775808 := by unfold mag; split <;> omega
theorem mag_zero (a : Nat) (ha : a < 18446744073709551616) : mag a = 0 ↔ a = 0 := by unfold mag; split <;> omega
/-- A word as a signed number: its size, with its sign. -/
theorem w64_mag (a : Nat) (ha : a < 18446744073709551616) : wrap64 (a : Int) = if a < 9223372036854775808 then (mag a : Int) else -(mag a : Int) := by
  unfold mag wrap64; split <;> omega

/-- The signed number s·m, as a word. -/
def word (neg : Bool) (m : Nat) : Nat := if neg = true then (18446744073709551616 - m) % 18446744073709551616 else m
theorem word_u64 (neg : Bool) (m : Nat) (hm : m ≤ 9223372036854775808) : IntKind.u64.wrap (if neg = true then -(m : Int) else (m : Int)) = (word neg m : Int) := by
  rw [IntKind.wrap_u64]; unfold word; cases neg <;> simp <;> omega
theorem word_lt (neg : Bool) (m : Nat) (hm : m ≤ 9223372036854775808) : word neg m < 18446744073709551616 := by unfold word; cases neg <;> simp <;> omega
theorem mag_word (neg : Bool) (m : Nat) (hm : m ≤ 9223372036854775808) : mag (word neg m) = m := by
  unfold mag word
  cases neg
  · simp only [Bool.false_eq_true, if_false]; split <;> omega
  · simp only [if_true]
    by_cases h : m = 0
    · subst h; decide
    · rw [show (18446744073709551616 - m) % 18446744073709551616 = 18446744073709551616 - m from Nat.mod_eq_of_lt (by omega)]
      split <;> omega

/-- Quotient and rest of signed numbers, by those of their sizes. -/
theorem tdiv_sign (p q : Bool) (x y : Nat) : Int.tdiv (if p = true then -(x : Int) else (x : Int)) (if q = true then -(y : Int) else (y : Int)) = (if (p != q) = true then -((x / y : Nat) : Int) else ((x / y : Nat) : Int)) := by
  have e : Int.tdiv (x : Int) (y : Int) = ((x / y : Nat) : Int) := rfl
  cases p <;> cases q <;> simp [Int.neg_tdiv, Int.tdiv_neg, e]
theorem tmod_sign (p q : Bool) (x y : Nat) : Int.tmod (if p = true then -(x : Int) else (x : Int)) (if q = true then -(y : Int) else (y : Int)) = (if p = true then -((x % y : Nat) : Int) else ((x % y : Nat) : Int)) := by
  have e : Int.tmod (x : Int) (y : Int) = ((x % y : Nat) : Int) := rfl
  cases p <;> cases q <;> simp [Int.neg_tmod, Int.tmod_neg, e]

theorem wrap_mul (x y : Int) : IntKind.u64.wrap (IntKind.u64.wrap x * IntKind.u64.wrap y) = IntKind.u64.wrap (x * y) := by
  rw [IntKind.wrap_u64, IntKind.wrap_u64, IntKind.wrap_u64, IntKind.wrap_u64, ← Int.mul_emod]
theorem wrap_add (x y : Int) : IntKind.u64.wrap (IntKind.u64.wrap x + IntKind.u64.wrap y) = IntKind.u64.wrap (x + y) := by
  rw [IntKind.wrap_u64, IntKind.wrap_u64, IntKind.wrap_u64, IntKind.wrap_u64, ← Int.add_emod]

theorem lin (Q B T A s b t : Int) (hs : s = IntKind.u64.wrap Q) (hb : b = IntKind.u64.wrap B) (ht : t = IntKind.u64.wrap T) (h : Q * B + T = A) : IntKind.u64.wrap (IntKind.u64.wrap (s * b) + t) = IntKind.u64.wrap A := by
  rw [hs, hb, ht, wrap_mul, wrap_add, h]
def sgn (a : Nat) : Bool := a / 9223372036854775808 == 1
theorem sgn_iff (a : Nat) (ha : a < 18446744073709551616) : sgn a = true ↔ ¬ a < 9223372036854775808 := by unfold sgn; rw [beq_iff_eq]; omega
theorem w64_sgn (a : Nat) (ha : a < 18446744073709551616) : wrap64 (a : Int) = if sgn a = true then -(mag a : Int) else (mag a : Int) := by
  rw [w64_mag a ha]
  by_cases h : a < 9223372036854775808
  · rw [if_pos h, if_neg (fun e => (sgn_iff a ha).1 e h)]
  · rw [if_neg h, if_pos ((sgn_iff a ha).2 h)]
theorem sgn_word (neg : Bool) (m : Nat) (hm : m ≤ 9223372036854775808) (h0 : m ≠ 0) (h : neg = false → m < 9223372036854775808) : sgn (word neg m) = neg := by
  unfold sgn word
  cases neg
  · have := h rfl
    simp; omega
  · simp; omega
theorem word_zero (neg : Bool) (m : Nat) (hm : m ≤ 9223372036854775808) : word neg m = 0 ↔ m = 0 := by unfold word; cases neg <;> simp <;> omega

section
variable (a b : Nat) (ha : a < 18446744073709551616) (hb : b < 18446744073709551616) (h0 : b ≠ 0)
theorem op66_word (ha : a < 18446744073709551616) (hb : b < 18446744073709551616) (h0 : b ≠ 0) : anvillaw01_op.f 66 (a : Int) (b : Int) = some (word (sgn a != sgn b) (mag a / mag b) : Int) := by
  rw [op66 _ _ (fun e => h0 ((w64_zero hb).1 e)), w64_sgn a ha, w64_sgn b hb, tdiv_sign, word_u64 _ _ (Nat.le_trans (Nat.div_le_self _ _) (mag_le a ha))]
theorem op68_word (ha : a < 18446744073709551616) (hb : b < 18446744073709551616) (h0 : b ≠ 0) : anvillaw01_op.f 68 (a : Int) (b : Int) = some (word (sgn a) (mag a % mag b) : Int) := by
  rw [op68 _ _ (fun e => h0 ((w64_zero hb).1 e)), w64_sgn a ha, w64_sgn b hb, tmod_sign, word_u64 _ _ (Nat.le_trans (Nat.mod_le _ _) (mag_le a ha))]
end
theorem signed_of (a : Nat) : PC.arith_signed.f ((a % 4294967296 : Nat) : Int) = some (ext a : Int) := by
  rw [signed_ext _ (Nat.mod_lt _ (by decide)), ext_of (show a % 4294967296 % 4294967296 = a % 4294967296 by omega)]
theorem r21 (x y z w d : Int) (h1 : PC.arith_signed.f x = some z) (h2 : PC.arith_signed.f y = some w) (h : PC.arith_divide.f z w = some d) : arith_rows_21.f x y = some (d % 4294967296) := by
  unfold arith_rows_21.f
  rw [h1, h2]
  simp only [Option.bind_some, h]
theorem r22 (x y z w d : Int) (h1 : PC.arith_signed.f x = some z) (h2 : PC.arith_signed.f y = some w) (h : PC.arith_remain.f z w = some d) : arith_rows_22.f x y = some (d % 4294967296) := by
  unfold arith_rows_22.f
  rw [h1, h2]
  simp only [Option.bind_some, h]
theorem r23 (x y z w d : Int) (h1 : IntKind.u64.wrap x = z) (h2 : IntKind.u64.wrap y = w) (h : PC.arith_divideU.f z w = some d) : arith_rows_23.f x y = some (d % 4294967296) := by
  unfold arith_rows_23.f
  rw [h1, h2, h]
  rfl
theorem r24 (x y z w d : Int) (h1 : IntKind.u64.wrap x = z) (h2 : IntKind.u64.wrap y = w) (h : PC.arith_remainU.f z w = some d) : arith_rows_24.f x y = some (d % 4294967296) := by
  unfold arith_rows_24.f
  rw [h1, h2, h]
  rfl
theorem mm (d : Nat) : d % 4294967296 % 4294967296 = d % 4294967296 := by omega
theorem op71 (a b d : Nat) (h : PC.arith_divide.f (ext a : Int) (ext b : Int) = some (d : Int)) : anvillaw01_op.f 71 (a : Int) (b : Int) = some (ext d : Int) := by
  have e := cop_half (f := arith_rows_21.f) (a := a) (b := b) (d % 4294967296) (Nat.mod_lt _ (by decide)) (by rw [r21 _ _ _ _ _ (signed_of a) (signed_of b) h, mod32])
  rw [ext_of (mm d)] at e
  exact op_of 71 71 _ _ _ (by decide) (by decide) e
theorem op73 (a b d : Nat) (h : PC.arith_remain.f (ext a : Int) (ext b : Int) = some (d : Int)) : anvillaw01_op.f 73 (a : Int) (b : Int) = some (ext d : Int) := by
  have e := cop_half (f := arith_rows_22.f) (a := a) (b := b) (d % 4294967296) (Nat.mod_lt _ (by decide)) (by rw [r22 _ _ _ _ _ (signed_of a) (signed_of b) h, mod32])
  rw [ext_of (mm d)] at e
  exact op_of 73 73 _ _ _ (by decide) (by decide) e
theorem u64_half (a : Nat) : IntKind.u64.wrap ((a % 4294967296 : Nat) : Int) = ((a % 4294967296 : Nat) : Int) := u64_nat _ (by omega)
def divU (x y : Nat) : Nat := if y = 0 then 18446744073709551615 else x / y
def remU (x y : Nat) : Nat := if y = 0 then x else x % y
theorem divU_lt (x y : Nat) (hx : x < 18446744073709551616) : divU x y < 18446744073709551616 := by
  unfold divU
  split
  · decide
  · exact Nat.lt_of_le_of_lt (Nat.div_le_self _ _) hx
theorem remU_lt (x y : Nat) (hx : x < 18446744073709551616) : remU x y < 18446744073709551616 := by
  unfold remU
  split
  · exact hx
  · exact Nat.lt_of_le_of_lt (Nat.mod_le _ _) hx
theorem divideU_f (x y : Nat) (hx : x < 18446744073709551616) : PC.arith_divideU.f (x : Int) (y : Int) = some (divU x y : Int) := by
  unfold PC.arith_divideU.f divU
  by_cases h : y = 0
  · rw [if_pos (by omega), if_pos h]; rfl
  · rw [if_neg (by omega), if_neg h]
    rw [Int.tdiv_eq_ediv_of_nonneg (by omega), ← Int.natCast_ediv, u64_nat _ (Nat.lt_of_le_of_lt (Nat.div_le_self _ _) hx)]
theorem remainU_f (x y : Nat) : PC.arith_remainU.f (x : Int) (y : Int) = some (remU x y : Int) := by
  unfold PC.arith_remainU.f remU
  by_cases h : y = 0
  · rw [if_pos (by omega), if_pos h]
  · rw [if_neg (by omega), if_neg h]
    rw [Int.tmod_eq_emod_of_nonneg (by omega), ← Int.natCast_emod]
theorem op72 (a b : Nat) : anvillaw01_op.f 72 (a : Int) (b : Int) = some (ext (divU (a % 4294967296) (b % 4294967296)) : Int) := by
  have e := cop_half (f := arith_rows_23.f) (a := a) (b := b) (divU (a % 4294967296) (b % 4294967296) % 4294967296) (Nat.mod_lt _ (by decide)) (by rw [r23 _ _ _ _ _ (u64_half a) (u64_half b) (divideU_f _ _ (by omega)), mod32])
  rw [ext_of (mm _)] at e
  exact op_of 72 72 _ _ _ (by decide) (by decide) e
theorem op74 (a b : Nat) : anvillaw01_op.f 74 (a : Int) (b : Int) = some (ext (remU (a % 4294967296) (b % 4294967296)) : Int) := by
  have e := cop_half (f := arith_rows_24.f) (a := a) (b := b) (remU (a % 4294967296) (b % 4294967296) % 4294967296) (Nat.mod_lt _ (by decide)) (by rw [r24 _ _ _ _ _ (u64_half a) (u64_half b) (remainU_f _ _), mod32])
  rw [ext_of (mm _)] at e
  exact op_of 74 74 _ _ _ (by decide) (by decide) e
end Go.Proofs.YtdjppkffmeccoaaDoor.Pure
