/- Division and its rest, on numbers. -/
import Derived.Test.YtdjppkffmeccoaaDoorPureOps
set_option linter.unusedVariables false
set_option linter.unusedSimpArgs false
namespace Go.Proofs.YtdjppkffmeccoaaDoor.Pure
open Go.RowKit Go.Proofs.YtdjppkffmeccoaaDoorW.PrintWords Go.Proofs.YtdjppkffmeccoaaDoorW.PrintMore Mth PC PL

theorem bits_not (a : Nat) (ha : a < 18446744073709551616) : Go.bits .xor .u64 18446744073709551615 (a : Int) = ((18446744073709551615 - a : Nat) : Int) := by
  show IntKind.u64.wrap ((BitVec.ofInt 64 18446744073709551615 ^^^ BitVec.ofInt 64 (a : Int)).toNat : Int) = _
  have h1 : BitVec.ofInt 64 18446744073709551615 = BitVec.allOnes 64 := by decide +kernel
  have h2 : (BitVec.ofInt 64 (a : Int)).toNat = a := by
    rw [BitVec.ofInt_natCast, BitVec.toNat_ofNat, Nat.mod_eq_of_lt (show a < 2 ^ 64 from by omega)]
  rw [h1, BitVec.allOnes_xor, BitVec.toNat_not, h2, p64, show 18446744073709551616 - 1 - a = 18446744073709551615 - a from by omega, u64_nat _ (by omega)]

theorem op67 (a b : Nat) (ha : a < 18446744073709551616) : anvillaw01_op.f 67 (a : Int) (b : Int) = some (((if b = 0 then 18446744073709551615 else a / b) : Nat) : Int) :=
  op_of 67 67 _ _ _ (by decide) (by decide) (by
    show PC.arith_divideU.f _ _ = _
    unfold PC.arith_divideU.f
    by_cases h : b = 0
    · subst h; simp
    · rw [if_neg (by omega), if_neg h]
      congr 1
      rw [Int.tdiv_eq_ediv_of_nonneg (by omega), ← Int.natCast_ediv, u64_nat _ (Nat.lt_of_le_of_lt (Nat.div_le_self _ _) ha)])
theorem op69 (a b : Nat) : anvillaw01_op.f 69 (a : Int) (b : Int) = some (((if b = 0 then a else a % b) : Nat) : Int) :=
  op_of 69 69 _ _ _ (by decide) (by decide) (by
    show PC.arith_remainU.f _ _ = _
    unfold PC.arith_remainU.f
    by_cases h : b = 0
    · rw [if_pos (by omega), if_pos h]
    · rw [if_neg (by omega), if_neg h]
      rw [Int.tmod_eq_emod_of_nonneg (by omega), ← Int.natCast_emod])

theorem w64_zero {b : Nat} (hb : b < 18446744073709551616) : wrap64 (b : Int) = 0 ↔ b = 0 := by unfold wrap64; omega
theorem u64_w64 (x : Int) : IntKind.u64.wrap (wrap64 x) = IntKind.u64.wrap x := by
  rw [IntKind.wrap_u64, IntKind.wrap_u64]; unfold wrap64; omega
theorem u64_same (a : Nat) (ha : a < 18446744073709551616) : IntKind.u64.wrap (wrap64 (a : Int)) = (a : Int) := by rw [u64_w64, u64_nat a ha]
theorem sub_w64 (a : Nat) : IntKind.u64.wrap (0 - (a : Int)) = IntKind.u64.wrap (0 - wrap64 (a : Int)) := by
  rw [IntKind.wrap_u64, IntKind.wrap_u64]; unfold wrap64; omega
theorem divide_f (a b : Int) : PC.arith_divide.f a b = if wrap64 b = 0 then some 18446744073709551615 else if wrap64 b = (-1) then some (IntKind.u64.wrap (-a)) else some (IntKind.u64.wrap (wrap64 (Int.tdiv (wrap64 a) (wrap64 b)))) := rfl
theorem div0 (a b : Int) (h : wrap64 b = 0) : PC.arith_divide.f a b = some 18446744073709551615 := by rw [divide_f, if_pos h]
theorem div1 (a b : Int) (h0 : wrap64 b ≠ 0) (h : wrap64 b = -1) : PC.arith_divide.f a b = some (IntKind.u64.wrap (-a)) := by rw [divide_f, if_neg h0, if_pos h]
theorem div2 (a b : Int) (h0 : wrap64 b ≠ 0) (h : wrap64 b ≠ -1) : PC.arith_divide.f a b = some (IntKind.u64.wrap (wrap64 (Int.tdiv (wrap64 a) (wrap64 b)))) := by rw [divide_f, if_neg h0, if_neg h]
theorem remain_f (a b : Int) : PC.arith_remain.f a b = if wrap64 b = 0 then some a else if wrap64 b = (-1) then some 0 else some (IntKind.u64.wrap (Int.tmod (wrap64 a) (wrap64 b))) := rfl
theorem neg_w64 (a : Int) : IntKind.u64.wrap (-a) = IntKind.u64.wrap (-wrap64 a) := by
  rw [IntKind.wrap_u64, IntKind.wrap_u64]; unfold wrap64; omega
/-- By what is not 0: the quotient and the rest of the signed numbers. -/
theorem divide_eq (a b : Int) (h0 : wrap64 b ≠ 0) : PC.arith_divide.f a b = some (IntKind.u64.wrap (Int.tdiv (wrap64 a) (wrap64 b))) := by
  by_cases h : wrap64 b = -1
  · rw [div1 a b h0 h, h, Int.tdiv_neg, Int.tdiv_one, neg_w64]
  · rw [div2 a b h0 h, u64_w64]
theorem remain_eq (a b : Int) (h0 : wrap64 b ≠ 0) : PC.arith_remain.f a b = some (IntKind.u64.wrap (Int.tmod (wrap64 a) (wrap64 b))) := by
  by_cases h : wrap64 b = -1
  · rw [remain_f, if_neg h0, if_pos h, h, Int.tmod_neg, Int.tmod_one]; decide
  · rw [remain_f, if_neg h0, if_neg h]
theorem cop66 (a b : Int) : cop 66 a b = PC.arith_divide.f a b := rfl
theorem cop68 (a b : Int) : cop 68 a b = PC.arith_remain.f a b := rfl
theorem op66z (a b : Int) (h : wrap64 b = 0) : anvillaw01_op.f 66 a b = some 18446744073709551615 :=
  op_of 66 66 _ _ _ (by decide) (by decide) (by rw [cop66, div0 a b h])
theorem op66 (a b : Int) (h : wrap64 b ≠ 0) : anvillaw01_op.f 66 a b = some (IntKind.u64.wrap (Int.tdiv (wrap64 a) (wrap64 b))) :=
  op_of 66 66 _ _ _ (by decide) (by decide) (by rw [cop66, divide_eq a b h])
theorem op68z (a b : Int) (h : wrap64 b = 0) : anvillaw01_op.f 68 a b = some a :=
  op_of 68 68 _ _ _ (by decide) (by decide) (by rw [cop68, remain_f, if_pos h])
theorem op68 (a b : Int) (h : wrap64 b ≠ 0) : anvillaw01_op.f 68 a b = some (IntKind.u64.wrap (Int.tmod (wrap64 a) (wrap64 b))) :=
  op_of 68 68 _ _ _ (by decide) (by decide) (by rw [cop68, remain_eq a b h])
end Go.Proofs.YtdjppkffmeccoaaDoor.Pure
