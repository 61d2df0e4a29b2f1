/- The pure side of ArithShifts: moving is multiplying and dividing by a power of two. -/
import Derived.Test.YtdjppkffmeccoaaDoorQArithShiftsx1
import Derived.Test.YtdjppkffmeccoaaDoorPureDiv
set_option linter.unusedVariables false
set_option linter.unusedSimpArgs false
namespace Go.Proofs.YtdjppkffmeccoaaDoor.Pure
open Go.RowKit Go.Proofs.YtdjppkffmeccoaaDoorW.PrintWords Go.Proofs.YtdjppkffmeccoaaDoorW.PrintMore Mth PC PL QArithShifts

/-- Divided downwards below 0. -/
theorem neg_div (x d : Nat) (hd : 0 < d) : (-(x : Int) - 1) / (d : Int) = -((x / d : Nat) : Int) - 1 := by
  have h1 := Nat.div_add_mod x d
  have h2 := Nat.mod_lt x hd
  have e : (-(x : Int) - 1) = ((d - 1 - x % d : Nat) : Int) + (d : Int) * (-((x / d : Nat) : Int) - 1) := by
    have h3 : (x : Int) = (d : Int) * ((x / d : Nat) : Int) + ((x % d : Nat) : Int) := by rw [← Int.natCast_mul, ← Int.natCast_add, h1]
    rw [Int.mul_sub, Int.mul_neg]
    omega
  rw [e, Int.add_mul_ediv_left _ _ (by omega), Int.ediv_eq_zero_of_lt (by omega) (by omega)]
  omega

theorem ArithShifts (a0 a1 a2 a3 a4 : Int) (b0 : -9223372036854775808 ≤ a0) (c0 : a0 ≤ 9223372036854775807) (b1 : 0 ≤ a1) (c1 : a1 ≤ 18446744073709551615) (b2 : 0 ≤ a2) (c2 : a2 ≤ 18446744073709551615) (b3 : -9223372036854775808 ≤ a3) (c3 : a3 ≤ 9223372036854775807) (b4 : -9223372036854775808 ≤ a4) (c4 : a4 ≤ 9223372036854775807) : ∃ k, anvillaw01_ArithShifts.f k a0 a1 a2 a3 a4 = some true := by
  obtain ⟨a, rfl⟩ := Int.eq_ofNat_of_zero_le b1
  obtain ⟨b, rfl⟩ := Int.eq_ofNat_of_zero_le b2
  have ha : a < 18446744073709551616 := by omega
  have hb : b < 18446744073709551616 := by omega
  have hm : Int.tmod (b : Int) 64 = ((b % 64 : Nat) : Int) := by rw [Int.tmod_eq_emod_of_nonneg (by omega)]; omega
  have hp : 2 ^ (b % 64) < 18446744073709551616 := by rw [← p64]; exact Nat.pow_lt_pow_right (by decide) (by omega)
  have hpos : 0 < 2 ^ (b % 64) := Nat.two_pow_pos _
  have hs : shl .u64 1 ((b % 64 : Nat) : Int) = ((2 ^ (b % 64) : Nat) : Int) := by
    have e : shl .u64 1 ((b % 64 : Nat) : Int) = IntKind.u64.wrap ((2 ^ (b % 64) : Nat) : Int) := by
      unfold shl
      rw [Int.toNat_natCast, Nat.min_eq_left (by simp [IntKind.bits]; omega)]; simp
    rw [e]; exact u64_nat _ hp
  have s1 := op37 a b ha hb
  have s2 := op62 a _ ha hp
  have s3 := op41 a b ha hb
  have s4 := op67 a (2 ^ (b % 64)) ha
  rw [if_neg (by omega)] at s4
  have s5 := op42 a b ha hb
  have s6 : anvillaw01_op.f 41 (a : Int) ((b % 64 : Nat) : Int) = _ := op41 a (b % 64) ha (by omega)
  have s7 : anvillaw01_op.f 41 ((18446744073709551615 - a : Nat) : Int) ((b % 64 : Nat) : Int) = _ := op41 (18446744073709551615 - a) (b % 64) (by omega) (by omega)
  rw [Nat.mod_mod] at s6 s7
  refine ⟨1, ?_⟩
  unfold anvillaw01_ArithShifts.f
  rw [hm, if_pos (by omega)]
  simp only [live_true, hs, s1, s2, s3, s4, Option.bind_some, if_true, bne_self_eq_false]
  simp only [anvillaw01_ArithShifts.j0, Bool.false_eq_true, if_false, s5, Option.bind_some, anvillaw01_negative.f, bits_not a ha, s6, s7, beq_iff_eq]
  by_cases h : (a : Int) / 9223372036854775808 = 1
  · rw [if_pos h]
    congr 1
    rw [beq_iff_eq, bits_not _ (Nat.lt_of_le_of_lt (Nat.div_le_self _ _) (by omega : 18446744073709551615 - a < 18446744073709551616))]
    have e : wrap64 (a : Int) = -((18446744073709551615 - a : Nat) : Int) - 1 := by unfold wrap64; omega
    rw [e, neg_div _ _ hpos, IntKind.wrap_u64]
    have hq : (18446744073709551615 - a) / 2 ^ (b % 64) ≤ 18446744073709551615 - a := Nat.div_le_self _ _
    generalize (18446744073709551615 - a) / 2 ^ (b % 64) = q at *
    omega
  · rw [if_neg h]
    congr 1
    rw [beq_iff_eq]
    have e : wrap64 (a : Int) = (a : Int) := by unfold wrap64; omega
    rw [e, ← Int.natCast_ediv, u64_nat _ (Nat.lt_of_le_of_lt (Nat.div_le_self _ _) ha)]
end Go.Proofs.YtdjppkffmeccoaaDoor.Pure
