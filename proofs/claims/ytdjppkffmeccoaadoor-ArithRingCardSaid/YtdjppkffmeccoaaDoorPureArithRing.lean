/- The pure side of ArithRing: the words are a ring; and, or, xor go with sums. -/
import Derived.Test.YtdjppkffmeccoaaDoorQArithRingx2
import Derived.Test.YtdjppkffmeccoaaDoorPureOps
set_option linter.unusedVariables false
set_option linter.unusedSimpArgs false
namespace Go.Proofs.YtdjppkffmeccoaaDoor.Pure
open Go.RowKit Go.Proofs.YtdjppkffmeccoaaDoorW.PrintWords Go.Proofs.YtdjppkffmeccoaaDoorW.PrintMore Mth PC PL QArithRing

theorem and_half (a b : Nat) : (a &&& b) / 2 = a / 2 &&& b / 2 := Nat.eq_of_testBit_eq fun i => by
  rw [← Nat.testBit_succ, Nat.testBit_and, Nat.testBit_and, Nat.testBit_succ, Nat.testBit_succ]
theorem or_half (a b : Nat) : (a ||| b) / 2 = a / 2 ||| b / 2 := Nat.eq_of_testBit_eq fun i => by
  rw [← Nat.testBit_succ, Nat.testBit_or, Nat.testBit_or, Nat.testBit_succ, Nat.testBit_succ]
theorem xor_half (a b : Nat) : (a ^^^ b) / 2 = a / 2 ^^^ b / 2 := Nat.eq_of_testBit_eq fun i => by
  rw [← Nat.testBit_succ, Nat.testBit_xor, Nat.testBit_xor, Nat.testBit_succ, Nat.testBit_succ]
theorem and_or (n : Nat) : ∀ a b : Nat, a < 2 ^ n → b < 2 ^ n → (a &&& b) + (a ||| b) = a + b ∧ (a ||| b) = (a ^^^ b) + (a &&& b) := by
  induction n with
  | zero =>
    intro a b ha hb
    obtain rfl : a = 0 := by simpa using ha
    obtain rfl : b = 0 := by simpa using hb
    exact ⟨rfl, rfl⟩
  | succ n ih =>
    intro a b ha hb
    rw [Nat.pow_succ] at ha hb
    obtain ⟨h1, h2⟩ := ih (a / 2) (b / 2) (by omega) (by omega)
    rw [← and_half, ← or_half] at h1
    rw [← and_half, ← or_half, ← xor_half] at h2
    have b1 := and_bit a b 0
    have b2 := or_bit a b 0
    have b3 := xor_bit a b 0
    simp only [Nat.pow_zero, Nat.div_one] at b1 b2 b3
    generalize (a &&& b) = x at *
    generalize (a ||| b) = y at *
    generalize (a ^^^ b) = z at *
    omega

theorem ArithRing (a0 a1 a2 : Int) (b0 : 0 ≤ a0) (c0 : a0 ≤ 18446744073709551615) (b1 : 0 ≤ a1) (c1 : a1 ≤ 18446744073709551615) (b2 : 0 ≤ a2) (c2 : a2 ≤ 18446744073709551615) : ∃ k, anvillaw01_ArithRing.f k a0 a1 a2 = some true := by
  obtain ⟨a, rfl⟩ := Int.eq_ofNat_of_zero_le b0
  obtain ⟨b, rfl⟩ := Int.eq_ofNat_of_zero_le b1
  obtain ⟨c, rfl⟩ := Int.eq_ofNat_of_zero_le b2
  have ha : a < 18446744073709551616 := by omega
  have hb : b < 18446744073709551616 := by omega
  have hc : c < 18446744073709551616 := by omega
  clear b0 c0 b1 c1 b2 c2
  have lt : ∀ x : Nat, x % 18446744073709551616 < 18446744073709551616 := fun x => Nat.mod_lt _ (by decide)
  have lx : a ^^^ b < 18446744073709551616 := Nat.xor_lt_two_pow (n := 64) ha hb
  have ln : a &&& b < 18446744073709551616 := Nat.and_lt_two_pow a (n := 64) hb
  have lo : a ||| b < 18446744073709551616 := Nat.or_lt_two_pow (n := 64) ha hb
  obtain ⟨ao, ox⟩ := and_or 64 a b ha hb
  have z1 : anvillaw01_op.f 62 (a : Int) 1 = some ((a * 1 % 18446744073709551616 : Nat) : Int) := op62 a 1 ha (by omega)
  have z0 : anvillaw01_op.f 35 (a : Int) 0 = some (((a + 0) % 18446744073709551616 : Nat) : Int) := op35 a 0 ha (by omega)
  have q1 : (b + a) % 18446744073709551616 = (a + b) % 18446744073709551616 := by rw [Nat.add_comm]
  have q2 : b * a % 18446744073709551616 = a * b % 18446744073709551616 := by rw [Nat.mul_comm]
  have q3 : ((a + b) % 18446744073709551616 + c) % 18446744073709551616 = (a + (b + c) % 18446744073709551616) % 18446744073709551616 := by omega
  have q4 : a * b % 18446744073709551616 * c % 18446744073709551616 = a * (b * c % 18446744073709551616) % 18446744073709551616 := by
    rw [Nat.mod_mul_mod, Nat.mul_mod_mod, Nat.mul_assoc]
  have q5 : (a + b) % 18446744073709551616 * c % 18446744073709551616 = (a * c % 18446744073709551616 + b * c % 18446744073709551616) % 18446744073709551616 := by
    rw [Nat.mod_mul_mod, Nat.add_mul, Nat.add_mod]
  have q6 : ((a + b) % 18446744073709551616 + (18446744073709551616 - b)) % 18446744073709551616 = a := by omega
  have q7 : a * 1 % 18446744073709551616 = a := by rw [Nat.mul_one, Nat.mod_eq_of_lt ha]
  have q8 : (a + 0) % 18446744073709551616 = a := by rw [Nat.add_zero, Nat.mod_eq_of_lt ha]
  have q9 : ((a &&& b) + (a ||| b)) % 18446744073709551616 = (a + b) % 18446744073709551616 := by rw [ao]
  have q10 : ((a ||| b) + (18446744073709551616 - (a &&& b))) % 18446744073709551616 = a ^^^ b := by
    clear q1 q2 q3 q4 q5 q6 q7 q8 q9 z0 z1
    generalize (a &&& b) = x at *
    generalize (a ||| b) = y at *
    generalize (a ^^^ b) = z at *
    omega
  have q11 : (a ^^^ b) ^^^ b = a := by rw [Nat.xor_assoc, Nat.xor_self, Nat.xor_zero]
  have q12 : (a ||| b) &&& b = b := Nat.eq_of_testBit_eq fun i => by
    rw [Nat.testBit_and, Nat.testBit_or]; cases a.testBit i <;> cases b.testBit i <;> rfl
  have s1 := op35 a b ha hb
  have s2 := op62 a b ha hb
  have s3 := op35 b a hb ha
  have s4 := op62 b a hb ha
  have s5 := op35 _ c (lt (a + b)) hc
  have s6 := op35 b c hb hc
  have s7 := op35 a _ ha (lt (b + c))
  have s8 := op62 _ c (lt (a * b)) hc
  have s9 := op62 b c hb hc
  have s10 := op62 a _ ha (lt (b * c))
  have s11 := op62 _ c (lt (a + b)) hc
  have s12 := op62 a c ha hc
  have s13 := op35 _ _ (lt (a * c)) (lt (b * c))
  have s14 := op36 _ b (lt (a + b)) hb
  have s15 := op44 a b ha hb
  have s16 := op43 a b ha hb
  have s17 := op40 a b ha hb
  have s18 := op35 _ _ ln lo
  have s19 := op36 _ _ lo ln
  have s20 := op40 _ b lx hb
  have s21 := op44 _ b lo hb
  rw [q1] at s3
  rw [q2] at s4
  rw [q3] at s5
  rw [q4] at s8
  rw [q5] at s11
  rw [q6] at s14
  rw [q7] at z1
  rw [q8] at z0
  rw [q9] at s18
  rw [q10] at s19
  rw [q11] at s20
  rw [q12] at s21
  have j2 : ∀ k, anvillaw01_ArithRing.j2 (k + 1) (((a + b) % 18446744073709551616 : Nat) : Int) false (a : Int) (b : Int) (c : Int) = some true := fun k => by
    simp only [anvillaw01_ArithRing.j2, Bool.false_eq_true, if_false, s15, s16, s17, s18, s19, s20, s21, Option.bind_some, if_true, beq_self_eq_true]
  have j1 : ∀ k, anvillaw01_ArithRing.j1 (k + 2) (((a + b) % 18446744073709551616 : Nat) : Int) false (a : Int) (b : Int) (c : Int) = some true := fun k => by
    simp only [anvillaw01_ArithRing.j1, Bool.false_eq_true, if_false, s11, s12, s9, s13, s14, z1, z0, Option.bind_some, if_true, bne_self_eq_false]
    exact j2 k
  have j0 : ∀ k, anvillaw01_ArithRing.j0 (k + 3) (((a + b) % 18446744073709551616 : Nat) : Int) ((a * b % 18446744073709551616 : Nat) : Int) false (a : Int) (b : Int) (c : Int) = some true := fun k => by
    simp only [anvillaw01_ArithRing.j0, Bool.false_eq_true, if_false, s5, s6, s7, s8, s9, s10, Option.bind_some, if_true, bne_self_eq_false]
    exact j1 k
  refine ⟨3, ?_⟩
  unfold anvillaw01_ArithRing.f
  simp only [s1, s2, s3, s4, live_true, Option.bind_some, if_true, bne_self_eq_false]
  exact j0 0
end Go.Proofs.YtdjppkffmeccoaaDoor.Pure
