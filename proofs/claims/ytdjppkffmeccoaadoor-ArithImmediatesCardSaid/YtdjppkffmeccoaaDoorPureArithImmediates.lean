/- The pure side of ArithImmediates: an immediate form is the form of two registers. -/
import Derived.Test.YtdjppkffmeccoaaDoorPLx5
import Derived.Test.YtdjppkffmeccoaaDoorPureOps
set_option linter.unusedVariables false
set_option linter.unusedSimpArgs false
namespace Go.Proofs.YtdjppkffmeccoaaDoor.Pure
open Go.RowKit Go.Proofs.YtdjppkffmeccoaaDoorW.PrintWords Go.Proofs.YtdjppkffmeccoaaDoorW.PrintMore Mth PC PL
def immF : List Int := [22, 23, 24, 25, 26, 27, 28, 29, 30, 31, 32, 33, 34]
def immT : List Int := [35, 38, 39, 40, 43, 44, 37, 41, 42, 45, 47, 48, 49]
theorem imm_step (k i : Nat) (f t r x a b y z : Int) (hi : i < 13) (hF : rd immF (i : Int) = f) (hT : rd immT (i : Int) = t) (h1 : anvillaw01_op.f f a b = some r) (h2 : anvillaw01_op.f t a b = some r) :
    anvillaw01_ArithImmediates.l0 (k + 1) immF immT (i : Int) x a b y z = anvillaw01_ArithImmediates.l0 k immF immT ((i + 1 : Nat) : Int) x a b y z := by
  have l1 : immF.length = 13 := rfl
  have l2 : immT.length = 13 := rfl
  simp only [anvillaw01_ArithImmediates.l0]
  rw [l1, l2, hF, hT, h1, h2, if_pos (by omega), if_pos (by omega)]
  simp only [Option.bind_some]
  rw [if_pos (by omega), if_pos trivial, w64_succ i (by omega)]
theorem imm_end (k : Nat) (x a b y z : Int) : anvillaw01_ArithImmediates.l0 (k + 1) immF immT ((13 : Nat) : Int) x a b y z = some true := by
  have l1 : immF.length = 13 := rfl
  simp only [anvillaw01_ArithImmediates.l0]
  rw [l1, if_neg (by omega), live_true]
  rfl
theorem ArithImmediates (a0 a1 a2 a3 a4 : Int) (b0 : -9223372036854775808 ≤ a0) (c0 : a0 ≤ 9223372036854775807) (b1 : 0 ≤ a1) (c1 : a1 ≤ 18446744073709551615) (b2 : 0 ≤ a2) (c2 : a2 ≤ 18446744073709551615) (b3 : -9223372036854775808 ≤ a3) (c3 : a3 ≤ 9223372036854775807) (b4 : -9223372036854775808 ≤ a4) (c4 : a4 ≤ 9223372036854775807) : ∃ k, anvillaw01_ArithImmediates.f k a0 a1 a2 a3 a4 = some true := by
  obtain ⟨a, rfl⟩ := Int.eq_ofNat_of_zero_le b1
  obtain ⟨b, rfl⟩ := Int.eq_ofNat_of_zero_le b2
  have ha : a < 18446744073709551616 := by omega
  have hb : b < 18446744073709551616 := by omega
  have q0 := imm_pair 22 35 a b (by decide)
  have q1 := imm_pair 23 38 a b (by decide)
  have q2 := imm_pair 24 39 a b (by decide)
  have q3 := imm_pair 25 40 a b (by decide)
  have q4 := imm_pair 26 43 a b (by decide)
  have q5 := imm_pair 27 44 a b (by decide)
  have q6 := imm_pair 28 37 a b (by decide)
  have q7 := imm_pair 29 41 a b (by decide)
  have q8 := imm_pair 30 42 a b (by decide)
  have q9 := imm_pair 31 45 a b (by decide)
  have q10 := imm_pair 32 47 a b (by decide)
  have q11 := imm_pair 33 48 a b (by decide)
  have q12 := imm_pair 34 49 a b (by decide)
  refine ⟨14, ?_⟩
  show anvillaw01_ArithImmediates.l0 (13 + 1) immF immT ((0 : Nat) : Int) a0 (a : Int) (b : Int) a3 a4 = some true
  rw [imm_step 13 0 22 35 _ a0 a b a3 a4 (by decide) (by decide) (by decide) (q0.trans (op35 a b ha hb)) (op35 a b ha hb)]
  rw [imm_step 12 1 23 38 _ a0 a b a3 a4 (by decide) (by decide) (by decide) (q1.trans (op38 a b ha hb)) (op38 a b ha hb)]
  rw [imm_step 11 2 24 39 _ a0 a b a3 a4 (by decide) (by decide) (by decide) (q2.trans (op39 a b ha hb)) (op39 a b ha hb)]
  rw [imm_step 10 3 25 40 _ a0 a b a3 a4 (by decide) (by decide) (by decide) (q3.trans (op40 a b ha hb)) (op40 a b ha hb)]
  rw [imm_step 9 4 26 43 _ a0 a b a3 a4 (by decide) (by decide) (by decide) (q4.trans (op43 a b ha hb)) (op43 a b ha hb)]
  rw [imm_step 8 5 27 44 _ a0 a b a3 a4 (by decide) (by decide) (by decide) (q5.trans (op44 a b ha hb)) (op44 a b ha hb)]
  rw [imm_step 7 6 28 37 _ a0 a b a3 a4 (by decide) (by decide) (by decide) (q6.trans (op37 a b ha hb)) (op37 a b ha hb)]
  rw [imm_step 6 7 29 41 _ a0 a b a3 a4 (by decide) (by decide) (by decide) (q7.trans (op41 a b ha hb)) (op41 a b ha hb)]
  rw [imm_step 5 8 30 42 _ a0 a b a3 a4 (by decide) (by decide) (by decide) (q8.trans (op42 a b ha hb)) (op42 a b ha hb)]
  rw [imm_step 4 9 31 45 _ a0 a b a3 a4 (by decide) (by decide) (by decide) (q9.trans (op45 a b)) (op45 a b)]
  rw [imm_step 3 10 32 47 _ a0 a b a3 a4 (by decide) (by decide) (by decide) (q10.trans (op47 a b)) (op47 a b)]
  rw [imm_step 2 11 33 48 _ a0 a b a3 a4 (by decide) (by decide) (by decide) (q11.trans (op48 a b)) (op48 a b)]
  rw [imm_step 1 12 34 49 _ a0 a b a3 a4 (by decide) (by decide) (by decide) (q12.trans (op49 a b)) (op49 a b)]
  exact imm_end 0 _ _ _ _ _
end Go.Proofs.YtdjppkffmeccoaaDoor.Pure
