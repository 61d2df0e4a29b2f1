/- The pure side of ArithBranches: what Taken answers is what the bits say. -/
import Derived.Test.YtdjppkffmeccoaaPArithBranchesBits
set_option linter.unusedVariables false
set_option linter.unusedSimpArgs false
namespace Go.Proofs.Ytdjppkffmeccoaa.Pure
open Go.RowKit Go.Proofs.YtdjppkffmeccoaaW.PrintWords Go.Proofs.YtdjppkffmeccoaaW.PrintMore Mth PArithBranches

theorem w64_sg (a : Nat) (h : a < 18446744073709551616) : wrap64 (a : Int) = sg 64 a := by
  unfold sg wrap64
  have e : (2 : Nat) ^ (64 - 1) = 9223372036854775808 := by decide
  rw [e]
  split <;> omega

theorem ArithBranches (a0 a1 a2 a3 a4 : Int) (b0 : -9223372036854775808 ≤ a0) (c0 : a0 ≤ 9223372036854775807) (b1 : 0 ≤ a1) (c1 : a1 ≤ 18446744073709551615) (b2 : 0 ≤ a2) (c2 : a2 ≤ 18446744073709551615) (b3 : -9223372036854775808 ≤ a3) (c3 : a3 ≤ 9223372036854775807) (b4 : -9223372036854775808 ≤ a4) (c4 : a4 ≤ 9223372036854775807) : ∃ k, anvillaw01_ArithBranches.f k a0 a1 a2 a3 a4 = some true := by
  obtain ⟨a, rfl⟩ := Int.eq_ofNat_of_zero_le b1
  obtain ⟨b, rfl⟩ := Int.eq_ofNat_of_zero_le b2
  have ha : a < 18446744073709551616 := by omega
  have hb : b < 18446744073709551616 := by omega
  refine ⟨300, ?_⟩
  have sa : anvilref01_Split.f 300 (a : Int) 64 = some (bl 64 a) := split_bl a 64 300 ha (by omega) (by omega)
  have sb : anvilref01_Split.f 300 (b : Int) 64 = some (bl 64 b) := split_bl b 64 300 hb (by omega) (by omega)
  have hl := less_bl 64 a b 300 (by omega) (by simpa using ha) (by simpa using hb) (by omega)
  have hs := lessSigned_bl 64 a b 300 (by omega) (by omega) (by simpa using ha) (by simpa using hb) (by omega)
  unfold anvillaw01_ArithBranches.f arith_Taken.f anvilref01_Taken.f
  simp only [sa, sb, hl, hs, Option.bind_some, w64_sg a ha, w64_sg b hb]
  have e1 : (decide (sg 64 a ≥ sg 64 b)) = !(decide (sg 64 a < sg 64 b)) := by
    rw [Bool.eq_iff_iff]; simp
  have e2 : (decide ((a : Int) ≥ (b : Int))) = !(decide (a < b)) := by
    rw [Bool.eq_iff_iff]; simp
  have e3 : (decide ((a : Int) < (b : Int))) = (decide (a < b)) := by
    rw [Bool.eq_iff_iff]; simp
  by_cases h5 : a0 = 5
  · simp [h5]
  by_cases h6 : a0 = 6
  · simp [h6]
  by_cases h7 : a0 = 7
  · simp [h7]
  by_cases h8 : a0 = 8
  · simp only [h8, e1]; simp
  by_cases h9 : a0 = 9
  · simp only [h9, e3]; simp
  by_cases h10 : a0 = 10
  · simp only [h10, e2]; simp
  simp [h5, h6, h7, h8, h9, h10]
end Go.Proofs.Ytdjppkffmeccoaa.Pure
