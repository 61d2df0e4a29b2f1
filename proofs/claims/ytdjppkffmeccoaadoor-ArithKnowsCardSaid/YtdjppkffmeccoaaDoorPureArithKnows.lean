/- The pure side of ArithKnows: of all numbers just those of the tables are known, each by one of the three calls. -/
import Derived.Test.YtdjppkffmeccoaaDoorQArithKnowsx2
import Derived.Test.YtdjppkffmeccoaaDoorPureOps
import Derived.Lib.Hide
set_option linter.unusedVariables false
set_option linter.unusedSimpArgs false
namespace Go.Proofs.YtdjppkffmeccoaaDoor.Pure
open Go.RowKit Go.Proofs.YtdjppkffmeccoaaDoorW.PrintWords Go.Proofs.YtdjppkffmeccoaaDoorW.PrintMore Mth PC PL PT QArithKnows

theorem knows_in : ∀ n : Nat, n < 97 → anvillaw01_ArithKnows.f 300 (n : Int) = some true := by decide +kernel

theorem size_no (k : Nat) (o : Int) (h : o < 0 ∨ 97 ≤ o) : anvilref01_AmoSize.f (k + 10) o = some 0 := by
  have n : 77 ≠ o ∧ 78 ≠ o ∧ 79 ≠ o ∧ 80 ≠ o ∧ 81 ≠ o ∧ 82 ≠ o ∧ 83 ≠ o ∧ 84 ≠ o ∧ 85 ≠ o ∧ 88 ≠ o ∧ 89 ≠ o ∧ 90 ≠ o ∧ 91 ≠ o ∧ 92 ≠ o ∧ 93 ≠ o ∧ 94 ≠ o ∧ 95 ≠ o ∧ 96 ≠ o := by omega
  obtain ⟨n0, n1, n2, n3, n4, n5, n6, n7, n8, m0, m1, m2, m3, m4, m5, m6, m7, m8⟩ := n
  simp [anvilref01_AmoSize.f, anvilref01_wordAmos.f, anvilref01_longAmos.f, anvilref01_AmoSize.l0, rd, wrap64, n0, n1, n2, n3, n4, n5, n6, n7, n8, m0, m1, m2, m3, m4, m5, m6, m7, m8]
theorem compute_no (o a b : Int) (h : o < 0 ∨ 97 ≤ o) : arith_Compute.f o a b = some (0, false) := by
  have hc : creg o = o := by
    unfold creg
    rw [if_neg (by omega), if_neg (by omega), if_neg (by omega), if_neg (by omega), if_neg (by omega), if_neg (by omega), if_neg (by omega), if_neg (by omega), if_neg (by omega), if_neg (by omega), if_neg (by omega), if_neg (by omega), if_neg (by omega)]
  have hk : known o = false := by
    unfold known
    simp only [Bool.or_eq_false_iff, beq_eq_false_iff_ne]
    repeat' constructor
    all_goals omega
  unfold arith_Compute.f
  rw [hc, hk, if_neg (by decide)]
theorem taken_no (o a b : Int) (h : o < 0 ∨ 97 ≤ o) : arith_Taken.f o a b = some (false, false) := by
  unfold arith_Taken.f
  rw [if_neg (by omega), if_neg (by omega), if_neg (by omega), if_neg (by omega), if_neg (by omega), if_neg (by omega)]
theorem amo_no (k : Nat) (o a b : Int) (h : o < 0 ∨ 97 ≤ o) : QArithKnows.arith_Amo.f (k + 2) o a b = some (0, false) := by
  have hj : ∀ x y, QArithKnows.arith_Amo.j0 (k + 2) o x y false = some (0, false) := fun x y => by
    simp only [QArithKnows.arith_Amo.j0, QArithKnows.arith_Amo.j1, Bool.false_eq_true, if_false]
    rw [if_neg (by omega), if_neg (by omega), if_neg (by omega), if_neg (by omega), if_neg (by omega), if_neg (by omega), if_neg (by omega), if_neg (by omega), if_neg (by omega)]
  unfold QArithKnows.arith_Amo.f
  by_cases h1 : o ≥ 77
  · rw [if_pos h1, show decide (o ≤ 85) = false from by simp; omega, hj]
  · rw [if_neg h1, hj]

def allL : List Int := [35, 36, 37, 38, 39, 40, 41, 42, 43, 44, 45, 46, 47, 48, 49, 62, 63, 64, 65, 66, 67, 68, 69, 70, 71, 72, 73, 74]
theorem all_in : ∀ i : Nat, i < (anvillaw01_all.f.getD []).length → 35 ≤ rd (anvillaw01_all.f.getD []) (i : Int) ∧ rd (anvillaw01_all.f.getD []) (i : Int) ≤ 74 := by decide +kernel
theorem loop_no (o : Int) (h : o < 0 ∨ 97 ≤ o) (L : List Int) (hL : L.length ≤ 100) (hin : ∀ i : Nat, i < L.length → 35 ≤ rd L (i : Int) ∧ rd L (i : Int) ≤ 74) : ∀ (d i k : Nat), i + d = L.length → d + 20 < k →
    anvillaw01_ArithKnows.l0 k o 0 L (i : Int) = some true := by
  intro d
  induction d with
  | zero =>
    intro i k hi hk
    obtain ⟨k, rfl⟩ : ∃ m, k = m + 21 := ⟨k - 21, by omega⟩
    have hj : anvillaw01_ArithKnows.j3 (k + 20) o 0 false = some true := by
      have e4 : anvillaw01_ArithKnows.j4 (k + 19) o 0 = some true := by
        have a1 := size_no (k + 8) o h
        have a2 := amo_no (k + 16) o 5 3 h
        have a3 := compute_no o 5 3 h
        have a4 := taken_no o 5 3 h
        show ((anvilref01_AmoSize.f (k + 18) o).bind _) = _
        rw [show k + 18 = k + 8 + 10 from rfl, a1, Option.bind_some, if_pos rfl, a3, Option.bind_some, a4, Option.bind_some, show k + 8 + 10 = k + 16 + 2 from rfl, a2, Option.bind_some]
        rfl
      exact e4
    have hn : ¬ ((i : Int) < (L.length : Int)) := by omega
    show (if (i : Int) < (L.length : Int) then _ else _) = _
    refine (if_neg hn).trans ?_
    by_cases h5 : o ≥ 5
    · refine (if_pos h5).trans ?_
      rw [show decide (o ≤ 10) = false from by simp; omega]
      exact hj
    · exact (if_neg h5).trans hj
  | succ d ih =>
    intro i k hi hk
    obtain ⟨k, rfl⟩ : ∃ m, k = m + 1 := ⟨k - 1, by omega⟩
    have hw : wrap64 ((i : Int) + 1) = ((i + 1 : Nat) : Int) := w64_succ i (by clear ih hin; omega)
    have hx := hin i (by omega)
    have hne : ¬ rd L (i : Int) = o := fun e => by rw [e] at hx; clear ih hin hw; omega
    have hr := ih (i + 1) k (by clear hw hne hx; omega) (by clear hw hne hx; omega)
    rw [← hw] at hr
    clear hx h hw ih
    have c1 : (i : Int) < (L.length : Int) := by clear hin hne hr; omega
    have c2 : (0 : Int) ≤ (i : Int) := Int.natCast_nonneg i
    exact (if_pos c1).trans ((if_pos c2).trans ((if_neg hne).trans hr))

theorem ArithKnows (a0 : Int) (b0 : -9223372036854775808 ≤ a0) (c0 : a0 ≤ 9223372036854775807) : ∃ k, anvillaw01_ArithKnows.f k a0 = some true := by
  by_cases h : a0 < 0 ∨ 97 ≤ a0
  · refine ⟨152, ?_⟩
    have hl := loop_no a0 h (anvillaw01_all.f.getD []) (by decide +kernel) all_in 28 0 150 (by decide +kernel) (by decide)
    have hj : anvillaw01_ArithKnows.j0 152 a0 0 false = some true := by
      show anvillaw01_ArithKnows.j0 (151 + 1) a0 0 false = some true
      simp only [anvillaw01_ArithKnows.j0, Bool.false_eq_true, if_false]
      show anvillaw01_ArithKnows.j1 (150 + 1) a0 0 = some true
      simp only [anvillaw01_ArithKnows.j1]
      exact hl
    unfold anvillaw01_ArithKnows.f
    by_cases h2 : a0 ≥ 22
    · rw [if_pos h2, show decide (a0 ≤ 34) = false from by simp; omega, hj]
    · rw [if_neg h2, hj]
  · obtain ⟨n, rfl⟩ : ∃ n : Nat, a0 = (n : Int) := ⟨a0.toNat, by omega⟩
    exact ⟨300, knows_in n (by omega)⟩
end Go.Proofs.YtdjppkffmeccoaaDoor.Pure
