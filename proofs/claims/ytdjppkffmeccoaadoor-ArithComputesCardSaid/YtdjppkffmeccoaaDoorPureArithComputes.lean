/- The pure side of ArithComputes: both Computes answer the same. -/
import Derived.Test.YtdjppkffmeccoaaDoorQArithComputes
import Derived.Test.YtdjppkffmeccoaaDoorRefFin
set_option linter.unusedVariables false
set_option linter.unusedSimpArgs false
namespace Go.Proofs.YtdjppkffmeccoaaDoor.Pure
open Go.RowKit Go.Proofs.YtdjppkffmeccoaaDoorW.PrintWords Go.Proofs.YtdjppkffmeccoaaDoorW.PrintMore Mth PC PL QArithComputes

theorem reg_eq (k : Nat) (o : Int) : PR.anvilref01_register.f (k + 20) o = some (creg o) := by
  by_cases h : 22 ≤ o ∧ o ≤ 34
  · obtain ⟨i, hi⟩ : ∃ i : Nat, o = 22 + (i : Int) := ⟨(o - 22).toNat, by omega⟩
    have hl : i ≤ 12 := by omega
    subst hi
    obtain rfl | rfl | rfl | rfl | rfl | rfl | rfl | rfl | rfl | rfl | rfl | rfl | rfl : i = 0 ∨ i = 1 ∨ i = 2 ∨ i = 3 ∨ i = 4 ∨ i = 5 ∨ i = 6 ∨ i = 7 ∨ i = 8 ∨ i = 9 ∨ i = 10 ∨ i = 11 ∨ i = 12 := by omega
    all_goals simp [PR.anvilref01_register.f, PR.anvilref01_register.l0, rd, wrap64, creg]
  · have n : o ≠ 22 ∧ o ≠ 23 ∧ o ≠ 24 ∧ o ≠ 25 ∧ o ≠ 26 ∧ o ≠ 27 ∧ o ≠ 28 ∧ o ≠ 29 ∧ o ≠ 30 ∧ o ≠ 31 ∧ o ≠ 32 ∧ o ≠ 33 ∧ o ≠ 34 := by omega
    have m : 22 ≠ o ∧ 23 ≠ o ∧ 24 ≠ o ∧ 25 ≠ o ∧ 26 ≠ o ∧ 27 ≠ o ∧ 28 ≠ o ∧ 29 ≠ o ∧ 30 ≠ o ∧ 31 ≠ o ∧ 32 ≠ o ∧ 33 ≠ o ∧ 34 ≠ o := by omega
    obtain ⟨n0, n1, n2, n3, n4, n5, n6, n7, n8, n9, n10, n11, n12⟩ := n
    obtain ⟨m0, m1, m2, m3, m4, m5, m6, m7, m8, m9, m10, m11, m12⟩ := m
    simp [PR.anvilref01_register.f, PR.anvilref01_register.l0, rd, wrap64, creg, n0, n1, n2, n3, n4, n5, n6, n7, n8, n9, n10, n11, n12, m0, m1, m2, m3, m4, m5, m6, m7, m8, m9, m10, m11, m12]
theorem long_some (k : Nat) (t : Int) (ht : t = 45 ∨ t = 46 ∨ t = 47 ∨ t = 48 ∨ t = 49 ∨ t = 70 ∨ t = 71 ∨ t = 72 ∨ t = 73 ∨ t = 74) : PR.anvilref01_long.f (k + 20) t = some (base t) := by
  rcases ht with rfl | rfl | rfl | rfl | rfl | rfl | rfl | rfl | rfl | rfl
  all_goals simp [PR.anvilref01_long.f, PR.anvilref01_long.l0, rd, wrap64, base]
theorem long_none (k : Nat) (t : Int) (ht : ¬ (t = 45 ∨ t = 46 ∨ t = 47 ∨ t = 48 ∨ t = 49 ∨ t = 70 ∨ t = 71 ∨ t = 72 ∨ t = 73 ∨ t = 74)) : PR.anvilref01_long.f (k + 20) t = some 0 := by
  have m : 45 ≠ t ∧ 46 ≠ t ∧ 47 ≠ t ∧ 48 ≠ t ∧ 49 ≠ t ∧ 70 ≠ t ∧ 71 ≠ t ∧ 72 ≠ t ∧ 73 ≠ t ∧ 74 ≠ t := by omega
  obtain ⟨m0, m1, m2, m3, m4, m5, m6, m7, m8, m9⟩ := m
  simp [PR.anvilref01_long.f, PR.anvilref01_long.l0, rd, wrap64, m0, m1, m2, m3, m4, m5, m6, m7, m8, m9]

/-- The reference, behind its first table. -/
theorem ref_of (k : Nat) (o a b : Int) : PR.anvilref01_Compute.f (k + 20) o a b = (if creg o = 63 then ((PR.anvilref01_Wide.f (k + 20) a b true true).bind fun bt322 => (some (bt322.1, true))) else (if creg o = 64 then ((PR.anvilref01_Wide.f (k + 20) a b true false).bind fun bt324 => (some (bt324.1, true))) else (if creg o = 65 then ((PR.anvilref01_Wide.f (k + 20) a b false false).bind fun bt326 => (some (bt326.1, true))) else ((PR.anvilref01_long.f (k + 20) (creg o)).bind fun t328 => (if t328 = 0 then (PR.anvilref01_Compute.j0 (k + 20) (creg o) a b 64) else (PR.anvilref01_Compute.j0 (k + 20) t328 a b 32)))))) := by
  unfold PR.anvilref01_Compute.f
  rw [reg_eq, Option.bind_some]
theorem prog_of (o a b r : Int) (h1 : known (creg o) = true) (h : cop (creg o) a b = some r) : arith_Compute.f o a b = some (r, true) := by
  unfold arith_Compute.f
  rw [if_pos h1, h]; rfl
theorem prog_no (o a b : Int) (h1 : ¬ known (creg o) = true) : arith_Compute.f o a b = some (0, false) := by
  unfold arith_Compute.f
  rw [if_neg h1]
theorem known_iff (t : Int) : known t = true ↔ (PR.has t ∨ (t = 45 ∨ t = 46 ∨ t = 47 ∨ t = 48 ∨ t = 49 ∨ t = 70 ∨ t = 71 ∨ t = 72 ∨ t = 73 ∨ t = 74) ∨ t = 63 ∨ t = 64 ∨ t = 65) := by
  unfold known PR.has
  simp only [Bool.or_eq_true, beq_iff_eq]
  omega

theorem same (o : Int) (a b : Nat) (ha : a < 18446744073709551616) (hb : b < 18446744073709551616) : ∃ r, arith_Compute.f o (a : Int) (b : Int) = some r ∧ PR.anvilref01_Compute.f (700 + 20) o (a : Int) (b : Int) = some r := by
  have hR := ref_of 700 o (a : Int) (b : Int)
  by_cases hk : known (creg o) = true
  · rcases (known_iff _).1 hk with h | h | h | h | h
    · have n3 : creg o ≠ 63 ∧ creg o ≠ 64 ∧ creg o ≠ 65 := by unfold PR.has at h; omega
      have nl : ¬ (creg o = 45 ∨ creg o = 46 ∨ creg o = 47 ∨ creg o = 48 ∨ creg o = 49 ∨ creg o = 70 ∨ creg o = 71 ∨ creg o = 72 ∨ creg o = 73 ∨ creg o = 74) := by unfold PR.has at h; omega
      rw [if_neg n3.1, if_neg n3.2.1, if_neg n3.2.2, long_none 700 _ nl, Option.bind_some, if_pos rfl] at hR
      exact ⟨_, prog_of _ _ _ _ hk (lng a b _ h ha hb), hR.trans (PR.j0_long _ h a b (699 + 20) ha hb (by omega))⟩
    · have n3 : creg o ≠ 63 ∧ creg o ≠ 64 ∧ creg o ≠ 65 := by omega
      have hb0 : PR.has (base (creg o)) ∧ base (creg o) ≠ 0 := by
        generalize creg o = t at h
        rcases h with rfl | rfl | rfl | rfl | rfl | rfl | rfl | rfl | rfl | rfl <;> simp [PR.has, base]
      rw [if_neg n3.1, if_neg n3.2.1, if_neg n3.2.2, long_some 700 _ h, Option.bind_some, if_neg hb0.2] at hR
      exact ⟨_, prog_of _ _ _ _ hk (hlf a b _ h), hR.trans (PR.j0_half _ hb0.1 a b (699 + 20) ha hb (by omega))⟩
    · rw [if_pos h, PureW.ref_wide a b _ true true ha hb (by omega), Option.bind_some] at hR
      have hc : cop 63 (a : Int) (b : Int) = _ := PureW.r17 a b ha hb
      rw [← h] at hc
      exact ⟨_, prog_of _ _ _ _ hk hc, by rw [hR]; rfl⟩
    · rw [if_neg (by omega), if_pos h, PureW.ref_wide a b _ true false ha hb (by omega), Option.bind_some] at hR
      have hc : cop 64 (a : Int) (b : Int) = _ := PureW.r18 a b ha hb
      rw [← h] at hc
      exact ⟨_, prog_of _ _ _ _ hk hc, by rw [hR]; simp⟩
    · rw [if_neg (by omega), if_neg (by omega), if_pos h, PureW.ref_wide a b _ false false ha hb (by omega), Option.bind_some] at hR
      have hc : cop 65 (a : Int) (b : Int) = _ := PureW.r19 a b ha hb
      rw [← h] at hc
      have hl : a * b / 18446744073709551616 < 18446744073709551616 := by
        rw [Nat.div_lt_iff_lt_mul (by decide)]; exact Nat.mul_lt_mul'' ha hb
      exact ⟨_, prog_of _ _ _ _ hk hc, by rw [hR]; simp; omega⟩
  · have hn := fun e => hk ((known_iff _).2 e)
    have nh : ¬ PR.has (creg o) := fun e => hn (.inl e)
    have nl := fun e => hn (.inr (.inl e))
    rw [if_neg (fun e => hn (.inr (.inr (.inl e)))), if_neg (fun e => hn (.inr (.inr (.inr (.inl e))))), if_neg (fun e => hn (.inr (.inr (.inr (.inr e))))), long_none 700 _ nl, Option.bind_some, if_pos rfl] at hR
    exact ⟨_, prog_no _ _ _ hk, hR.trans (PR.j0_no _ nh a b (698 + 20) ha hb (by omega))⟩

theorem ArithComputes (a0 a1 a2 a3 a4 : Int) (b0 : -9223372036854775808 ≤ a0) (c0 : a0 ≤ 9223372036854775807) (b1 : 0 ≤ a1) (c1 : a1 ≤ 18446744073709551615) (b2 : 0 ≤ a2) (c2 : a2 ≤ 18446744073709551615) (b3 : -9223372036854775808 ≤ a3) (c3 : a3 ≤ 9223372036854775807) (b4 : -9223372036854775808 ≤ a4) (c4 : a4 ≤ 9223372036854775807) : ∃ k, anvillaw01_ArithComputes.f k a0 a1 a2 a3 a4 = some true := by
  obtain ⟨a, rfl⟩ := Int.eq_ofNat_of_zero_le b1
  obtain ⟨b, rfl⟩ := Int.eq_ofNat_of_zero_le b2
  obtain ⟨r, h1, h2⟩ := same a0 a b (by omega) (by omega)
  refine ⟨720, ?_⟩
  unfold anvillaw01_ArithComputes.f
  rw [h1, Option.bind_some]
  have h2' : PR.anvilref01_Compute.f 720 a0 (a : Int) (b : Int) = some r := h2
  rw [h2', Option.bind_some, if_pos rfl, beq_self_eq_true]
end Go.Proofs.YtdjppkffmeccoaaDoor.Pure
