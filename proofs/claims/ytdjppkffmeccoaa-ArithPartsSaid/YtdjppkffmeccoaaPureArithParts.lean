/- The pure side of ArithParts: Bits and Extend are what the bits say. -/
import Derived.Test.YtdjppkffmeccoaaPArithPartsBits
set_option linter.unusedVariables false
set_option linter.unusedSimpArgs false
namespace Go.Proofs.Ytdjppkffmeccoaa.Pure
open Go.RowKit Go.Proofs.YtdjppkffmeccoaaW.PrintWords Go.Proofs.YtdjppkffmeccoaaW.PrintMore Mth PArithParts

theorem p64 : (2 : Nat) ^ 64 = 18446744073709551616 := by decide

theorem shl_nat (b i : Nat) (hb : b < 2) (hi : i < 64) : shl .u64 (b : Int) (i : Int) = ((b * 2 ^ i : Nat) : Int) := by
  have hp : 2 ^ i < 18446744073709551616 := by rw [← p64]; exact Nat.pow_lt_pow_right (by decide) hi
  have hq : b * 2 ^ i < 18446744073709551616 := by
    have : b * 2 ^ i ≤ 1 * 2 ^ i := Nat.mul_le_mul_right _ (by omega)
    omega
  have e : shl .u64 (b : Int) (i : Int) = IntKind.u64.wrap ((b * 2 ^ i : Nat) : Int) := by
    unfold shl
    rw [Int.toNat_natCast, Nat.min_eq_left (by simp [IntKind.bits]; omega)]; simp
  rw [e]; exact u64_nat _ hq

theorem or_add (x b i : Nat) (hx : x < 2 ^ i) (hb : b < 2) (hi : i < 64) : Go.bits .or .u64 (x : Int) ((b * 2 ^ i : Nat) : Int) = ((x + b * 2 ^ i : Nat) : Int) := by
  have h2 : 2 ^ (i + 1) ≤ 2 ^ 64 := Nat.pow_le_pow_right (by decide) (by omega)
  have h3 : 2 ^ (i + 1) = 2 ^ i * 2 := Nat.pow_succ ..
  have h4 : b * 2 ^ i ≤ 1 * 2 ^ i := Nat.mul_le_mul_right _ (by omega)
  rw [p64] at h2
  rw [bits_or x (b * 2 ^ i) (by omega) (by omega)]
  congr 1
  rw [Nat.mul_comm, Nat.or_comm, ← Nat.two_pow_add_eq_or_of_lt hx, Nat.add_comm]

theorem bits_loop (v lo n : Nat) (hv : v < 18446744073709551616) (hn : lo + n ≤ 64) : ∀ (d i k : Nat), i + d = n → d < k →
    arith_Bits.l0 k (v : Int) (lo : Int) ((v / 2 ^ lo % 2 ^ i : Nat) : Int) (n : Int) (i : Int) = some ((v / 2 ^ lo % 2 ^ n : Nat) : Int) := by
  intro d
  induction d with
  | zero =>
    intro i k hi hk
    obtain ⟨k, rfl⟩ : ∃ m, k = m + 1 := ⟨k - 1, by omega⟩
    obtain rfl : i = n := by omega
    simp only [arith_Bits.l0]
    rw [if_neg (by omega)]
  | succ d ih =>
    intro i k hi hk
    obtain ⟨k, rfl⟩ : ∃ m, k = m + 1 := ⟨k - 1, by omega⟩
    have hr := ih (i + 1) k (by omega) (by omega)
    have w : wrap64 ((lo : Int) + (i : Int)) = ((lo + i : Nat) : Int) := by rw [← Int.natCast_add]; exact w64_nat _ (by omega)
    simp only [arith_Bits.l0]
    rw [w, if_pos (by omega), if_pos (by omega), if_pos (by omega), shr_nat, Nat.min_eq_left (by omega), and_one _ (Nat.lt_of_le_of_lt (Nat.div_le_self _ _) hv), Nat.pow_add, ← Nat.div_div_eq_div_mul]
    rw [shl_nat _ i (Nat.mod_lt _ (by decide)) (by omega), or_add _ _ i (Nat.mod_lt _ (pow_pos2 i)) (Nat.mod_lt _ (by decide)) (by omega), w64_succ i (by omega)]
    rw [mod_succ, Nat.mul_comm] at hr
    exact hr

theorem extend_eq (v n : Nat) (hv : v < 18446744073709551616) (h1 : 1 ≤ n) (h2 : n < 64) :
    arith_Extend.f (v : Int) (n : Int) = some ((wd n 64 (top true n v) v : Nat) : Int) := by
  have hm := Nat.mod_lt v (pow_pos2 n)
  have hPQ : 2 ^ (64 - n) * 2 ^ n = 18446744073709551616 := by rw [← Nat.pow_add, ← p64]; congr 1; omega
  have hhalf : 2 ^ (64 - n) * 2 ^ (n - 1) = 9223372036854775808 := by
    rw [← Nat.pow_add, show 64 - n + (n - 1) = 63 from by omega]
  have hQ : 2 ^ n = 2 ^ (n - 1) * 2 := by rw [← Nat.pow_succ]; congr 1; omega
  have hP := pow_pos2 (64 - n)
  have hR := pow_pos2 (n - 1)
  unfold arith_Extend.f wd top
  have w : wrap64 (64 - (n : Int)) = ((64 - n : Nat) : Int) := by unfold wrap64; omega
  rw [w, if_neg (by omega), if_neg (by omega), if_pos (by omega), if_pos rfl]
  congr 1
  have hb : v / 2 ^ (n - 1) % 2 = v % 2 ^ n / 2 ^ (n - 1) := by
    rw [← mod_bit v n (n - 1) (by omega)]
    have : v % 2 ^ n / 2 ^ (n - 1) < 2 := by rw [Nat.div_lt_iff_lt_mul hR]; omega
    exact Nat.mod_eq_of_lt this
  have e1 : shl .u64 (v : Int) ((64 - n : Nat) : Int) = ((v % 2 ^ n * 2 ^ (64 - n) : Nat) : Int) := by
    have e : shl .u64 (v : Int) ((64 - n : Nat) : Int) = IntKind.u64.wrap ((v * 2 ^ (64 - n) : Nat) : Int) := by
      unfold shl
      rw [Int.toNat_natCast, Nat.min_eq_left (by simp [IntKind.bits])]; simp
    rw [e, u64_any, ← hPQ, Nat.mul_comm v, Nat.mul_mod_mul_left, Nat.mul_comm]
  have hx : v % 2 ^ n * 2 ^ (64 - n) < 18446744073709551616 := by
    rw [← hPQ, Nat.mul_comm]; exact Nat.mul_lt_mul_of_pos_left hm hP
  rw [e1, hb]
  have hd : 2 ^ (n - 1) ≤ v % 2 ^ n → v % 2 ^ n / 2 ^ (n - 1) = 1 := fun h => by
    have : v % 2 ^ n / 2 ^ (n - 1) < 2 := by rw [Nat.div_lt_iff_lt_mul hR]; omega
    have h2 : 1 ≤ v % 2 ^ n / 2 ^ (n - 1) := by rw [Nat.le_div_iff_mul_le hR]; omega
    exact Nat.le_antisymm (Nat.le_of_lt_succ this) h2
  have sh : ∀ z : Int, shr .i64 (z * ((2 ^ (64 - n) : Nat) : Int)) ((64 - n : Nat) : Int) = z := fun z => by
    unfold shr
    rw [Int.toNat_natCast, Nat.min_eq_left (by simp [IntKind.bits])]
    have : (2 : Int) ^ (64 - n) = ((2 ^ (64 - n) : Nat) : Int) := by simp
    rw [this, Int.mul_ediv_cancel _ (by omega)]
  generalize hmm : v % 2 ^ n = m at *
  generalize hPP : 2 ^ (64 - n) = P at *
  generalize hRR : 2 ^ (n - 1) = R at *
  generalize hQQ : 2 ^ n = Q at *
  rw [p64]
  have hQ64 : Q ≤ 18446744073709551616 := by rw [← hPQ]; exact Nat.le_mul_of_pos_left _ hP
  by_cases h : R ≤ m
  · rw [hd h, Nat.one_mul]
    have hge : 9223372036854775808 ≤ m * P := by rw [← hhalf, Nat.mul_comm]; exact Nat.mul_le_mul_right _ h
    have e2 : wrap64 ((m * P : Nat) : Int) = ((m : Int) - Q) * (P : Int) := by
      have : ((m : Int) - Q) * (P : Int) = ((m * P : Nat) : Int) - ((P * Q : Nat) : Int) := by
        rw [Int.sub_mul, Int.natCast_mul, Int.natCast_mul, Int.mul_comm (P : Int)]
      rw [this, hPQ]
      unfold wrap64; omega
    rw [e2, sh, IntKind.wrap_u64]
    omega
  · have hz : m / R = 0 := Nat.div_eq_of_lt (by omega)
    rw [hz, Nat.zero_mul, Nat.add_zero]
    have hlt : m * P < 9223372036854775808 := by rw [← hhalf, Nat.mul_comm]; exact Nat.mul_lt_mul_of_pos_left (by omega) hP
    have e2 : wrap64 ((m * P : Nat) : Int) = (m : Int) * (P : Int) := by
      rw [← Int.natCast_mul]; exact w64_nat _ hlt
    rw [e2, sh, IntKind.wrap_u64]
    omega

theorem ArithParts (a0 a1 a2 a3 a4 : Int) (b0 : -9223372036854775808 ≤ a0) (c0 : a0 ≤ 9223372036854775807) (b1 : 0 ≤ a1) (c1 : a1 ≤ 18446744073709551615) (b2 : 0 ≤ a2) (c2 : a2 ≤ 18446744073709551615) (b3 : -9223372036854775808 ≤ a3) (c3 : a3 ≤ 9223372036854775807) (b4 : -9223372036854775808 ≤ a4) (c4 : a4 ≤ 9223372036854775807) : ∃ k, anvillaw01_ArithParts.f k a0 a1 a2 a3 a4 = some true := by
  obtain ⟨a, rfl⟩ := Int.eq_ofNat_of_zero_le b1
  have ha : a < 18446744073709551616 := by omega
  have hbits : arith_Bits.f 600 (a : Int) a3 a4 = anvilref01_Bits.f 600 (a : Int) a3 a4 ∧ ∃ r, anvilref01_Bits.f 600 (a : Int) a3 a4 = some r := by
    have t1 : arith_Bits.j0 600 (a : Int) a3 a4 true = some 0 := by
      have : arith_Bits.j0 (599 + 1) (a : Int) a3 a4 true = some 0 := by simp only [arith_Bits.j0, if_true]
      exact this
    have t2 : anvilref01_Bits.j0 600 (a : Int) a3 a4 true = some 0 := by
      have : anvilref01_Bits.j0 (599 + 1) (a : Int) a3 a4 true = some 0 := by simp only [anvilref01_Bits.j0, if_true]
      exact this
    unfold arith_Bits.f anvilref01_Bits.f
    by_cases h1 : a4 < 0
    · simp [h1, t1, t2]
    rw [if_neg h1, if_neg h1]
    by_cases h2 : a3 > 63
    · simp [h2, t1, t2]
    rw [if_neg h2, if_neg h2]
    by_cases h3 : a3 < a4
    · simp [h3, t1, t2]
    have hd : decide (a3 < a4) = false := by simpa using h3
    rw [hd]
    obtain ⟨lo, hlo⟩ : ∃ n : Nat, a4 = (n : Int) := ⟨a4.toNat, by omega⟩
    obtain ⟨hi, hhi⟩ : ∃ n : Nat, a3 = (n : Int) := ⟨a3.toNat, by omega⟩
    subst hlo hhi
    have hle : lo ≤ hi := by omega
    have hhi2 : hi ≤ 63 := by omega
    have r1 : arith_Bits.j0 600 (a : Int) (hi : Int) (lo : Int) false = some ((a / 2 ^ lo % 2 ^ (hi + 1 - lo) : Nat) : Int) := by
      have w1 : wrap64 (wrap64 ((hi : Int) - (lo : Int)) + 1) = ((hi + 1 - lo : Nat) : Int) := by unfold wrap64; omega
      have hl := bits_loop a lo (hi + 1 - lo) ha (by omega) (hi + 1 - lo) 0 599 (by omega) (by omega)
      have : arith_Bits.j0 (599 + 1) (a : Int) (hi : Int) (lo : Int) false = some ((a / 2 ^ lo % 2 ^ (hi + 1 - lo) : Nat) : Int) := by
        simp only [arith_Bits.j0, Bool.false_eq_true, if_false, w1]
        simpa [Nat.mod_one] using hl
      exact this
    have r2 : anvilref01_Bits.j0 600 (a : Int) (hi : Int) (lo : Int) false = some ((a / 2 ^ lo % 2 ^ (hi + 1 - lo) : Nat) : Int) := by
      have w1 : wrap64 ((hi : Int) + 1) = ((hi + 1 : Nat) : Int) := w64_succ hi (by omega)
      have s1 : anvilref01_Split.f 599 (a : Int) 64 = some (bl 64 a) := split_bl a 64 599 ha (by omega) (by omega)
      have hj := join_bl (hi + 1 - lo) (a / 2 ^ lo) 599 (by omega) (by omega)
      rw [Nat.min_eq_left (by omega)] at hj
      have : anvilref01_Bits.j0 (599 + 1) (a : Int) (hi : Int) (lo : Int) false = some ((a / 2 ^ lo % 2 ^ (hi + 1 - lo) : Nat) : Int) := by
        simp only [anvilref01_Bits.j0, Bool.false_eq_true, if_false, w1, s1, Option.bind_some, bl_length]
        rw [if_pos (by omega), if_pos (by omega), if_pos (by omega), Int.toNat_natCast, Int.toNat_natCast, bl_take 64 a (hi + 1) (by omega), bl_drop (hi + 1) a lo (by omega), hj]
        rfl
      exact this
    rw [r1, r2]
    exact ⟨rfl, _, rfl⟩
  have hext : arith_Extend.f (a : Int) a3 = anvilref01_Extend.f 600 (a : Int) a3 ∧ ∃ r, anvilref01_Extend.f 600 (a : Int) a3 = some r := by
    by_cases h1 : a3 ≥ 64
    · unfold arith_Extend.f anvilref01_Extend.f
      rw [if_neg (by omega), if_pos h1, if_pos h1]; exact ⟨rfl, _, rfl⟩
    by_cases h2 : a3 ≤ 0
    · unfold arith_Extend.f anvilref01_Extend.f
      rw [if_pos h2, if_neg h1, if_pos h2]; exact ⟨rfl, _, rfl⟩
    obtain ⟨n, hn⟩ : ∃ n : Nat, a3 = (n : Int) := ⟨a3.toNat, by omega⟩
    subst hn
    have e := extend_eq a n ha (by omega) (by omega)
    have s1 := split_bl a n 600 ha (by omega) (by omega)
    have s2 : anvilref01_widen.f 600 (bl n a) 64 true = _ := widen_bl n 64 a 600 true (by omega) (by omega) (by omega) (by omega)
    have s3 := join_bl 64 (wd n 64 (top true n a) a) 600 (by omega) (by omega)
    rw [Nat.min_self, Nat.mod_eq_of_lt (wd_lt n 64 _ a (top_lt _ _ _) (by omega))] at s3
    have r : anvilref01_Extend.f 600 (a : Int) (n : Int) = some ((wd n 64 (top true n a) a : Nat) : Int) := by
      unfold anvilref01_Extend.f
      rw [if_neg h1, if_neg h2]
      simp only [s1, s2, s3, Option.bind_some]
    rw [e, r]
    exact ⟨rfl, _, rfl⟩
  obtain ⟨e1, r1, h1⟩ := hbits
  obtain ⟨e2, r2, h2⟩ := hext
  refine ⟨600, ?_⟩
  unfold anvillaw01_ArithParts.f
  rw [e1, e2, h1, h2]
  simp
end Go.Proofs.Ytdjppkffmeccoaa.Pure
