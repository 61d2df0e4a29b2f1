/- What the printed functions of PArithBranches answer, by lists of bits. -/
import Derived.Test.YtdjppkffmeccoaaPArithBranchesx
import Derived.Test.YtdjppkffmeccoaaMth
set_option linter.unusedSimpArgs false
set_option linter.unusedVariables false
namespace Go.Proofs.Ytdjppkffmeccoaa.PArithBranches
open Go.RowKit Go.Proofs.YtdjppkffmeccoaaW.PrintWords Go.Proofs.YtdjppkffmeccoaaW.PrintMore Mth

theorem split_loop (v n : Nat) (hv : v < 18446744073709551616) (hn : n ≤ 128) : ∀ (d i k : Nat), i + d = n → d < k →
    anvilref01_Split.l0 k (v : Int) (n : Int) (bl i v) (i : Int) = some (bl n v) := by
  intro d
  induction d with
  | zero =>
    intro i k hi hk
    obtain ⟨k, rfl⟩ : ∃ m, k = m + 1 := ⟨k - 1, by omega⟩
    obtain rfl : i = n := by omega
    simp only [anvilref01_Split.l0]
    rw [if_neg (by omega)]
  | succ d ih =>
    intro i k hi hk
    obtain ⟨k, rfl⟩ : ∃ m, k = m + 1 := ⟨k - 1, by omega⟩
    have hr := ih (i + 1) k (by omega) (by omega)
    rw [bl_snoc] at hr
    have hlen : (bl i v).length < 17592186044416 := by rw [bl_length]; omega
    simp only [anvilref01_Split.l0]
    rw [if_pos (by omega)]
    by_cases h : i < 64
    · rw [if_pos (by omega), u64_nat i (by omega), if_pos (by omega), shr_nat, Nat.min_eq_left (by omega)]
      have hd : v / 2 ^ i < 18446744073709551616 := Nat.lt_of_le_of_lt (Nat.div_le_self _ _) hv
      rw [and_one _ hd, w64_succ i (by omega)]
      rcases bit01 v i with b | b
      · rw [if_neg (by omega), if_pos hlen]; rw [b] at hr; exact hr
      · rw [if_pos (by omega), if_pos hlen]; rw [b] at hr; exact hr
    · rw [if_neg (by omega), if_pos hlen, w64_succ i (by omega)]
      have hz : v / 2 ^ i = 0 := Nat.div_eq_of_lt (Nat.lt_of_lt_of_le hv (Nat.pow_le_pow_right (n := 2) (by decide) (by omega : 64 ≤ i)))
      rw [hz] at hr; exact hr

theorem split_bl (v n k : Nat) (hv : v < 18446744073709551616) (hn : n ≤ 128) (hk : n < k) :
    anvilref01_Split.f k (v : Int) (n : Int) = some (bl n v) := by
  have := split_loop v n hv hn n 0 k (by omega) hk
  simpa [anvilref01_Split.f, bl] using this

theorem less_loop (n a b : Nat) (hn : n ≤ 128) : ∀ (i k : Nat), i ≤ n → a / 2 ^ i = b / 2 ^ i → i < k →
    anvilref01_less.l0 k (bl n a) (bl n b) ((i : Int) - 1) = some (decide (a < b)) := by
  intro i
  induction i with
  | zero =>
    intro k _ he hk
    obtain ⟨k, rfl⟩ : ∃ m, k = m + 1 := ⟨k - 1, by omega⟩
    simp only [anvilref01_less.l0]
    rw [if_neg (by omega)]
    have : a = b := by simpa using he
    simp [this]
  | succ i ih =>
    intro k hi he hk
    obtain ⟨k, rfl⟩ : ∃ m, k = m + 1 := ⟨k - 1, by omega⟩
    have e1 : ((i + 1 : Nat) : Int) - 1 = (i : Int) := by omega
    have ea : 2 * (a / 2 ^ (i + 1)) + a / 2 ^ i % 2 = a / 2 ^ i := by rw [Nat.pow_succ, ← Nat.div_div_eq_div_mul]; exact Nat.div_add_mod _ _
    have eb : 2 * (b / 2 ^ (i + 1)) + b / 2 ^ i % 2 = b / 2 ^ i := by rw [Nat.pow_succ, ← Nat.div_div_eq_div_mul]; exact Nat.div_add_mod _ _
    simp only [anvilref01_less.l0]
    rw [e1]
    simp only [bl_length]
    rw [rd_bl n a i (by omega), rd_bl n b i (by omega)]
    rw [if_pos (by omega), if_pos (by omega), if_pos (by omega), if_pos (by omega)]
    by_cases hb : a / 2 ^ i % 2 = b / 2 ^ i % 2
    · rw [if_pos (by omega)]
      have w : wrap64 ((i : Int) - 1) = (i : Int) - 1 := by unfold wrap64; omega
      rw [w]
      exact ih k (by omega) (by omega) (by omega)
    · rw [if_neg (by omega)]
      congr 1
      have hlt : (a / 2 ^ i < b / 2 ^ i) ↔ a < b := by
        constructor
        · intro h
          exact Nat.lt_of_not_le fun hle => absurd (Nat.div_le_div_right (c := 2 ^ i) hle) (by omega)
        · intro h
          have := Nat.div_le_div_right (c := 2 ^ i) (Nat.le_of_lt h)
          omega
      rw [decide_eq_decide]
      omega

theorem less_bl (n a b k : Nat) (hn : n ≤ 128) (ha : a < 2 ^ n) (hb : b < 2 ^ n) (hk : n < k) :
    anvilref01_less.f k (bl n a) (bl n b) = some (decide (a < b)) := by
  unfold anvilref01_less.f
  rw [bl_length]
  have w : wrap64 ((n : Int) - 1) = (n : Int) - 1 := by unfold wrap64; omega
  rw [w]
  exact less_loop n a b hn n k (Nat.le_refl _) (by rw [Nat.div_eq_of_lt ha, Nat.div_eq_of_lt hb]) hk

theorem lessSigned_bl (n a b k : Nat) (h1 : 1 ≤ n) (hn : n ≤ 128) (ha : a < 2 ^ n) (hb : b < 2 ^ n) (hk : n < k) :
    anvilref01_lessSigned.f k (bl n a) (bl n b) = some (decide (sg n a < sg n b)) := by
  obtain ⟨m, rfl⟩ : ∃ m, n = m + 1 := ⟨n - 1, by omega⟩
  unfold anvilref01_lessSigned.f
  simp only [bl_length]
  have w : wrap64 (((m + 1 : Nat) : Int) - 1) = (m : Int) := by unfold wrap64; omega
  rw [w, rd_bl _ a m (by omega), rd_bl _ b m (by omega), if_pos (by omega), if_pos (by omega), if_pos (by omega)]
  have hp : (2 : Int) ^ (m + 1) = ((2 ^ (m + 1) : Nat) : Int) := by simp
  unfold sg
  rw [hp, Nat.add_sub_cancel]
  by_cases e : a / 2 ^ m % 2 = b / 2 ^ m % 2
  · rw [if_pos (by omega), less_bl _ a b k hn ha hb hk]
    simp only [Option.bind_some]
    congr 1
    rw [decide_eq_decide, e]
    split <;> omega
  · rw [if_neg (by omega)]
    congr 1
    rw [decide_eq_decide]
    have hq : 0 < 2 ^ m := pow_pos2 m
    have hs2 : 2 ^ (m + 1) = 2 ^ m * 2 := Nat.pow_succ ..
    rcases bit01 a m with x | x <;> rcases bit01 b m with y | y
    · exact absurd (x.trans y.symm) e
    · rw [x, y, if_neg (by omega), if_pos rfl]; omega
    · rw [x, y, if_pos rfl, if_neg (by omega)]; omega
    · exact absurd (x.trans y.symm) e

end Go.Proofs.Ytdjppkffmeccoaa.PArithBranches
