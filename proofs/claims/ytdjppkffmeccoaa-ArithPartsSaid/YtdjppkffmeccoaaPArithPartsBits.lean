/- What the printed functions of PArithParts answer, by lists of bits. -/
import Derived.Test.YtdjppkffmeccoaaPArithPartsx
import Derived.Test.YtdjppkffmeccoaaMth
set_option linter.unusedSimpArgs false
set_option linter.unusedVariables false
namespace Go.Proofs.Ytdjppkffmeccoaa.PArithParts
open Go.RowKit Go.Proofs.YtdjppkffmeccoaaW.PrintWords Go.Proofs.YtdjppkffmeccoaaW.PrintMore Mth

theorem split_loop (v n : Nat) (hv : v < 18446744073709551616) (hn : n ≤ 128) : ∀ (d i k : Nat), i + d = n → d < k →
    anvilref01_Split.l0 k (v : Int) (n : Int) (bl i v) (i : Int) = some (bl n v) := by
  intro d
  induction d with
  | zero =>
    intro i k hi hk
    obtain ⟨k, rfl⟩ : ∃ m, k = m + 1 := ⟨k - 1, by omega⟩
    obtain rfl : i = n := by omega
    simp only [anvilref01_Split.l0]
    rw [if_neg (by omega)]
  | succ d ih =>
    intro i k hi hk
    obtain ⟨k, rfl⟩ : ∃ m, k = m + 1 := ⟨k - 1, by omega⟩
    have hr := ih (i + 1) k (by omega) (by omega)
    rw [bl_snoc] at hr
    have hlen : (bl i v).length < 17592186044416 := by rw [bl_length]; omega
    simp only [anvilref01_Split.l0]
    rw [if_pos (by omega)]
    by_cases h : i < 64
    · rw [if_pos (by omega), u64_nat i (by omega), if_pos (by omega), shr_nat, Nat.min_eq_left (by omega)]
      have hd : v / 2 ^ i < 18446744073709551616 := Nat.lt_of_le_of_lt (Nat.div_le_self _ _) hv
      rw [and_one _ hd, w64_succ i (by omega)]
      rcases bit01 v i with b | b
      · rw [if_neg (by omega), if_pos hlen]; rw [b] at hr; exact hr
      · rw [if_pos (by omega), if_pos hlen]; rw [b] at hr; exact hr
    · rw [if_neg (by omega), if_pos hlen, w64_succ i (by omega)]
      have hz : v / 2 ^ i = 0 := Nat.div_eq_of_lt (Nat.lt_of_lt_of_le hv (Nat.pow_le_pow_right (n := 2) (by decide) (by omega : 64 ≤ i)))
      rw [hz] at hr; exact hr

theorem split_bl (v n k : Nat) (hv : v < 18446744073709551616) (hn : n ≤ 128) (hk : n < k) :
    anvilref01_Split.f k (v : Int) (n : Int) = some (bl n v) := by
  have := split_loop v n hv hn n 0 k (by omega) hk
  simpa [anvilref01_Split.f, bl] using this

theorem join_loop (n v : Nat) (hn : n ≤ 128) : ∀ (d i k : Nat), i + d = min n 64 → 2 * d + 1 < k →
    anvilref01_Join.l0 k (bl n v) ((v % 2 ^ i : Nat) : Int) (i : Int) = some ((v % 2 ^ min n 64 : Nat) : Int) := by
  intro d
  induction d with
  | zero =>
    intro i k hi hk
    obtain ⟨k, rfl⟩ : ∃ m, k = m + 2 := ⟨k - 2, by omega⟩
    obtain rfl : i = min n 64 := by omega
    simp only [anvilref01_Join.l0, bl_length, anvilref01_Join.j1]
    by_cases h : n ≤ 64
    · rw [if_neg (by omega), if_neg (by simp)]
    · rw [if_pos (by omega), if_neg (by simp; omega)]
  | succ d ih =>
    intro i k hi hk
    obtain ⟨k, rfl⟩ : ∃ m, k = m + 2 := ⟨k - 2, by omega⟩
    have hr := ih (i + 1) k (by omega) (by omega)
    rw [mod_succ] at hr
    simp only [anvilref01_Join.l0, bl_length, anvilref01_Join.j1]
    rw [if_pos (by omega), if_pos (by simp; omega), if_pos (by omega), if_pos (by omega), rd_bl n v i (by omega), u64_nat i (by omega), w64_succ i (by omega)]
    rcases bit01 v i with b | b
    · rw [if_neg (by omega)]
      rw [b, Nat.mul_zero, Nat.add_zero] at hr; exact hr
    · rw [if_pos (by omega), if_pos (by omega)]
      rw [b, Nat.mul_one] at hr
      have e : shl .u64 1 (i : Int) = ((2 ^ i : Nat) : Int) := by
        have hp : (2 ^ i : Nat) < 18446744073709551616 := Nat.lt_of_lt_of_le (Nat.pow_lt_pow_right (by decide) (by omega : i < 64)) (by decide)
        have : shl .u64 1 (i : Int) = IntKind.u64.wrap ((2 ^ i : Nat) : Int) := by
          unfold shl
          rw [Int.toNat_natCast, Nat.min_eq_left (by simp [IntKind.bits]; omega)]; simp
        rw [this]; exact u64_nat _ hp
      have hs : v % 2 ^ i + 2 ^ i < 18446744073709551616 := by
        have h1 := Nat.mod_lt v (pow_pos2 i)
        have h2 : 2 ^ (i + 1) ≤ 2 ^ 64 := Nat.pow_le_pow_right (by decide) (by omega)
        have h3 : 2 ^ (i + 1) = 2 ^ i * 2 := Nat.pow_succ ..
        omega
      rw [e, show ((v % 2 ^ i : Nat) : Int) + ((2 ^ i : Nat) : Int) = ((v % 2 ^ i + 2 ^ i : Nat) : Int) from by omega, u64_nat _ hs]
      exact hr

theorem join_bl (n v k : Nat) (hn : n ≤ 128) (hk : 300 ≤ k) : anvilref01_Join.f k (bl n v) = some ((v % 2 ^ min n 64 : Nat) : Int) := by
  have := join_loop n v hn (min n 64) 0 k (by omega) (by omega)
  simpa [anvilref01_Join.f, Nat.mod_one] using this

theorem widen_loop (n m t v : Nat) (hm : n ≤ m) (hm2 : m ≤ 128) (ht : t < 2) : ∀ (d i k : Nat), i + d = m → d < k →
    anvilref01_widen.l0 k (bl n v) (m : Int) (bl i (wd n m t v)) (t : Int) (i : Int) = some (bl m (wd n m t v)) := by
  intro d
  induction d with
  | zero =>
    intro i k hi hk
    obtain ⟨k, rfl⟩ : ∃ m, k = m + 1 := ⟨k - 1, by omega⟩
    obtain rfl : i = m := by omega
    simp only [anvilref01_widen.l0]
    rw [if_neg (by omega)]
  | succ d ih =>
    intro i k hi hk
    obtain ⟨k, rfl⟩ : ∃ m, k = m + 1 := ⟨k - 1, by omega⟩
    have hr := ih (i + 1) k (by omega) (by omega)
    rw [bl_snoc] at hr
    have hlen : (bl i (wd n m t v)).length < 17592186044416 := by rw [bl_length]; omega
    simp only [anvilref01_widen.l0]
    rw [bl_length n, w64_succ i (by omega), if_pos (by omega)]
    by_cases h : i < n
    · rw [if_pos (by omega), if_pos (by omega), if_pos hlen, rd_bl n v i h]
      rw [wd_low n m t v i hm h] at hr; exact hr
    · rw [if_neg (by omega), if_pos hlen]
      rw [wd_high n m t v i ht (by omega) (by omega)] at hr; exact hr

/-- The bit that comes in from above. -/
def top (s : Bool) (n v : Nat) : Nat := if s = true then v / 2 ^ (n - 1) % 2 else 0
theorem top_lt (s : Bool) (n v : Nat) : top s n v < 2 := by unfold top; split <;> omega
theorem widen_bl (n m v k : Nat) (s : Bool) (h1 : 1 ≤ n) (hm : n ≤ m) (hm2 : m ≤ 128) (hk : 300 ≤ k) :
    anvilref01_widen.f k (bl n v) (m : Int) s = some (bl m (wd n m (top s n v) v)) := by
  obtain ⟨k, rfl⟩ : ∃ m, k = m + 2 := ⟨k - 2, by omega⟩
  have hl := widen_loop n m (top s n v) v hm hm2 (top_lt _ _ _) m 0 k (by omega) (by omega)
  have e0 : bl 0 (wd n m (top s n v) v) = ([] : List Int) := rfl
  rw [e0] at hl
  have w : wrap64 ((n : Int) - 1) = ((n - 1 : Nat) : Int) := by unfold wrap64; omega
  simp only [anvilref01_widen.f, anvilref01_widen.j0, anvilref01_widen.j1, bl_length, w]
  cases s with
  | true =>
    rw [if_pos rfl, if_pos (by simp; omega), if_pos (by omega), if_pos (by omega), rd_bl n v _ (by omega)]
    exact hl
  | false =>
    rw [if_neg (by simp), if_neg (by simp)]
    exact hl

end Go.Proofs.Ytdjppkffmeccoaa.PArithParts
