/- What more of the reference's functions answer, by lists of bits: turned, minus, down, yes, none, ones, divided, size, dividedSigned, quotients. -/
import Derived.Test.YtdjppkffmeccoaaDoorRefBits
set_option linter.unusedSimpArgs false
set_option linter.unusedVariables false
namespace Go.Proofs.YtdjppkffmeccoaaDoor.PR
open Go.RowKit Go.Proofs.YtdjppkffmeccoaaDoorW.PrintWords Go.Proofs.YtdjppkffmeccoaaDoorW.PrintMore Mth

theorem not_bit (n b i : Nat) (h : i < n) : (2 ^ n - (b % 2 ^ n + 1)) / 2 ^ i % 2 = 1 - b / 2 ^ i % 2 := by
  rw [bit_of, Nat.testBit_two_pow_sub_succ (Nat.mod_lt _ (pow_pos2 n)), decide_eq_true h, Bool.true_and, Nat.testBit_mod_two_pow, decide_eq_true h, Bool.true_and, bit_of]
  cases b.testBit i <;> rfl

theorem turned_loop (n b : Nat) (hn : n ≤ 130) : ∀ (d i k : Nat), i + d = n → d < k →
    anvilref01_turned.l0 k (bl n b) (bl i (2 ^ n - (b % 2 ^ n + 1))) (i : Int) = some (bl n (2 ^ n - (b % 2 ^ n + 1))) := by
  intro d
  induction d with
  | zero =>
    intro i k hi hk
    obtain ⟨k, rfl⟩ : ∃ m, k = m + 1 := ⟨k - 1, by omega⟩
    obtain rfl : i = n := by omega
    simp only [anvilref01_turned.l0, bl_length]
    rw [if_neg (by omega)]
  | succ d ih =>
    intro i k hi hk
    obtain ⟨k, rfl⟩ : ∃ m, k = m + 1 := ⟨k - 1, by omega⟩
    have hr := ih (i + 1) k (by omega) (by omega)
    have hlen : (bl i (2 ^ n - (b % 2 ^ n + 1))).length < 17592186044416 := by rw [bl_length]; omega
    rw [bl_snoc, not_bit n b i (by omega)] at hr
    simp only [anvilref01_turned.l0]
    rw [bl_length n, if_pos (by omega), if_pos (by omega), if_pos hlen, rd_bl n b i (by omega), w64_succ i (by omega)]
    have e : wrap64 (1 - ((b / 2 ^ i % 2 : Nat) : Int)) = ((1 - b / 2 ^ i % 2 : Nat) : Int) := by
      rcases bit01 b i with x | x <;> rw [x] <;> simp [wrap64]
    rw [e]; exact hr

theorem turned_bl (n b k : Nat) (hn : n ≤ 130) (hk : n < k) : anvilref01_turned.f k (bl n b) = some (bl n (2 ^ n - (b % 2 ^ n + 1))) :=
  turned_loop n b hn n 0 k (by omega) hk

theorem minus_bl (n a b k : Nat) (hn : n ≤ 128) (hk : n < k) : anvilref01_minus.f k (bl n a) (bl n b) = some (bl n (a + (2 ^ n - b % 2 ^ n))) := by
  unfold anvilref01_minus.f
  rw [turned_bl n b k (by omega) hk]
  simp only [Option.bind_some]
  have pl := plus_bl n a (2 ^ n - (b % 2 ^ n + 1)) 1 k hn (by omega) hk
  have pl' : anvilref01_plus.f k (bl n a) (bl n (2 ^ n - (b % 2 ^ n + 1))) 1 = _ := pl
  rw [pl']
  simp only [Option.bind_some]
  have := Nat.mod_lt b (pow_pos2 n)
  rw [show a + (2 ^ n - (b % 2 ^ n + 1)) + 1 = a + (2 ^ n - b % 2 ^ n) from by omega]

theorem ones_bl (n k : Nat) (hn : n ≤ 128) (hk : n < k) : anvilref01_ones.f k (n : Int) = some (bl n (2 ^ n - 1)) := by
  unfold anvilref01_ones.f
  rw [zeros_bl n (by omega)]
  simp only [Option.bind_some]
  rw [turned_bl n 0 k (by omega) hk]
  simp [Nat.zero_mod]

theorem none_loop (n b : Nat) (hn : n ≤ 128) : ∀ (d i k : Nat), i + d = n → d < k → b % 2 ^ i = 0 →
    anvilref01_none.l0 k (bl n b) (i : Int) = some (decide (b % 2 ^ n = 0)) := by
  intro d
  induction d with
  | zero =>
    intro i k hi hk h0
    obtain ⟨k, rfl⟩ : ∃ m, k = m + 1 := ⟨k - 1, by omega⟩
    obtain rfl : i = n := by omega
    simp only [anvilref01_none.l0, bl_length]
    rw [if_neg (by omega), h0]; rfl
  | succ d ih =>
    intro i k hi hk h0
    obtain ⟨k, rfl⟩ : ∃ m, k = m + 1 := ⟨k - 1, by omega⟩
    simp only [anvilref01_none.l0]
    rw [bl_length n, if_pos (by omega), if_pos (by omega), rd_bl n b i (by omega), w64_succ i (by omega)]
    rcases bit01 b i with x | x
    · rw [if_pos (by omega)]
      exact ih (i + 1) k (by omega) (by omega) (by rw [mod_succ, h0, x]; simp)
    · rw [if_neg (by omega)]
      congr 1
      symm
      rw [decide_eq_false_iff_not]
      intro h
      have := mod_bit b n i (by omega)
      rw [h, Nat.zero_div] at this
      omega

theorem none_bl (n b k : Nat) (hn : n ≤ 128) (hk : n < k) : anvilref01_none.f k (bl n b) = some (decide (b % 2 ^ n = 0)) :=
  none_loop n b hn n 0 k (by omega) hk (by simp [Nat.mod_one])

theorem yes_bl (c : Bool) (n : Nat) (h1 : 1 ≤ n) (hn : n ≤ 128) : anvilref01_yes.f c (n : Int) = some (bl n (if c = true then 1 else 0)) := by
  unfold anvilref01_yes.f
  rw [zeros_bl n (by omega)]
  simp only [Option.bind_some]
  cases c
  · rfl
  · rw [if_pos rfl, if_pos (by rw [bl_length]; omega), if_pos rfl]
    have := bl_set n 0 0 1 (by omega) (by decide) (by decide)
    simpa using this

/-! Down: the lowest sh bits fall out, t comes in from above. -/
def dn (n sh t v : Nat) : Nat := wd (n - sh) n t (v / 2 ^ sh)
theorem dn_low (n sh t v i : Nat) (h : i + sh < n) : dn n sh t v / 2 ^ i % 2 = v / 2 ^ (i + sh) % 2 := by
  unfold dn
  rw [wd_low _ _ _ _ _ (by omega) (by omega), Nat.div_div_eq_div_mul, ← Nat.pow_add, Nat.add_comm]
theorem dn_high (n sh t v i : Nat) (ht : t < 2) (h : n ≤ i + sh) (hi : i < n) : dn n sh t v / 2 ^ i % 2 = t := by
  unfold dn
  exact wd_high _ _ _ _ _ ht (by omega) hi

theorem down_step1 (n a sh t i k : Nat) (hn : n ≤ 128) (hs : sh ≤ 128) (h : i + sh < n) (L : List Int) (hL : L.length = n) :
    anvilref01_down.l0 (k + 1) (bl n a) (sh : Int) (t : Int) L (i : Int) = anvilref01_down.l0 k (bl n a) (sh : Int) (t : Int) (L.set i ((a / 2 ^ (i + sh) % 2 : Nat) : Int)) ((i + 1 : Nat) : Int) := by
  have w : wrap64 ((i : Int) + (sh : Int)) = ((i + sh : Nat) : Int) := by rw [← Int.natCast_add]; exact w64_nat _ (by omega)
  have e := rd_bl n a (i + sh) h
  have hl : (bl n a).length = n := bl_length n a
  have w1 := w64_succ i (by omega)
  rw [anvilref01_down.l0, w, w1, e, hl, hL, if_pos (show (i : Int) < (n : Int) by omega), if_pos (show (0 : Int) ≤ (i : Int) by omega), if_pos (show (i : Int) < (n : Int) by omega), Option.bind_some, if_pos (show ((i + sh : Nat) : Int) < (n : Int) by omega), if_pos (show (0 : Int) ≤ ((i + sh : Nat) : Int) by omega), Int.toNat_natCast, List.set_set]
theorem down_step0 (n a sh t i k : Nat) (hn : n ≤ 128) (hs : sh ≤ 128) (hi : i < n) (h : ¬ i + sh < n) (L : List Int) (hL : L.length = n) :
    anvilref01_down.l0 (k + 1) (bl n a) (sh : Int) (t : Int) L (i : Int) = anvilref01_down.l0 k (bl n a) (sh : Int) (t : Int) (L.set i (t : Int)) ((i + 1 : Nat) : Int) := by
  have w : wrap64 ((i : Int) + (sh : Int)) = ((i + sh : Nat) : Int) := by rw [← Int.natCast_add]; exact w64_nat _ (by omega)
  have hl : (bl n a).length = n := bl_length n a
  have w1 := w64_succ i (by omega)
  rw [anvilref01_down.l0, w, w1, hl, hL, if_pos (show (i : Int) < (n : Int) by omega), if_pos (show (0 : Int) ≤ (i : Int) by omega), if_pos (show (i : Int) < (n : Int) by omega), Option.bind_some, if_neg (show ¬ ((i + sh : Nat) : Int) < (n : Int) by omega), Int.toNat_natCast]
theorem down_loop (n a sh t : Nat) (hn : n ≤ 128) (hs : sh ≤ 128) (ht : t < 2) : ∀ (d i k : Nat), i + d = n → d < k →
    anvilref01_down.l0 k (bl n a) (sh : Int) (t : Int) (bl n (dn n sh t a % 2 ^ i)) (i : Int) = some (bl n (dn n sh t a)) := by
  intro d
  induction d with
  | zero =>
    intro i k hi hk
    obtain ⟨k, rfl⟩ : ∃ m, k = m + 1 := ⟨k - 1, by omega⟩
    obtain rfl : i = n := by omega
    rw [anvilref01_down.l0, bl_length, if_neg (Int.lt_irrefl _), bl_mod]
  | succ d ih =>
    intro i k hi hk
    obtain ⟨k, rfl⟩ : ∃ m, k = m + 1 := ⟨k - 1, by omega⟩
    have hr := ih (i + 1) k (by omega) (by omega)
    have hx := Nat.mod_lt (dn n sh t a) (pow_pos2 i)
    rw [mod_succ, Nat.mul_comm (2 ^ i) _] at hr
    by_cases h : i + sh < n
    · rw [dn_low n sh t a i h] at hr
      rw [down_step1 n a sh t i k hn hs h _ (bl_length _ _), bl_set n _ i _ (by omega) hx (Nat.mod_lt _ (by decide))]
      exact hr
    · rw [dn_high n sh t a i ht (by omega) (by omega)] at hr
      rw [down_step0 n a sh t i k hn hs (by omega) h _ (bl_length _ _), bl_set n _ i t (by omega) hx ht]
      exact hr

theorem down_bl (n a sh t k : Nat) (hn : n ≤ 128) (hs : sh ≤ 128) (ht : t < 2) (hk : n < k) : anvilref01_down.f k (bl n a) (sh : Int) (t : Int) = some (bl n (dn n sh t a)) := by
  unfold anvilref01_down.f
  rw [bl_length, zeros_bl n (by omega)]
  simp only [Option.bind_some]
  have := down_loop n a sh t hn hs ht n 0 k (by omega) hk
  rw [Nat.pow_zero, Nat.mod_one] at this
  exact this

/-! Divided, bit by bit. -/
theorem set_low (n x b : Nat) (hb : b < 2) : (bl (n + 1) (2 * x)).set 0 (b : Int) = bl (n + 1) (2 * x + b) := by
  simp only [bl, List.set_cons_zero]
  rw [show (2 * x + b) % 2 = b from by omega, show (2 * x + b) / 2 = 2 * x / 2 from by omega]
theorem set_bit (n q j : Nat) (h : j < n) : (bl n (q * 2 ^ (j + 1))).set j 1 = bl n ((2 * q + 1) * 2 ^ j) := by
  apply bl_ext
  · simp [bl_length]
  · intro i hi
    rw [List.getElem?_set, bl_length]
    by_cases e : j = i
    · subst e
      rw [if_pos rfl, if_pos h, Nat.mul_div_cancel _ (pow_pos2 j), show (2 * q + 1) % 2 = 1 from by omega]; rfl
    · rw [if_neg e, bl_get _ _ _ hi]
      congr 2
      by_cases l : i < j
      · have e1 : 2 ^ (j + 1) = 2 ^ i * (2 * 2 ^ (j - i)) := by rw [← Nat.pow_succ', ← Nat.pow_add]; congr 1; omega
        have e2 : 2 ^ j = 2 ^ i * (2 * 2 ^ (j - i - 1)) := by rw [← Nat.pow_succ', ← Nat.pow_add]; congr 1; omega
        rw [e1, e2, Nat.mul_left_comm, Nat.mul_left_comm (2 * q + 1), Nat.mul_div_cancel_left _ (pow_pos2 i), Nat.mul_div_cancel_left _ (pow_pos2 i), Nat.mul_left_comm, Nat.mul_left_comm (2 * q + 1)]
        omega
      · have e1 : 2 ^ i = 2 ^ (j + 1) * 2 ^ (i - (j + 1)) := by rw [← Nat.pow_add]; congr 1; omega
        have e2 : (2 * q + 1) * 2 ^ j / 2 ^ (j + 1) = q := by
          rw [Nat.pow_succ, ← Nat.div_div_eq_div_mul, Nat.mul_div_cancel _ (pow_pos2 j)]; omega
        rw [e1, ← Nat.div_div_eq_div_mul, ← Nat.div_div_eq_div_mul, e2, Nat.mul_div_cancel _ (pow_pos2 (j + 1))]

/-- One step of the long division. -/
theorem step_lt (A b t : Nat) (h : 2 * (A % b) + t < b) : (2 * A + t) / b = 2 * (A / b) ∧ (2 * A + t) % b = 2 * (A % b) + t := by
  have h1 := Nat.div_add_mod A b
  have e : 2 * A + t = (2 * (A % b) + t) + b * (2 * (A / b)) := by rw [Nat.mul_left_comm]; omega
  rw [e, Nat.add_mul_div_left _ _ (by omega), Nat.add_mul_mod_self_left, Nat.div_eq_of_lt h, Nat.mod_eq_of_lt h]
  exact ⟨by omega, rfl⟩
theorem step_ge (A b t : Nat) (hb : 0 < b) (ht : t < 2) (h : ¬ 2 * (A % b) + t < b) : (2 * A + t) / b = 2 * (A / b) + 1 ∧ (2 * A + t) % b = 2 * (A % b) + t - b := by
  have h1 := Nat.div_add_mod A b
  have h2 := Nat.mod_lt A hb
  have h3 : 2 * (A % b) + t - b < b := by omega
  have e : 2 * A + t = (2 * (A % b) + t - b) + b * (2 * (A / b) + 1) := by rw [Nat.mul_add, Nat.mul_left_comm]; omega
  rw [e, Nat.add_mul_div_left _ _ hb, Nat.add_mul_mod_self_left, Nat.div_eq_of_lt h3, Nat.mod_eq_of_lt h3]
  exact ⟨by omega, rfl⟩

theorem divided_loop (n a b : Nat) (hn : n ≤ 64) (h1 : 1 ≤ n) (ha : a < 2 ^ n) (hb : b < 2 ^ n) (hb0 : 0 < b) : ∀ (j k : Nat), j ≤ n → j + 300 ≤ k →
    anvilref01_divided.l0 k (bl n a) (n : Int) (bl n (a / 2 ^ j / b * 2 ^ j)) (bl (n + 1) (a / 2 ^ j % b)) (bl (n + 1) b) ((j : Int) - 1) = some (bl n (a / b), bl n (a % b)) := by
  intro j
  induction j with
  | zero =>
    intro k hj hk
    obtain ⟨k, rfl⟩ : ∃ m, k = m + 1 := ⟨k - 1, by omega⟩
    simp only [anvilref01_divided.l0, Nat.pow_zero, Nat.div_one, Nat.mul_one, bl_length]
    rw [if_neg (by omega), if_pos (by omega), if_pos (by omega), Int.toNat_natCast, bl_take _ _ _ (by omega)]
  | succ j ih =>
    intro k hj hk
    obtain ⟨k, rfl⟩ : ∃ m, k = m + 1 := ⟨k - 1, by omega⟩
    have hr := ih k (by omega) (by omega)
    have hb2 := bit01 a j
    have hA : a / 2 ^ j = 2 * (a / 2 ^ (j + 1)) + a / 2 ^ j % 2 := by rw [Nat.pow_succ, ← Nat.div_div_eq_div_mul]; omega
    have hp : 2 ^ (n + 1) = 2 ^ n * 2 := Nat.pow_succ ..
    have hm := Nat.mod_lt (a / 2 ^ (j + 1)) hb0
    have w : wrap64 ((j : Int) - 1) = (j : Int) - 1 := by unfold wrap64; omega
    simp only [anvilref01_divided.l0]
    rw [show ((j + 1 : Nat) : Int) - 1 = (j : Int) from by omega, w]
    have up := up_bl (n + 1) (a / 2 ^ (j + 1) % b) 1 k (by omega) (by omega) (by omega)
    have up' : anvilref01_up.f k (bl (n + 1) (a / 2 ^ (j + 1) % b)) 1 = _ := up
    rw [if_pos (by omega), up']
    simp only [Option.bind_some, bl_length]
    rw [if_pos (by omega), if_pos (by omega), if_pos (by omega), rd_bl n a j (by omega), Nat.pow_one, Nat.mul_comm _ 2]
    rw [show (0 : Int).toNat = 0 from rfl, set_low n _ _ (Nat.mod_lt _ (by decide))]
    rw [hA] at hr
    generalize hA0 : a / 2 ^ (j + 1) = A at *
    generalize ht : a / 2 ^ j % 2 = t at *
    rw [less_bl (n + 1) (2 * (A % b) + t) b k (by omega) (by omega) (by omega) (by omega)]
    simp only [Option.bind_some]
    by_cases h : 2 * (A % b) + t < b
    · rw [if_pos (by rw [decide_eq_true h])]
      obtain ⟨e1, e2⟩ := step_lt A b t h
      rw [e1, e2] at hr
      rw [show A / b * 2 ^ (j + 1) = 2 * (A / b) * 2 ^ j from by rw [Nat.pow_succ, Nat.mul_comm (2 ^ j) 2, ← Nat.mul_assoc, Nat.mul_comm (A / b) 2]]
      exact hr
    · rw [if_neg (by rw [decide_eq_false h]; simp)]
      obtain ⟨e1, e2⟩ := step_ge A b t hb0 (by omega) h
      rw [e1, e2] at hr
      rw [minus_bl (n + 1) _ b k (by omega) (by omega)]
      simp only [Option.bind_some]
      rw [if_pos (by omega), Int.toNat_natCast, set_bit n _ j (by omega)]
      have hbm : b % 2 ^ (n + 1) = b := Nat.mod_eq_of_lt (by omega)
      rw [hbm, bl_congr (show (2 * (A % b) + t + (2 ^ (n + 1) - b)) % 2 ^ (n + 1) = (2 * (A % b) + t - b) % 2 ^ (n + 1) from by
        rw [show 2 * (A % b) + t + (2 ^ (n + 1) - b) = (2 * (A % b) + t - b) + 2 ^ (n + 1) from by omega, Nat.add_mod_right])]
      exact hr

theorem divided_bl (n a b k : Nat) (hn : n ≤ 64) (h1 : 1 ≤ n) (ha : a < 2 ^ n) (hb : b < 2 ^ n) (hb0 : 0 < b) (hk : 400 ≤ k) :
    anvilref01_divided.f k (bl n a) (bl n b) = some (bl n (a / b), bl n (a % b)) := by
  unfold anvilref01_divided.f
  have w1 : wrap64 ((n : Int) + 1) = ((n + 1 : Nat) : Int) := w64_succ n (by omega)
  have w2 : wrap64 ((n : Int) - 1) = (n : Int) - 1 := by unfold wrap64; omega
  rw [bl_length, w1, w2, zeros_bl n (by omega), zeros_bl (n + 1) (by omega), widen_bl n (n + 1) b k false h1 (by omega) (by omega) (by omega)]
  simp only [Option.bind_some]
  have e : wd n (n + 1) (top false n b) b = b := by unfold wd top; simp [Nat.mod_eq_of_lt hb]
  have := divided_loop n a b hn h1 ha hb hb0 n k (by omega) (by omega)
  rw [Nat.div_eq_of_lt ha, Nat.zero_div, Nat.zero_mul, Nat.zero_mod] at this
  rw [e]; exact this

/-! The signed ones. -/
def neg (n v : Nat) : Nat := 2 ^ n - v % 2 ^ n
def mag (n v : Nat) : Nat := if v / 2 ^ (n - 1) % 2 = 1 then 2 ^ n - v else v
theorem size_bl (n a k : Nat) (h1 : 1 ≤ n) (hn : n ≤ 64) (ha : a < 2 ^ n) (hk : 400 ≤ k) : anvilref01_size.f k (bl n a) = some (bl n (mag n a)) := by
  unfold anvilref01_size.f
  have w : wrap64 ((n : Int) - 1) = ((n - 1 : Nat) : Int) := by unfold wrap64; omega
  rw [bl_length, w, if_pos (by omega), if_pos (by omega), rd_bl n a _ (by omega)]
  unfold mag
  by_cases h : a / 2 ^ (n - 1) % 2 = 1
  · rw [if_pos (by omega), if_pos h, zeros_bl n (by omega)]
    simp only [Option.bind_some]
    rw [minus_bl n 0 a k (by omega) (by omega)]
    simp only [Option.bind_some]
    rw [Nat.zero_add, Nat.mod_eq_of_lt ha]
  · rw [if_neg (by omega), if_neg h]

theorem mag_pos (n v : Nat) (hv : v < 2 ^ n) (h0 : 0 < v) : 0 < mag n v ∧ mag n v < 2 ^ n := by
  unfold mag
  split <;> omega
theorem minus0_bl (n v k : Nat) (hn : n ≤ 128) (hk : n < k) (hv : v < 2 ^ n) : ((anvilref01_zeros.f (n : Int)).bind fun z => anvilref01_minus.f k z (bl n v)) = some (bl n (2 ^ n - v)) := by
  rw [zeros_bl n (by omega)]
  simp only [Option.bind_some]
  rw [minus_bl n 0 v k hn hk, Nat.zero_add, Nat.mod_eq_of_lt hv]
/-- Quotient and rest, with signs. -/
def sq (n a b : Nat) : Nat := if a / 2 ^ (n - 1) % 2 = b / 2 ^ (n - 1) % 2 then mag n a / mag n b else 2 ^ n - mag n a / mag n b
def sr (n a b : Nat) : Nat := if a / 2 ^ (n - 1) % 2 = 1 then 2 ^ n - mag n a % mag n b else mag n a % mag n b
theorem mag_lt (n v : Nat) (h1 : 1 ≤ n) (hv : v < 2 ^ n) : mag n v < 2 ^ n := by
  unfold mag
  split
  · rename_i h
    have : 0 < v := by
      rcases Nat.eq_zero_or_pos v with h0 | h0
      · subst h0; rw [Nat.zero_div] at h; omega
      · exact h0
    omega
  · exact hv
theorem divS_bl (n a b k : Nat) (h1 : 1 ≤ n) (hn : n ≤ 64) (ha : a < 2 ^ n) (hb : b < 2 ^ n) (hb0 : 0 < b) (hk : 400 ≤ k) :
    anvilref01_dividedSigned.f k (bl n a) (bl n b) = some (bl n (sq n a b), bl n (sr n a b)) := by
  have hA := mag_lt n a h1 ha
  have hB := mag_pos n b hb hb0
  unfold anvilref01_dividedSigned.f
  rw [size_bl n a k h1 hn ha hk, size_bl n b k h1 hn hb hk]
  simp only [Option.bind_some]
  rw [divided_bl n _ _ k hn h1 hA hB.2 hB.1 hk]
  simp only [Option.bind_some, bl_length]
  have w : (n : Int) - 1 = ((n - 1 : Nat) : Int) := by omega
  rw [if_pos (Nat.le_refl n), w, rd_bl n a _ (by omega), rd_bl n b _ (by omega)]
  have hq : mag n a / mag n b < 2 ^ n := Nat.lt_of_le_of_lt (Nat.div_le_self _ _) hA
  have hr : mag n a % mag n b < 2 ^ n := Nat.lt_of_le_of_lt (Nat.mod_le _ _) hA
  have e1 : anvilref01_dividedSigned.q k (n : Int) ((a / 2 ^ (n - 1) % 2 : Nat) : Int) ((b / 2 ^ (n - 1) % 2 : Nat) : Int) (bl n (mag n a / mag n b)) = some (bl n (sq n a b)) := by
    unfold anvilref01_dividedSigned.q sq
    by_cases h : a / 2 ^ (n - 1) % 2 = b / 2 ^ (n - 1) % 2
    · rw [if_pos (by rw [h]), if_pos h]
    · rw [if_neg (by omega), if_neg h, minus0_bl n _ k (by omega) (by omega) hq]
  have e2 : anvilref01_dividedSigned.r k (n : Int) ((a / 2 ^ (n - 1) % 2 : Nat) : Int) (bl n (mag n a % mag n b)) = some (bl n (sr n a b)) := by
    unfold anvilref01_dividedSigned.r sr
    by_cases h : a / 2 ^ (n - 1) % 2 = 1
    · rw [if_pos (by rw [h]; rfl), if_pos h, minus0_bl n _ k (by omega) (by omega) hr]
    · rw [if_neg (by omega), if_neg h]
  rw [e1, e2]
  rfl

/-- What the four divisions answer. -/
def Q (op : Int) (n a b : Nat) : Nat :=
  if b = 0 then (if op = 66 ∨ op = 67 then 2 ^ n - 1 else a)
  else if op = 66 then sq n a b else if op = 67 then a / b else if op = 68 then sr n a b else a % b
theorem quotients_bl (op : Int) (ho : op = 66 ∨ op = 67 ∨ op = 68 ∨ op = 69) (n a b k : Nat) (h1 : 1 ≤ n) (hn : n ≤ 64) (ha : a < 2 ^ n) (hb : b < 2 ^ n) (hk : 500 ≤ k) :
    anvilref01_quotients.f k op (bl n a) (bl n b) = some (bl n (Q op n a b)) := by
  obtain ⟨k, rfl⟩ : ∃ m, k = m + 2 := ⟨k - 2, by omega⟩
  unfold anvilref01_quotients.f
  rw [none_bl n b _ (by omega) (by omega), Nat.mod_eq_of_lt hb]
  simp only [Option.bind_some]
  unfold Q
  by_cases h0 : b = 0
  · have d : decide (b = 0) = true := decide_eq_true h0
    rw [d, if_pos h0]
    have o := ones_bl n k (by omega) (by omega)
    rcases ho with rfl | rfl | rfl | rfl <;> simp [anvilref01_quotients.j0, anvilref01_quotients.j1, bl_length, o]
  · have d : decide (b = 0) = false := decide_eq_false h0
    rw [d, if_neg h0]
    have u := divided_bl n a b k hn h1 ha hb (by omega) (by omega)
    have s := divS_bl n a b k h1 hn ha hb (by omega) (by omega)
    rcases ho with rfl | rfl | rfl | rfl <;> simp [anvilref01_quotients.j0, anvilref01_quotients.j1, bl_length, u, s]

theorem shift_bl (n b k : Nat) (hn : n = 32 ∨ n = 64) (hb : b < 2 ^ n) (hk : 300 ≤ k) : anvilref01_shift.f k (bl n b) = some (((b % n : Nat)) : Int) := by
  unfold anvilref01_shift.f
  rw [join_bl n b k (by omega) hk, show min n 64 = n from by omega, Nat.mod_eq_of_lt hb]
  simp only [Option.bind_some, bl_length]
  rw [u64_nat n (by omega), if_neg (by omega), Int.tmod_eq_emod_of_nonneg (by omega), ← Int.natCast_emod, w64_nat]
  have := Nat.mod_lt b (show 0 < n by omega)
  omega
end Go.Proofs.YtdjppkffmeccoaaDoor.PR
