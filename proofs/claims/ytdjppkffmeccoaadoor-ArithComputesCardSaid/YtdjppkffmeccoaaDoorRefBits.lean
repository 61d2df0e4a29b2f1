/- What the printed functions of PR answer, by lists of bits. -/
import Derived.Test.YtdjppkffmeccoaaDoorPRx5
import Derived.Test.YtdjppkffmeccoaaDoorMth
set_option linter.unusedSimpArgs false
set_option linter.unusedVariables false
namespace Go.Proofs.YtdjppkffmeccoaaDoor.PR
open Go.RowKit Go.Proofs.YtdjppkffmeccoaaDoorW.PrintWords Go.Proofs.YtdjppkffmeccoaaDoorW.PrintMore Mth

theorem split_loop (v n : Nat) (hv : v < 18446744073709551616) (hn : n ≤ 128) : ∀ (d i k : Nat), i + d = n → d < k →
    anvilref01_Split.l0 k (v : Int) (n : Int) (bl i v) (i : Int) = some (bl n v) := by
  intro d
  induction d with
  | zero =>
    intro i k hi hk
    obtain ⟨k, rfl⟩ : ∃ m, k = m + 1 := ⟨k - 1, by omega⟩
    obtain rfl : i = n := by omega
    simp only [anvilref01_Split.l0]
    rw [if_neg (by omega)]
  | succ d ih =>
    intro i k hi hk
    obtain ⟨k, rfl⟩ : ∃ m, k = m + 1 := ⟨k - 1, by omega⟩
    have hr := ih (i + 1) k (by omega) (by omega)
    rw [bl_snoc] at hr
    have hlen : (bl i v).length < 17592186044416 := by rw [bl_length]; omega
    simp only [anvilref01_Split.l0]
    rw [if_pos (by omega)]
    by_cases h : i < 64
    · rw [if_pos (by omega), u64_nat i (by omega), if_pos (by omega), shr_nat, Nat.min_eq_left (by omega)]
      have hd : v / 2 ^ i < 18446744073709551616 := Nat.lt_of_le_of_lt (Nat.div_le_self _ _) hv
      rw [and_one _ hd, w64_succ i (by omega)]
      rcases bit01 v i with b | b
      · rw [if_neg (by omega), if_pos hlen]; rw [b] at hr; exact hr
      · rw [if_pos (by omega), if_pos hlen]; rw [b] at hr; exact hr
    · rw [if_neg (by omega), if_pos hlen, w64_succ i (by omega)]
      have hz : v / 2 ^ i = 0 := Nat.div_eq_of_lt (Nat.lt_of_lt_of_le hv (Nat.pow_le_pow_right (n := 2) (by decide) (by omega : 64 ≤ i)))
      rw [hz] at hr; exact hr

theorem split_bl (v n k : Nat) (hv : v < 18446744073709551616) (hn : n ≤ 128) (hk : n < k) :
    anvilref01_Split.f k (v : Int) (n : Int) = some (bl n v) := by
  have := split_loop v n hv hn n 0 k (by omega) hk
  simpa [anvilref01_Split.f, bl] using this

theorem join_loop (n v : Nat) (hn : n ≤ 128) : ∀ (d i k : Nat), i + d = min n 64 → 2 * d + 1 < k →
    anvilref01_Join.l0 k (bl n v) ((v % 2 ^ i : Nat) : Int) (i : Int) = some ((v % 2 ^ min n 64 : Nat) : Int) := by
  intro d
  induction d with
  | zero =>
    intro i k hi hk
    obtain ⟨k, rfl⟩ : ∃ m, k = m + 2 := ⟨k - 2, by omega⟩
    obtain rfl : i = min n 64 := by omega
    simp only [anvilref01_Join.l0, bl_length, anvilref01_Join.j1]
    by_cases h : n ≤ 64
    · rw [if_neg (by omega), if_neg (by simp)]
    · rw [if_pos (by omega), if_neg (by simp; omega)]
  | succ d ih =>
    intro i k hi hk
    obtain ⟨k, rfl⟩ : ∃ m, k = m + 2 := ⟨k - 2, by omega⟩
    have hr := ih (i + 1) k (by omega) (by omega)
    rw [mod_succ] at hr
    simp only [anvilref01_Join.l0, bl_length, anvilref01_Join.j1]
    rw [if_pos (by omega), if_pos (by simp; omega), if_pos (by omega), if_pos (by omega), rd_bl n v i (by omega), u64_nat i (by omega), w64_succ i (by omega)]
    rcases bit01 v i with b | b
    · rw [if_neg (by omega)]
      rw [b, Nat.mul_zero, Nat.add_zero] at hr; exact hr
    · rw [if_pos (by omega), if_pos (by omega)]
      rw [b, Nat.mul_one] at hr
      have e : shl .u64 1 (i : Int) = ((2 ^ i : Nat) : Int) := by
        have hp : (2 ^ i : Nat) < 18446744073709551616 := Nat.lt_of_lt_of_le (Nat.pow_lt_pow_right (by decide) (by omega : i < 64)) (by decide)
        have : shl .u64 1 (i : Int) = IntKind.u64.wrap ((2 ^ i : Nat) : Int) := by
          unfold shl
          rw [Int.toNat_natCast, Nat.min_eq_left (by simp [IntKind.bits]; omega)]; simp
        rw [this]; exact u64_nat _ hp
      have hs : v % 2 ^ i + 2 ^ i < 18446744073709551616 := by
        have h1 := Nat.mod_lt v (pow_pos2 i)
        have h2 : 2 ^ (i + 1) ≤ 2 ^ 64 := Nat.pow_le_pow_right (by decide) (by omega)
        have h3 : 2 ^ (i + 1) = 2 ^ i * 2 := Nat.pow_succ ..
        omega
      rw [e, show ((v % 2 ^ i : Nat) : Int) + ((2 ^ i : Nat) : Int) = ((v % 2 ^ i + 2 ^ i : Nat) : Int) from by omega, u64_nat _ hs]
      exact hr

theorem join_bl (n v k : Nat) (hn : n ≤ 128) (hk : 300 ≤ k) : anvilref01_Join.f k (bl n v) = some ((v % 2 ^ min n 64 : Nat) : Int) := by
  have := join_loop n v hn (min n 64) 0 k (by omega) (by omega)
  simpa [anvilref01_Join.f, Nat.mod_one] using this

theorem widen_loop (n m t v : Nat) (hm : n ≤ m) (hm2 : m ≤ 128) (ht : t < 2) : ∀ (d i k : Nat), i + d = m → d < k →
    anvilref01_widen.l0 k (bl n v) (m : Int) (bl i (wd n m t v)) (t : Int) (i : Int) = some (bl m (wd n m t v)) := by
  intro d
  induction d with
  | zero =>
    intro i k hi hk
    obtain ⟨k, rfl⟩ : ∃ m, k = m + 1 := ⟨k - 1, by omega⟩
    obtain rfl : i = m := by omega
    simp only [anvilref01_widen.l0]
    rw [if_neg (by omega)]
  | succ d ih =>
    intro i k hi hk
    obtain ⟨k, rfl⟩ : ∃ m, k = m + 1 := ⟨k - 1, by omega⟩
    have hr := ih (i + 1) k (by omega) (by omega)
    rw [bl_snoc] at hr
    have hlen : (bl i (wd n m t v)).length < 17592186044416 := by rw [bl_length]; omega
    simp only [anvilref01_widen.l0]
    rw [bl_length n, w64_succ i (by omega), if_pos (by omega)]
    by_cases h : i < n
    · rw [if_pos (by omega), if_pos (by omega), if_pos hlen, rd_bl n v i h]
      rw [wd_low n m t v i hm h] at hr; exact hr
    · rw [if_neg (by omega), if_pos hlen]
      rw [wd_high n m t v i ht (by omega) (by omega)] at hr; exact hr

/-- The bit that comes in from above. -/
def top (s : Bool) (n v : Nat) : Nat := if s = true then v / 2 ^ (n - 1) % 2 else 0
theorem top_lt (s : Bool) (n v : Nat) : top s n v < 2 := by unfold top; split <;> omega
theorem widen_bl (n m v k : Nat) (s : Bool) (h1 : 1 ≤ n) (hm : n ≤ m) (hm2 : m ≤ 128) (hk : 300 ≤ k) :
    anvilref01_widen.f k (bl n v) (m : Int) s = some (bl m (wd n m (top s n v) v)) := by
  obtain ⟨k, rfl⟩ : ∃ m, k = m + 2 := ⟨k - 2, by omega⟩
  have hl := widen_loop n m (top s n v) v hm hm2 (top_lt _ _ _) m 0 k (by omega) (by omega)
  have e0 : bl 0 (wd n m (top s n v) v) = ([] : List Int) := rfl
  rw [e0] at hl
  have w : wrap64 ((n : Int) - 1) = ((n - 1 : Nat) : Int) := by unfold wrap64; omega
  simp only [anvilref01_widen.f, anvilref01_widen.j0, anvilref01_widen.j1, bl_length, w]
  cases s with
  | true =>
    rw [if_pos rfl, if_pos (by simp; omega), if_pos (by omega), if_pos (by omega), rd_bl n v _ (by omega)]
    exact hl
  | false =>
    rw [if_neg (by simp), if_neg (by simp)]
    exact hl

theorem plus_loop (n a b c : Nat) (hn : n ≤ 128) (hc : c < 2) : ∀ (d i k : Nat), i + d = n → d < k →
    anvilref01_plus.l0 k (bl n a) (bl n b) ((carry a b c i : Nat) : Int) (bl i (a + b + c)) (i : Int) = some (bl n (a + b + c)) := by
  intro d
  induction d with
  | zero =>
    intro i k hi hk
    obtain ⟨k, rfl⟩ : ∃ m, k = m + 1 := ⟨k - 1, by omega⟩
    obtain rfl : i = n := by omega
    simp only [anvilref01_plus.l0, bl_length]
    rw [if_neg (by omega)]
  | succ d ih =>
    intro i k hi hk
    obtain ⟨k, rfl⟩ : ∃ m, k = m + 1 := ⟨k - 1, by omega⟩
    have hr := ih (i + 1) k (by omega) (by omega)
    have hlen : (bl i (a + b + c)).length < 17592186044416 := by rw [bl_length]; omega
    have h0 := carry_lt a b c i hc
    have hx : a / 2 ^ i % 2 + b / 2 ^ i % 2 + carry a b c i < 4 := by omega
    rw [bl_snoc, carry_succ, carry_bit] at hr
    simp only [anvilref01_plus.l0]
    rw [bl_length n, bl_length n, if_pos (by omega), if_pos (by omega), if_pos (by omega), if_pos hlen, rd_bl n a i (by omega), rd_bl n b i (by omega), w64_succ i (by omega)]
    rw [wadd2 (Nat.mod_lt _ (by decide)) (Nat.mod_lt _ (by decide)), wadd4 hx, tdiv2, tmod2]
    rw [w64_small hx]
    exact hr

theorem plus_bl (n a b c k : Nat) (hn : n ≤ 128) (hc : c < 2) (hk : n < k) : anvilref01_plus.f k (bl n a) (bl n b) (c : Int) = some (bl n (a + b + c)) := by
  have := plus_loop n a b c hn hc n 0 k (by omega) hk
  rw [carry_zero] at this
  exact this

theorem less_loop (n a b : Nat) (hn : n ≤ 128) : ∀ (i k : Nat), i ≤ n → a / 2 ^ i = b / 2 ^ i → i < k →
    anvilref01_less.l0 k (bl n a) (bl n b) ((i : Int) - 1) = some (decide (a < b)) := by
  intro i
  induction i with
  | zero =>
    intro k _ he hk
    obtain ⟨k, rfl⟩ : ∃ m, k = m + 1 := ⟨k - 1, by omega⟩
    simp only [anvilref01_less.l0]
    rw [if_neg (by omega)]
    have : a = b := by simpa using he
    simp [this]
  | succ i ih =>
    intro k hi he hk
    obtain ⟨k, rfl⟩ : ∃ m, k = m + 1 := ⟨k - 1, by omega⟩
    have e1 : ((i + 1 : Nat) : Int) - 1 = (i : Int) := by omega
    have ea : 2 * (a / 2 ^ (i + 1)) + a / 2 ^ i % 2 = a / 2 ^ i := by rw [Nat.pow_succ, ← Nat.div_div_eq_div_mul]; exact Nat.div_add_mod _ _
    have eb : 2 * (b / 2 ^ (i + 1)) + b / 2 ^ i % 2 = b / 2 ^ i := by rw [Nat.pow_succ, ← Nat.div_div_eq_div_mul]; exact Nat.div_add_mod _ _
    simp only [anvilref01_less.l0]
    rw [e1]
    simp only [bl_length]
    rw [rd_bl n a i (by omega), rd_bl n b i (by omega)]
    rw [if_pos (by omega), if_pos (by omega), if_pos (by omega), if_pos (by omega)]
    by_cases hb : a / 2 ^ i % 2 = b / 2 ^ i % 2
    · rw [if_pos (by omega)]
      have w : wrap64 ((i : Int) - 1) = (i : Int) - 1 := by unfold wrap64; omega
      rw [w]
      exact ih k (by omega) (by omega) (by omega)
    · rw [if_neg (by omega)]
      congr 1
      have hlt : (a / 2 ^ i < b / 2 ^ i) ↔ a < b := by
        constructor
        · intro h
          exact Nat.lt_of_not_le fun hle => absurd (Nat.div_le_div_right (c := 2 ^ i) hle) (by omega)
        · intro h
          have := Nat.div_le_div_right (c := 2 ^ i) (Nat.le_of_lt h)
          omega
      rw [decide_eq_decide]
      omega

theorem less_bl (n a b k : Nat) (hn : n ≤ 128) (ha : a < 2 ^ n) (hb : b < 2 ^ n) (hk : n < k) :
    anvilref01_less.f k (bl n a) (bl n b) = some (decide (a < b)) := by
  unfold anvilref01_less.f
  rw [bl_length]
  have w : wrap64 ((n : Int) - 1) = (n : Int) - 1 := by unfold wrap64; omega
  rw [w]
  exact less_loop n a b hn n k (Nat.le_refl _) (by rw [Nat.div_eq_of_lt ha, Nat.div_eq_of_lt hb]) hk

theorem lessSigned_bl (n a b k : Nat) (h1 : 1 ≤ n) (hn : n ≤ 128) (ha : a < 2 ^ n) (hb : b < 2 ^ n) (hk : n < k) :
    anvilref01_lessSigned.f k (bl n a) (bl n b) = some (decide (sg n a < sg n b)) := by
  obtain ⟨m, rfl⟩ : ∃ m, n = m + 1 := ⟨n - 1, by omega⟩
  unfold anvilref01_lessSigned.f
  simp only [bl_length]
  have w : wrap64 (((m + 1 : Nat) : Int) - 1) = (m : Int) := by unfold wrap64; omega
  rw [w, rd_bl _ a m (by omega), rd_bl _ b m (by omega), if_pos (by omega), if_pos (by omega), if_pos (by omega)]
  have hp : (2 : Int) ^ (m + 1) = ((2 ^ (m + 1) : Nat) : Int) := by simp
  unfold sg
  rw [hp, Nat.add_sub_cancel]
  by_cases e : a / 2 ^ m % 2 = b / 2 ^ m % 2
  · rw [if_pos (by omega), less_bl _ a b k hn ha hb hk]
    simp only [Option.bind_some]
    congr 1
    rw [decide_eq_decide, e]
    split <;> omega
  · rw [if_neg (by omega)]
    congr 1
    rw [decide_eq_decide]
    have hq : 0 < 2 ^ m := pow_pos2 m
    have hs2 : 2 ^ (m + 1) = 2 ^ m * 2 := Nat.pow_succ ..
    rcases bit01 a m with x | x <;> rcases bit01 b m with y | y
    · exact absurd (x.trans y.symm) e
    · rw [x, y, if_neg (by omega), if_pos rfl]; omega
    · rw [x, y, if_pos rfl, if_neg (by omega)]; omega
    · exact absurd (x.trans y.symm) e

theorem bitwise_loop (op : Int) (n a b V : Nat) (hn : n ≤ 128)
    (hV : ∀ i, V / 2 ^ i % 2 = if op = 40 then (a / 2 ^ i % 2 + b / 2 ^ i % 2) % 2 else if op = 43 then (a / 2 ^ i % 2 + b / 2 ^ i % 2 + 1) / 2 else (a / 2 ^ i % 2 + b / 2 ^ i % 2) / 2) : ∀ (d i k : Nat), i + d = n → d < k →
    anvilref01_bitwise.l0 k op (bl n a) (bl n b) (bl i V) (i : Int) = some (bl n V) := by
  intro d
  induction d with
  | zero =>
    intro i k hi hk
    obtain ⟨k, rfl⟩ : ∃ m, k = m + 1 := ⟨k - 1, by omega⟩
    obtain rfl : i = n := by omega
    simp only [anvilref01_bitwise.l0, bl_length]
    rw [if_neg (by omega)]
  | succ d ih =>
    intro i k hi hk
    obtain ⟨k, rfl⟩ : ∃ m, k = m + 1 := ⟨k - 1, by omega⟩
    have hr := ih (i + 1) k (by omega) (by omega)
    have hlen : (bl i V).length < 17592186044416 := by rw [bl_length]; omega
    have hx1 : a / 2 ^ i % 2 + b / 2 ^ i % 2 + 1 < 4 := by omega
    have hx0 : a / 2 ^ i % 2 + b / 2 ^ i % 2 < 4 := by omega
    rw [bl_snoc, hV] at hr
    simp only [anvilref01_bitwise.l0]
    rw [bl_length n, bl_length n, if_pos (by omega), if_pos (by omega), if_pos (by omega), rd_bl n a i (by omega), rd_bl n b i (by omega), w64_succ i (by omega)]
    rw [wadd2 (Nat.mod_lt _ (by decide)) (Nat.mod_lt _ (by decide)), wadd3 hx0, tdiv2, tmod2, tdiv2, w64_small hx0, w64_small hx1]
    by_cases h40 : op = 40
    · rw [if_pos h40, if_pos hlen]; rw [if_pos h40] at hr; exact hr
    · rw [if_neg h40]; rw [if_neg h40] at hr
      by_cases h43 : op = 43
      · rw [if_pos h43, if_pos hlen]; rw [if_pos h43] at hr; exact hr
      · rw [if_neg h43, if_pos hlen]; rw [if_neg h43] at hr; exact hr

theorem xor_bl (n a b k : Nat) (hn : n ≤ 128) (hk : n < k) : anvilref01_bitwise.f k 40 (bl n a) (bl n b) = some (bl n (a ^^^ b)) :=
  bitwise_loop 40 n a b (a ^^^ b) hn (fun i => by rw [if_pos rfl, xor_bit]) n 0 k (by omega) hk
theorem or_bl (n a b k : Nat) (hn : n ≤ 128) (hk : n < k) : anvilref01_bitwise.f k 43 (bl n a) (bl n b) = some (bl n (a ||| b)) :=
  bitwise_loop 43 n a b (a ||| b) hn (fun i => by rw [if_neg (by decide), if_pos rfl, or_bit]) n 0 k (by omega) hk
theorem and_bl (n a b k : Nat) (hn : n ≤ 128) (hk : n < k) : anvilref01_bitwise.f k 44 (bl n a) (bl n b) = some (bl n (a &&& b)) :=
  bitwise_loop 44 n a b (a &&& b) hn (fun i => by rw [if_neg (by decide), if_neg (by decide), and_bit]) n 0 k (by omega) hk

theorem zeros_bl (n : Nat) (hn : n ≤ 1000) : anvilref01_zeros.f (n : Int) = some (bl n 0) := by
  unfold anvilref01_zeros.f
  rw [if_pos (by omega), Int.toNat_natCast, if_pos (by omega), bl_zero]

theorem up_loop (n a sh : Nat) (hn : n ≤ 130) (hs : sh ≤ 130) : ∀ (d i k : Nat), n ≤ i + sh + d → i ≤ n → d < k →
    anvilref01_up.l0 k (bl n a) (sh : Int) (bl n (a % 2 ^ i * 2 ^ sh)) (i : Int) = some (bl n (a * 2 ^ sh)) := by
  have fin : ∀ i, n ≤ i + sh → bl n (a % 2 ^ i * 2 ^ sh) = bl n (a * 2 ^ sh) := by
    intro i hi
    apply bl_congr
    have e : a * 2 ^ sh = a % 2 ^ i * 2 ^ sh + 2 ^ n * (2 ^ (i + sh - n) * (a / 2 ^ i)) := by
      have h1 : 2 ^ n * (2 ^ (i + sh - n) * (a / 2 ^ i)) = 2 ^ i * (a / 2 ^ i) * 2 ^ sh := by
        rw [← Nat.mul_assoc, ← Nat.pow_add, show n + (i + sh - n) = i + sh from by omega, Nat.pow_add, Nat.mul_assoc, Nat.mul_assoc, Nat.mul_comm (2 ^ sh)]
      rw [h1, ← Nat.add_mul, Nat.mod_add_div]
    rw [e, Nat.add_mul_mod_self_left]
  intro d
  induction d with
  | zero =>
    intro i k hi hin hk
    obtain ⟨k, rfl⟩ : ∃ m, k = m + 1 := ⟨k - 1, by omega⟩
    have w : wrap64 ((i : Int) + (sh : Int)) = ((i + sh : Nat) : Int) := by rw [← Int.natCast_add]; exact w64_nat _ (by omega)
    simp only [anvilref01_up.l0]
    rw [w, bl_length, if_neg (by omega), fin i (by omega)]
  | succ d ih =>
    intro i k hi hin hk
    obtain ⟨k, rfl⟩ : ∃ m, k = m + 1 := ⟨k - 1, by omega⟩
    have w : wrap64 ((i : Int) + (sh : Int)) = ((i + sh : Nat) : Int) := by rw [← Int.natCast_add]; exact w64_nat _ (by omega)
    simp only [anvilref01_up.l0]
    rw [w, bl_length, bl_length]
    by_cases h : i + sh < n
    · have hr := ih (i + 1) k (by omega) (by omega) (by omega)
      rw [if_pos (by omega), if_pos (by omega), if_pos (by omega), if_pos (by omega), if_pos (by omega), rd_bl n a i (by omega), Int.toNat_natCast, w64_succ i (by omega)]
      have hx : a % 2 ^ i * 2 ^ sh < 2 ^ (i + sh) := by
        rw [Nat.pow_add]; exact Nat.mul_lt_mul_of_pos_right (Nat.mod_lt _ (pow_pos2 i)) (pow_pos2 sh)
      rw [bl_set n _ (i + sh) _ h hx (Nat.mod_lt _ (by decide))]
      rw [mod_succ, Nat.add_mul] at hr
      rw [show a / 2 ^ i % 2 * 2 ^ (i + sh) = 2 ^ i * (a / 2 ^ i % 2) * 2 ^ sh from by rw [Nat.pow_add, Nat.mul_comm (2 ^ i) (a / 2 ^ i % 2), Nat.mul_assoc]]
      exact hr
    · rw [if_neg (by omega), fin i (by omega)]

theorem up_bl (n a sh k : Nat) (hn : n ≤ 130) (hs : sh ≤ 130) (hk : n < k) : anvilref01_up.f k (bl n a) (sh : Int) = some (bl n (a * 2 ^ sh)) := by
  unfold anvilref01_up.f
  rw [bl_length, zeros_bl n (by omega)]
  simp only [Option.bind_some]
  have := up_loop n a sh hn hs n 0 k (by omega) (by omega) hk
  rw [Nat.pow_zero, Nat.mod_one, Nat.zero_mul] at this
  exact this

theorem times_loop (n a b : Nat) (hn : n ≤ 128) : ∀ (d i k : Nat), i + d = n → d + 300 ≤ k →
    anvilref01_times.l0 k (bl n a) (bl n b) (bl n (a * (b % 2 ^ i))) (i : Int) = some (bl n (a * b)) := by
  intro d
  induction d with
  | zero =>
    intro i k hi hk
    obtain ⟨k, rfl⟩ : ∃ m, k = m + 1 := ⟨k - 1, by omega⟩
    obtain rfl : i = n := by omega
    simp only [anvilref01_times.l0]
    rw [bl_length, if_neg (by omega), bl_congr (show a * (b % 2 ^ i) % 2 ^ i = a * b % 2 ^ i from by rw [Nat.mul_mod, Nat.mod_mod, ← Nat.mul_mod])]
  | succ d ih =>
    intro i k hi hk
    obtain ⟨k, rfl⟩ : ∃ m, k = m + 1 := ⟨k - 1, by omega⟩
    have hr := ih (i + 1) k (by omega) (by omega)
    simp only [anvilref01_times.l0]
    rw [bl_length, rd_bl n b i (by omega), w64_succ i (by omega), if_pos (by omega), if_pos (by omega), up_bl n a i k (by omega) (by omega) (by omega)]
    have pl := plus_bl n (a * (b % 2 ^ i)) (a * 2 ^ i) 0 k hn (by omega) (by omega)
    simp only [Option.bind_some]
    have pl' : anvilref01_plus.f k (bl n (a * (b % 2 ^ i))) (bl n (a * 2 ^ i)) 0 = some (bl n (a * (b % 2 ^ i) + a * 2 ^ i + 0)) := pl
    rw [pl']
    simp only [Option.bind_some, Nat.add_zero]
    rw [mod_succ, Nat.mul_add] at hr
    rcases bit01 b i with x | x
    · rw [if_neg (by omega)]
      rw [x, Nat.mul_zero, Nat.mul_zero, Nat.add_zero] at hr; exact hr
    · rw [if_pos (by omega)]
      rw [x, Nat.mul_one] at hr; exact hr

theorem times_bl (n a b k : Nat) (hn : n ≤ 128) (hk : 500 ≤ k) : anvilref01_times.f k (bl n a) (bl n b) = some (bl n (a * b)) := by
  unfold anvilref01_times.f
  rw [bl_length, zeros_bl n (by omega)]
  simp only [Option.bind_some]
  have := times_loop n a b hn n 0 k (by omega) (by omega)
  rw [Nat.pow_zero, Nat.mod_one, Nat.mul_zero] at this
  exact this

theorem wide_bl (a b k : Nat) (s1 s2 : Bool) (ha : a < 18446744073709551616) (hb : b < 18446744073709551616) (hk : 500 ≤ k) :
    anvilref01_Wide.f k (a : Int) (b : Int) s1 s2 =
      some (((wd 64 128 (top s1 64 a) a * wd 64 128 (top s2 64 b) b / 2 ^ 64 % 2 ^ 64 : Nat) : Int), ((wd 64 128 (top s1 64 a) a * wd 64 128 (top s2 64 b) b % 2 ^ 64 : Nat) : Int)) := by
  have e1 : anvilref01_Split.f k (a : Int) 64 = some (bl 64 a) := split_bl a 64 k ha (by omega) (by omega)
  have e2 : anvilref01_Split.f k (b : Int) 64 = some (bl 64 b) := split_bl b 64 k hb (by omega) (by omega)
  have e3 : anvilref01_widen.f k (bl 64 a) 128 s1 = _ := widen_bl 64 128 a k s1 (by omega) (by omega) (by omega) (by omega)
  have e4 : anvilref01_widen.f k (bl 64 b) 128 s2 = _ := widen_bl 64 128 b k s2 (by omega) (by omega) (by omega) (by omega)
  unfold anvilref01_Wide.f
  simp only [e1, e2, e3, e4, Option.bind_some]
  generalize wd 64 128 (top s1 64 a) a = A
  generalize wd 64 128 (top s2 64 b) b = B
  rw [times_bl 128 A B k (by omega) hk]
  simp only [Option.bind_some]
  rw [bl_length, if_pos (by decide), bl_drop 128 _ 64 (by omega), bl_take 128 _ 64 (by omega), show 128 - 64 = 64 from rfl, join_bl 64 _ k (by omega) (by omega), join_bl 64 _ k (by omega) (by omega)]
  simp only [Option.bind_some, Nat.min_self]

end Go.Proofs.YtdjppkffmeccoaaDoor.PR
