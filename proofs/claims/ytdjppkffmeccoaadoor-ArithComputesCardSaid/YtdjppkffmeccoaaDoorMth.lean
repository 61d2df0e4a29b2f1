/- Numbers as lists of bits, the lowest first: 'bl n v' is the list of the n lowest bits of v. Plain facts, no program. -/
import Derived.Test.YtdjppkffmeccoaaDoorWMore
import Derived.Laws.Bits64
import Derived.Laws.BitsLemmas
namespace Go.Proofs.YtdjppkffmeccoaaDoor.Mth
open Go.RowKit Go.Proofs.YtdjppkffmeccoaaDoorW.PrintWords Go.Proofs.YtdjppkffmeccoaaDoorW.PrintMore

def bl : Nat → Nat → List Int
  | 0, _ => []
  | n + 1, v => ((v % 2 : Nat) : Int) :: bl n (v / 2)

theorem bl_length : ∀ (n v : Nat), (bl n v).length = n
  | 0, _ => rfl
  | n + 1, v => by simp [bl, bl_length n]

theorem bl_get : ∀ (n v i : Nat), i < n → (bl n v)[i]? = some (((v / 2 ^ i % 2 : Nat)) : Int)
  | 0, _, i, h => by omega
  | n + 1, v, 0, _ => by simp [bl]
  | n + 1, v, i + 1, h => by
    have := bl_get n (v / 2) i (by omega)
    simp only [bl, List.getElem?_cons_succ, this, Nat.div_div_eq_div_mul]
    rw [Nat.pow_succ, Nat.mul_comm]

theorem bl_ext {l : List Int} {n v : Nat} (hl : l.length = n) (h : ∀ i, i < n → l[i]? = some (((v / 2 ^ i % 2 : Nat)) : Int)) : l = bl n v := by
  apply List.ext_getElem?
  intro i
  by_cases hi : i < n
  · rw [h i hi, bl_get n v i hi]
  · rw [List.getElem?_eq_none (by omega), List.getElem?_eq_none (by rw [bl_length]; omega)]

theorem rd_bl (n v i : Nat) (h : i < n) : rd (bl n v) (i : Int) = ((v / 2 ^ i % 2 : Nat) : Int) := by
  unfold rd
  rw [Int.toNat_natCast, List.getD_eq_getElem?_getD, bl_get n v i h]; rfl

theorem bl_snoc (n v : Nat) : bl (n + 1) v = bl n v ++ [((v / 2 ^ n % 2 : Nat) : Int)] := by
  symm
  apply bl_ext
  · simp [bl_length]
  · intro i hi
    by_cases h : i < n
    · rw [List.getElem?_append_left (by rw [bl_length]; exact h), bl_get n v i h]
    · have : i = n := by omega
      subst this
      rw [List.getElem?_append_right (by rw [bl_length]; omega), bl_length]; simp

theorem pow_pos2 (n : Nat) : 0 < 2 ^ n := Nat.two_pow_pos n

/-- A bit of the rest by a power of two. -/
theorem mod_bit (v n i : Nat) (h : i < n) : v % 2 ^ n / 2 ^ i % 2 = v / 2 ^ i % 2 := by
  have e : 2 ^ n = 2 ^ i * 2 ^ (n - i) := by rw [← Nat.pow_add]; congr 1; omega
  rw [e, Nat.mod_mul_right_div_self]
  exact Nat.mod_mod_of_dvd _ (by
    obtain ⟨m, hm⟩ : ∃ m, n - i = m + 1 := ⟨n - i - 1, by omega⟩
    rw [hm, Nat.pow_succ]; exact ⟨2 ^ m, by rw [Nat.mul_comm]⟩)

theorem bl_mod (n v : Nat) : bl n (v % 2 ^ n) = bl n v :=
  bl_ext (bl_length _ _) fun i hi => by rw [bl_get _ _ _ hi, mod_bit v n i hi]

theorem bl_congr {n a b : Nat} (h : a % 2 ^ n = b % 2 ^ n) : bl n a = bl n b := by rw [← bl_mod n a, h, bl_mod]

theorem bl_drop (n v i : Nat) (h : i ≤ n) : (bl n v).drop i = bl (n - i) (v / 2 ^ i) := by
  apply bl_ext
  · simp [bl_length]
  · intro j hj
    rw [List.getElem?_drop, bl_get _ _ _ (by omega), Nat.div_div_eq_div_mul, ← Nat.pow_add]

theorem bl_take (n v i : Nat) (h : i ≤ n) : (bl n v).take i = bl i v := by
  apply bl_ext
  · simp [bl_length]; omega
  · intro j hj
    rw [List.getElem?_take, if_pos hj, bl_get _ _ _ (by omega)]

theorem bl_zero (n : Nat) : bl n 0 = List.replicate n 0 := by
  symm; apply bl_ext
  · simp
  · intro i hi
    rw [List.getElem?_replicate, if_pos hi]; simp

theorem mod_succ (v n : Nat) : v % 2 ^ (n + 1) = v % 2 ^ n + 2 ^ n * (v / 2 ^ n % 2) := Nat.mod_pow_succ

theorem bit01 (v n : Nat) : v / 2 ^ n % 2 = 0 ∨ v / 2 ^ n % 2 = 1 := by omega

/-- The bit at place i set, where nothing stands from there on. -/
theorem bl_set (n x i b : Nat) (hi : i < n) (hx : x < 2 ^ i) (hb : b < 2) : (bl n x).set i (b : Int) = bl n (x + b * 2 ^ i) := by
  apply bl_ext
  · simp [bl_length]
  · intro j hj
    rw [List.getElem?_set, bl_length]
    by_cases e : i = j
    · subst e
      rw [if_pos rfl, if_pos hi, Nat.add_mul_div_right _ _ (pow_pos2 i), Nat.div_eq_of_lt hx, Nat.zero_add, Nat.mod_eq_of_lt hb]
    · rw [if_neg e, bl_get _ _ _ hj]
      by_cases l : j < i
      · have e2 : 2 ^ i = 2 ^ j * (2 * 2 ^ (i - j - 1)) := by
          rw [← Nat.pow_succ', ← Nat.pow_add]; congr 1; omega
        rw [e2, Nat.mul_left_comm, Nat.add_mul_div_left _ _ (pow_pos2 j), Nat.mul_left_comm, Nat.add_mul_mod_self_left]
      · have hl : i + 1 ≤ j := by omega
        have h1 : x + b * 2 ^ i < 2 ^ j := by
          have : 2 ^ (i + 1) ≤ 2 ^ j := Nat.pow_le_pow_right (by decide) hl
          have : b * 2 ^ i ≤ 1 * 2 ^ i := Nat.mul_le_mul_right _ (by omega)
          have : 2 ^ (i + 1) = 2 ^ i * 2 := Nat.pow_succ ..
          omega
        have h2 : x < 2 ^ j := by omega
        rw [Nat.div_eq_of_lt h1, Nat.div_eq_of_lt h2]

/-! Go's words at numbers that are no less than 0. -/
theorem w64_nat (n : Nat) (h : n < 9223372036854775808) : wrap64 (n : Int) = (n : Int) := by unfold wrap64; omega
theorem w64_succ (i : Nat) (h : i < 9223372036854775807) : wrap64 ((i : Int) + 1) = ((i + 1 : Nat) : Int) := by unfold wrap64; omega
theorem u64_nat (n : Nat) (h : n < 18446744073709551616) : IntKind.u64.wrap (n : Int) = (n : Int) := by rw [IntKind.wrap_u64]; omega
theorem u64_any (n : Nat) : IntKind.u64.wrap (n : Int) = ((n % 18446744073709551616 : Nat) : Int) := by rw [IntKind.wrap_u64]; omega
theorem and_one (x : Nat) (h : x < 18446744073709551616) : Go.bits .and .u64 (x : Int) 1 = ((x % 2 : Nat) : Int) := by
  have := bits_mask .u64 64 (by decide) (fun n h0 h1 => by rw [IntKind.wrap_u64]; omega) 1 (by omega) (x : Int) (by omega) (by omega)
  simpa using this
theorem and_low (x : Nat) (h : x < 18446744073709551616) : Go.bits .and .u64 (x : Int) 4294967295 = ((x % 4294967296 : Nat) : Int) := by
  have := bits_mask .u64 64 (by decide) (fun n h0 h1 => by rw [IntKind.wrap_u64]; omega) 32 (by omega) (x : Int) (by omega) (by omega)
  simpa using this
theorem shr_nat (v i : Nat) : shr .u64 (v : Int) (i : Int) = ((v / 2 ^ min i 64 : Nat) : Int) := by
  unfold shr
  simp [IntKind.bits]
theorem tdiv2 (x : Nat) : Int.tdiv (x : Int) 2 = ((x / 2 : Nat) : Int) := by rw [Int.tdiv_eq_ediv_of_nonneg (by omega)]; omega
theorem tmod2 (x : Nat) : Int.tmod (x : Int) 2 = ((x % 2 : Nat) : Int) := by rw [Int.tmod_eq_emod_of_nonneg (by omega)]; omega

theorem w64_small {x : Nat} (h : x < 4) : wrap64 ((x / 2 : Nat) : Int) = ((x / 2 : Nat) : Int) := w64_nat _ (by omega)

theorem wadd2 {x y : Nat} (hx : x < 2) (hy : y < 2) : wrap64 ((x : Int) + (y : Int)) = ((x + y : Nat) : Int) := by unfold wrap64; omega
theorem wadd3 {x : Nat} (hx : x < 4) : wrap64 ((x : Int) + 1) = ((x + 1 : Nat) : Int) := by unfold wrap64; omega
theorem wadd4 {x y : Nat} (hx : x + y < 4) : wrap64 ((x : Int) + (y : Int)) = ((x + y : Nat) : Int) := by unfold wrap64; omega

/-! Sums: the carry that comes to place i. -/
def carry (a b c i : Nat) : Nat := (a % 2 ^ i + b % 2 ^ i + c) / 2 ^ i
theorem carry_zero (a b c : Nat) : carry a b c 0 = c := by simp [carry, Nat.mod_one]
theorem carry_lt (a b c i : Nat) (hc : c < 2) : carry a b c i < 2 := by
  unfold carry
  rw [Nat.div_lt_iff_lt_mul (pow_pos2 i)]
  have h1 := Nat.mod_lt a (pow_pos2 i)
  have h2 := Nat.mod_lt b (pow_pos2 i)
  omega
theorem carry_bit (a b c i : Nat) : (a + b + c) / 2 ^ i % 2 = (a / 2 ^ i % 2 + b / 2 ^ i % 2 + carry a b c i) % 2 := by
  have h1 := Nat.div_add_mod a (2 ^ i)
  have h2 := Nat.div_add_mod b (2 ^ i)
  have e : a + b + c = (a % 2 ^ i + b % 2 ^ i + c) + 2 ^ i * (a / 2 ^ i + b / 2 ^ i) := by rw [Nat.mul_add]; omega
  rw [e, Nat.add_mul_div_left _ _ (pow_pos2 i)]
  unfold carry
  omega
theorem carry_succ (a b c i : Nat) : carry a b c (i + 1) = (a / 2 ^ i % 2 + b / 2 ^ i % 2 + carry a b c i) / 2 := by
  unfold carry
  rw [mod_succ, mod_succ]
  have e : a % 2 ^ i + 2 ^ i * (a / 2 ^ i % 2) + (b % 2 ^ i + 2 ^ i * (b / 2 ^ i % 2)) + c = (a % 2 ^ i + b % 2 ^ i + c) + 2 ^ i * (a / 2 ^ i % 2 + b / 2 ^ i % 2) := by rw [Nat.mul_add]; omega
  rw [e, Nat.pow_succ, ← Nat.div_div_eq_div_mul, Nat.add_mul_div_left _ _ (pow_pos2 i), Nat.add_comm]

/-! Widened: n bits, and t from there on. -/
def wd (n m t v : Nat) : Nat := v % 2 ^ n + t * (2 ^ m - 2 ^ n)
theorem ones_bit (s q : Nat) (h : q < s) : (2 ^ s - 1) / 2 ^ q % 2 = 1 := by
  have := Nat.testBit_two_pow_sub_one s q
  rw [Nat.testBit_eq_decide_div_mod_eq] at this
  simpa [h] using this
theorem wd_low (n m t v i : Nat) (hm : n ≤ m) (h : i < n) : wd n m t v / 2 ^ i % 2 = v / 2 ^ i % 2 := by
  unfold wd
  have e : 2 ^ m - 2 ^ n = 2 ^ n * (2 ^ (m - n) - 1) := by rw [Nat.mul_sub, ← Nat.pow_add, Nat.mul_one]; congr 2; omega
  rw [e, ← mod_bit (v % 2 ^ n + t * (2 ^ n * (2 ^ (m - n) - 1))) n i h, Nat.mul_left_comm, Nat.add_mul_mod_self_left, Nat.mod_mod, mod_bit v n i h]
theorem wd_high (n m t v i : Nat) (ht : t < 2) (h : n ≤ i) (hm : i < m) : wd n m t v / 2 ^ i % 2 = t := by
  unfold wd
  have e : 2 ^ m - 2 ^ n = 2 ^ n * (2 ^ (m - n) - 1) := by rw [Nat.mul_sub, ← Nat.pow_add, Nat.mul_one]; congr 2; omega
  have e2 : 2 ^ i = 2 ^ n * 2 ^ (i - n) := by rw [← Nat.pow_add]; congr 1; omega
  rw [e, e2, ← Nat.div_div_eq_div_mul, Nat.mul_left_comm, Nat.add_mul_div_left _ _ (pow_pos2 n), Nat.div_eq_of_lt (Nat.mod_lt _ (pow_pos2 n)), Nat.zero_add]
  obtain rfl | rfl : t = 0 ∨ t = 1 := by omega
  · simp
  · rw [Nat.one_mul]; exact ones_bit _ _ (by omega)
theorem wd_lt (n m t v : Nat) (ht : t < 2) (hm : n ≤ m) : wd n m t v < 2 ^ m := by
  unfold wd
  have h1 := Nat.mod_lt v (pow_pos2 n)
  have h2 : 2 ^ n ≤ 2 ^ m := Nat.pow_le_pow_right (by decide) hm
  have h3 : t * (2 ^ m - 2 ^ n) ≤ 1 * (2 ^ m - 2 ^ n) := Nat.mul_le_mul_right _ (by omega)
  omega
/-- A word as a signed number of n bits. -/
def sg (n v : Nat) : Int := if v / 2 ^ (n - 1) % 2 = 1 then (v : Int) - 2 ^ n else v

theorem bits_xor (a b : Nat) (ha : a < 18446744073709551616) (hb : b < 18446744073709551616) : Go.bits .xor .u64 (a : Int) (b : Int) = ((a ^^^ b : Nat) : Int) := by
  have h : a ^^^ b < 2 ^ 64 := Nat.xor_lt_two_pow (n := 64) ha hb
  have e : Go.bits .xor .u64 (a : Int) (b : Int) = IntKind.u64.wrap ((a ^^^ b : Nat) : Int) := by
    have ha' : a % 2 ^ IntKind.u64.bits = a := Nat.mod_eq_of_lt (show a < 2 ^ 64 from by omega)
    have hb' : b % 2 ^ IntKind.u64.bits = b := Nat.mod_eq_of_lt (show b < 2 ^ 64 from by omega)
    simp only [Go.bits, BitVec.ofInt_natCast, BitVec.toNat_xor, BitVec.toNat_ofNat, ha', hb']
  rw [e]; exact u64_nat _ (by omega)
theorem bits_and (a b : Nat) (ha : a < 18446744073709551616) (hb : b < 18446744073709551616) : Go.bits .and .u64 (a : Int) (b : Int) = ((a &&& b : Nat) : Int) :=
  (bits_nat .u64 64 (by decide) (fun n h0 h1 => by rw [IntKind.wrap_u64]; omega) a b (by omega) (by omega)).1
theorem bits_or (a b : Nat) (ha : a < 18446744073709551616) (hb : b < 18446744073709551616) : Go.bits .or .u64 (a : Int) (b : Int) = ((a ||| b : Nat) : Int) :=
  (bits_nat .u64 64 (by decide) (fun n h0 h1 => by rw [IntKind.wrap_u64]; omega) a b (by omega) (by omega)).2
theorem bit_of (x i : Nat) : x / 2 ^ i % 2 = (x.testBit i).toNat := by
  rw [Nat.testBit_eq_decide_div_mod_eq]
  rcases bit01 x i with h | h <;> simp [h]
theorem xor_bit (a b i : Nat) : (a ^^^ b) / 2 ^ i % 2 = (a / 2 ^ i % 2 + b / 2 ^ i % 2) % 2 := by
  rw [bit_of, bit_of, bit_of, Nat.testBit_xor]; cases a.testBit i <;> cases b.testBit i <;> rfl
theorem or_bit (a b i : Nat) : (a ||| b) / 2 ^ i % 2 = (a / 2 ^ i % 2 + b / 2 ^ i % 2 + 1) / 2 := by
  rw [bit_of, bit_of, bit_of, Nat.testBit_or]; cases a.testBit i <;> cases b.testBit i <;> rfl
theorem and_bit (a b i : Nat) : (a &&& b) / 2 ^ i % 2 = (a / 2 ^ i % 2 + b / 2 ^ i % 2) / 2 := by
  rw [bit_of, bit_of, bit_of, Nat.testBit_and]; cases a.testBit i <;> cases b.testBit i <;> rfl
end Go.Proofs.YtdjppkffmeccoaaDoor.Mth
