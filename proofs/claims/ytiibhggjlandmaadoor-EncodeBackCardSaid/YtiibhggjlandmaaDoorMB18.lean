/- Texts of this claim, put together by a program: Mth, PureDec, PureDec2, PurePar. -/
import Derived.Test.YtiibhggjlandmaaDoorMB0
import Derived.Laws.Bits64
import Derived.Laws.BitsLemmas
import Derived.Test.YtiibhggjlandmaaDoorMB15
import Derived.Test.YtiibhggjlandmaaDoorMB6
/- Numbers as lists of bits, the lowest first: 'bl n v' is the list of the n lowest bits of v. Plain facts, no program. -/
namespace Go.Proofs.YtiibhggjlandmaaDoor.Mth
open Go.RowKit Go.Proofs.YtiibhggjlandmaaDoorW.PrintWords Go.Proofs.YtiibhggjlandmaaDoorW.PrintMore

def bl : Nat → Nat → List Int
  | 0, _ => []
  | n + 1, v => ((v % 2 : Nat) : Int) :: bl n (v / 2)

theorem bl_length : ∀ (n v : Nat), (bl n v).length = n
  | 0, _ => rfl
  | n + 1, v => by simp [bl, bl_length n]

theorem bl_get : ∀ (n v i : Nat), i < n → (bl n v)[i]? = some (((v / 2 ^ i % 2 : Nat)) : Int)
  | 0, _, i, h => by omega
  | n + 1, v, 0, _ => by simp [bl]
  | n + 1, v, i + 1, h => by
    have := bl_get n (v / 2) i (by omega)
    simp only [bl, List.getElem?_cons_succ, this, Nat.div_div_eq_div_mul]
    rw [Nat.pow_succ, Nat.mul_comm]

theorem bl_ext {l : List Int} {n v : Nat} (hl : l.length = n) (h : ∀ i, i < n → l[i]? = some (((v / 2 ^ i % 2 : Nat)) : Int)) : l = bl n v := by
  apply List.ext_getElem?
  intro i
  by_cases hi : i < n
  · rw [h i hi, bl_get n v i hi]
  · rw [List.getElem?_eq_none (by omega), List.getElem?_eq_none (by rw [bl_length]; omega)]

theorem rd_bl (n v i : Nat) (h : i < n) : rd (bl n v) (i : Int) = ((v / 2 ^ i % 2 : Nat) : Int) := by
  unfold rd
  rw [Int.toNat_natCast, List.getD_eq_getElem?_getD, bl_get n v i h]; rfl

theorem bl_snoc (n v : Nat) : bl (n + 1) v = bl n v ++ [((v / 2 ^ n % 2 : Nat) : Int)] := by
  symm
  apply bl_ext
  · simp [bl_length]
  · intro i hi
    by_cases h : i < n
    · rw [List.getElem?_append_left (by rw [bl_length]; exact h), bl_get n v i h]
    · have : i = n := by omega
      subst this
      rw [List.getElem?_append_right (by rw [bl_length]; omega), bl_length]; simp

theorem pow_pos2 (n : Nat) : 0 < 2 ^ n := Nat.two_pow_pos n

/-- A bit of the rest by a power of two. -/
theorem mod_bit (v n i : Nat) (h : i < n) : v % 2 ^ n / 2 ^ i % 2 = v / 2 ^ i % 2 := by
  have e : 2 ^ n = 2 ^ i * 2 ^ (n - i) := by rw [← Nat.pow_add]; congr 1; omega
  rw [e, Nat.mod_mul_right_div_self]
  exact Nat.mod_mod_of_dvd _ (by
    obtain ⟨m, hm⟩ : ∃ m, n - i = m + 1 := ⟨n - i - 1, by omega⟩
    rw [hm, Nat.pow_succ]; exact ⟨2 ^ m, by rw [Nat.mul_comm]⟩)

theorem bl_mod (n v : Nat) : bl n (v % 2 ^ n) = bl n v :=
  bl_ext (bl_length _ _) fun i hi => by rw [bl_get _ _ _ hi, mod_bit v n i hi]

theorem bl_congr {n a b : Nat} (h : a % 2 ^ n = b % 2 ^ n) : bl n a = bl n b := by rw [← bl_mod n a, h, bl_mod]

theorem bl_drop (n v i : Nat) (h : i ≤ n) : (bl n v).drop i = bl (n - i) (v / 2 ^ i) := by
  apply bl_ext
  · simp [bl_length]
  · intro j hj
    rw [List.getElem?_drop, bl_get _ _ _ (by omega), Nat.div_div_eq_div_mul, ← Nat.pow_add]

theorem bl_take (n v i : Nat) (h : i ≤ n) : (bl n v).take i = bl i v := by
  apply bl_ext
  · simp [bl_length]; omega
  · intro j hj
    rw [List.getElem?_take, if_pos hj, bl_get _ _ _ (by omega)]

theorem bl_zero (n : Nat) : bl n 0 = List.replicate n 0 := by
  symm; apply bl_ext
  · simp
  · intro i hi
    rw [List.getElem?_replicate, if_pos hi]; simp

theorem mod_succ (v n : Nat) : v % 2 ^ (n + 1) = v % 2 ^ n + 2 ^ n * (v / 2 ^ n % 2) := Nat.mod_pow_succ

theorem bit01 (v n : Nat) : v / 2 ^ n % 2 = 0 ∨ v / 2 ^ n % 2 = 1 := by omega

/-- The bit at place i set, where nothing stands from there on. -/
theorem bl_set (n x i b : Nat) (hi : i < n) (hx : x < 2 ^ i) (hb : b < 2) : (bl n x).set i (b : Int) = bl n (x + b * 2 ^ i) := by
  apply bl_ext
  · simp [bl_length]
  · intro j hj
    rw [List.getElem?_set, bl_length]
    by_cases e : i = j
    · subst e
      rw [if_pos rfl, if_pos hi, Nat.add_mul_div_right _ _ (pow_pos2 i), Nat.div_eq_of_lt hx, Nat.zero_add, Nat.mod_eq_of_lt hb]
    · rw [if_neg e, bl_get _ _ _ hj]
      by_cases l : j < i
      · have e2 : 2 ^ i = 2 ^ j * (2 * 2 ^ (i - j - 1)) := by
          rw [← Nat.pow_succ', ← Nat.pow_add]; congr 1; omega
        rw [e2, Nat.mul_left_comm, Nat.add_mul_div_left _ _ (pow_pos2 j), Nat.mul_left_comm, Nat.add_mul_mod_self_left]
      · have hl : i + 1 ≤ j := by omega
        have h1 : x + b * 2 ^ i < 2 ^ j := by
          have : 2 ^ (i + 1) ≤ 2 ^ j := Nat.pow_le_pow_right (by decide) hl
          have : b * 2 ^ i ≤ 1 * 2 ^ i := Nat.mul_le_mul_right _ (by omega)
          have : 2 ^ (i + 1) = 2 ^ i * 2 := Nat.pow_succ ..
          omega
        have h2 : x < 2 ^ j := by omega
        rw [Nat.div_eq_of_lt h1, Nat.div_eq_of_lt h2]

/-! Go's words at numbers that are no less than 0. -/
theorem w64_nat (n : Nat) (h : n < 9223372036854775808) : wrap64 (n : Int) = (n : Int) := by unfold wrap64; omega
theorem w64_succ (i : Nat) (h : i < 9223372036854775807) : wrap64 ((i : Int) + 1) = ((i + 1 : Nat) : Int) := by unfold wrap64; omega
theorem u64_nat (n : Nat) (h : n < 18446744073709551616) : IntKind.u64.wrap (n : Int) = (n : Int) := by rw [IntKind.wrap_u64]; omega
theorem u64_any (n : Nat) : IntKind.u64.wrap (n : Int) = ((n % 18446744073709551616 : Nat) : Int) := by rw [IntKind.wrap_u64]; omega
theorem and_one (x : Nat) (h : x < 18446744073709551616) : Go.bits .and .u64 (x : Int) 1 = ((x % 2 : Nat) : Int) := by
  have := bits_mask .u64 64 (by decide) (fun n h0 h1 => by rw [IntKind.wrap_u64]; omega) 1 (by omega) (x : Int) (by omega) (by omega)
  simpa using this
theorem and_low (x : Nat) (h : x < 18446744073709551616) : Go.bits .and .u64 (x : Int) 4294967295 = ((x % 4294967296 : Nat) : Int) := by
  have := bits_mask .u64 64 (by decide) (fun n h0 h1 => by rw [IntKind.wrap_u64]; omega) 32 (by omega) (x : Int) (by omega) (by omega)
  simpa using this
theorem shr_nat (v i : Nat) : shr .u64 (v : Int) (i : Int) = ((v / 2 ^ min i 64 : Nat) : Int) := by
  unfold shr
  simp [IntKind.bits]
theorem tdiv2 (x : Nat) : Int.tdiv (x : Int) 2 = ((x / 2 : Nat) : Int) := by rw [Int.tdiv_eq_ediv_of_nonneg (by omega)]; omega
theorem tmod2 (x : Nat) : Int.tmod (x : Int) 2 = ((x % 2 : Nat) : Int) := by rw [Int.tmod_eq_emod_of_nonneg (by omega)]; omega

theorem w64_small {x : Nat} (h : x < 4) : wrap64 ((x / 2 : Nat) : Int) = ((x / 2 : Nat) : Int) := w64_nat _ (by omega)

theorem wadd2 {x y : Nat} (hx : x < 2) (hy : y < 2) : wrap64 ((x : Int) + (y : Int)) = ((x + y : Nat) : Int) := by unfold wrap64; omega
theorem wadd3 {x : Nat} (hx : x < 4) : wrap64 ((x : Int) + 1) = ((x + 1 : Nat) : Int) := by unfold wrap64; omega
theorem wadd4 {x y : Nat} (hx : x + y < 4) : wrap64 ((x : Int) + (y : Int)) = ((x + y : Nat) : Int) := by unfold wrap64; omega

/-! Sums: the carry that comes to place i. -/
def carry (a b c i : Nat) : Nat := (a % 2 ^ i + b % 2 ^ i + c) / 2 ^ i
theorem carry_zero (a b c : Nat) : carry a b c 0 = c := by simp [carry, Nat.mod_one]
theorem carry_lt (a b c i : Nat) (hc : c < 2) : carry a b c i < 2 := by
  unfold carry
  rw [Nat.div_lt_iff_lt_mul (pow_pos2 i)]
  have h1 := Nat.mod_lt a (pow_pos2 i)
  have h2 := Nat.mod_lt b (pow_pos2 i)
  omega
theorem carry_bit (a b c i : Nat) : (a + b + c) / 2 ^ i % 2 = (a / 2 ^ i % 2 + b / 2 ^ i % 2 + carry a b c i) % 2 := by
  have h1 := Nat.div_add_mod a (2 ^ i)
  have h2 := Nat.div_add_mod b (2 ^ i)
  have e : a + b + c = (a % 2 ^ i + b % 2 ^ i + c) + 2 ^ i * (a / 2 ^ i + b / 2 ^ i) := by rw [Nat.mul_add]; omega
  rw [e, Nat.add_mul_div_left _ _ (pow_pos2 i)]
  unfold carry
  omega
theorem carry_succ (a b c i : Nat) : carry a b c (i + 1) = (a / 2 ^ i % 2 + b / 2 ^ i % 2 + carry a b c i) / 2 := by
  unfold carry
  rw [mod_succ, mod_succ]
  have e : a % 2 ^ i + 2 ^ i * (a / 2 ^ i % 2) + (b % 2 ^ i + 2 ^ i * (b / 2 ^ i % 2)) + c = (a % 2 ^ i + b % 2 ^ i + c) + 2 ^ i * (a / 2 ^ i % 2 + b / 2 ^ i % 2) := by rw [Nat.mul_add]; omega
  rw [e, Nat.pow_succ, ← Nat.div_div_eq_div_mul, Nat.add_mul_div_left _ _ (pow_pos2 i), Nat.add_comm]

/-! Widened: n bits, and t from there on. -/
def wd (n m t v : Nat) : Nat := v % 2 ^ n + t * (2 ^ m - 2 ^ n)
theorem ones_bit (s q : Nat) (h : q < s) : (2 ^ s - 1) / 2 ^ q % 2 = 1 := by
  have := Nat.testBit_two_pow_sub_one s q
  rw [Nat.testBit_eq_decide_div_mod_eq] at this
  simpa [h] using this
theorem wd_low (n m t v i : Nat) (hm : n ≤ m) (h : i < n) : wd n m t v / 2 ^ i % 2 = v / 2 ^ i % 2 := by
  unfold wd
  have e : 2 ^ m - 2 ^ n = 2 ^ n * (2 ^ (m - n) - 1) := by rw [Nat.mul_sub, ← Nat.pow_add, Nat.mul_one]; congr 2; omega
  rw [e, ← mod_bit (v % 2 ^ n + t * (2 ^ n * (2 ^ (m - n) - 1))) n i h, Nat.mul_left_comm, Nat.add_mul_mod_self_left, Nat.mod_mod, mod_bit v n i h]
theorem wd_high (n m t v i : Nat) (ht : t < 2) (h : n ≤ i) (hm : i < m) : wd n m t v / 2 ^ i % 2 = t := by
  unfold wd
  have e : 2 ^ m - 2 ^ n = 2 ^ n * (2 ^ (m - n) - 1) := by rw [Nat.mul_sub, ← Nat.pow_add, Nat.mul_one]; congr 2; omega
  have e2 : 2 ^ i = 2 ^ n * 2 ^ (i - n) := by rw [← Nat.pow_add]; congr 1; omega
  rw [e, e2, ← Nat.div_div_eq_div_mul, Nat.mul_left_comm, Nat.add_mul_div_left _ _ (pow_pos2 n), Nat.div_eq_of_lt (Nat.mod_lt _ (pow_pos2 n)), Nat.zero_add]
  obtain rfl | rfl : t = 0 ∨ t = 1 := by omega
  · simp
  · rw [Nat.one_mul]; exact ones_bit _ _ (by omega)
theorem wd_lt (n m t v : Nat) (ht : t < 2) (hm : n ≤ m) : wd n m t v < 2 ^ m := by
  unfold wd
  have h1 := Nat.mod_lt v (pow_pos2 n)
  have h2 : 2 ^ n ≤ 2 ^ m := Nat.pow_le_pow_right (by decide) hm
  have h3 : t * (2 ^ m - 2 ^ n) ≤ 1 * (2 ^ m - 2 ^ n) := Nat.mul_le_mul_right _ (by omega)
  omega
/-- A word as a signed number of n bits. -/
def sg (n v : Nat) : Int := if v / 2 ^ (n - 1) % 2 = 1 then (v : Int) - 2 ^ n else v

theorem bits_xor (a b : Nat) (ha : a < 18446744073709551616) (hb : b < 18446744073709551616) : Go.bits .xor .u64 (a : Int) (b : Int) = ((a ^^^ b : Nat) : Int) := by
  have h : a ^^^ b < 2 ^ 64 := Nat.xor_lt_two_pow (n := 64) ha hb
  have e : Go.bits .xor .u64 (a : Int) (b : Int) = IntKind.u64.wrap ((a ^^^ b : Nat) : Int) := by
    have ha' : a % 2 ^ IntKind.u64.bits = a := Nat.mod_eq_of_lt (show a < 2 ^ 64 from by omega)
    have hb' : b % 2 ^ IntKind.u64.bits = b := Nat.mod_eq_of_lt (show b < 2 ^ 64 from by omega)
    simp only [Go.bits, BitVec.ofInt_natCast, BitVec.toNat_xor, BitVec.toNat_ofNat, ha', hb']
  rw [e]; exact u64_nat _ (by omega)
theorem bits_and (a b : Nat) (ha : a < 18446744073709551616) (hb : b < 18446744073709551616) : Go.bits .and .u64 (a : Int) (b : Int) = ((a &&& b : Nat) : Int) :=
  (bits_nat .u64 64 (by decide) (fun n h0 h1 => by rw [IntKind.wrap_u64]; omega) a b (by omega) (by omega)).1
theorem bits_or (a b : Nat) (ha : a < 18446744073709551616) (hb : b < 18446744073709551616) : Go.bits .or .u64 (a : Int) (b : Int) = ((a ||| b : Nat) : Int) :=
  (bits_nat .u64 64 (by decide) (fun n h0 h1 => by rw [IntKind.wrap_u64]; omega) a b (by omega) (by omega)).2
theorem bit_of (x i : Nat) : x / 2 ^ i % 2 = (x.testBit i).toNat := by
  rw [Nat.testBit_eq_decide_div_mod_eq]
  rcases bit01 x i with h | h <;> simp [h]
theorem xor_bit (a b i : Nat) : (a ^^^ b) / 2 ^ i % 2 = (a / 2 ^ i % 2 + b / 2 ^ i % 2) % 2 := by
  rw [bit_of, bit_of, bit_of, Nat.testBit_xor]; cases a.testBit i <;> cases b.testBit i <;> rfl
theorem or_bit (a b i : Nat) : (a ||| b) / 2 ^ i % 2 = (a / 2 ^ i % 2 + b / 2 ^ i % 2 + 1) / 2 := by
  rw [bit_of, bit_of, bit_of, Nat.testBit_or]; cases a.testBit i <;> cases b.testBit i <;> rfl
theorem and_bit (a b i : Nat) : (a &&& b) / 2 ^ i % 2 = (a / 2 ^ i % 2 + b / 2 ^ i % 2) / 2 := by
  rw [bit_of, bit_of, bit_of, Nat.testBit_and]; cases a.testBit i <;> cases b.testBit i <;> rfl
end Go.Proofs.YtiibhggjlandmaaDoor.Mth
/- decode.Decode in closed form: fields by division, immediates by sums. Plain facts over the printed functions. -/
namespace Go.Proofs.YtiibhggjlandmaaDoor.Pure
open Go.RowKit Go.Proofs.YtiibhggjlandmaaDoorW.PrintWords Go.Proofs.YtiibhggjlandmaaDoorW.PrintMore Go.Proofs.YtiibhggjlandmaaDoor.PB Go.Proofs.YtiibhggjlandmaaDoor.PD Go.Proofs.YtiibhggjlandmaaDoor.Mth
set_option linter.unusedVariables false
set_option linter.unusedSimpArgs false

theorem p64 : (2 : Nat) ^ 64 = 18446744073709551616 := by decide

theorem shl_nat (b i : Nat) (hb : b < 2) (hi : i < 64) : shl .u64 (b : Int) (i : Int) = ((b * 2 ^ i : Nat) : Int) := by
  have hp : 2 ^ i < 18446744073709551616 := by rw [← p64]; exact Nat.pow_lt_pow_right (by decide) hi
  have hq : b * 2 ^ i < 18446744073709551616 := by
    have : b * 2 ^ i ≤ 1 * 2 ^ i := Nat.mul_le_mul_right _ (by omega)
    omega
  have e : shl .u64 (b : Int) (i : Int) = IntKind.u64.wrap ((b * 2 ^ i : Nat) : Int) := by
    unfold shl
    rw [Int.toNat_natCast, Nat.min_eq_left (by simp [IntKind.bits]; omega)]; simp
  rw [e]; exact u64_nat _ hq

theorem or_add (x b i : Nat) (hx : x < 2 ^ i) (hb : b < 2) (hi : i < 64) : Go.bits .or .u64 (x : Int) ((b * 2 ^ i : Nat) : Int) = ((x + b * 2 ^ i : Nat) : Int) := by
  have h2 : 2 ^ (i + 1) ≤ 2 ^ 64 := Nat.pow_le_pow_right (by decide) (by omega)
  have h3 : 2 ^ (i + 1) = 2 ^ i * 2 := Nat.pow_succ ..
  have h4 : b * 2 ^ i ≤ 1 * 2 ^ i := Nat.mul_le_mul_right _ (by omega)
  rw [p64] at h2
  rw [bits_or x (b * 2 ^ i) (by omega) (by omega)]
  congr 1
  rw [Nat.mul_comm, Nat.or_comm, ← Nat.two_pow_add_eq_or_of_lt hx, Nat.add_comm]

theorem bits_loop (v lo n : Nat) (hv : v < 18446744073709551616) (hn : lo + n ≤ 64) : ∀ (d i k : Nat), i + d = n → d < k →
    arith_Bits.l0 k (v : Int) (lo : Int) ((v / 2 ^ lo % 2 ^ i : Nat) : Int) (n : Int) (i : Int) = some ((v / 2 ^ lo % 2 ^ n : Nat) : Int) := by
  intro d
  induction d with
  | zero =>
    intro i k hi hk
    obtain ⟨k, rfl⟩ : ∃ m, k = m + 1 := ⟨k - 1, by omega⟩
    obtain rfl : i = n := by omega
    simp only [arith_Bits.l0]
    rw [if_neg (by omega)]
  | succ d ih =>
    intro i k hi hk
    obtain ⟨k, rfl⟩ : ∃ m, k = m + 1 := ⟨k - 1, by omega⟩
    have hr := ih (i + 1) k (by omega) (by omega)
    have w : wrap64 ((lo : Int) + (i : Int)) = ((lo + i : Nat) : Int) := by rw [← Int.natCast_add]; exact w64_nat _ (by omega)
    simp only [arith_Bits.l0]
    rw [w, if_pos (by omega), if_pos (by omega), if_pos (by omega), shr_nat, Nat.min_eq_left (by omega), and_one _ (Nat.lt_of_le_of_lt (Nat.div_le_self _ _) hv), Nat.pow_add, ← Nat.div_div_eq_div_mul]
    rw [shl_nat _ i (Nat.mod_lt _ (by decide)) (by omega), or_add _ _ i (Nat.mod_lt _ (pow_pos2 i)) (Nat.mod_lt _ (by decide)) (by omega), w64_succ i (by omega)]
    rw [mod_succ, Nat.mul_comm] at hr
    exact hr

/-- The bits hi to lo. -/
def fld (r hi lo : Nat) : Nat := r / 2 ^ lo % 2 ^ (hi + 1 - lo)
theorem field_eq {k : Nat} (hk : 70 ≤ k) (r hi lo : Nat) (hr : r < 4294967296) (hl : lo ≤ hi) (hh : hi ≤ 31) : decode_field.f k (r : Int) (hi : Int) (lo : Int) = some ((fld r hi lo : Nat) : Int) := by
  have hb : fld r hi lo < 4294967296 := Nat.lt_of_le_of_lt (Nat.mod_le _ _) (Nat.lt_of_le_of_lt (Nat.div_le_self _ _) hr)
  obtain ⟨j, rfl⟩ : ∃ j, k = j + 1 := ⟨k - 1, by omega⟩
  have e : arith_Bits.f (j + 1) (r : Int) (hi : Int) (lo : Int) = some ((fld r hi lo : Nat) : Int) := by
    unfold arith_Bits.f
    rw [if_neg (by omega), if_neg (by omega), decide_eq_false (by omega), arith_Bits.j0, if_neg (by simp)]
    have w : wrap64 (wrap64 ((hi : Int) - (lo : Int)) + 1) = ((hi + 1 - lo : Nat) : Int) := by unfold wrap64; omega
    have := bits_loop r lo (hi + 1 - lo) (by omega) (by omega) (hi + 1 - lo) 0 j (by omega) (by omega)
    rw [w]
    simpa [Nat.mod_one, fld] using this
  unfold decode_field.f
  rw [u64_nat r (by omega), e, Option.bind_some, w64_nat _ (by omega)]

theorem shl64 (x i : Nat) (hi : i ≤ 31) (h : x * 2 ^ i < 9223372036854775808) : shl .i64 (x : Int) (i : Int) = ((x * 2 ^ i : Nat) : Int) := by
  have e : shl .i64 (x : Int) (i : Int) = wrap64 ((x * 2 ^ i : Nat) : Int) := by
    unfold shl
    rw [Int.toNat_natCast, Nat.min_eq_left (by simp [IntKind.bits]; omega)]
    rw [IntKind.wrap_i64]; simp [wrap64]
  rw [e, w64_nat _ h]
theorem part_eq {k : Nat} (hk : 70 ≤ k) (r hi lo i : Nat) (hr : r < 4294967296) (hl : lo ≤ hi) (hh : hi ≤ 31) (hi2 : i ≤ 31) : decode_part.f k (r : Int) (hi : Int) (lo : Int) (i : Int) = some ((fld r hi lo * 2 ^ i : Nat) : Int) := by
  have hb : fld r hi lo < 4294967296 := Nat.lt_of_le_of_lt (Nat.mod_le _ _) (Nat.lt_of_le_of_lt (Nat.div_le_self _ _) hr)
  have hp : 2 ^ i ≤ 2 ^ 31 := Nat.pow_le_pow_right (by decide) hi2
  have hm : fld r hi lo * 2 ^ i < 9223372036854775808 := Nat.lt_of_le_of_lt (Nat.mul_le_mul (Nat.le_of_lt_succ hb) hp) (by decide)
  unfold decode_part.f
  rw [field_eq hk r hi lo hr hl hh, Option.bind_some, if_pos (by omega), shl64 _ i hi2 hm]

/-- An n bit number with its sign. -/
def sgn (n v : Nat) : Int := if 2 ^ (n - 1) ≤ v % 2 ^ n then ((v % 2 ^ n : Nat) : Int) - ((2 ^ n : Nat) : Int) else ((v % 2 ^ n : Nat) : Int)
theorem wrap_back (z : Int) (h0 : -9223372036854775808 ≤ z) (h1 : z < 9223372036854775808) : wrap64 (IntKind.u64.wrap z) = z := by
  rw [IntKind.wrap_u64]; unfold wrap64; omega
theorem sgn_in (m Q R : Nat) (hQ : Q = R * 2) (h64 : Q ≤ 18446744073709551616) (hm : m < Q) (h : R ≤ m) : -9223372036854775808 ≤ (m : Int) - (Q : Int) ∧ (m : Int) - (Q : Int) < 9223372036854775808 := by omega
theorem sgn_lo (m Q R : Nat) (hQ : Q = R * 2) (h64 : Q ≤ 18446744073709551616) (h : ¬ R ≤ m) : -9223372036854775808 ≤ (m : Int) ∧ (m : Int) < 9223372036854775808 := by omega
theorem signed_eq (v n : Nat) (hv : v < 9223372036854775808) (h1 : 1 ≤ n) (h2 : n < 64) : decode_signed.f (v : Int) (n : Int) = some (sgn n v) := by
  have hm := Nat.mod_lt v (pow_pos2 n)
  have hPQ : 2 ^ (64 - n) * 2 ^ n = 18446744073709551616 := by rw [← Nat.pow_add, ← p64]; congr 1; omega
  have hhalf : 2 ^ (64 - n) * 2 ^ (n - 1) = 9223372036854775808 := by
    rw [← Nat.pow_add, show 64 - n + (n - 1) = 63 from by omega]
  have hQ : 2 ^ n = 2 ^ (n - 1) * 2 := by rw [← Nat.pow_succ]; congr 1; omega
  have hP := pow_pos2 (64 - n)
  have hR := pow_pos2 (n - 1)
  unfold decode_signed.f arith_Extend.f sgn
  have w : wrap64 (64 - (n : Int)) = ((64 - n : Nat) : Int) := by unfold wrap64; omega
  rw [u64_nat v (by omega), w, if_neg (by omega), if_neg (by omega), if_pos (by omega), Option.bind_some]
  congr 1
  have e1 : shl .u64 (v : Int) ((64 - n : Nat) : Int) = ((v % 2 ^ n * 2 ^ (64 - n) : Nat) : Int) := by
    have e : shl .u64 (v : Int) ((64 - n : Nat) : Int) = IntKind.u64.wrap ((v * 2 ^ (64 - n) : Nat) : Int) := by
      unfold shl
      rw [Int.toNat_natCast, Nat.min_eq_left (by simp [IntKind.bits])]; simp
    rw [e, u64_any, ← hPQ, Nat.mul_comm v, Nat.mul_mod_mul_left, Nat.mul_comm]
  have hx : v % 2 ^ n * 2 ^ (64 - n) < 18446744073709551616 := by
    rw [← hPQ, Nat.mul_comm]; exact Nat.mul_lt_mul_of_pos_left hm hP
  rw [e1]
  have sh : ∀ z : Int, shr .i64 (z * ((2 ^ (64 - n) : Nat) : Int)) ((64 - n : Nat) : Int) = z := fun z => by
    unfold shr
    rw [Int.toNat_natCast, Nat.min_eq_left (by simp [IntKind.bits])]
    have : (2 : Int) ^ (64 - n) = ((2 ^ (64 - n) : Nat) : Int) := by simp
    rw [this, Int.mul_ediv_cancel _ (by omega)]
  generalize hmm : v % 2 ^ n = m at *
  generalize hPP : 2 ^ (64 - n) = P at *
  generalize hRR : 2 ^ (n - 1) = R at *
  generalize hQQ : 2 ^ n = Q at *
  have hQ64 : Q ≤ 18446744073709551616 := by rw [← hPQ]; exact Nat.le_mul_of_pos_left _ hP
  by_cases h : R ≤ m
  · rw [if_pos h]
    have hge : 9223372036854775808 ≤ m * P := by rw [← hhalf, Nat.mul_comm]; exact Nat.mul_le_mul_right _ h
    have e2 : wrap64 ((m * P : Nat) : Int) = ((m : Int) - Q) * (P : Int) := by
      have : ((m : Int) - Q) * (P : Int) = ((m * P : Nat) : Int) - ((P * Q : Nat) : Int) := by
        rw [Int.sub_mul, Int.natCast_mul, Int.natCast_mul, Int.mul_comm (P : Int)]
      rw [this, hPQ]
      unfold wrap64; omega
    rw [e2, sh]
    exact wrap_back _ (sgn_in m Q R hQ hQ64 hm h).1 (sgn_in m Q R hQ hQ64 hm h).2
  · rw [if_neg h]
    have hlt : m * P < 9223372036854775808 := by rw [← hhalf, Nat.mul_comm]; exact Nat.mul_lt_mul_of_pos_left (by omega) hP
    have e2 : wrap64 ((m * P : Nat) : Int) = (m : Int) * (P : Int) := by
      rw [← Int.natCast_mul]; exact w64_nat _ hlt
    rw [e2, sh]
    exact wrap_back _ (sgn_lo m Q R hQ hQ64 h).1 (sgn_lo m Q R hQ hQ64 h).2

/-- A number's bits and a smaller one's: the sum. -/
theorem or_sum (y x i : Nat) (hx : x < 2 ^ i) (h : y * 2 ^ i + x < 9223372036854775808) : Go.bits .or .i64 ((y * 2 ^ i : Nat) : Int) (x : Int) = ((y * 2 ^ i + x : Nat) : Int) := by
  have e : y * 2 ^ i ||| x = y * 2 ^ i + x := by rw [Nat.mul_comm, ← Nat.two_pow_add_eq_or_of_lt hx]
  have hb := @bits_or (y * 2 ^ i) x (by omega) (by omega)
  have h1 : (BitVec.ofInt 64 ((y * 2 ^ i : Nat) : Int)).toNat = y * 2 ^ i := by
    rw [BitVec.ofInt_natCast, BitVec.toNat_ofNat]; exact Nat.mod_eq_of_lt (by omega)
  have h2 : (BitVec.ofInt 64 ((x : Nat) : Int)).toNat = x := by
    rw [BitVec.ofInt_natCast, BitVec.toNat_ofNat]; exact Nat.mod_eq_of_lt (by omega)
  show IntKind.i64.wrap ((BitVec.ofInt 64 ((y * 2 ^ i : Nat) : Int) ||| BitVec.ofInt 64 ((x : Nat) : Int)).toNat : Int) = _
  rw [BitVec.toNat_or, h1, h2, e, IntKind.wrap_i64]
  omega
theorem or_at {a b : Int} (y x i : Nat) (ha : a = ((y * 2 ^ i : Nat) : Int)) (hb : b = (x : Int)) (hx : x < 2 ^ i) (h : y * 2 ^ i + x < 9223372036854775808) : Go.bits .or .i64 a b = ((y * 2 ^ i + x : Nat) : Int) := by
  subst ha hb; exact or_sum y x i hx h

/-- The immediates' numbers. -/
def immJ (r : Nat) : Nat := ((fld r 31 31 * 256 + fld r 19 12) * 2 + fld r 20 20) * 2048 + fld r 30 21 * 2
def immB (r : Nat) : Nat := ((fld r 31 31 * 2 + fld r 7 7) * 64 + fld r 30 25) * 32 + fld r 11 8 * 2
def immS (r : Nat) : Nat := fld r 31 25 * 32 + fld r 11 7
theorem fld_lt (r hi lo : Nat) : fld r hi lo < 2 ^ (hi + 1 - lo) := Nat.mod_lt _ (pow_pos2 _)
/-- What fill puts in, by shape. -/
def fillN (s : Int) (r : Nat) (op len raw : Int) : Int × Int × Int × Int × Int × Bool × Bool × Int × Int :=
  if s = 0 then (op, (fld r 11 7 : Nat), 0, 0, sgn 32 (fld r 31 12 * 4096), false, false, len, raw)
  else if s = 1 then (op, (fld r 11 7 : Nat), 0, 0, sgn 21 (immJ r), false, false, len, raw)
  else if s = 2 then (op, (fld r 11 7 : Nat), (fld r 19 15 : Nat), 0, sgn 12 (fld r 31 20), false, false, len, raw)
  else if s = 3 then (op, 0, (fld r 19 15 : Nat), (fld r 24 20 : Nat), sgn 13 (immB r), false, false, len, raw)
  else if s = 4 then (op, 0, (fld r 19 15 : Nat), (fld r 24 20 : Nat), sgn 12 (immS r), false, false, len, raw)
  else if s = 5 then (op, (fld r 11 7 : Nat), (fld r 19 15 : Nat), 0, (fld r 25 20 : Nat), false, false, len, raw)
  else if s = 6 then (op, (fld r 11 7 : Nat), (fld r 19 15 : Nat), 0, (fld r 24 20 : Nat), false, false, len, raw)
  else if s = 7 then (op, (fld r 11 7 : Nat), (fld r 19 15 : Nat), (fld r 24 20 : Nat), 0, false, false, len, raw)
  else if s = 8 then (op, (fld r 11 7 : Nat), (fld r 19 15 : Nat), 0, (fld r 31 20 : Nat), false, false, len, raw)
  else if s = 10 then (op, (fld r 11 7 : Nat), (fld r 19 15 : Nat), (fld r 24 20 : Nat), 0, ((fld r 26 26 : Nat) : Int) == 1, ((fld r 25 25 : Nat) : Int) == 1, len, raw)
  else (op, 0, 0, 0, 0, false, false, len, raw)

theorem immJ_eq (r : Nat) : Go.bits .or .i64 (Go.bits .or .i64 (Go.bits .or .i64 ((fld r 31 31 * 2 ^ 20 : Nat) : Int) ((fld r 19 12 * 2 ^ 12 : Nat) : Int)) ((fld r 20 20 * 2 ^ 11 : Nat) : Int)) ((fld r 30 21 * 2 ^ 1 : Nat) : Int) = (immJ r : Int) := by
  have a := fld_lt r 31 31; have b := fld_lt r 19 12; have c := fld_lt r 20 20; have d := fld_lt r 30 21
  simp only [Nat.reduceAdd, Nat.reduceSub, Nat.reducePow] at a b c d
  unfold immJ
  rw [or_at (fld r 31 31) (fld r 19 12 * 2 ^ 12) 20 rfl rfl (by omega) (by omega)]
  rw [or_at (fld r 31 31 * 256 + fld r 19 12) (fld r 20 20 * 2 ^ 11) 12 (by omega) rfl (by omega) (by omega)]
  rw [or_at ((fld r 31 31 * 256 + fld r 19 12) * 2 + fld r 20 20) (fld r 30 21 * 2 ^ 1) 11 (by omega) rfl (by omega) (by omega)]
theorem immB_eq (r : Nat) : Go.bits .or .i64 (Go.bits .or .i64 (Go.bits .or .i64 ((fld r 31 31 * 2 ^ 12 : Nat) : Int) ((fld r 7 7 * 2 ^ 11 : Nat) : Int)) ((fld r 30 25 * 2 ^ 5 : Nat) : Int)) ((fld r 11 8 * 2 ^ 1 : Nat) : Int) = (immB r : Int) := by
  have a := fld_lt r 31 31; have b := fld_lt r 7 7; have c := fld_lt r 30 25; have d := fld_lt r 11 8
  simp only [Nat.reduceAdd, Nat.reduceSub, Nat.reducePow] at a b c d
  unfold immB
  rw [or_at (fld r 31 31) (fld r 7 7 * 2 ^ 11) 12 rfl rfl (by omega) (by omega)]
  rw [or_at (fld r 31 31 * 2 + fld r 7 7) (fld r 30 25 * 2 ^ 5) 11 (by omega) rfl (by omega) (by omega)]
  rw [or_at ((fld r 31 31 * 2 + fld r 7 7) * 64 + fld r 30 25) (fld r 11 8 * 2 ^ 1) 5 (by omega) rfl (by omega) (by omega)]
theorem immS_eq (r : Nat) : Go.bits .or .i64 ((fld r 31 25 * 2 ^ 5 : Nat) : Int) ((fld r 11 7 : Nat) : Int) = (immS r : Int) := by
  have a := fld_lt r 31 25; have b := fld_lt r 11 7
  simp only [Nat.reduceAdd, Nat.reduceSub, Nat.reducePow] at a b
  unfold immS
  rw [or_at (fld r 31 25) (fld r 11 7) 5 rfl rfl (by omega) (by omega)]

theorem fill_eq {k : Nat} (hk : 70 ≤ k) (s : Int) (r : Nat) (hr : r < 4294967296) (op len raw : Int) : decode_fill.f k op 0 0 0 0 false false len raw (r : Int) s = some (fillN s r op len raw) := by
  have f1 : decode_field.f k (r : Int) 11 7 = some ((fld r 11 7 : Nat) : Int) := field_eq hk r 11 7 hr (by decide) (by decide)
  have f2 : decode_field.f k (r : Int) 19 15 = some ((fld r 19 15 : Nat) : Int) := field_eq hk r 19 15 hr (by decide) (by decide)
  have f3 : decode_field.f k (r : Int) 24 20 = some ((fld r 24 20 : Nat) : Int) := field_eq hk r 24 20 hr (by decide) (by decide)
  have f4 : decode_field.f k (r : Int) 31 20 = some ((fld r 31 20 : Nat) : Int) := field_eq hk r 31 20 hr (by decide) (by decide)
  have f5 : decode_field.f k (r : Int) 25 20 = some ((fld r 25 20 : Nat) : Int) := field_eq hk r 25 20 hr (by decide) (by decide)
  have f6 : decode_field.f k (r : Int) 26 26 = some ((fld r 26 26 : Nat) : Int) := field_eq hk r 26 26 hr (by decide) (by decide)
  have f7 : decode_field.f k (r : Int) 25 25 = some ((fld r 25 25 : Nat) : Int) := field_eq hk r 25 25 hr (by decide) (by decide)
  have g1 : decode_part.f k (r : Int) 31 12 12 = some ((fld r 31 12 * 2 ^ 12 : Nat) : Int) := part_eq hk r 31 12 12 hr (by decide) (by decide) (by decide)
  have g2 : decode_part.f k (r : Int) 31 31 20 = some ((fld r 31 31 * 2 ^ 20 : Nat) : Int) := part_eq hk r 31 31 20 hr (by decide) (by decide) (by decide)
  have g3 : decode_part.f k (r : Int) 19 12 12 = some ((fld r 19 12 * 2 ^ 12 : Nat) : Int) := part_eq hk r 19 12 12 hr (by decide) (by decide) (by decide)
  have g4 : decode_part.f k (r : Int) 20 20 11 = some ((fld r 20 20 * 2 ^ 11 : Nat) : Int) := part_eq hk r 20 20 11 hr (by decide) (by decide) (by decide)
  have g5 : decode_part.f k (r : Int) 30 21 1 = some ((fld r 30 21 * 2 ^ 1 : Nat) : Int) := part_eq hk r 30 21 1 hr (by decide) (by decide) (by decide)
  have g6 : decode_part.f k (r : Int) 31 31 12 = some ((fld r 31 31 * 2 ^ 12 : Nat) : Int) := part_eq hk r 31 31 12 hr (by decide) (by decide) (by decide)
  have g7 : decode_part.f k (r : Int) 7 7 11 = some ((fld r 7 7 * 2 ^ 11 : Nat) : Int) := part_eq hk r 7 7 11 hr (by decide) (by decide) (by decide)
  have g8 : decode_part.f k (r : Int) 30 25 5 = some ((fld r 30 25 * 2 ^ 5 : Nat) : Int) := part_eq hk r 30 25 5 hr (by decide) (by decide) (by decide)
  have g9 : decode_part.f k (r : Int) 11 8 1 = some ((fld r 11 8 * 2 ^ 1 : Nat) : Int) := part_eq hk r 11 8 1 hr (by decide) (by decide) (by decide)
  have g10 : decode_part.f k (r : Int) 31 25 5 = some ((fld r 31 25 * 2 ^ 5 : Nat) : Int) := part_eq hk r 31 25 5 hr (by decide) (by decide) (by decide)
  have a1 := fld_lt r 31 12; have a2 := fld_lt r 31 20; have a3 := fld_lt r 31 31; have a4 := fld_lt r 19 12; have a5 := fld_lt r 20 20; have a6 := fld_lt r 30 21; have a7 := fld_lt r 7 7; have a8 := fld_lt r 30 25; have a9 := fld_lt r 11 8; have a10 := fld_lt r 31 25; have a11 := fld_lt r 11 7
  simp only [Nat.reduceAdd, Nat.reduceSub, Nat.reducePow] at a1 a2 a3 a4 a5 a6 a7 a8 a9 a10 a11
  have s1 : decode_signed.f ((fld r 31 12 * 2 ^ 12 : Nat) : Int) 32 = some (sgn 32 (fld r 31 12 * 4096)) := signed_eq (fld r 31 12 * 2 ^ 12) 32 (by omega) (by decide) (by decide)
  have s2 : decode_signed.f ((immJ r : Nat) : Int) 21 = some (sgn 21 (immJ r)) := signed_eq (immJ r) 21 (by unfold immJ; omega) (by decide) (by decide)
  have s3 : decode_signed.f ((fld r 31 20 : Nat) : Int) 12 = some (sgn 12 (fld r 31 20)) := signed_eq (fld r 31 20) 12 (by omega) (by decide) (by decide)
  have s4 : decode_signed.f ((immB r : Nat) : Int) 13 = some (sgn 13 (immB r)) := signed_eq (immB r) 13 (by unfold immB; omega) (by decide) (by decide)
  have s5 : decode_signed.f ((immS r : Nat) : Int) 12 = some (sgn 12 (immS r)) := signed_eq (immS r) 12 (by unfold immS; omega) (by decide) (by decide)
  clear a1 a2 a3 a4 a5 a6 a7 a8 a9 a10 a11
  unfold decode_fill.f fillN
  rw [f1, Option.bind_some, f2, Option.bind_some, f3, Option.bind_some]
  by_cases h0 : s = 0
  · rw [if_pos h0, if_pos h0, g1, Option.bind_some, s1, Option.bind_some]
  rw [if_neg h0, if_neg h0]
  by_cases h1 : s = 1
  · rw [if_pos h1, if_pos h1, g2, Option.bind_some, g3, Option.bind_some, g4, Option.bind_some, g5, Option.bind_some, immJ_eq, s2, Option.bind_some]
  rw [if_neg h1, if_neg h1]
  by_cases h2 : s = 2
  · rw [if_pos h2, if_pos h2, f4, Option.bind_some, s3, Option.bind_some]
  rw [if_neg h2, if_neg h2]
  by_cases h3 : s = 3
  · rw [if_pos h3, if_pos h3, g6, Option.bind_some, g7, Option.bind_some, g8, Option.bind_some, g9, Option.bind_some, immB_eq, s4, Option.bind_some]
  rw [if_neg h3, if_neg h3]
  by_cases h4 : s = 4
  · rw [if_pos h4, if_pos h4, g10, Option.bind_some, Option.bind_some, immS_eq, s5, Option.bind_some]
  rw [if_neg h4, if_neg h4]
  by_cases h5 : s = 5
  · rw [if_pos h5, if_pos h5, f5, Option.bind_some]
  rw [if_neg h5, if_neg h5]
  by_cases h6 : s = 6
  · rw [if_pos h6, if_pos h6]
  rw [if_neg h6, if_neg h6]
  by_cases h7 : s = 7
  · rw [if_pos h7, if_pos h7]
  rw [if_neg h7, if_neg h7]
  by_cases h8 : s = 8
  · rw [if_pos h8, if_pos h8, f4, Option.bind_some]
  rw [if_neg h8, if_neg h8]
  by_cases h10 : s = 10
  · rw [if_pos h10, if_pos h10, f6, Option.bind_some, f7, Option.bind_some]
  rw [if_neg h10, if_neg h10]
end Go.Proofs.YtiibhggjlandmaaDoor.Pure
/- decode.Decode: what a raw's form depends on; what Decode answers, by its form. Plain facts over the printed functions. -/
namespace Go.Proofs.YtiibhggjlandmaaDoor.Pure
open Go.RowKit Go.Proofs.YtiibhggjlandmaaDoorW.PrintWords Go.Proofs.YtiibhggjlandmaaDoorW.PrintMore Go.Proofs.YtiibhggjlandmaaDoor.PB Go.Proofs.YtiibhggjlandmaaDoor.PD Go.Proofs.YtiibhggjlandmaaDoor.Mth
set_option linter.unusedVariables false
set_option linter.unusedSimpArgs false

theorem ofInt32 (a : Nat) (h : a < 4294967296) : (BitVec.ofInt 32 (a : Int)).toNat = a := by
  rw [BitVec.ofInt_natCast, BitVec.toNat_ofNat]; exact Nat.mod_eq_of_lt (by omega)
theorem u32_nat (n : Nat) (h : n < 4294967296) : IntKind.u32.wrap (n : Int) = (n : Int) := by rw [IntKind.wrap_u32]; omega
theorem and32 (a b : Nat) (ha : a < 4294967296) (hb : b < 4294967296) : Go.bits .and .u32 (a : Int) (b : Int) = ((a &&& b : Nat) : Int) := by
  have hx : a &&& b < 2 ^ 32 := Nat.and_lt_two_pow _ (by omega)
  show IntKind.u32.wrap ((BitVec.ofInt 32 (a : Int) &&& BitVec.ofInt 32 (b : Int)).toNat : Int) = _
  rw [BitVec.toNat_and, ofInt32 a ha, ofInt32 b hb, u32_nat _ (by omega)]
theorem or32 (a b : Nat) (ha : a < 4294967296) (hb : b < 4294967296) : Go.bits .or .u32 (a : Int) (b : Int) = ((a ||| b : Nat) : Int) := by
  have hx : a ||| b < 2 ^ 32 := Nat.or_lt_two_pow (by omega) (by omega)
  show IntKind.u32.wrap ((BitVec.ofInt 32 (a : Int) ||| BitVec.ofInt 32 (b : Int)).toNat : Int) = _
  rw [BitVec.toNat_or, ofInt32 a ha, ofInt32 b hb, u32_nat _ (by omega)]
theorem or32_sum (y x i : Nat) (hx : x < 2 ^ i) (h : y * 2 ^ i + x < 4294967296) : Go.bits .or .u32 ((y * 2 ^ i : Nat) : Int) (x : Int) = ((y * 2 ^ i + x : Nat) : Int) := by
  rw [or32 _ _ (by omega) (by omega)]
  congr 1
  rw [Nat.mul_comm, ← Nat.two_pow_add_eq_or_of_lt hx]
theorem and_ones (r n : Nat) : r &&& (2 ^ n - 1) = r % 2 ^ n := Nat.and_two_pow_sub_one_eq_mod r n
theorem and32_3 (r : Nat) (hr : r < 4294967296) : Go.bits .and .u32 (r : Int) 3 = ((r % 4 : Nat) : Int) := by
  have := and32 r 3 hr (by decide); rw [show (3 : Nat) = 2 ^ 2 - 1 from rfl, and_ones] at this; exact this
theorem and32_low (r : Nat) (hr : r < 4294967296) : Go.bits .and .u32 (r : Int) 65535 = ((r % 65536 : Nat) : Int) := by
  have := and32 r 65535 hr (by decide); rw [show (65535 : Nat) = 2 ^ 16 - 1 from rfl, and_ones] at this; exact this
/-- And, part by part. -/
theorem and_split (a b c d i : Nat) (hb : b < 2 ^ i) (hd : d < 2 ^ i) : (a * 2 ^ i + b) &&& (c * 2 ^ i + d) = (a &&& c) * 2 ^ i + (b &&& d) := by
  have hbd : b &&& d < 2 ^ i := Nat.and_lt_two_pow _ hd
  apply Nat.eq_of_testBit_eq
  intro j
  rw [Nat.testBit_and, Nat.mul_comm a, Nat.mul_comm c, Nat.mul_comm (a &&& c), Nat.testBit_two_pow_mul_add _ hb, Nat.testBit_two_pow_mul_add _ hd, Nat.testBit_two_pow_mul_add _ hbd]
  by_cases h : j < i
  · simp only [h, if_true, Nat.testBit_and]
  · simp only [h, if_false, Nat.testBit_and]
theorem and_cut (r m i c d : Nat) (hm : m = c * 2 ^ i + d) (hd : d < 2 ^ i) : r &&& m = (r / 2 ^ i &&& c) * 2 ^ i + (r % 2 ^ i &&& d) := by
  have : r = r / 2 ^ i * 2 ^ i + r % 2 ^ i := by rw [Nat.mul_comm]; exact (Nat.div_add_mod _ _).symm
  conv => lhs; rw [this, hm]
  exact and_split _ _ _ _ _ (Nat.mod_lt _ (pow_pos2 i)) hd

/-- What the forms' masks take of a raw: opcode, f3, and the bits above 20. -/
def key (m r : Nat) : Nat := if m = 4294967295 then r else r % 128 + (if m = 127 then 0 else r / 4096 % 8 * 4096) + (if m = 4227887231 then r / 67108864 % 64 * 67108864 else if m = 4261441663 then r / 33554432 % 128 * 33554432 else if m = 4160778367 then r / 134217728 % 32 * 134217728 else if m = 4193284223 then r / 134217728 % 32 * 134217728 + r / 1048576 % 32 * 1048576 else 0)
theorem and_f3 (r : Nat) : r &&& 28799 = r % 128 + r / 4096 % 8 * 4096 := by
  rw [and_cut r 28799 12 7 127 (by decide) (by decide), show (7 : Nat) = 2 ^ 3 - 1 from rfl, and_ones, show (127 : Nat) = 2 ^ 7 - 1 from rfl, and_ones]
  omega
theorem and_key (r : Nat) (hr : r < 4294967296) (m : Nat) (hm : m = 127 ∨ m = 28799 ∨ m = 4227887231 ∨ m = 4261441663 ∨ m = 4160778367 ∨ m = 4294967295 ∨ m = 4193284223) : r &&& m = key m r := by
  have f3 : ∀ i, 15 ≤ i → r % 2 ^ i &&& 28799 = r % 128 + r / 4096 % 8 * 4096 := fun i hi => by
    obtain ⟨d, rfl⟩ : ∃ d, i = 15 + d := ⟨i - 15, by omega⟩
    have hp : 2 ^ (15 + d) = 32768 * 2 ^ d := by rw [Nat.pow_add]
    rw [and_f3]
    have e1 : r % 2 ^ (15 + d) % 32768 = r % 32768 := by rw [hp, Nat.mod_mul_right_mod]
    omega
  rcases hm with rfl | rfl | rfl | rfl | rfl | rfl | rfl
  · rw [show (127 : Nat) = 2 ^ 7 - 1 from rfl, and_ones]; simp [key]
  · rw [and_f3]; simp [key]
  · rw [and_cut r 4227887231 26 63 28799 (by decide) (by decide), show (63 : Nat) = 2 ^ 6 - 1 from rfl, and_ones, f3 26 (by decide)]; simp [key]; omega
  · rw [and_cut r 4261441663 25 127 28799 (by decide) (by decide), show (127 : Nat) = 2 ^ 7 - 1 from rfl, and_ones, f3 25 (by decide)]; simp [key]; omega
  · rw [and_cut r 4160778367 27 31 28799 (by decide) (by decide), show (31 : Nat) = 2 ^ 5 - 1 from rfl, and_ones, f3 27 (by decide)]; simp [key]; omega
  · rw [show (4294967295 : Nat) = 2 ^ 32 - 1 from rfl, and_ones]; simp [key]; omega
  · rw [and_cut r 4193284223 27 31 32534655 (by decide) (by decide), show (31 : Nat) = 2 ^ 5 - 1 from rfl, and_ones]
    rw [and_cut (r % 2 ^ 27) 32534655 20 31 28799 (by decide) (by decide), show (31 : Nat) = 2 ^ 5 - 1 from rfl, and_ones]
    have e2 : r % 2 ^ 27 % 2 ^ 20 = r % 2 ^ 20 := by omega
    rw [e2, f3 20 (by decide)]; simp [key]; omega

/-- The masks and codes as natural numbers. -/
def maskOk (f : Frm) : Bool := (f.mask == 127 || f.mask == 28799 || f.mask == 4227887231 || f.mask == 4261441663 || f.mask == 4160778367 || f.mask == 4294967295 || f.mask == 4193284223) && decide (0 ≤ f.code) && decide (f.code < 4294967296)
theorem masks_ok : ∀ f ∈ formsL, maskOk f = true := by decide
theorem match_key (r : Nat) (hr : r < 4294967296) (f : Frm) (hf : maskOk f = true) : Go.bits .and .u32 (r : Int) f.mask = f.code ↔ key f.mask.toNat r = f.code.toNat := by
  simp only [maskOk, Bool.and_eq_true, Bool.or_eq_true, beq_iff_eq, decide_eq_true_eq] at hf
  obtain ⟨⟨hm, h0⟩, h1⟩ := hf
  have hb : f.mask.toNat < 4294967296 := by omega
  have e : f.mask = ((f.mask.toNat : Nat) : Int) := by omega
  have k := and_key r hr f.mask.toNat (by omega)
  rw [e, and32 r _ hr hb, k, Int.toNat_natCast]
  omega
theorem findF_mem {r : Int} {f : Frm} : ∀ {l : List Frm}, findF r l = some f → f ∈ l ∧ Go.bits .and .u32 r f.mask = f.code
  | g :: l, h => by
    unfold findF at h
    split at h
    · next hm => simp only [Option.some.injEq] at h; subst h; exact ⟨List.mem_cons_self, hm⟩
    · have := findF_mem h; exact ⟨List.mem_cons_of_mem _ this.1, this.2⟩
theorem findF_key {r : Nat} {f : Frm} (hr : r < 4294967296) (h : findF (r : Int) formsL = some f) : f ∈ formsL ∧ key f.mask.toNat r = f.code.toNat :=
  ⟨(findF_mem h).1, (match_key r hr f (masks_ok f (findF_mem h).1)).mp (findF_mem h).2⟩
/-- Two raws that all forms see alike have one form. -/
theorem findF_same {r q : Nat} (hr : r < 4294967296) (hq : q < 4294967296) : ∀ (l : List Frm), (∀ f ∈ l, maskOk f = true) → (∀ f ∈ l, (key f.mask.toNat r = f.code.toNat ↔ key f.mask.toNat q = f.code.toNat)) → findF (r : Int) l = findF (q : Int) l
  | [], _, _ => rfl
  | g :: l, ho, h => by
    have ih := findF_same hr hq l (fun f hf => ho f (List.mem_cons_of_mem _ hf)) (fun f hf => h f (List.mem_cons_of_mem _ hf))
    have hg := h g List.mem_cons_self
    have e1 := match_key r hr g (ho g List.mem_cons_self)
    have e2 := match_key q hq g (ho g List.mem_cons_self)
    unfold findF
    by_cases c : Go.bits .and .u32 (r : Int) g.mask = g.code
    · rw [if_pos c, if_pos (e2.mpr (hg.mp (e1.mp c)))]
    · rw [if_neg c, if_neg (fun c2 => c (e1.mpr (hg.mpr (e2.mp c2)))), ih]

def decN (r : Nat) (len raw : Int) : Int × Int × Int × Int × Int × Bool × Bool × Int × Int := match findF (r : Int) formsL with
  | none => (0, 0, 0, 0, 0, false, false, len, raw)
  | some f => fillN f.shape r f.op len raw
theorem dec_eq {k : Nat} (hk : 70 ≤ k) (r : Nat) (hr : r < 4294967296) (len raw : Int) : decode_dec k (r : Int) len raw = some (decN r len raw) := by
  unfold decode_dec decN
  cases findF (r : Int) formsL with
  | none => rfl
  | some f => exact fill_eq hk f.shape r hr f.op len raw
theorem fillN_split (s : Int) (r : Nat) (op : Int) : ∃ A B C D E F, ∀ len raw, fillN s r op len raw = (op, A, B, C, D, E, F, len, raw) := by
  refine ⟨(fillN s r op 0 0).2.1, (fillN s r op 0 0).2.2.1, (fillN s r op 0 0).2.2.2.1, (fillN s r op 0 0).2.2.2.2.1, (fillN s r op 0 0).2.2.2.2.2.1, (fillN s r op 0 0).2.2.2.2.2.2.1, fun len raw => ?_⟩
  unfold fillN
  by_cases h0 : s = 0
  · simp only [if_pos h0]
  by_cases h1 : s = 1
  · simp only [if_neg h0, if_pos h1]
  by_cases h2 : s = 2
  · simp only [if_neg h0, if_neg h1, if_pos h2]
  by_cases h3 : s = 3
  · simp only [if_neg h0, if_neg h1, if_neg h2, if_pos h3]
  by_cases h4 : s = 4
  · simp only [if_neg h0, if_neg h1, if_neg h2, if_neg h3, if_pos h4]
  by_cases h5 : s = 5
  · simp only [if_neg h0, if_neg h1, if_neg h2, if_neg h3, if_neg h4, if_pos h5]
  by_cases h6 : s = 6
  · simp only [if_neg h0, if_neg h1, if_neg h2, if_neg h3, if_neg h4, if_neg h5, if_pos h6]
  by_cases h7 : s = 7
  · simp only [if_neg h0, if_neg h1, if_neg h2, if_neg h3, if_neg h4, if_neg h5, if_neg h6, if_pos h7]
  by_cases h8 : s = 8
  · simp only [if_neg h0, if_neg h1, if_neg h2, if_neg h3, if_neg h4, if_neg h5, if_neg h6, if_neg h7, if_pos h8]
  by_cases h10 : s = 10
  · simp only [if_neg h0, if_neg h1, if_neg h2, if_neg h3, if_neg h4, if_neg h5, if_neg h6, if_neg h7, if_neg h8, if_pos h10]
  simp only [if_neg h0, if_neg h1, if_neg h2, if_neg h3, if_neg h4, if_neg h5, if_neg h6, if_neg h7, if_neg h8, if_neg h10]
theorem decode_long {k : Nat} (hk : 70 ≤ k) (r : Nat) (hr : r < 4294967296) (h3 : r % 4 = 3) : decode_Decode.f k (r : Int) = some (decN r 4 r) := by
  unfold decode_Decode.f
  rw [and32_3 r hr, if_pos (by omega), dec_eq hk r hr]
theorem u16_wrap (r : Nat) : IntKind.u16.wrap (r : Int) = ((r % 65536 : Nat) : Int) := by rw [IntKind.wrap_u16]; omega
theorem decode_short {k : Nat} (hk : 70 ≤ k) (r e : Nat) (b : Bool) (hr : r < 4294967296) (he : e < 4294967296) (h3 : r % 4 ≠ 3) (hE : decode_Expand.f k ((r % 65536 : Nat) : Int) = some ((e : Int), b)) :
    decode_Decode.f k (r : Int) = some (if b = true then decN e 2 ((r % 65536 : Nat) : Int) else (0, 0, 0, 0, 0, false, false, 2, ((r % 65536 : Nat) : Int))) := by
  unfold decode_Decode.f
  rw [and32_3 r hr, if_neg (by omega), u16_wrap, hE, Option.bind_some, and32_low r hr]
  cases b with
  | true => simp only [if_true]; exact dec_eq hk e he _ _
  | false => rfl
theorem ops_ok : ∀ f ∈ formsL, 1 ≤ f.op ∧ f.op < 97 := by decide
end Go.Proofs.YtiibhggjlandmaaDoor.Pure
/- One parcel's check: what it stands for is a legal raw of four bytes, or nothing; and the encoder tries it, or one below it that stands for the same. -/
namespace Go.Proofs.YtiibhggjlandmaaDoor.Pure
open Go.RowKit Go.Proofs.YtiibhggjlandmaaDoorW.PrintWords Go.Proofs.YtiibhggjlandmaaDoorW.PrintMore Go.Proofs.YtiibhggjlandmaaDoor.PB Go.Proofs.YtiibhggjlandmaaDoor.PD Go.Proofs.YtiibhggjlandmaaDoor.Mth
open Go.Proofs.YtiibhggjlandmaaDoor.TR (tryL)
def okP (n : Nat) : Bool := match decode_Expand.f 2020 (n : Int) with
  | some (e, true) => n % 4 != 3 && e % 4 == 3 && decide (0 ≤ e) && decide (e < 4294967296) && (match findF e formsL with
    | some f => (match fillN f.shape e.toNat f.op 0 0 with
      | (op, rd, rs1, rs2, v, _, _, _, _) => (tryL op rd rs1 rs2 v).any fun p => p == (n : Int) || (decide (0 ≤ p) && decide (p < (n : Int)) && (decode_Expand.f 2020 p == some (e, true))))
    | none => false)
  | some (e, false) => e == 0
  | none => false
def allP : Nat → Nat → Bool
  | 0, _ => true
  | k + 1, n => okP n && allP k (n + 1)
theorem allP_get : ∀ (k n j : Nat), allP k n = true → j < k → okP (n + j) = true
  | k + 1, n, 0, h, _ => by
    simp only [allP, Bool.and_eq_true] at h; exact h.1
  | k + 1, n, j + 1, h, hj => by
    simp only [allP, Bool.and_eq_true] at h
    have := allP_get k (n + 1) j h.2 (by omega)
    rwa [show n + 1 + j = n + (j + 1) by omega] at this
theorem okP_get {n : Nat} (h : okP n = true) : decode_Expand.f 2020 (n : Int) = some (0, false) ∨ ∃ e : Nat, decode_Expand.f 2020 (n : Int) = some ((e : Int), true) ∧ n % 4 ≠ 3 ∧ e % 4 = 3 ∧ e < 4294967296 ∧ ∃ f, findF (e : Int) formsL = some f ∧
    ∃ p : Nat, p ≤ n ∧ decode_Expand.f 2020 (p : Int) = some ((e : Int), true) ∧ (p : Int) ∈ tryL (fillN f.shape e f.op 0 0).1 (fillN f.shape e f.op 0 0).2.1 (fillN f.shape e f.op 0 0).2.2.1 (fillN f.shape e f.op 0 0).2.2.2.1 (fillN f.shape e f.op 0 0).2.2.2.2.1 := by
  unfold okP at h
  split at h
  · next e he =>
    right
    simp only [Bool.and_eq_true, bne_iff_ne, beq_iff_eq, decide_eq_true_eq] at h
    obtain ⟨⟨⟨⟨h1, h2⟩, h3⟩, h4⟩, h5⟩ := h
    obtain ⟨m, rfl⟩ : ∃ m : Nat, e = m := ⟨e.toNat, by omega⟩
    cases hf : findF (m : Int) formsL with
    | none => rw [hf] at h5; exact absurd h5 (by simp)
    | some f =>
      rw [hf] at h5
      refine ⟨m, he, h1, by omega, by omega, f, hf, ?_⟩
      simp only [Int.toNat_natCast] at h5
      obtain ⟨p, hp, hq⟩ := List.any_eq_true.mp h5
      simp only [Bool.or_eq_true, Bool.and_eq_true, beq_iff_eq, decide_eq_true_eq] at hq
      rcases hq with hq | ⟨⟨q0, q1⟩, q2⟩
      · exact ⟨n, Nat.le_refl _, he, by rw [← hq]; exact hp⟩
      · obtain ⟨p, rfl⟩ : ∃ m : Nat, p = m := ⟨p.toNat, by omega⟩
        exact ⟨p, by omega, q2, hp⟩
  · next e he =>
    left
    rw [he, beq_iff_eq.mp h]
  · exact absurd h (by decide)
end Go.Proofs.YtiibhggjlandmaaDoor.Pure
