/- decode.Decode in closed form: fields by division, immediates by sums. Plain facts over the printed functions. -/
import Derived.Test.YtiibhggjlandmaaMth
import Derived.Test.YtiibhggjlandmaaDecA
namespace Go.Proofs.Ytiibhggjlandmaa.Pure
open Go.RowKit Go.Proofs.YtiibhggjlandmaaW.PrintWords Go.Proofs.YtiibhggjlandmaaW.PrintMore Go.Proofs.Ytiibhggjlandmaa.PB Go.Proofs.Ytiibhggjlandmaa.PF Go.Proofs.Ytiibhggjlandmaa.Mth
set_option linter.unusedVariables false
set_option linter.unusedSimpArgs false

theorem p64 : (2 : Nat) ^ 64 = 18446744073709551616 := by decide

theorem shl_nat (b i : Nat) (hb : b < 2) (hi : i < 64) : shl .u64 (b : Int) (i : Int) = ((b * 2 ^ i : Nat) : Int) := by
  have hp : 2 ^ i < 18446744073709551616 := by rw [← p64]; exact Nat.pow_lt_pow_right (by decide) hi
  have hq : b * 2 ^ i < 18446744073709551616 := by
    have : b * 2 ^ i ≤ 1 * 2 ^ i := Nat.mul_le_mul_right _ (by omega)
    omega
  have e : shl .u64 (b : Int) (i : Int) = IntKind.u64.wrap ((b * 2 ^ i : Nat) : Int) := by
    unfold shl
    rw [Int.toNat_natCast, Nat.min_eq_left (by simp [IntKind.bits]; omega)]; simp
  rw [e]; exact u64_nat _ hq

theorem or_add (x b i : Nat) (hx : x < 2 ^ i) (hb : b < 2) (hi : i < 64) : Go.bits .or .u64 (x : Int) ((b * 2 ^ i : Nat) : Int) = ((x + b * 2 ^ i : Nat) : Int) := by
  have h2 : 2 ^ (i + 1) ≤ 2 ^ 64 := Nat.pow_le_pow_right (by decide) (by omega)
  have h3 : 2 ^ (i + 1) = 2 ^ i * 2 := Nat.pow_succ ..
  have h4 : b * 2 ^ i ≤ 1 * 2 ^ i := Nat.mul_le_mul_right _ (by omega)
  rw [p64] at h2
  rw [bits_or x (b * 2 ^ i) (by omega) (by omega)]
  congr 1
  rw [Nat.mul_comm, Nat.or_comm, ← Nat.two_pow_add_eq_or_of_lt hx, Nat.add_comm]

theorem bits_loop (v lo n : Nat) (hv : v < 18446744073709551616) (hn : lo + n ≤ 64) : ∀ (d i k : Nat), i + d = n → d < k →
    arith_Bits.l0 k (v : Int) (lo : Int) ((v / 2 ^ lo % 2 ^ i : Nat) : Int) (n : Int) (i : Int) = some ((v / 2 ^ lo % 2 ^ n : Nat) : Int) := by
  intro d
  induction d with
  | zero =>
    intro i k hi hk
    obtain ⟨k, rfl⟩ : ∃ m, k = m + 1 := ⟨k - 1, by omega⟩
    obtain rfl : i = n := by omega
    simp only [arith_Bits.l0]
    rw [if_neg (by omega)]
  | succ d ih =>
    intro i k hi hk
    obtain ⟨k, rfl⟩ : ∃ m, k = m + 1 := ⟨k - 1, by omega⟩
    have hr := ih (i + 1) k (by omega) (by omega)
    have w : wrap64 ((lo : Int) + (i : Int)) = ((lo + i : Nat) : Int) := by rw [← Int.natCast_add]; exact w64_nat _ (by omega)
    simp only [arith_Bits.l0]
    rw [w, if_pos (by omega), if_pos (by omega), if_pos (by omega), shr_nat, Nat.min_eq_left (by omega), and_one _ (Nat.lt_of_le_of_lt (Nat.div_le_self _ _) hv), Nat.pow_add, ← Nat.div_div_eq_div_mul]
    rw [shl_nat _ i (Nat.mod_lt _ (by decide)) (by omega), or_add _ _ i (Nat.mod_lt _ (pow_pos2 i)) (Nat.mod_lt _ (by decide)) (by omega), w64_succ i (by omega)]
    rw [mod_succ, Nat.mul_comm] at hr
    exact hr

/-- The bits hi to lo. -/
def fld (r hi lo : Nat) : Nat := r / 2 ^ lo % 2 ^ (hi + 1 - lo)
theorem field_eq {k : Nat} (hk : 70 ≤ k) (r hi lo : Nat) (hr : r < 4294967296) (hl : lo ≤ hi) (hh : hi ≤ 31) : decode_field.f k (r : Int) (hi : Int) (lo : Int) = some ((fld r hi lo : Nat) : Int) := by
  have hb : fld r hi lo < 4294967296 := Nat.lt_of_le_of_lt (Nat.mod_le _ _) (Nat.lt_of_le_of_lt (Nat.div_le_self _ _) hr)
  obtain ⟨j, rfl⟩ : ∃ j, k = j + 1 := ⟨k - 1, by omega⟩
  have e : arith_Bits.f (j + 1) (r : Int) (hi : Int) (lo : Int) = some ((fld r hi lo : Nat) : Int) := by
    unfold arith_Bits.f
    rw [if_neg (by omega), if_neg (by omega), decide_eq_false (by omega), arith_Bits.j0, if_neg (by simp)]
    have w : wrap64 (wrap64 ((hi : Int) - (lo : Int)) + 1) = ((hi + 1 - lo : Nat) : Int) := by unfold wrap64; omega
    have := bits_loop r lo (hi + 1 - lo) (by omega) (by omega) (hi + 1 - lo) 0 j (by omega) (by omega)
    rw [w]
    simpa [Nat.mod_one, fld] using this
  unfold decode_field.f
  rw [u64_nat r (by omega), e, Option.bind_some, w64_nat _ (by omega)]

theorem shl64 (x i : Nat) (hi : i ≤ 31) (h : x * 2 ^ i < 9223372036854775808) : shl .i64 (x : Int) (i : Int) = ((x * 2 ^ i : Nat) : Int) := by
  have e : shl .i64 (x : Int) (i : Int) = wrap64 ((x * 2 ^ i : Nat) : Int) := by
    unfold shl
    rw [Int.toNat_natCast, Nat.min_eq_left (by simp [IntKind.bits]; omega)]
    rw [IntKind.wrap_i64]; simp [wrap64]
  rw [e, w64_nat _ h]
theorem part_eq {k : Nat} (hk : 70 ≤ k) (r hi lo i : Nat) (hr : r < 4294967296) (hl : lo ≤ hi) (hh : hi ≤ 31) (hi2 : i ≤ 31) : decode_part.f k (r : Int) (hi : Int) (lo : Int) (i : Int) = some ((fld r hi lo * 2 ^ i : Nat) : Int) := by
  have hb : fld r hi lo < 4294967296 := Nat.lt_of_le_of_lt (Nat.mod_le _ _) (Nat.lt_of_le_of_lt (Nat.div_le_self _ _) hr)
  have hp : 2 ^ i ≤ 2 ^ 31 := Nat.pow_le_pow_right (by decide) hi2
  have hm : fld r hi lo * 2 ^ i < 9223372036854775808 := Nat.lt_of_le_of_lt (Nat.mul_le_mul (Nat.le_of_lt_succ hb) hp) (by decide)
  unfold decode_part.f
  rw [field_eq hk r hi lo hr hl hh, Option.bind_some, if_pos (by omega), shl64 _ i hi2 hm]

/-- An n bit number with its sign. -/
def sgn (n v : Nat) : Int := if 2 ^ (n - 1) ≤ v % 2 ^ n then ((v % 2 ^ n : Nat) : Int) - ((2 ^ n : Nat) : Int) else ((v % 2 ^ n : Nat) : Int)
theorem wrap_back (z : Int) (h0 : -9223372036854775808 ≤ z) (h1 : z < 9223372036854775808) : wrap64 (IntKind.u64.wrap z) = z := by
  rw [IntKind.wrap_u64]; unfold wrap64; omega
theorem sgn_in (m Q R : Nat) (hQ : Q = R * 2) (h64 : Q ≤ 18446744073709551616) (hm : m < Q) (h : R ≤ m) : -9223372036854775808 ≤ (m : Int) - (Q : Int) ∧ (m : Int) - (Q : Int) < 9223372036854775808 := by omega
theorem sgn_lo (m Q R : Nat) (hQ : Q = R * 2) (h64 : Q ≤ 18446744073709551616) (h : ¬ R ≤ m) : -9223372036854775808 ≤ (m : Int) ∧ (m : Int) < 9223372036854775808 := by omega
theorem signed_eq (v n : Nat) (hv : v < 9223372036854775808) (h1 : 1 ≤ n) (h2 : n < 64) : decode_signed.f (v : Int) (n : Int) = some (sgn n v) := by
  have hm := Nat.mod_lt v (pow_pos2 n)
  have hPQ : 2 ^ (64 - n) * 2 ^ n = 18446744073709551616 := by rw [← Nat.pow_add, ← p64]; congr 1; omega
  have hhalf : 2 ^ (64 - n) * 2 ^ (n - 1) = 9223372036854775808 := by
    rw [← Nat.pow_add, show 64 - n + (n - 1) = 63 from by omega]
  have hQ : 2 ^ n = 2 ^ (n - 1) * 2 := by rw [← Nat.pow_succ]; congr 1; omega
  have hP := pow_pos2 (64 - n)
  have hR := pow_pos2 (n - 1)
  unfold decode_signed.f arith_Extend.f sgn
  have w : wrap64 (64 - (n : Int)) = ((64 - n : Nat) : Int) := by unfold wrap64; omega
  rw [u64_nat v (by omega), w, if_neg (by omega), if_neg (by omega), if_pos (by omega), Option.bind_some]
  congr 1
  have e1 : shl .u64 (v : Int) ((64 - n : Nat) : Int) = ((v % 2 ^ n * 2 ^ (64 - n) : Nat) : Int) := by
    have e : shl .u64 (v : Int) ((64 - n : Nat) : Int) = IntKind.u64.wrap ((v * 2 ^ (64 - n) : Nat) : Int) := by
      unfold shl
      rw [Int.toNat_natCast, Nat.min_eq_left (by simp [IntKind.bits])]; simp
    rw [e, u64_any, ← hPQ, Nat.mul_comm v, Nat.mul_mod_mul_left, Nat.mul_comm]
  have hx : v % 2 ^ n * 2 ^ (64 - n) < 18446744073709551616 := by
    rw [← hPQ, Nat.mul_comm]; exact Nat.mul_lt_mul_of_pos_left hm hP
  rw [e1]
  have sh : ∀ z : Int, shr .i64 (z * ((2 ^ (64 - n) : Nat) : Int)) ((64 - n : Nat) : Int) = z := fun z => by
    unfold shr
    rw [Int.toNat_natCast, Nat.min_eq_left (by simp [IntKind.bits])]
    have : (2 : Int) ^ (64 - n) = ((2 ^ (64 - n) : Nat) : Int) := by simp
    rw [this, Int.mul_ediv_cancel _ (by omega)]
  generalize hmm : v % 2 ^ n = m at *
  generalize hPP : 2 ^ (64 - n) = P at *
  generalize hRR : 2 ^ (n - 1) = R at *
  generalize hQQ : 2 ^ n = Q at *
  have hQ64 : Q ≤ 18446744073709551616 := by rw [← hPQ]; exact Nat.le_mul_of_pos_left _ hP
  by_cases h : R ≤ m
  · rw [if_pos h]
    have hge : 9223372036854775808 ≤ m * P := by rw [← hhalf, Nat.mul_comm]; exact Nat.mul_le_mul_right _ h
    have e2 : wrap64 ((m * P : Nat) : Int) = ((m : Int) - Q) * (P : Int) := by
      have : ((m : Int) - Q) * (P : Int) = ((m * P : Nat) : Int) - ((P * Q : Nat) : Int) := by
        rw [Int.sub_mul, Int.natCast_mul, Int.natCast_mul, Int.mul_comm (P : Int)]
      rw [this, hPQ]
      unfold wrap64; omega
    rw [e2, sh]
    exact wrap_back _ (sgn_in m Q R hQ hQ64 hm h).1 (sgn_in m Q R hQ hQ64 hm h).2
  · rw [if_neg h]
    have hlt : m * P < 9223372036854775808 := by rw [← hhalf, Nat.mul_comm]; exact Nat.mul_lt_mul_of_pos_left (by omega) hP
    have e2 : wrap64 ((m * P : Nat) : Int) = (m : Int) * (P : Int) := by
      rw [← Int.natCast_mul]; exact w64_nat _ hlt
    rw [e2, sh]
    exact wrap_back _ (sgn_lo m Q R hQ hQ64 h).1 (sgn_lo m Q R hQ hQ64 h).2

/-- A number's bits and a smaller one's: the sum. -/
theorem or_sum (y x i : Nat) (hx : x < 2 ^ i) (h : y * 2 ^ i + x < 9223372036854775808) : Go.bits .or .i64 ((y * 2 ^ i : Nat) : Int) (x : Int) = ((y * 2 ^ i + x : Nat) : Int) := by
  have e : y * 2 ^ i ||| x = y * 2 ^ i + x := by rw [Nat.mul_comm, ← Nat.two_pow_add_eq_or_of_lt hx]
  have hb := @bits_or (y * 2 ^ i) x (by omega) (by omega)
  have h1 : (BitVec.ofInt 64 ((y * 2 ^ i : Nat) : Int)).toNat = y * 2 ^ i := by
    rw [BitVec.ofInt_natCast, BitVec.toNat_ofNat]; exact Nat.mod_eq_of_lt (by omega)
  have h2 : (BitVec.ofInt 64 ((x : Nat) : Int)).toNat = x := by
    rw [BitVec.ofInt_natCast, BitVec.toNat_ofNat]; exact Nat.mod_eq_of_lt (by omega)
  show IntKind.i64.wrap ((BitVec.ofInt 64 ((y * 2 ^ i : Nat) : Int) ||| BitVec.ofInt 64 ((x : Nat) : Int)).toNat : Int) = _
  rw [BitVec.toNat_or, h1, h2, e, IntKind.wrap_i64]
  omega
theorem or_at {a b : Int} (y x i : Nat) (ha : a = ((y * 2 ^ i : Nat) : Int)) (hb : b = (x : Int)) (hx : x < 2 ^ i) (h : y * 2 ^ i + x < 9223372036854775808) : Go.bits .or .i64 a b = ((y * 2 ^ i + x : Nat) : Int) := by
  subst ha hb; exact or_sum y x i hx h

/-- The immediates' numbers. -/
def immJ (r : Nat) : Nat := ((fld r 31 31 * 256 + fld r 19 12) * 2 + fld r 20 20) * 2048 + fld r 30 21 * 2
def immB (r : Nat) : Nat := ((fld r 31 31 * 2 + fld r 7 7) * 64 + fld r 30 25) * 32 + fld r 11 8 * 2
def immS (r : Nat) : Nat := fld r 31 25 * 32 + fld r 11 7
theorem fld_lt (r hi lo : Nat) : fld r hi lo < 2 ^ (hi + 1 - lo) := Nat.mod_lt _ (pow_pos2 _)
/-- What fill puts in, by shape. -/
def fillN (s : Int) (r : Nat) (op len raw : Int) : Int × Int × Int × Int × Int × Bool × Bool × Int × Int :=
  if s = 0 then (op, (fld r 11 7 : Nat), 0, 0, sgn 32 (fld r 31 12 * 4096), false, false, len, raw)
  else if s = 1 then (op, (fld r 11 7 : Nat), 0, 0, sgn 21 (immJ r), false, false, len, raw)
  else if s = 2 then (op, (fld r 11 7 : Nat), (fld r 19 15 : Nat), 0, sgn 12 (fld r 31 20), false, false, len, raw)
  else if s = 3 then (op, 0, (fld r 19 15 : Nat), (fld r 24 20 : Nat), sgn 13 (immB r), false, false, len, raw)
  else if s = 4 then (op, 0, (fld r 19 15 : Nat), (fld r 24 20 : Nat), sgn 12 (immS r), false, false, len, raw)
  else if s = 5 then (op, (fld r 11 7 : Nat), (fld r 19 15 : Nat), 0, (fld r 25 20 : Nat), false, false, len, raw)
  else if s = 6 then (op, (fld r 11 7 : Nat), (fld r 19 15 : Nat), 0, (fld r 24 20 : Nat), false, false, len, raw)
  else if s = 7 then (op, (fld r 11 7 : Nat), (fld r 19 15 : Nat), (fld r 24 20 : Nat), 0, false, false, len, raw)
  else if s = 8 then (op, (fld r 11 7 : Nat), (fld r 19 15 : Nat), 0, (fld r 31 20 : Nat), false, false, len, raw)
  else if s = 10 then (op, (fld r 11 7 : Nat), (fld r 19 15 : Nat), (fld r 24 20 : Nat), 0, ((fld r 26 26 : Nat) : Int) == 1, ((fld r 25 25 : Nat) : Int) == 1, len, raw)
  else (op, 0, 0, 0, 0, false, false, len, raw)

theorem immJ_eq (r : Nat) : Go.bits .or .i64 (Go.bits .or .i64 (Go.bits .or .i64 ((fld r 31 31 * 2 ^ 20 : Nat) : Int) ((fld r 19 12 * 2 ^ 12 : Nat) : Int)) ((fld r 20 20 * 2 ^ 11 : Nat) : Int)) ((fld r 30 21 * 2 ^ 1 : Nat) : Int) = (immJ r : Int) := by
  have a := fld_lt r 31 31; have b := fld_lt r 19 12; have c := fld_lt r 20 20; have d := fld_lt r 30 21
  simp only [Nat.reduceAdd, Nat.reduceSub, Nat.reducePow] at a b c d
  unfold immJ
  rw [or_at (fld r 31 31) (fld r 19 12 * 2 ^ 12) 20 rfl rfl (by omega) (by omega)]
  rw [or_at (fld r 31 31 * 256 + fld r 19 12) (fld r 20 20 * 2 ^ 11) 12 (by omega) rfl (by omega) (by omega)]
  rw [or_at ((fld r 31 31 * 256 + fld r 19 12) * 2 + fld r 20 20) (fld r 30 21 * 2 ^ 1) 11 (by omega) rfl (by omega) (by omega)]
theorem immB_eq (r : Nat) : Go.bits .or .i64 (Go.bits .or .i64 (Go.bits .or .i64 ((fld r 31 31 * 2 ^ 12 : Nat) : Int) ((fld r 7 7 * 2 ^ 11 : Nat) : Int)) ((fld r 30 25 * 2 ^ 5 : Nat) : Int)) ((fld r 11 8 * 2 ^ 1 : Nat) : Int) = (immB r : Int) := by
  have a := fld_lt r 31 31; have b := fld_lt r 7 7; have c := fld_lt r 30 25; have d := fld_lt r 11 8
  simp only [Nat.reduceAdd, Nat.reduceSub, Nat.reducePow] at a b c d
  unfold immB
  rw [or_at (fld r 31 31) (fld r 7 7 * 2 ^ 11) 12 rfl rfl (by omega) (by omega)]
  rw [or_at (fld r 31 31 * 2 + fld r 7 7) (fld r 30 25 * 2 ^ 5) 11 (by omega) rfl (by omega) (by omega)]
  rw [or_at ((fld r 31 31 * 2 + fld r 7 7) * 64 + fld r 30 25) (fld r 11 8 * 2 ^ 1) 5 (by omega) rfl (by omega) (by omega)]
theorem immS_eq (r : Nat) : Go.bits .or .i64 ((fld r 31 25 * 2 ^ 5 : Nat) : Int) ((fld r 11 7 : Nat) : Int) = (immS r : Int) := by
  have a := fld_lt r 31 25; have b := fld_lt r 11 7
  simp only [Nat.reduceAdd, Nat.reduceSub, Nat.reducePow] at a b
  unfold immS
  rw [or_at (fld r 31 25) (fld r 11 7) 5 rfl rfl (by omega) (by omega)]

theorem fill_eq {k : Nat} (hk : 70 ≤ k) (s : Int) (r : Nat) (hr : r < 4294967296) (op len raw : Int) : decode_fill.f k op 0 0 0 0 false false len raw (r : Int) s = some (fillN s r op len raw) := by
  have f1 : decode_field.f k (r : Int) 11 7 = some ((fld r 11 7 : Nat) : Int) := field_eq hk r 11 7 hr (by decide) (by decide)
  have f2 : decode_field.f k (r : Int) 19 15 = some ((fld r 19 15 : Nat) : Int) := field_eq hk r 19 15 hr (by decide) (by decide)
  have f3 : decode_field.f k (r : Int) 24 20 = some ((fld r 24 20 : Nat) : Int) := field_eq hk r 24 20 hr (by decide) (by decide)
  have f4 : decode_field.f k (r : Int) 31 20 = some ((fld r 31 20 : Nat) : Int) := field_eq hk r 31 20 hr (by decide) (by decide)
  have f5 : decode_field.f k (r : Int) 25 20 = some ((fld r 25 20 : Nat) : Int) := field_eq hk r 25 20 hr (by decide) (by decide)
  have f6 : decode_field.f k (r : Int) 26 26 = some ((fld r 26 26 : Nat) : Int) := field_eq hk r 26 26 hr (by decide) (by decide)
  have f7 : decode_field.f k (r : Int) 25 25 = some ((fld r 25 25 : Nat) : Int) := field_eq hk r 25 25 hr (by decide) (by decide)
  have g1 : decode_part.f k (r : Int) 31 12 12 = some ((fld r 31 12 * 2 ^ 12 : Nat) : Int) := part_eq hk r 31 12 12 hr (by decide) (by decide) (by decide)
  have g2 : decode_part.f k (r : Int) 31 31 20 = some ((fld r 31 31 * 2 ^ 20 : Nat) : Int) := part_eq hk r 31 31 20 hr (by decide) (by decide) (by decide)
  have g3 : decode_part.f k (r : Int) 19 12 12 = some ((fld r 19 12 * 2 ^ 12 : Nat) : Int) := part_eq hk r 19 12 12 hr (by decide) (by decide) (by decide)
  have g4 : decode_part.f k (r : Int) 20 20 11 = some ((fld r 20 20 * 2 ^ 11 : Nat) : Int) := part_eq hk r 20 20 11 hr (by decide) (by decide) (by decide)
  have g5 : decode_part.f k (r : Int) 30 21 1 = some ((fld r 30 21 * 2 ^ 1 : Nat) : Int) := part_eq hk r 30 21 1 hr (by decide) (by decide) (by decide)
  have g6 : decode_part.f k (r : Int) 31 31 12 = some ((fld r 31 31 * 2 ^ 12 : Nat) : Int) := part_eq hk r 31 31 12 hr (by decide) (by decide) (by decide)
  have g7 : decode_part.f k (r : Int) 7 7 11 = some ((fld r 7 7 * 2 ^ 11 : Nat) : Int) := part_eq hk r 7 7 11 hr (by decide) (by decide) (by decide)
  have g8 : decode_part.f k (r : Int) 30 25 5 = some ((fld r 30 25 * 2 ^ 5 : Nat) : Int) := part_eq hk r 30 25 5 hr (by decide) (by decide) (by decide)
  have g9 : decode_part.f k (r : Int) 11 8 1 = some ((fld r 11 8 * 2 ^ 1 : Nat) : Int) := part_eq hk r 11 8 1 hr (by decide) (by decide) (by decide)
  have g10 : decode_part.f k (r : Int) 31 25 5 = some ((fld r 31 25 * 2 ^ 5 : Nat) : Int) := part_eq hk r 31 25 5 hr (by decide) (by decide) (by decide)
  have a1 := fld_lt r 31 12; have a2 := fld_lt r 31 20; have a3 := fld_lt r 31 31; have a4 := fld_lt r 19 12; have a5 := fld_lt r 20 20; have a6 := fld_lt r 30 21; have a7 := fld_lt r 7 7; have a8 := fld_lt r 30 25; have a9 := fld_lt r 11 8; have a10 := fld_lt r 31 25; have a11 := fld_lt r 11 7
  simp only [Nat.reduceAdd, Nat.reduceSub, Nat.reducePow] at a1 a2 a3 a4 a5 a6 a7 a8 a9 a10 a11
  have s1 : decode_signed.f ((fld r 31 12 * 2 ^ 12 : Nat) : Int) 32 = some (sgn 32 (fld r 31 12 * 4096)) := signed_eq (fld r 31 12 * 2 ^ 12) 32 (by omega) (by decide) (by decide)
  have s2 : decode_signed.f ((immJ r : Nat) : Int) 21 = some (sgn 21 (immJ r)) := signed_eq (immJ r) 21 (by unfold immJ; omega) (by decide) (by decide)
  have s3 : decode_signed.f ((fld r 31 20 : Nat) : Int) 12 = some (sgn 12 (fld r 31 20)) := signed_eq (fld r 31 20) 12 (by omega) (by decide) (by decide)
  have s4 : decode_signed.f ((immB r : Nat) : Int) 13 = some (sgn 13 (immB r)) := signed_eq (immB r) 13 (by unfold immB; omega) (by decide) (by decide)
  have s5 : decode_signed.f ((immS r : Nat) : Int) 12 = some (sgn 12 (immS r)) := signed_eq (immS r) 12 (by unfold immS; omega) (by decide) (by decide)
  clear a1 a2 a3 a4 a5 a6 a7 a8 a9 a10 a11
  unfold decode_fill.f fillN
  rw [f1, Option.bind_some, f2, Option.bind_some, f3, Option.bind_some]
  by_cases h0 : s = 0
  · rw [if_pos h0, if_pos h0, g1, Option.bind_some, s1, Option.bind_some]
  rw [if_neg h0, if_neg h0]
  by_cases h1 : s = 1
  · rw [if_pos h1, if_pos h1, g2, Option.bind_some, g3, Option.bind_some, g4, Option.bind_some, g5, Option.bind_some, immJ_eq, s2, Option.bind_some]
  rw [if_neg h1, if_neg h1]
  by_cases h2 : s = 2
  · rw [if_pos h2, if_pos h2, f4, Option.bind_some, s3, Option.bind_some]
  rw [if_neg h2, if_neg h2]
  by_cases h3 : s = 3
  · rw [if_pos h3, if_pos h3, g6, Option.bind_some, g7, Option.bind_some, g8, Option.bind_some, g9, Option.bind_some, immB_eq, s4, Option.bind_some]
  rw [if_neg h3, if_neg h3]
  by_cases h4 : s = 4
  · rw [if_pos h4, if_pos h4, g10, Option.bind_some, Option.bind_some, immS_eq, s5, Option.bind_some]
  rw [if_neg h4, if_neg h4]
  by_cases h5 : s = 5
  · rw [if_pos h5, if_pos h5, f5, Option.bind_some]
  rw [if_neg h5, if_neg h5]
  by_cases h6 : s = 6
  · rw [if_pos h6, if_pos h6]
  rw [if_neg h6, if_neg h6]
  by_cases h7 : s = 7
  · rw [if_pos h7, if_pos h7]
  rw [if_neg h7, if_neg h7]
  by_cases h8 : s = 8
  · rw [if_pos h8, if_pos h8, f4, Option.bind_some]
  rw [if_neg h8, if_neg h8]
  by_cases h10 : s = 10
  · rw [if_pos h10, if_pos h10, f6, Option.bind_some, f7, Option.bind_some]
  rw [if_neg h10, if_neg h10]
end Go.Proofs.Ytiibhggjlandmaa.Pure
