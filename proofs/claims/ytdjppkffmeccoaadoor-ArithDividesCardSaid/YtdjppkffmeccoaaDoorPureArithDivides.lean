/- The pure side of ArithDivides: the division theorem. -/
import Derived.Test.YtdjppkffmeccoaaDoorQArithDividesx2
import Derived.Test.YtdjppkffmeccoaaDoorPureDiv
set_option linter.unusedVariables false
set_option linter.unusedSimpArgs false
namespace Go.Proofs.YtdjppkffmeccoaaDoor.Pure
open Go.RowKit Go.Proofs.YtdjppkffmeccoaaDoorW.PrintWords Go.Proofs.YtdjppkffmeccoaaDoorW.PrintMore Mth PC PL QArithDivides

/-- A word without its sign. -/
def mag (a : Nat) : Nat := if a < 9223372036854775808 then a else 18446744073709551616 - a
theorem mag_le (a : Nat) (ha : a < 18446744073709551616) : mag a ≤ 9223372036854775808 := by unfold mag; split <;> omega
theorem mag_zero (a : Nat) (ha : a < 18446744073709551616) : mag a = 0 ↔ a = 0 := by unfold mag; split <;> omega
theorem size_f (a : Nat) (ha : a < 18446744073709551616) : anvillaw01_size.f (a : Int) = some (mag a : Int) := by
  unfold anvillaw01_size.f anvillaw01_negative.f mag
  simp only [Option.bind_some, beq_iff_eq]
  by_cases h : a < 9223372036854775808
  · rw [if_neg (by omega), if_pos h]
  · rw [if_pos (by omega), if_neg h]
    congr 1
    rw [IntKind.wrap_u64]; omega
theorem neg_f (a : Nat) : anvillaw01_negative.f (a : Int) = some (a / 9223372036854775808 == 1) := by
  unfold anvillaw01_negative.f
  congr 1
  rw [Bool.eq_iff_iff, beq_iff_eq, beq_iff_eq]; omega
/-- A word as a signed number: its size, with its sign. -/
theorem w64_mag (a : Nat) (ha : a < 18446744073709551616) : wrap64 (a : Int) = if a < 9223372036854775808 then (mag a : Int) else -(mag a : Int) := by
  unfold mag wrap64; split <;> omega

/-- The signed number s·m, as a word. -/
def word (neg : Bool) (m : Nat) : Nat := if neg = true then (18446744073709551616 - m) % 18446744073709551616 else m
theorem word_u64 (neg : Bool) (m : Nat) (hm : m ≤ 9223372036854775808) : IntKind.u64.wrap (if neg = true then -(m : Int) else (m : Int)) = (word neg m : Int) := by
  rw [IntKind.wrap_u64]; unfold word; cases neg <;> simp <;> omega
theorem word_lt (neg : Bool) (m : Nat) (hm : m ≤ 9223372036854775808) : word neg m < 18446744073709551616 := by unfold word; cases neg <;> simp <;> omega
theorem mag_word (neg : Bool) (m : Nat) (hm : m ≤ 9223372036854775808) : mag (word neg m) = m := by
  unfold mag word
  cases neg
  · simp only [Bool.false_eq_true, if_false]; split <;> omega
  · simp only [if_true]
    by_cases h : m = 0
    · subst h; decide
    · rw [show (18446744073709551616 - m) % 18446744073709551616 = 18446744073709551616 - m from Nat.mod_eq_of_lt (by omega)]
      split <;> omega

/-- Quotient and rest of signed numbers, by those of their sizes. -/
theorem tdiv_sign (p q : Bool) (x y : Nat) : Int.tdiv (if p = true then -(x : Int) else (x : Int)) (if q = true then -(y : Int) else (y : Int)) = (if (p != q) = true then -((x / y : Nat) : Int) else ((x / y : Nat) : Int)) := by
  have e : Int.tdiv (x : Int) (y : Int) = ((x / y : Nat) : Int) := rfl
  cases p <;> cases q <;> simp [Int.neg_tdiv, Int.tdiv_neg, e]
theorem tmod_sign (p q : Bool) (x y : Nat) : Int.tmod (if p = true then -(x : Int) else (x : Int)) (if q = true then -(y : Int) else (y : Int)) = (if p = true then -((x % y : Nat) : Int) else ((x % y : Nat) : Int)) := by
  have e : Int.tmod (x : Int) (y : Int) = ((x % y : Nat) : Int) := rfl
  cases p <;> cases q <;> simp [Int.neg_tmod, Int.tmod_neg, e]

theorem wrap_mul (x y : Int) : IntKind.u64.wrap (IntKind.u64.wrap x * IntKind.u64.wrap y) = IntKind.u64.wrap (x * y) := by
  rw [IntKind.wrap_u64, IntKind.wrap_u64, IntKind.wrap_u64, IntKind.wrap_u64, ← Int.mul_emod]
theorem wrap_add (x y : Int) : IntKind.u64.wrap (IntKind.u64.wrap x + IntKind.u64.wrap y) = IntKind.u64.wrap (x + y) := by
  rw [IntKind.wrap_u64, IntKind.wrap_u64, IntKind.wrap_u64, IntKind.wrap_u64, ← Int.add_emod]

theorem lin (Q B T A s b t : Int) (hs : s = IntKind.u64.wrap Q) (hb : b = IntKind.u64.wrap B) (ht : t = IntKind.u64.wrap T) (h : Q * B + T = A) : IntKind.u64.wrap (IntKind.u64.wrap (s * b) + t) = IntKind.u64.wrap A := by
  rw [hs, hb, ht, wrap_mul, wrap_add, h]
def sgn (a : Nat) : Bool := a / 9223372036854775808 == 1
theorem sgn_iff (a : Nat) (ha : a < 18446744073709551616) : sgn a = true ↔ ¬ a < 9223372036854775808 := by unfold sgn; rw [beq_iff_eq]; omega
theorem w64_sgn (a : Nat) (ha : a < 18446744073709551616) : wrap64 (a : Int) = if sgn a = true then -(mag a : Int) else (mag a : Int) := by
  rw [w64_mag a ha]
  by_cases h : a < 9223372036854775808
  · rw [if_pos h, if_neg (fun e => (sgn_iff a ha).1 e h)]
  · rw [if_neg h, if_pos ((sgn_iff a ha).2 h)]
theorem sgn_word (neg : Bool) (m : Nat) (hm : m ≤ 9223372036854775808) (h0 : m ≠ 0) (h : neg = false → m < 9223372036854775808) : sgn (word neg m) = neg := by
  unfold sgn word
  cases neg
  · have := h rfl
    simp; omega
  · simp; omega
theorem word_zero (neg : Bool) (m : Nat) (hm : m ≤ 9223372036854775808) : word neg m = 0 ↔ m = 0 := by unfold word; cases neg <;> simp <;> omega

section
variable (a b : Nat) (ha : a < 18446744073709551616) (hb : b < 18446744073709551616) (h0 : b ≠ 0)
theorem op66_word (ha : a < 18446744073709551616) (hb : b < 18446744073709551616) (h0 : b ≠ 0) : anvillaw01_op.f 66 (a : Int) (b : Int) = some (word (sgn a != sgn b) (mag a / mag b) : Int) := by
  rw [op66 _ _ (fun e => h0 ((w64_zero hb).1 e)), w64_sgn a ha, w64_sgn b hb, tdiv_sign, word_u64 _ _ (Nat.le_trans (Nat.div_le_self _ _) (mag_le a ha))]
theorem op68_word (ha : a < 18446744073709551616) (hb : b < 18446744073709551616) (h0 : b ≠ 0) : anvillaw01_op.f 68 (a : Int) (b : Int) = some (word (sgn a) (mag a % mag b) : Int) := by
  rw [op68 _ _ (fun e => h0 ((w64_zero hb).1 e)), w64_sgn a ha, w64_sgn b hb, tmod_sign, word_u64 _ _ (Nat.le_trans (Nat.mod_le _ _) (mag_le a ha))]
/-- The signed quotient times the divisor plus the rest. -/
theorem back (ha : a < 18446744073709551616) (hb : b < 18446744073709551616) : IntKind.u64.wrap (IntKind.u64.wrap ((word (sgn a != sgn b) (mag a / mag b) : Int) * (b : Int)) + (word (sgn a) (mag a % mag b) : Int)) = (a : Int) := by
  have e1 : (word (sgn a != sgn b) (mag a / mag b) : Int) = IntKind.u64.wrap (Int.tdiv (wrap64 (a : Int)) (wrap64 (b : Int))) := by
    rw [w64_sgn a ha, w64_sgn b hb, tdiv_sign, word_u64 _ _ (Nat.le_trans (Nat.div_le_self _ _) (mag_le a ha))]
  have e2 : (word (sgn a) (mag a % mag b) : Int) = IntKind.u64.wrap (Int.tmod (wrap64 (a : Int)) (wrap64 (b : Int))) := by
    rw [w64_sgn a ha, w64_sgn b hb, tmod_sign, word_u64 _ _ (Nat.le_trans (Nat.mod_le _ _) (mag_le a ha))]
  have e3 : (b : Int) = IntKind.u64.wrap (wrap64 (b : Int)) := (u64_same b hb).symm
  have e4 : Int.tdiv (wrap64 (a : Int)) (wrap64 (b : Int)) * wrap64 (b : Int) + Int.tmod (wrap64 (a : Int)) (wrap64 (b : Int)) = wrap64 (a : Int) := by
    rw [Int.mul_comm]; exact Int.mul_tdiv_add_tmod _ _
  have e5 := lin _ _ _ _ _ _ _ e1 e3 e2 e4
  rw [u64_same a ha] at e5
  exact e5
end

theorem ArithDivides (a0 a1 a2 a3 a4 : Int) (b0 : -9223372036854775808 ≤ a0) (c0 : a0 ≤ 9223372036854775807) (b1 : 0 ≤ a1) (c1 : a1 ≤ 18446744073709551615) (b2 : 0 ≤ a2) (c2 : a2 ≤ 18446744073709551615) (b3 : -9223372036854775808 ≤ a3) (c3 : a3 ≤ 9223372036854775807) (b4 : -9223372036854775808 ≤ a4) (c4 : a4 ≤ 9223372036854775807) : ∃ k, anvillaw01_ArithDivides.f k a0 a1 a2 a3 a4 = some true := by
  obtain ⟨a, rfl⟩ := Int.eq_ofNat_of_zero_le b1
  obtain ⟨b, rfl⟩ := Int.eq_ofNat_of_zero_le b2
  have ha : a < 18446744073709551616 := by omega
  have hb : b < 18446744073709551616 := by omega
  clear b1 c1 b2 c2
  have s67 := op67 a b ha
  have s69 := op69 a b
  refine ⟨6, ?_⟩
  by_cases h0 : b = 0
  · subst h0
    rw [if_pos rfl] at s67 s69
    have s66 := op66z (a : Int) ((0 : Nat) : Int) (by unfold wrap64; omega)
    have s68 := op68z (a : Int) ((0 : Nat) : Int) (by unfold wrap64; omega)
    have u := u64_nat a ha
    unfold anvillaw01_ArithDivides.f
    have z1 : ((0 : Nat) : Int) = 0 := rfl
    have z2 : ((18446744073709551615 : Nat) : Int) = 18446744073709551615 := rfl
    have u0 : IntKind.u64.wrap 0 = 0 := u64_nat 0 (by decide)
    rw [z1] at s66 s67 s68 s69
    rw [z2] at s67
    simp only [z1, s66, s67, s68, s69, live_true, Option.bind_some, if_true, Int.mul_zero, u0, Int.zero_add, u, bne_self_eq_false]
    simp only [anvillaw01_ArithDivides.j0, Bool.false_eq_true, if_false, if_true, beq_self_eq_true]
  · rw [if_neg h0] at s67 s69
    have s66 := op66_word a b ha hb h0
    have s68 := op68_word a b ha hb h0
    have hk := back a b ha hb
    have hma := mag_le a ha
    have hmb := mag_le b hb
    have hmb0 : mag b ≠ 0 := fun e => h0 ((mag_zero b hb).1 e)
    have hr := Nat.mod_lt (mag a) (Nat.pos_of_ne_zero hmb0)
    have hq := Nat.div_le_self (mag a) (mag b)
    have hu : IntKind.u64.wrap (IntKind.u64.wrap (((a / b : Nat) : Int) * (b : Int)) + ((a % b : Nat) : Int)) = (a : Int) := by
      have e := Nat.div_add_mod a b
      have e2 : a / b * b ≤ a := Nat.div_mul_le_self a b
      rw [← Int.natCast_mul, u64_nat _ (by omega), ← Int.natCast_add, Nat.mul_comm, e, u64_nat a ha]
    have hrl := Nat.mod_lt a (Nat.pos_of_ne_zero h0)
    have hT := size_f _ (word_lt (sgn a) (mag a % mag b) (by omega))
    rw [mag_word _ _ (by omega)] at hT
    have hB := size_f b hb
    have hA := size_f a ha
    have hS := size_f _ (word_lt (sgn a != sgn b) (mag a / mag b) (by omega))
    rw [mag_word _ _ (by omega)] at hS
    have nA : anvillaw01_negative.f (a : Int) = some (sgn a) := neg_f a
    have nB : anvillaw01_negative.f (b : Int) = some (sgn b) := neg_f b
    have nT : anvillaw01_negative.f (word (sgn a) (mag a % mag b) : Int) = some (sgn (word (sgn a) (mag a % mag b))) := neg_f _
    have nS : anvillaw01_negative.f (word (sgn a != sgn b) (mag a / mag b) : Int) = some (sgn (word (sgn a != sgn b) (mag a / mag b))) := neg_f _
    obtain ⟨q, hqd⟩ : ∃ q, mag a / mag b = q := ⟨_, rfl⟩
    obtain ⟨rr, hrd⟩ : ∃ rr, mag a % mag b = rr := ⟨_, rfl⟩
    obtain ⟨uq, huq⟩ : ∃ uq, a / b = uq := ⟨_, rfl⟩
    have hA0 : ((mag a : Int) / (mag b : Int)) = (q : Int) := by rw [← Int.natCast_ediv, hqd]
    rw [hqd] at s66 hk hS nS hq
    rw [hrd] at s68 hk hT nT hr
    have j4 : ∀ k, anvillaw01_ArithDivides.j4 (k + 1) (word (sgn a != sgn b) q : Int) false a0 (a : Int) (b : Int) a3 a4 = some true := fun k => by
      simp only [anvillaw01_ArithDivides.j4, Bool.false_eq_true, if_false, hS, hA, hB, Option.bind_some]
      rw [if_neg (by omega), Int.tdiv_eq_ediv_of_nonneg (by omega), hA0, u64_nat _ (by omega)]
      simp
    have j3 : ∀ k ov, (ov = false → q ≠ 0 → sgn (word (sgn a != sgn b) q) = (sgn a != sgn b)) → anvillaw01_ArithDivides.j3 (k + 2) (word (sgn a != sgn b) q : Int) ov a0 (a : Int) (b : Int) a3 a4 = some true := fun k ov hov => by
      simp only [anvillaw01_ArithDivides.j3]
      by_cases hz : q = 0
      · have hw := (word_zero (sgn a != sgn b) q (by omega)).2 hz
        rw [if_pos (by omega)]
        exact j4 k
      · have hw : ¬ word (sgn a != sgn b) q = 0 := fun e => hz ((word_zero (sgn a != sgn b) q (by omega)).1 e)
        rw [if_neg (by omega)]
        cases ov
        · simp only [Bool.false_eq_true, if_false, nS, nA, nB, Option.bind_some, hov rfl hz, bne_self_eq_false]
          exact j4 k
        · simp only [if_true]
          exact j4 k
    have j2 : ∀ k, anvillaw01_ArithDivides.j2 (k + 3) (word (sgn a != sgn b) q : Int) false a0 (a : Int) (b : Int) a3 a4 = some true := fun k => by
      simp only [anvillaw01_ArithDivides.j2, Bool.false_eq_true, if_false]
      have hgood : ¬ (a = 9223372036854775808 ∧ b = 18446744073709551615) → q ≠ 0 → sgn (word (sgn a != sgn b) q) = (sgn a != sgn b) := fun hov hz => by
        refine sgn_word _ _ (by omega) hz fun hn => ?_
        -- equal signs: the quotient is 2^63 only where a is the least and b is -1
        by_cases h1 : mag b = 1
        · have hsa : sgn a = sgn b := by
            have := hn; revert this; cases sgn a <;> cases sgn b <;> simp
          rw [← hqd, h1, Nat.div_one]
          by_cases hsg : sgn a = true
          · have hb1 : b = 18446744073709551615 := by
              have := (sgn_iff b hb).1 (hsa ▸ hsg)
              unfold mag at h1
              rw [if_neg this] at h1
              omega
            have ha1 : a ≠ 9223372036854775808 := fun e => hov ⟨e, hb1⟩
            have := (sgn_iff a ha).1 hsg
            unfold mag
            rw [if_neg this]
            omega
          · have : a < 9223372036854775808 := Classical.byContradiction fun e => hsg ((sgn_iff a ha).2 e)
            unfold mag
            rw [if_pos this]
            exact this
        · have : q ≤ mag a / 2 := by rw [← hqd]; exact Nat.div_le_div_left (by omega) (by decide)
          omega
      by_cases hA2 : a = 9223372036854775808
      · rw [if_pos (by omega)]
        by_cases hB2 : b = 18446744073709551615
        · exact j3 k _ (fun h => absurd h (by rw [hB2]; decide))
        · exact j3 k _ (fun _ hz => hgood (fun h => hB2 h.2) hz)
      · rw [if_neg (by omega)]
        exact j3 k _ (fun _ hz => hgood (fun h => hA2 h.1) hz)
    have j1 : ∀ k, anvillaw01_ArithDivides.j1 (k + 4) (word (sgn a != sgn b) q : Int) (word (sgn a) rr : Int) false a0 (a : Int) (b : Int) a3 a4 = some true := fun k => by
      simp only [anvillaw01_ArithDivides.j1, Bool.false_eq_true, if_false, hT, hB, Option.bind_some]
      rw [if_neg (by omega)]
      by_cases hz : rr = 0
      · have hw := (word_zero (sgn a) rr (by omega)).2 hz
        rw [if_pos (by omega)]
        exact j2 k
      · have hw : ¬ word (sgn a) rr = 0 := fun e => hz ((word_zero (sgn a) rr (by omega)).1 e)
        rw [if_neg (by omega)]
        have hsg : sgn (word (sgn a) rr) = sgn a := sgn_word _ _ (by omega) hz (fun _ => by omega)
        simp only [nT, nA, Option.bind_some, hsg, bne_self_eq_false]
        exact j2 k
    have j0 : ∀ k, anvillaw01_ArithDivides.j0 (k + 5) ((a / b : Nat) : Int) ((a % b : Nat) : Int) (word (sgn a != sgn b) q : Int) (word (sgn a) rr : Int) false a0 (a : Int) (b : Int) a3 a4 = some true := fun k => by
      simp only [anvillaw01_ArithDivides.j0, Bool.false_eq_true, if_false]
      rw [if_neg (by omega), if_neg (by omega)]
      by_cases hz : a / b = 0
      · rw [if_neg (by omega)]; exact j1 k
      · rw [if_pos (by omega), if_neg (by omega)]
        have hle : b ≤ a / (a / b) := by rw [Nat.le_div_iff_mul_le (Nat.pos_of_ne_zero hz), Nat.mul_comm]; exact Nat.div_mul_le_self a b
        have hdl : a / (a / b) < 18446744073709551616 := Nat.lt_of_le_of_lt (Nat.div_le_self _ _) ha
        rw [Int.tdiv_eq_ediv_of_nonneg (by omega), ← Int.natCast_ediv, u64_nat _ hdl]
        have hd : decide (((a / (a / b) : Nat) : Int) < (b : Int)) = false := by rw [decide_eq_false_iff_not]; omega
        rw [hd]; exact j1 k
    unfold anvillaw01_ArithDivides.f
    simp only [s66, s67, s68, s69, live_true, Option.bind_some, if_true, hu, hk, bne_self_eq_false]
    exact j0 1
end Go.Proofs.YtdjppkffmeccoaaDoor.Pure
