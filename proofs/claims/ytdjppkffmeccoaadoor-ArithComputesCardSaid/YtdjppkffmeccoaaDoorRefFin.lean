/- Each operation: what the program answers is what the reference answers. Plain numbers. -/
import Derived.Test.YtdjppkffmeccoaaDoorRefWide
import Derived.Test.YtdjppkffmeccoaaDoorRefMid
set_option linter.unusedVariables false
set_option linter.unusedSimpArgs false
namespace Go.Proofs.YtdjppkffmeccoaaDoor.Pure
open Go.RowKit Go.Proofs.YtdjppkffmeccoaaDoorW.PrintWords Go.Proofs.YtdjppkffmeccoaaDoorW.PrintMore Mth PC PL

theorem cop_of (t a b r : Int) (h1 : creg t = t) (h2 : known t = true) (h : anvillaw01_op.f t a b = some r) : cop t a b = some r := by
  unfold anvillaw01_op.f arith_Compute.f at h
  rw [h1, if_pos h2] at h
  cases hc : cop t a b with
  | none => rw [hc] at h; simp at h
  | some v => rw [hc] at h; simpa using h
theorem w64_sg (a : Nat) (h : a < 18446744073709551616) : wrap64 (a : Int) = sg 64 a := by
  unfold sg wrap64
  rw [p63, i64p]
  split <;> omega
theorem w32_sg (a : Nat) (h : a < 4294967296) : wrap32 (a : Int) = sg 32 a := by
  unfold sg wrap32
  rw [p31, i32p]
  split <;> omega
theorem xt_ext (v : Nat) : PR.xt v = ext v := rfl

theorem dn0 (n sh a : Nat) (ha : a < 2 ^ n) (hs : sh ≤ n) : PR.dn n sh 0 a = a / 2 ^ sh := by
  unfold PR.dn wd
  rw [Nat.zero_mul, Nat.add_zero, Nat.mod_eq_of_lt]
  apply Nat.div_lt_of_lt_mul
  rw [← Nat.pow_add, show sh + (n - sh) = n from by omega]; exact ha
theorem sub_emod (X P N : Nat) (h1 : X < P) (h2 : P ≤ N) : ((X : Int) - (P : Int)) % (N : Int) = ((X + (N - P) : Nat) : Int) := by
  have e : (X : Int) - (P : Int) = ((X + (N - P) : Nat) : Int) + (N : Int) * (-1) := by omega
  rw [e, Int.add_mul_emod_self_left, Int.emod_eq_of_lt (by omega) (by omega)]
theorem dn1 (n sh a : Nat) (ha : a < 2 ^ n) (hs : sh ≤ n) (h1 : 1 ≤ n) :
    (sg n a / ((2 ^ sh : Nat) : Int)) % ((2 ^ n : Nat) : Int) = ((PR.dn n sh (a / 2 ^ (n - 1) % 2) a : Nat) : Int) := by
  have hX : a / 2 ^ sh < 2 ^ (n - sh) := by
    apply Nat.div_lt_of_lt_mul
    rw [← Nat.pow_add, show sh + (n - sh) = n from by omega]; exact ha
  have hP : 2 ^ (n - sh) ≤ 2 ^ n := Nat.pow_le_pow_right (by decide) (by omega)
  have hN : (2 : Int) ^ n = ((2 ^ n : Nat) : Int) := by simp
  unfold sg
  rcases bit01 a (n - 1) with t | t
  · rw [t, if_neg (by decide), dn0 n sh a ha hs, ← Int.natCast_ediv, ← Int.natCast_emod, Nat.mod_eq_of_lt (by omega)]
  · rw [t, if_pos rfl, hN]
    have e : (a : Int) - ((2 ^ n : Nat) : Int) = (a : Int) + ((2 ^ sh : Nat) : Int) * (-((2 ^ (n - sh) : Nat) : Int)) := by
      rw [Int.mul_neg, ← Int.natCast_mul, ← Nat.pow_add, show sh + (n - sh) = n from by omega]; rfl
    rw [e, Int.add_mul_ediv_left _ _ (by have := pow_pos2 sh; omega), ← Int.natCast_ediv]
    unfold PR.dn wd
    rw [Nat.mod_eq_of_lt hX, Nat.one_mul]
    exact sub_emod _ _ _ hX hP

theorem prmag (a : Nat) (ha : a < 18446744073709551616) : PR.mag 64 a = mag a := by
  unfold PR.mag mag
  rw [p63, p64]
  split <;> split <;> omega
theorem prmag32 (A : Nat) (hA : A < 4294967296) : mag (ext A) = PR.mag 32 A := by
  unfold PR.mag mag ext
  rw [p31, p32, Nat.mod_eq_of_lt hA]
  split <;> split <;> split <;> omega
theorem sgn1 (a : Nat) (ha : a < 18446744073709551616) : sgn a = decide (a / 2 ^ (64 - 1) % 2 = 1) := by
  unfold sgn
  rw [p63, Bool.eq_iff_iff]
  simp
  omega
theorem sgn32 (A : Nat) (hA : A < 4294967296) : sgn (ext A) = decide (A / 2 ^ (32 - 1) % 2 = 1) := by
  unfold sgn ext
  rw [p31, Nat.mod_eq_of_lt hA, Bool.eq_iff_iff]
  simp
  split <;> omega
theorem bne_dec (x y : Nat) (hx : x < 2) (hy : y < 2) : (decide (x = 1) != decide (y = 1)) = decide (¬ x = y) := by
  obtain rfl | rfl : x = 0 ∨ x = 1 := by omega
  all_goals obtain rfl | rfl : y = 0 ∨ y = 1 := by omega
  all_goals rfl

theorem sgn64 (a b : Nat) (ha : a < 18446744073709551616) (hb : b < 18446744073709551616) : (sgn a != sgn b) = decide (¬ a / 2 ^ (64 - 1) % 2 = b / 2 ^ (64 - 1) % 2) := by
  rw [sgn1 a ha, sgn1 b hb]
  exact bne_dec _ _ (Nat.mod_lt _ (by decide)) (Nat.mod_lt _ (by decide))
section
variable (a b : Nat) (ha : a < 18446744073709551616) (hb : b < 18446744073709551616)
theorem lng (t : Int) (ht : PR.has t) (ha : a < 18446744073709551616) (hb : b < 18446744073709551616) : cop t (a : Int) (b : Int) = some (((PR.V t 64 a b % 18446744073709551616 : Nat)) : Int) := by
  have hA : a < 2 ^ 64 := by rw [p64]; exact ha
  have hB : b < 2 ^ 64 := by rw [p64]; exact hb
  rcases ht with rfl | rfl | rfl | rfl | rfl | rfl | rfl | rfl | rfl | rfl | rfl | rfl | rfl | rfl | rfl
  · refine cop_of _ _ _ _ (by decide) (by decide) ?_
    rw [op35 a b ha hb, show PR.V 35 64 a b = a + b from by simp [PR.V]]
  · refine cop_of _ _ _ _ (by decide) (by decide) ?_
    rw [op36 a b ha hb, show PR.V 36 64 a b = a + (18446744073709551616 - b) from by simp [PR.V]]
  · refine cop_of _ _ _ _ (by decide) (by decide) ?_
    rw [op37 a b ha hb, show PR.V 37 64 a b = a * 2 ^ (b % 64) from by simp [PR.V]]
  · refine cop_of _ _ _ _ (by decide) (by decide) ?_
    rw [op41 a b ha hb, show PR.V 41 64 a b = PR.dn 64 (b % 64) 0 a from by simp [PR.V], dn0 64 _ a hA (by omega), Nat.mod_eq_of_lt (Nat.lt_of_le_of_lt (Nat.div_le_self _ _) ha)]
  · refine cop_of _ _ _ _ (by decide) (by decide) ?_
    have d := dn1 64 (b % 64) a hA (by omega) (by omega)
    rw [p64] at d
    rw [op42 a b ha hb, w64_sg a ha, show PR.V 42 64 a b = PR.dn 64 (b % 64) (a / 2 ^ (64 - 1) % 2) a from by simp [PR.V], IntKind.wrap_u64]
    have l : PR.dn 64 (b % 64) (a / 2 ^ (64 - 1) % 2) a < 2 ^ 64 := wd_lt _ _ _ _ (Nat.mod_lt _ (by decide)) (by omega)
    rw [p64] at l
    rw [Nat.mod_eq_of_lt l, ← d]; rfl
  · refine cop_of _ _ _ _ (by decide) (by decide) ?_
    rw [op38 a b ha hb, w64_sg a ha, w64_sg b hb, show PR.V 38 64 a b = if sg 64 a < sg 64 b then 1 else 0 from by simp [PR.V]]
    split <;> rfl
  · refine cop_of _ _ _ _ (by decide) (by decide) ?_
    rw [op39 a b ha hb, show PR.V 39 64 a b = if a < b then 1 else 0 from by simp [PR.V]]
    split <;> rfl
  · refine cop_of _ _ _ _ (by decide) (by decide) ?_
    have l := Nat.xor_lt_two_pow hA hB
    rw [p64] at l
    rw [op40 a b ha hb, show PR.V 40 64 a b = a ^^^ b from by simp [PR.V], Nat.mod_eq_of_lt l]
  · refine cop_of _ _ _ _ (by decide) (by decide) ?_
    have l := Nat.or_lt_two_pow hA hB
    rw [p64] at l
    rw [op43 a b ha hb, show PR.V 43 64 a b = a ||| b from by simp [PR.V], Nat.mod_eq_of_lt l]
  · refine cop_of _ _ _ _ (by decide) (by decide) ?_
    have l : a &&& b < 2 ^ 64 := Nat.and_lt_two_pow a hB
    rw [p64] at l
    rw [op44 a b ha hb, show PR.V 44 64 a b = a &&& b from by simp [PR.V], Nat.mod_eq_of_lt l]
  · refine cop_of _ _ _ _ (by decide) (by decide) ?_
    rw [op62 a b ha hb, show PR.V 62 64 a b = a * b from by simp [PR.V]]
  · refine cop_of _ _ _ _ (by decide) (by decide) ?_
    by_cases h0 : b = 0
    · rw [op66z _ _ ((w64_zero hb).2 h0), show PR.V 66 64 a b = 18446744073709551615 from by simp [PR.V, PR.Q, h0]]; rfl
    · rw [op66_word a b ha hb h0, show PR.V 66 64 a b = PR.sq 64 a b from by simp [PR.V, PR.Q, h0], sgn64 a b ha hb]
      unfold PR.sq
      rw [prmag a ha, prmag b hb]
      have hq : mag a / mag b < 18446744073709551616 := Nat.lt_of_le_of_lt (Nat.le_trans (Nat.div_le_self _ _) (mag_le a ha)) (by decide)
      generalize mag a / mag b = x at *
      unfold word
      by_cases h : a / 2 ^ (64 - 1) % 2 = b / 2 ^ (64 - 1) % 2
      · simp only [h, not_true, decide_false, Bool.false_eq_true, if_false, if_true]
        rw [Nat.mod_eq_of_lt hq]
      · simp only [h, not_false_eq_true, decide_true, if_false, if_true]
  · refine cop_of _ _ _ _ (by decide) (by decide) ?_
    rw [op67 a b ha, show PR.V 67 64 a b = if b = 0 then 18446744073709551615 else a / b from by simp [PR.V, PR.Q], Nat.mod_eq_of_lt]
    split
    · decide
    · exact Nat.lt_of_le_of_lt (Nat.div_le_self _ _) ha
  · refine cop_of _ _ _ _ (by decide) (by decide) ?_
    by_cases h0 : b = 0
    · rw [op68z _ _ ((w64_zero hb).2 h0), show PR.V 68 64 a b = a from by simp [PR.V, PR.Q, h0], Nat.mod_eq_of_lt ha]
    · rw [op68_word a b ha hb h0, show PR.V 68 64 a b = PR.sr 64 a b from by simp [PR.V, PR.Q, h0], sgn1 a ha]
      unfold PR.sr
      rw [prmag a ha, prmag b hb]
      have hq : mag a % mag b < 18446744073709551616 := Nat.lt_of_le_of_lt (Nat.le_trans (Nat.mod_le _ _) (mag_le a ha)) (by decide)
      generalize mag a % mag b = x at *
      unfold word
      by_cases h : a / 2 ^ (64 - 1) % 2 = 1
      · simp only [h, decide_true, if_true]
      · simp only [h, decide_false, Bool.false_eq_true, if_false]
        rw [Nat.mod_eq_of_lt hq]
  · refine cop_of _ _ _ _ (by decide) (by decide) ?_
    by_cases h0 : b = 0
    · rw [op69 a b, if_pos h0, show PR.V 69 64 a b = a from by simp [PR.V, PR.Q, h0], Nat.mod_eq_of_lt ha]
    · have l : a % b < 18446744073709551616 := Nat.lt_of_le_of_lt (Nat.mod_le _ _) ha
      rw [op69 a b, if_neg h0, show PR.V 69 64 a b = a % b from by simp [PR.V, PR.Q, h0]]
      generalize a % b = x at *
      rw [Nat.mod_eq_of_lt l]

/-- The operation of words behind one of halves. -/
def base (t : Int) : Int := if t = 45 then 35 else if t = 46 then 36 else if t = 47 then 37 else if t = 48 then 41 else if t = 49 then 42 else if t = 70 then 62 else if t = 71 then 66 else if t = 72 then 67 else if t = 73 then 68 else if t = 74 then 69 else 0
theorem e32 : (2 : Nat) ^ 32 = 4294967296 := by decide
theorem dlt (sh t A : Nat) (ht : t < 2) : PR.dn 32 sh t A < 4294967296 := by
  have := wd_lt (32 - sh) 32 t (A / 2 ^ sh) ht (by omega)
  rw [p32] at this; exact this
theorem ext_lt32 (a : Nat) : ext a = ext (a % 4294967296) := ext_of (by omega)
theorem hlf (t : Int) (ht : t = 45 ∨ t = 46 ∨ t = 47 ∨ t = 48 ∨ t = 49 ∨ t = 70 ∨ t = 71 ∨ t = 72 ∨ t = 73 ∨ t = 74) : cop t (a : Int) (b : Int) = some (((PR.xt (PR.V (base t) 32 (a % 4294967296) (b % 4294967296)) : Nat)) : Int) := by
  have A : a % 4294967296 < 4294967296 := by omega
  have B : b % 4294967296 < 4294967296 := by omega
  have A2 : a % 4294967296 < 2 ^ 32 := by rw [p32]; exact A
  have B2 : b % 4294967296 < 2 ^ 32 := by rw [p32]; exact B
  have b32 : b % 4294967296 % 32 = b % 32 := by omega
  rcases ht with rfl | rfl | rfl | rfl | rfl | rfl | rfl | rfl | rfl | rfl
  · refine cop_of _ _ _ _ (by decide) (by decide) ?_
    rw [op45 a b, xt_ext, show PR.V (base 45) 32 (a % 4294967296) (b % 4294967296) = a % 4294967296 + b % 4294967296 from by simp [PR.V, base]]
    rw [ext_of (show (a + b) % 4294967296 = (a % 4294967296 + b % 4294967296) % 4294967296 by omega)]
  · refine cop_of _ _ _ _ (by decide) (by decide) ?_
    rw [op46 a b, xt_ext, show PR.V (base 46) 32 (a % 4294967296) (b % 4294967296) = a % 4294967296 + (4294967296 - b % 4294967296) from by simp [PR.V, base]]
    rw [ext_of (show (a + (4294967296 - b % 4294967296)) % 4294967296 = (a % 4294967296 + (4294967296 - b % 4294967296)) % 4294967296 by omega)]
  · refine cop_of _ _ _ _ (by decide) (by decide) ?_
    rw [op47 a b, xt_ext, show PR.V (base 47) 32 (a % 4294967296) (b % 4294967296) = a % 4294967296 * 2 ^ (b % 32) from by simp [PR.V, base, b32]]
    generalize a % 4294967296 * 2 ^ (b % 32) = x
    rw [ext_of (show x % 4294967296 % 4294967296 = x % 4294967296 by omega)]
  · refine cop_of _ _ _ _ (by decide) (by decide) ?_
    rw [op48 a b, xt_ext, show PR.V (base 48) 32 (a % 4294967296) (b % 4294967296) = PR.dn 32 (b % 32) 0 (a % 4294967296) from by simp [PR.V, base, b32], dn0 32 _ _ A2 (by omega)]
  · refine cop_of _ _ _ _ (by decide) (by decide) ?_
    have d := dn1 32 (b % 32) (a % 4294967296) A2 (by omega) (by omega)
    rw [p32] at d
    rw [op49 a b, xt_ext, show PR.V (base 49) 32 (a % 4294967296) (b % 4294967296) = PR.dn 32 (b % 32) (a % 4294967296 / 2 ^ (32 - 1) % 2) (a % 4294967296) from by simp [PR.V, base, b32]]
    have e : sra32 a b = PR.dn 32 (b % 32) (a % 4294967296 / 2 ^ (32 - 1) % 2) (a % 4294967296) := by
      unfold sra32
      rw [w32_sg _ A]
      have d' : sg 32 (a % 4294967296) / ((2 ^ (b % 32) : Nat) : Int) % 4294967296 = _ := d
      rw [d', Int.toNat_natCast]
    rw [e]
  · refine cop_of _ _ _ _ (by decide) (by decide) ?_
    rw [op70 a b, xt_ext, show PR.V (base 70) 32 (a % 4294967296) (b % 4294967296) = a % 4294967296 * (b % 4294967296) from by simp [PR.V, base]]
    rw [ext_of (show a * b % 4294967296 = a % 4294967296 * (b % 4294967296) % 4294967296 by rw [← Nat.mul_mod])]
  · refine cop_of _ _ _ _ (by decide) (by decide) ?_
    have ea := ext_lt32 a
    have eb := ext_lt32 b
    generalize a % 4294967296 = x at *
    generalize b % 4294967296 = y at *
    by_cases h0 : y = 0
    · have z : ext b = 0 := by rw [eb, h0]; decide
      rw [op71 a b 18446744073709551615 (by rw [z]; exact div0 _ _ ((w64_zero (by decide)).2 rfl)), xt_ext, show PR.V (base 71) 32 x y = 4294967295 from by simp [PR.V, PR.Q, base, h0]]
      rw [ext_of (show 18446744073709551615 % 4294967296 = 4294967295 % 4294967296 by decide)]
    · have z : ext b ≠ 0 := by rw [eb]; unfold ext; rw [Nat.mod_eq_of_lt B]; split <;> omega
      have w := cop_of _ _ _ _ (by decide) (by decide) (op66_word (ext a) (ext b) (ext_lt a) (ext_lt b) z)
      rw [cop66] at w
      rw [op71 a b _ w, xt_ext, show PR.V (base 71) 32 x y = PR.sq 32 x y from by simp [PR.V, PR.Q, base, h0], ea, eb, sgn32 x A, sgn32 y B, prmag32 x A, prmag32 y B, bne_dec _ _ (Nat.mod_lt _ (by decide)) (Nat.mod_lt _ (by decide))]
      unfold PR.sq
      have hm := PR.mag_lt 32 x (by omega) A2
      have hq : PR.mag 32 x / PR.mag 32 y < 4294967296 := Nat.lt_of_le_of_lt (Nat.div_le_self _ _) hm
      generalize PR.mag 32 x / PR.mag 32 y = q at *
      unfold word
      by_cases h : x / 2 ^ (32 - 1) % 2 = y / 2 ^ (32 - 1) % 2
      · simp only [h, not_true, decide_false, Bool.false_eq_true, if_false, if_true]
      · simp only [h, not_false_eq_true, decide_true, if_false, if_true]
        rw [ext_of (show (18446744073709551616 - q) % 18446744073709551616 % 4294967296 = (2 ^ 32 - q) % 4294967296 by rw [p32]; omega)]
  · refine cop_of _ _ _ _ (by decide) (by decide) ?_
    rw [op72 a b, xt_ext]
    generalize a % 4294967296 = x at *
    generalize b % 4294967296 = y at *
    unfold divU
    by_cases h0 : y = 0
    · rw [if_pos h0, show PR.V (base 72) 32 x y = 4294967295 from by simp [PR.V, PR.Q, base, h0]]
      rw [ext_of (show 18446744073709551615 % 4294967296 = 4294967295 % 4294967296 by decide)]
    · rw [if_neg h0, show PR.V (base 72) 32 x y = x / y from by simp [PR.V, PR.Q, base, h0]]
  · refine cop_of _ _ _ _ (by decide) (by decide) ?_
    have ea := ext_lt32 a
    have eb := ext_lt32 b
    generalize a % 4294967296 = x at *
    generalize b % 4294967296 = y at *
    by_cases h0 : y = 0
    · have z : ext b = 0 := by rw [eb, h0]; decide
      rw [op73 a b (ext a) (by rw [z, remain_f, if_pos ((w64_zero (by decide)).2 rfl)]), xt_ext, show PR.V (base 73) 32 x y = x from by simp [PR.V, PR.Q, base, h0], ext_of (ext_mod a), ea]
    · have z : ext b ≠ 0 := by rw [eb]; unfold ext; rw [Nat.mod_eq_of_lt B]; split <;> omega
      have w := cop_of _ _ _ _ (by decide) (by decide) (op68_word (ext a) (ext b) (ext_lt a) (ext_lt b) z)
      rw [cop68] at w
      rw [op73 a b _ w, xt_ext, show PR.V (base 73) 32 x y = PR.sr 32 x y from by simp [PR.V, PR.Q, base, h0], ea, eb, sgn32 x A, prmag32 x A, prmag32 y B]
      unfold PR.sr
      have hm := PR.mag_lt 32 x (by omega) A2
      have hq : PR.mag 32 x % PR.mag 32 y < 4294967296 := Nat.lt_of_le_of_lt (Nat.mod_le _ _) hm
      generalize PR.mag 32 x % PR.mag 32 y = q at *
      unfold word
      by_cases h : x / 2 ^ (32 - 1) % 2 = 1
      · simp only [h, decide_true, if_true]
        rw [ext_of (show (18446744073709551616 - q) % 18446744073709551616 % 4294967296 = (2 ^ 32 - q) % 4294967296 by rw [p32]; omega)]
      · simp only [h, decide_false, Bool.false_eq_true, if_false]
  · refine cop_of _ _ _ _ (by decide) (by decide) ?_
    rw [op74 a b, xt_ext]
    generalize a % 4294967296 = x at *
    generalize b % 4294967296 = y at *
    unfold remU
    by_cases h0 : y = 0
    · rw [if_pos h0, show PR.V (base 74) 32 x y = x from by simp [PR.V, PR.Q, base, h0]]
    · rw [if_neg h0, show PR.V (base 74) 32 x y = x % y from by simp [PR.V, PR.Q, base, h0]]
end
end Go.Proofs.YtdjppkffmeccoaaDoor.Pure
