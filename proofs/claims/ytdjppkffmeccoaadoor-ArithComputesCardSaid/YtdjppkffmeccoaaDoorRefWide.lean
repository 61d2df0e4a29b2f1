/- The long products, the program's and the reference's. -/
import Derived.Test.YtdjppkffmeccoaaDoorRefOne
import Derived.Test.YtdjppkffmeccoaaDoorPureDiv
set_option linter.unusedVariables false
set_option linter.unusedSimpArgs false
namespace Go.Proofs.YtdjppkffmeccoaaDoor.PureW
open Go.RowKit Go.Proofs.YtdjppkffmeccoaaDoorW.PrintWords Go.Proofs.YtdjppkffmeccoaaDoorW.PrintMore Mth PR

theorem p64 : (2 : Nat) ^ 64 = 18446744073709551616 := by decide
theorem p128 : (2 : Nat) ^ 128 = 340282366920938463463374607431768211456 := by decide
theorem p63 : (2 : Nat) ^ (64 - 1) = 9223372036854775808 := by decide

/-- The parts of a product of halves. -/
theorem halves (p1 p2 p3 p4 : Nat) (h1 : p1 ≤ 18446744065119617025) (h2 : p2 ≤ 18446744065119617025) (h3 : p3 ≤ 18446744065119617025) (h4 : p4 ≤ 18446744065119617025) :
    (p4 * 18446744073709551616 + (p2 + p3) * 4294967296 + p1) / 18446744073709551616 = p4 + (p2 + p1 / 4294967296) / 4294967296 + ((p2 + p1 / 4294967296) % 4294967296 + p3) / 4294967296 := by omega

theorem cut (a : Nat) : a = a / 4294967296 * 4294967296 + a % 4294967296 := by omega
theorem prod (a b : Nat) : a * b = (a / 4294967296) * (b / 4294967296) * 18446744073709551616 + ((a / 4294967296) * (b % 4294967296) + (a % 4294967296) * (b / 4294967296)) * 4294967296 + (a % 4294967296) * (b % 4294967296) := by
  generalize hx : a / 4294967296 = x
  generalize hy : a % 4294967296 = y
  generalize hz : b / 4294967296 = z
  generalize hw : b % 4294967296 = w
  have ea : a = x * 4294967296 + y := by rw [← hx, ← hy]; exact cut a
  have eb : b = z * 4294967296 + w := by rw [← hz, ← hw]; exact cut b
  rw [ea, eb]
  simp only [Nat.add_mul, Nat.mul_add]
  have q1 : x * 4294967296 * (z * 4294967296) = x * z * 18446744073709551616 := by
    rw [Nat.mul_assoc, Nat.mul_left_comm 4294967296, ← Nat.mul_assoc]
  have q2 : x * 4294967296 * w = x * w * 4294967296 := by rw [Nat.mul_assoc, Nat.mul_comm 4294967296, ← Nat.mul_assoc]
  have q3 : y * (z * 4294967296) = y * z * 4294967296 := by rw [← Nat.mul_assoc]
  rw [q1, q2, q3]
  omega
theorem le_sq {x y : Nat} (hx : x < 4294967296) (hy : y < 4294967296) : x * y ≤ 18446744065119617025 :=
  Nat.le_trans (Nat.mul_le_mul (by omega : x ≤ 4294967295) (by omega : y ≤ 4294967295)) (by decide)

theorem mul64 (a b : Nat) (ha : a < 18446744073709551616) (hb : b < 18446744073709551616) :
    PL.bits_Mul64.f (a : Int) (b : Int) = some (((a * b / 18446744073709551616 : Nat) : Int), ((a * b % 18446744073709551616 : Nat) : Int)) := by
  have hp := prod a b
  have g1 : a / 4294967296 < 4294967296 := by omega
  have g2 : a % 4294967296 < 4294967296 := by omega
  have g3 : b / 4294967296 < 4294967296 := by omega
  have g4 : b % 4294967296 < 4294967296 := by omega
  have h1 := le_sq g2 g4
  have h2 := le_sq g1 g4
  have h3 := le_sq g2 g3
  have h4 := le_sq g1 g3
  have ea : (a : Int) / 4294967296 = ((a / 4294967296 : Nat) : Int) := by omega
  have eb : (b : Int) / 4294967296 = ((b / 4294967296 : Nat) : Int) := by omega
  unfold PL.bits_Mul64.f
  rw [and_low a ha, and_low b hb, ea, eb]
  simp only [← Int.natCast_mul]
  have hh := halves _ _ _ _ h1 h2 h3 h4
  rw [← hp] at hh
  have lt1 : a * b / 18446744073709551616 < 18446744073709551616 := by
    rw [Nat.div_lt_iff_lt_mul (by decide)]; exact Nat.mul_lt_mul'' ha hb
  generalize a / 4294967296 * (b / 4294967296) = p4 at *
  generalize a / 4294967296 * (b % 4294967296) = p2 at *
  generalize a % 4294967296 * (b / 4294967296) = p3 at *
  generalize a % 4294967296 * (b % 4294967296) = p1 at *
  generalize a * b = P at *
  clear hp ea eb g1 g2 g3 g4 ha hb
  rw [u64_nat p1 (by omega), u64_nat p2 (by omega), u64_nat p3 (by omega), u64_nat p4 (by omega)]
  have d1 : (p1 : Int) / 4294967296 = ((p1 / 4294967296 : Nat) : Int) := by omega
  rw [d1, ← Int.natCast_add p2, u64_nat (p2 + p1 / 4294967296) (by omega), and_low _ (by omega)]
  rw [← Int.natCast_add, u64_nat ((p2 + p1 / 4294967296) % 4294967296 + p3) (by omega)]
  have d2 : ((p2 + p1 / 4294967296 : Nat) : Int) / 4294967296 = (((p2 + p1 / 4294967296) / 4294967296 : Nat) : Int) := by omega
  have d3 : (((p2 + p1 / 4294967296) % 4294967296 + p3 : Nat) : Int) / 4294967296 = ((((p2 + p1 / 4294967296) % 4294967296 + p3) / 4294967296 : Nat) : Int) := by omega
  rw [d2, d3, ← Int.natCast_add, u64_nat _ (by omega), ← Int.natCast_add, u64_nat _ (by omega), u64_any P, ← hh]

def sgn (a : Nat) : Nat := a / 9223372036854775808
/-- What a sign does to the upper half. -/
theorem top_true (a : Nat) (ha : a < 18446744073709551616) : top true 64 a = sgn a := by
  unfold top sgn; rw [if_pos rfl, p63]; omega
theorem wd_eq (t a : Nat) (ha : a < 18446744073709551616) : wd 64 128 t a = a + t * 340282366920938463444927863358058659840 := by
  unfold wd; rw [p64, p128, Nat.mod_eq_of_lt ha]

theorem wide_hi (a b s t : Nat) :
    (a + s * 340282366920938463444927863358058659840) * (b + t * 340282366920938463444927863358058659840)
      = a * b + 18446744073709551616 * (18446744073709551615 * (s * b + t * a) + s * t * (18446744073709551616 * 340282366920938463426481119284349108225)) := by
  simp only [Nat.add_mul, Nat.mul_add]
  have c : (340282366920938463444927863358058659840 : Nat) = 18446744073709551616 * 18446744073709551615 := by decide
  have d : (340282366920938463444927863358058659840 : Nat) * 340282366920938463444927863358058659840 = 18446744073709551616 * (18446744073709551616 * 340282366920938463426481119284349108225) := by decide
  have e1 : a * (t * 340282366920938463444927863358058659840) = 18446744073709551616 * (18446744073709551615 * (t * a)) := by
    rw [c]; exact (show ∀ x y p q : Nat, x * (y * (p * q)) = p * (q * (y * x)) from fun _ _ _ _ => by ac_rfl) _ _ _ _
  have e2 : s * 340282366920938463444927863358058659840 * b = 18446744073709551616 * (18446744073709551615 * (s * b)) := by
    rw [c]; exact (show ∀ x y p q : Nat, x * (p * q) * y = p * (q * (x * y)) from fun _ _ _ _ => by ac_rfl) _ _ _ _
  have e3 : s * 340282366920938463444927863358058659840 * (t * 340282366920938463444927863358058659840) = 18446744073709551616 * (s * t * (18446744073709551616 * 340282366920938463426481119284349108225)) := by
    rw [Nat.mul_mul_mul_comm, d]; exact (show ∀ x y p q : Nat, x * y * (p * q) = p * (x * y * q) from fun _ _ _ _ => by ac_rfl) _ _ _ _
  rw [e1, e2, e3]
  omega

theorem ref_wide (a b k : Nat) (s1 s2 : Bool) (ha : a < 18446744073709551616) (hb : b < 18446744073709551616) (hk : 500 ≤ k) :
    anvilref01_Wide.f k (a : Int) (b : Int) s1 s2 = some ((((a * b / 18446744073709551616 + 18446744073709551615 * ((if s1 = true then sgn a else 0) * b + (if s2 = true then sgn b else 0) * a)) % 18446744073709551616 : Nat) : Int), ((a * b % 18446744073709551616 : Nat) : Int)) := by
  have t1 : top s1 64 a = if s1 = true then sgn a else 0 := by
    cases s1
    · rfl
    · rw [top_true a ha]; rfl
  have t2 : top s2 64 b = if s2 = true then sgn b else 0 := by
    cases s2
    · rfl
    · rw [top_true b hb]; rfl
  rw [wide_bl a b k s1 s2 ha hb hk, t1, t2, wd_eq _ a ha, wd_eq _ b hb, wide_hi, p64]
  generalize (if s1 = true then sgn a else 0) = s
  generalize (if s2 = true then sgn b else 0) = t
  rw [Nat.add_mul_div_left _ _ (by decide), Nat.add_mul_mod_self_left]
  congr 3
  generalize s * b + t * a = u
  have : s * t * (18446744073709551616 * 340282366920938463426481119284349108225) = 18446744073709551616 * (s * t * 340282366920938463426481119284349108225) := by
    exact (show ∀ x y p q : Nat, x * y * (p * q) = p * (x * y * q) from fun _ _ _ _ => by ac_rfl) _ _ _ _
  rw [this, ← Nat.add_assoc, Nat.add_mul_mod_self_left]

theorem sub_mod (h b s : Nat) (hs : s < 2) (hh : h < 18446744073709551616) (hb : b < 18446744073709551616) : (if s = 1 then IntKind.u64.wrap ((h : Int) - (b : Int)) else (h : Int)) = (((h + 18446744073709551615 * (s * b)) % 18446744073709551616 : Nat) : Int) := by
  rw [IntKind.wrap_u64]
  obtain rfl | rfl : s = 0 ∨ s = 1 := by omega
  · simp; omega
  · rw [if_pos rfl, Nat.one_mul]; omega


theorem mixed_w (a b : Nat) (ha : a < 18446744073709551616) (hb : b < 18446744073709551616) : ∃ lo, PC.arith_WideMixed.f (a : Int) (b : Int) = some ((((a * b / 18446744073709551616 + 18446744073709551615 * (sgn a * b)) % 18446744073709551616 : Nat) : Int), lo) := by
  have m : PC.bits_Mul64.f (a : Int) (b : Int) = _ := mul64 a b ha hb
  have hl : a * b / 18446744073709551616 < 18446744073709551616 := by
    rw [Nat.div_lt_iff_lt_mul (by decide)]; exact Nat.mul_lt_mul'' ha hb
  have s := sub_mod (a * b / 18446744073709551616) b (sgn a) (by unfold sgn; omega) hl hb
  have ea : ((a : Int) / 9223372036854775808 = 1) ↔ sgn a = 1 := by unfold sgn; omega
  refine ⟨((a * b % 18446744073709551616 : Nat) : Int), ?_⟩
  unfold PC.arith_WideMixed.f
  rw [m, Option.bind_some, ← s]
  by_cases h : sgn a = 1
  · rw [if_pos (ea.2 h), if_pos h]
  · rw [if_neg (fun e => h (ea.1 e)), if_neg h]
theorem r19 (a b : Nat) (ha : a < 18446744073709551616) (hb : b < 18446744073709551616) : PC.arith_rows_19.f (a : Int) (b : Int) = some ((a * b / 18446744073709551616 : Nat) : Int) := by
  have m : PC.bits_Mul64.f (a : Int) (b : Int) = _ := mul64 a b ha hb
  unfold PC.arith_rows_19.f PC.arith_Wide.f
  rw [m]; rfl
theorem r18 (a b : Nat) (ha : a < 18446744073709551616) (hb : b < 18446744073709551616) : PC.arith_rows_18.f (a : Int) (b : Int) = some (((a * b / 18446744073709551616 + 18446744073709551615 * (sgn a * b)) % 18446744073709551616 : Nat) : Int) := by
  obtain ⟨lo, m⟩ := mixed_w a b ha hb
  unfold PC.arith_rows_18.f
  rw [m]; rfl
theorem r17 (a b : Nat) (ha : a < 18446744073709551616) (hb : b < 18446744073709551616) : PC.arith_rows_17.f (a : Int) (b : Int) = some (((a * b / 18446744073709551616 + 18446744073709551615 * (sgn a * b + sgn b * a)) % 18446744073709551616 : Nat) : Int) := by
  obtain ⟨lo, m⟩ := mixed_w a b ha hb
  have s := sub_mod ((a * b / 18446744073709551616 + 18446744073709551615 * (sgn a * b)) % 18446744073709551616) a (sgn b) (by unfold sgn; omega) (Nat.mod_lt _ (by decide)) ha
  have eb : ((b : Int) / 9223372036854775808 = 1) ↔ sgn b = 1 := by unfold sgn; omega
  have e : (a * b / 18446744073709551616 + 18446744073709551615 * (sgn a * b + sgn b * a)) % 18446744073709551616 = ((a * b / 18446744073709551616 + 18446744073709551615 * (sgn a * b)) % 18446744073709551616 + 18446744073709551615 * (sgn b * a)) % 18446744073709551616 := by
    rw [Nat.mod_add_mod, Nat.mul_add, Nat.add_assoc]
  unfold PC.arith_rows_17.f PC.arith_WideSigned.f
  rw [m, Option.bind_some, e, ← s]
  by_cases h : sgn b = 1
  · rw [if_pos (eb.2 h), if_pos h]; rfl
  · rw [if_neg (fun e => h (eb.1 e)), if_neg h]; rfl
end Go.Proofs.YtdjppkffmeccoaaDoor.PureW
