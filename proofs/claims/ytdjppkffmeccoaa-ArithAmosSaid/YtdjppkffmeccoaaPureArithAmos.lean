/- The pure side of ArithAmos: what Amo answers is what the bits say. -/
import Derived.Test.YtdjppkffmeccoaaPArithAmosBits
set_option linter.unusedVariables false
set_option linter.unusedSimpArgs false
namespace Go.Proofs.Ytdjppkffmeccoaa.Pure
open Go.RowKit Go.Proofs.YtdjppkffmeccoaaW.PrintWords Go.Proofs.YtdjppkffmeccoaaW.PrintMore Mth PArithAmos

theorem p64 : (2 : Nat) ^ 64 = 18446744073709551616 := by decide
theorem p32 : (2 : Nat) ^ 32 = 4294967296 := by decide
theorem p63 : (2 : Nat) ^ (64 - 1) = 9223372036854775808 := by decide
theorem p31 : (2 : Nat) ^ (32 - 1) = 2147483648 := by decide
theorem i64p : (2 : Int) ^ 64 = 18446744073709551616 := by decide
theorem i32p : (2 : Int) ^ 32 = 4294967296 := by decide

theorem w64_sg (a : Nat) (h : a < 18446744073709551616) : wrap64 (a : Int) = sg 64 a := by
  unfold sg wrap64
  rw [p63, i64p]
  split <;> omega

/-- The lower half, its sign widened. -/
def ext (v : Nat) : Nat := if v % 4294967296 < 2147483648 then v % 4294967296 else v % 4294967296 + 18446744069414584320
theorem ext_lt (v : Nat) : ext v < 18446744073709551616 := by unfold ext; split <;> omega
theorem ext_mod (v : Nat) : ext v % 4294967296 = v % 4294967296 := by unfold ext; split <;> omega
theorem ext_of {a b : Nat} (h : a % 4294967296 = b % 4294967296) : ext a = ext b := by unfold ext; rw [h]
theorem ext_wd (v : Nat) : wd 32 64 (top true 32 v) v = ext v := by
  unfold wd top ext
  rw [p64, p32, p31, if_pos rfl]
  split <;> omega
theorem wd64 (v : Nat) : wd 64 64 (top true 64 v) v = v % 18446744073709551616 := by
  unfold wd; rw [p64, Nat.sub_self, Nat.mul_zero, Nat.add_zero]
theorem signed_ext (v : Nat) : arith_signed.f ((v : Int) % 4294967296) = some (ext v : Int) := by
  unfold arith_signed.f ext
  congr 1
  rw [IntKind.wrap_u64]
  unfold wrap64 wrap32
  split <;> omega
theorem sg_ext (A : Nat) (h : A < 4294967296) : sg 64 (ext A) = sg 32 A := by
  unfold sg ext
  rw [p63, p31, i64p, i32p, Nat.mod_eq_of_lt h]
  split <;> split <;> omega

/-- What the i-th makes of two words of n bits. -/
def R (n i A B : Nat) : Nat :=
  if i = 0 then B else if i = 1 then A + B else if i = 2 then A ^^^ B else if i = 3 then A &&& B else if i = 4 then A ||| B else
  if i = 5 then (if sg n B < sg n A then B else A) else if i = 6 then (if sg n A < sg n B then B else A) else if i = 7 then (if B < A then B else A) else (if A < B then B else A)

theorem amo_bl (n i A B k : Nat) (h1 : 1 ≤ n) (hn : n ≤ 64) (hA : A < 2 ^ n) (hB : B < 2 ^ n) (hi : i ≤ 8) (hk : 300 ≤ k) :
    anvilref01_amo.f k (i : Int) (bl n A) (bl n B) = some (bl n (R n i A B)) := by
  have l1 := less_bl n A B k (by omega) hA hB (by omega)
  have l2 := less_bl n B A k (by omega) hB hA (by omega)
  have s1 := lessSigned_bl n A B k h1 (by omega) hA hB (by omega)
  have s2 := lessSigned_bl n B A k h1 (by omega) hB hA (by omega)
  have pl : anvilref01_plus.f k (bl n A) (bl n B) 0 = some (bl n (A + B)) := by
    have := plus_bl n A B 0 k (by omega) (by omega) (by omega)
    simpa using this
  have x1 := xor_bl n A B k (by omega) (by omega)
  have x2 := and_bl n A B k (by omega) (by omega)
  have x3 := or_bl n A B k (by omega) (by omega)
  unfold anvilref01_amo.f
  rw [l1, l2, s1, s2, pl, x1, x2, x3]
  obtain rfl | rfl | rfl | rfl | rfl | rfl | rfl | rfl | rfl : i = 0 ∨ i = 1 ∨ i = 2 ∨ i = 3 ∨ i = 4 ∨ i = 5 ∨ i = 6 ∨ i = 7 ∨ i = 8 := by omega
  · simp [R]
  · simp [R]
  · simp [R]
  · simp [R]
  · simp [R]
  · by_cases h : sg n B < sg n A <;> simp [R, h]
  · by_cases h : sg n A < sg n B <;> simp [R, h]
  · by_cases h : B < A <;> simp [R, h]
  · by_cases h : A < B <;> simp [R, h]

theorem R_lt (i x y : Nat) (hx : x < 18446744073709551616) (hy : y < 18446744073709551616) (h : i ≠ 1) : R 64 i x y < 18446744073709551616 := by
  have h1 : x ^^^ y < 2 ^ 64 := Nat.xor_lt_two_pow (n := 64) hx hy
  have h2 : x &&& y < 2 ^ 64 := Nat.and_lt_two_pow x (n := 64) hy
  have h3 : x ||| y < 2 ^ 64 := Nat.or_lt_two_pow (n := 64) hx hy
  rw [p64] at h1 h2 h3
  unfold R
  repeat' split
  all_goals omega

theorem fin_ext (nar : Bool) (V : Int) (r : Nat) (h : V = ((r % 18446744073709551616 : Nat) : Int)) :
    (if nar = true then ((arith_signed.f (V % 4294967296)).bind fun t => (some (t, true))) else (some (V, true))) = some ((((if nar = true then ext r else r % 18446744073709551616) : Nat) : Int), true) := by
  subst h
  cases nar
  · simp
  · rw [if_pos rfl, signed_ext]
    simp only [Option.bind_some, if_true]
    rw [ext_of (show r % 18446744073709551616 % 4294967296 = r % 4294967296 by omega)]

theorem arith_j1 (i x y k : Nat) (nar : Bool) (hx : x < 18446744073709551616) (hy : y < 18446744073709551616) (hi : i ≤ 8) :
    arith_Amo.j1 (k + 1) (88 + (i : Int)) (x : Int) (y : Int) nar = some ((((if nar = true then ext (R 64 i x y) else R 64 i x y % 18446744073709551616) : Nat) : Int), true) := by
  have small : ∀ j, j ≠ 1 → R 64 j x y % 18446744073709551616 = R 64 j x y := fun j h => Nat.mod_eq_of_lt (R_lt j x y hx hy h)
  simp only [arith_Amo.j1, bits_xor x y hx hy, bits_and x y hx hy, bits_or x y hx hy, w64_sg x hx, w64_sg y hy]
  have wx : IntKind.u64.wrap (sg 64 x) = (x : Int) := by rw [← w64_sg x hx, IntKind.wrap_u64]; unfold wrap64; omega
  have wy : IntKind.u64.wrap (sg 64 y) = (y : Int) := by rw [← w64_sg y hy, IntKind.wrap_u64]; unfold wrap64; omega
  obtain rfl | rfl | rfl | rfl | rfl | rfl | rfl | rfl | rfl : i = 0 ∨ i = 1 ∨ i = 2 ∨ i = 3 ∨ i = 4 ∨ i = 5 ∨ i = 6 ∨ i = 7 ∨ i = 8 := by omega
  · rw [if_pos (by decide)]
    exact fin_ext nar _ _ (by rw [small 0 (by decide)]; simp [R])
  · rw [if_neg (by decide), if_pos (by decide)]
    exact fin_ext nar _ _ (by rw [IntKind.wrap_u64]; simp [R])
  · rw [if_neg (by decide), if_neg (by decide), if_pos (by decide)]
    exact fin_ext nar _ _ (by rw [small 2 (by decide)]; simp [R])
  · rw [if_neg (by decide), if_neg (by decide), if_neg (by decide), if_pos (by decide)]
    exact fin_ext nar _ _ (by rw [small 3 (by decide)]; simp [R])
  · rw [if_neg (by decide), if_neg (by decide), if_neg (by decide), if_neg (by decide), if_pos (by decide)]
    exact fin_ext nar _ _ (by rw [small 4 (by decide)]; simp [R])
  · rw [if_neg (by decide), if_neg (by decide), if_neg (by decide), if_neg (by decide), if_neg (by decide), if_pos (by decide)]
    exact fin_ext nar _ _ (by rw [small 5 (by decide)]; unfold mn; by_cases h : sg 64 y < sg 64 x <;> simp [R, h, wx, wy])
  · rw [if_neg (by decide), if_neg (by decide), if_neg (by decide), if_neg (by decide), if_neg (by decide), if_neg (by decide), if_pos (by decide)]
    exact fin_ext nar _ _ (by rw [small 6 (by decide)]; unfold mx; by_cases h : sg 64 x < sg 64 y <;> simp [R, h, wx, wy])
  · rw [if_neg (by decide), if_neg (by decide), if_neg (by decide), if_neg (by decide), if_neg (by decide), if_neg (by decide), if_neg (by decide), if_pos (by decide)]
    exact fin_ext nar _ _ (by rw [small 7 (by decide)]; unfold mn; by_cases h : y < x <;> simp [R, h])
  · rw [if_neg (by decide), if_neg (by decide), if_neg (by decide), if_neg (by decide), if_neg (by decide), if_neg (by decide), if_neg (by decide), if_neg (by decide), if_pos (by decide)]
    exact fin_ext nar _ _ (by rw [small 8 (by decide)]; unfold mx; by_cases h : x < y <;> simp [R, h])

theorem ext_lt_iff (A B : Nat) (hA : A < 4294967296) (hB : B < 4294967296) : (ext A < ext B) ↔ A < B := by
  unfold ext; rw [Nat.mod_eq_of_lt hA, Nat.mod_eq_of_lt hB]; split <;> split <;> omega

/-- On widened halves the operations give what they give on halves. -/
theorem R_ext (i A B : Nat) (hA : A < 4294967296) (hB : B < 4294967296) (hi : i ≤ 8) : ext (R 64 i (ext A) (ext B)) = ext (R 32 i A B) := by
  have mA := ext_mod A
  have mB := ext_mod B
  have eA : ext (ext A) = ext A := ext_of mA
  have eB : ext (ext B) = ext B := ext_of mB
  obtain rfl | rfl | rfl | rfl | rfl | rfl | rfl | rfl | rfl : i = 0 ∨ i = 1 ∨ i = 2 ∨ i = 3 ∨ i = 4 ∨ i = 5 ∨ i = 6 ∨ i = 7 ∨ i = 8 := by omega
  · simp [R, eB]
  · simp only [R]; simp only [Nat.one_ne_zero, if_false, if_true]; exact ext_of (by omega)
  · simp only [R]; simp; refine ext_of ?_
    have := Nat.xor_mod_two_pow (a := ext A) (b := ext B) (n := 32); rw [p32] at this
    have h2 := Nat.xor_mod_two_pow (a := A) (b := B) (n := 32); rw [p32] at h2
    rw [this, h2, mA, mB]
  · simp only [R]; simp; refine ext_of ?_
    have := Nat.and_mod_two_pow (a := ext A) (b := ext B) (n := 32); rw [p32] at this
    have h2 := Nat.and_mod_two_pow (a := A) (b := B) (n := 32); rw [p32] at h2
    rw [this, h2, mA, mB]
  · simp only [R]; simp; refine ext_of ?_
    have := Nat.or_mod_two_pow (a := ext A) (b := ext B) (n := 32); rw [p32] at this
    have h2 := Nat.or_mod_two_pow (a := A) (b := B) (n := 32); rw [p32] at h2
    rw [this, h2, mA, mB]
  · simp only [R, sg_ext A hA, sg_ext B hB]; simp; split <;> assumption
  · simp only [R, sg_ext A hA, sg_ext B hB]; simp; split <;> assumption
  · simp only [R, ext_lt_iff B A hB hA]; simp; split <;> assumption
  · simp only [R, ext_lt_iff A B hA hB]; simp; split <;> assumption

/-- The reference, behind its tables. -/
theorem ref_tail (n i k a b : Nat) (hn : n = 32 ∨ n = 64) (ha : a < 18446744073709551616) (hb : b < 18446744073709551616) (hi : i ≤ 8) (hk : 300 ≤ k) :
    ((anvilref01_Split.f k (a : Int) (n : Int)).bind fun t193 => ((anvilref01_Split.f k (b : Int) (n : Int)).bind fun t196 => ((anvilref01_amo.f k (i : Int) t193 t196).bind fun t199 => ((anvilref01_widen.f k t199 64 true).bind fun t202 => ((anvilref01_Join.f k t202).bind fun t205 => (some (t205, true)))))))
      = some ((((if n = 32 then ext (R 32 i (a % 4294967296) (b % 4294967296)) else R 64 i a b % 18446744073709551616) : Nat) : Int), true) := by
  rcases hn with rfl | rfl
  · have e1 := split_bl a 32 k ha (by omega) (by omega)
    have e2 := split_bl b 32 k hb (by omega) (by omega)
    rw [← bl_mod 32 a, p32] at e1
    rw [← bl_mod 32 b, p32] at e2
    have e3 := amo_bl 32 i (a % 4294967296) (b % 4294967296) k (by omega) (by omega) (by rw [p32]; omega) (by rw [p32]; omega) hi hk
    have e4 := widen_bl 32 64 (R 32 i (a % 4294967296) (b % 4294967296)) k true (by omega) (by omega) (by omega) hk
    rw [ext_wd] at e4
    have e5 := join_bl 64 (ext (R 32 i (a % 4294967296) (b % 4294967296))) k (by omega) hk
    rw [Nat.min_self, p64, Nat.mod_eq_of_lt (ext_lt _)] at e5
    have e4' : anvilref01_widen.f k (bl 32 (R 32 i (a % 4294967296) (b % 4294967296))) 64 true = _ := e4
    simp only [e1, e2, e3, e4', e5, Option.bind_some, if_true]
  · have e1 := split_bl a 64 k ha (by omega) (by omega)
    have e2 := split_bl b 64 k hb (by omega) (by omega)
    have e3 := amo_bl 64 i a b k (by omega) (by omega) (by rw [p64]; omega) (by rw [p64]; omega) hi hk
    have e4 := widen_bl 64 64 (R 64 i a b) k true (by omega) (by omega) (by omega) hk
    rw [wd64] at e4
    have e5 := join_bl 64 (R 64 i a b % 18446744073709551616) k (by omega) hk
    rw [Nat.min_self, p64, Nat.mod_mod] at e5
    have e4' : anvilref01_widen.f k (bl 64 (R 64 i a b)) 64 true = _ := e4
    simp only [e1, e2, e3, e4', e5, Option.bind_some]
    simp

theorem size_w (k : Nat) : ∀ i : Nat, i ≤ 8 → anvilref01_AmoSize.f (k + 10) (77 + (i : Int)) = some 4 := by
  intro i hi
  obtain rfl | rfl | rfl | rfl | rfl | rfl | rfl | rfl | rfl : i = 0 ∨ i = 1 ∨ i = 2 ∨ i = 3 ∨ i = 4 ∨ i = 5 ∨ i = 6 ∨ i = 7 ∨ i = 8 := by omega
  all_goals simp [anvilref01_AmoSize.f, anvilref01_wordAmos.f, anvilref01_longAmos.f, anvilref01_AmoSize.l0, rd, wrap64]
theorem size_d (k : Nat) : ∀ i : Nat, i ≤ 8 → anvilref01_AmoSize.f (k + 10) (88 + (i : Int)) = some 8 := by
  intro i hi
  obtain rfl | rfl | rfl | rfl | rfl | rfl | rfl | rfl | rfl : i = 0 ∨ i = 1 ∨ i = 2 ∨ i = 3 ∨ i = 4 ∨ i = 5 ∨ i = 6 ∨ i = 7 ∨ i = 8 := by omega
  all_goals simp [anvilref01_AmoSize.f, anvilref01_wordAmos.f, anvilref01_longAmos.f, anvilref01_AmoSize.l0, rd, wrap64]
theorem size_no (k : Nat) (o : Int) (h1 : ¬ (77 ≤ o ∧ o ≤ 85)) (h2 : ¬ (88 ≤ o ∧ o ≤ 96)) : anvilref01_AmoSize.f (k + 10) o = some 0 := by
  have n : 77 ≠ o ∧ 78 ≠ o ∧ 79 ≠ o ∧ 80 ≠ o ∧ 81 ≠ o ∧ 82 ≠ o ∧ 83 ≠ o ∧ 84 ≠ o ∧ 85 ≠ o ∧ 88 ≠ o ∧ 89 ≠ o ∧ 90 ≠ o ∧ 91 ≠ o ∧ 92 ≠ o ∧ 93 ≠ o ∧ 94 ≠ o ∧ 95 ≠ o ∧ 96 ≠ o := by omega
  obtain ⟨n0, n1, n2, n3, n4, n5, n6, n7, n8, m0, m1, m2, m3, m4, m5, m6, m7, m8⟩ := n
  simp [anvilref01_AmoSize.f, anvilref01_wordAmos.f, anvilref01_longAmos.f, anvilref01_AmoSize.l0, rd, wrap64, n0, n1, n2, n3, n4, n5, n6, n7, n8, m0, m1, m2, m3, m4, m5, m6, m7, m8]

/-- The table is looked through to the row of the operation. -/
theorem look (b0 : Int) (n : Int) (L : List Int) (hL : L = [b0, b0 + 1, b0 + 2, b0 + 3, b0 + 4, b0 + 5, b0 + 6, b0 + 7, b0 + 8]) (x1 x2 : Int) (i : Nat) (hi : i ≤ 8) : ∀ (d j k : Nat), j + d = i → d < k →
    anvilref01_Amo.l0 k (b0 + i) x1 x2 n L (j : Int) = ((anvilref01_Split.f (k - d - 1) x1 n).bind fun t193 => ((anvilref01_Split.f (k - d - 1) x2 n).bind fun t196 => ((anvilref01_amo.f (k - d - 1) (i : Int) t193 t196).bind fun t199 => ((anvilref01_widen.f (k - d - 1) t199 64 true).bind fun t202 => ((anvilref01_Join.f (k - d - 1) t202).bind fun t205 => (some (t205, true))))))) := by
  have hrd : ∀ j : Nat, j ≤ 8 → rd L (j : Int) = b0 + j := by
    intro j hj
    subst hL
    obtain rfl | rfl | rfl | rfl | rfl | rfl | rfl | rfl | rfl : j = 0 ∨ j = 1 ∨ j = 2 ∨ j = 3 ∨ j = 4 ∨ j = 5 ∨ j = 6 ∨ j = 7 ∨ j = 8 := by omega
    all_goals simp [rd]
  have hlen : L.length = 9 := by rw [hL]; rfl
  intro d
  induction d with
  | zero =>
    intro j k hj hk
    obtain ⟨k, rfl⟩ : ∃ m, k = m + 1 := ⟨k - 1, by omega⟩
    obtain rfl : j = i := by omega
    simp only [anvilref01_Amo.l0]
    rw [hlen, hrd j hi, if_pos (by omega), if_pos (by omega), if_pos rfl]
    rfl
  | succ d ih =>
    intro j k hj hk
    obtain ⟨k, rfl⟩ : ∃ m, k = m + 1 := ⟨k - 1, by omega⟩
    simp only [anvilref01_Amo.l0]
    rw [hlen, hrd j (by omega), if_pos (by omega), if_pos (by omega), if_neg (by omega), w64_succ j (by omega), ih (j + 1) k (by omega) (by omega)]
    rw [show k + 1 - (d + 1) - 1 = k - d - 1 from by omega]

theorem ref_w (i a b : Nat) (ha : a < 18446744073709551616) (hb : b < 18446744073709551616) (hi : i ≤ 8) :
    anvilref01_Amo.f 400 (77 + (i : Int)) (a : Int) (b : Int) = some ((ext (R 32 i (a % 4294967296) (b % 4294967296)) : Int), true) := by
  unfold anvilref01_Amo.f
  have hs := size_w 390 i hi
  rw [show 390 + 10 = 400 from rfl] at hs
  have w : wrap64 (8 * 4) = 32 := by unfold wrap64; omega
  have hl := look 77 32 [77, 78, 79, 80, 81, 82, 83, 84, 85] rfl (a : Int) (b : Int) i hi i 0 399 (by omega) (by omega)
  have ht := ref_tail 32 i (399 - i - 1) a b (.inl rfl) ha hb hi (by omega)
  simp only [hs, Option.bind_some, w, anvilref01_wordAmos.f]
  rw [if_neg (by decide), if_neg (by decide)]
  have hj : anvilref01_Amo.j0 400 (77 + (i : Int)) (a : Int) (b : Int) 32 [77, 78, 79, 80, 81, 82, 83, 84, 85] = anvilref01_Amo.l0 399 (77 + (i : Int)) (a : Int) (b : Int) 32 [77, 78, 79, 80, 81, 82, 83, 84, 85] ((0 : Nat) : Int) := rfl
  rw [hj, hl]
  simpa using ht
theorem ref_d (i a b : Nat) (ha : a < 18446744073709551616) (hb : b < 18446744073709551616) (hi : i ≤ 8) :
    anvilref01_Amo.f 400 (88 + (i : Int)) (a : Int) (b : Int) = some (((R 64 i a b % 18446744073709551616 : Nat) : Int), true) := by
  unfold anvilref01_Amo.f
  have hs := size_d 390 i hi
  rw [show 390 + 10 = 400 from rfl] at hs
  have w : wrap64 (8 * 8) = 64 := by unfold wrap64; omega
  have hl := look 88 64 [88, 89, 90, 91, 92, 93, 94, 95, 96] rfl (a : Int) (b : Int) i hi i 0 399 (by omega) (by omega)
  have ht := ref_tail 64 i (399 - i - 1) a b (.inr rfl) ha hb hi (by omega)
  simp only [hs, Option.bind_some, w, anvilref01_wordAmos.f, anvilref01_longAmos.f]
  rw [if_neg (by decide), if_pos (by decide)]
  have hj : anvilref01_Amo.j0 400 (88 + (i : Int)) (a : Int) (b : Int) 64 [88, 89, 90, 91, 92, 93, 94, 95, 96] = anvilref01_Amo.l0 399 (88 + (i : Int)) (a : Int) (b : Int) 64 [88, 89, 90, 91, 92, 93, 94, 95, 96] ((0 : Nat) : Int) := rfl
  rw [hj, hl]
  simpa using ht

theorem arith_w (i a b : Nat) (ha : a < 18446744073709551616) (hb : b < 18446744073709551616) (hi : i ≤ 8) :
    arith_Amo.f 400 (77 + (i : Int)) (a : Int) (b : Int) = some ((ext (R 32 i (a % 4294967296) (b % 4294967296)) : Int), true) := by
  unfold arith_Amo.f
  rw [if_pos (by omega)]
  have hd : decide (77 + (i : Int) ≤ 85) = true := by simp; omega
  rw [hd]
  have hw : wrap64 (77 + (i : Int) + 11) = 88 + (i : Int) := by unfold wrap64; omega
  have hj := arith_j1 i (ext a) (ext b) 398 true (ext_lt a) (ext_lt b) hi
  have h0 : arith_Amo.j0 400 (77 + (i : Int)) (a : Int) (b : Int) true = arith_Amo.j1 399 (88 + (i : Int)) (ext a) (ext b) true := by
    have hu : arith_Amo.j0 (399 + 1) (77 + (i : Int)) (a : Int) (b : Int) true = arith_Amo.j1 399 (88 + (i : Int)) (ext a) (ext b) true := by
      simp only [arith_Amo.j0, if_true, signed_ext, Option.bind_some, hw]
    exact hu
  rw [h0, hj]
  simp only [if_true]
  have ea : ext a = ext (a % 4294967296) := ext_of (by omega)
  have eb : ext b = ext (b % 4294967296) := ext_of (by omega)
  rw [ea, eb, R_ext i _ _ (by omega) (by omega) hi]
theorem arith_d (i a b : Nat) (ha : a < 18446744073709551616) (hb : b < 18446744073709551616) (hi : i ≤ 8) :
    arith_Amo.f 400 (88 + (i : Int)) (a : Int) (b : Int) = some (((R 64 i a b % 18446744073709551616 : Nat) : Int), true) := by
  unfold arith_Amo.f
  rw [if_pos (by omega)]
  have hd : decide (88 + (i : Int) ≤ 85) = false := by simp; omega
  rw [hd]
  exact arith_j1 i a b 398 false ha hb hi
theorem arith_no (o a b : Int) (h1 : ¬ (77 ≤ o ∧ o ≤ 85)) (h2 : ¬ (88 ≤ o ∧ o ≤ 96)) : arith_Amo.f 400 o a b = some (0, false) := by
  have n : o ≠ 88 ∧ o ≠ 89 ∧ o ≠ 90 ∧ o ≠ 91 ∧ o ≠ 92 ∧ o ≠ 93 ∧ o ≠ 94 ∧ o ≠ 95 ∧ o ≠ 96 := by omega
  obtain ⟨m0, m1, m2, m3, m4, m5, m6, m7, m8⟩ := n
  have hj : arith_Amo.j0 400 o a b false = some (0, false) := by
    show arith_Amo.j1 399 o a b false = _
    show (if o = 88 then _ else _) = _
    rw [if_neg m0, if_neg m1, if_neg m2, if_neg m3, if_neg m4, if_neg m5, if_neg m6, if_neg m7, if_neg m8]
  unfold arith_Amo.f
  by_cases h : o ≥ 77
  · rw [if_pos h]
    have : decide (o ≤ 85) = false := by simp; omega
    rw [this, hj]
  · rw [if_neg h, hj]

theorem ArithAmos (a0 a1 a2 a3 a4 : Int) (b0 : -9223372036854775808 ≤ a0) (c0 : a0 ≤ 9223372036854775807) (b1 : 0 ≤ a1) (c1 : a1 ≤ 18446744073709551615) (b2 : 0 ≤ a2) (c2 : a2 ≤ 18446744073709551615) (b3 : -9223372036854775808 ≤ a3) (c3 : a3 ≤ 9223372036854775807) (b4 : -9223372036854775808 ≤ a4) (c4 : a4 ≤ 9223372036854775807) : ∃ k, anvillaw01_ArithAmos.f k a0 a1 a2 a3 a4 = some true := by
  obtain ⟨a, rfl⟩ := Int.eq_ofNat_of_zero_le b1
  obtain ⟨b, rfl⟩ := Int.eq_ofNat_of_zero_le b2
  have ha : a < 18446744073709551616 := by omega
  have hb : b < 18446744073709551616 := by omega
  refine ⟨400, ?_⟩
  unfold anvillaw01_ArithAmos.f
  by_cases h1 : 77 ≤ a0 ∧ a0 ≤ 85
  · obtain ⟨i, hi⟩ : ∃ i : Nat, a0 = 77 + (i : Int) := ⟨(a0 - 77).toNat, by omega⟩
    rw [hi, arith_w i a b ha hb (by omega), ref_w i a b ha hb (by omega)]
    simp
  · by_cases h2 : 88 ≤ a0 ∧ a0 ≤ 96
    · obtain ⟨i, hi⟩ : ∃ i : Nat, a0 = 88 + (i : Int) := ⟨(a0 - 88).toNat, by omega⟩
      rw [hi, arith_d i a b ha hb (by omega), ref_d i a b ha hb (by omega)]
      simp
    · have hr : anvilref01_Amo.f 400 a0 (a : Int) (b : Int) = some (0, false) := by
        unfold anvilref01_Amo.f
        have hs := size_no 390 a0 h1 h2
        rw [show 390 + 10 = 400 from rfl] at hs
        rw [hs]
        simp only [Option.bind_some]
        rw [if_pos (by unfold wrap64; omega)]
      rw [arith_no a0 a b h1 h2, hr]
      simp
end Go.Proofs.Ytdjppkffmeccoaa.Pure
