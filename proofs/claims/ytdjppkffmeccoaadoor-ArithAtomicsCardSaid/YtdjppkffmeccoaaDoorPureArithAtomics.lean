/- The pure side of ArithAtomics: atomic operations are those of registers. -/
import Derived.Test.YtdjppkffmeccoaaDoorQArithAtomicsx2
import Derived.Test.YtdjppkffmeccoaaDoorPureOps
set_option linter.unusedVariables false
set_option linter.unusedSimpArgs false
namespace Go.Proofs.YtdjppkffmeccoaaDoor.Pure
open Go.RowKit Go.Proofs.YtdjppkffmeccoaaDoorW.PrintWords Go.Proofs.YtdjppkffmeccoaaDoorW.PrintMore Mth PC PL PT QArithAtomics

theorem ext_ext (v : Nat) : ext (ext v) = ext v := ext_of (ext_mod v)
theorem half_f (x : Nat) (hx : x < 18446744073709551616) : anvillaw01_half.f (x : Int) = some (ext x : Int) := by
  unfold anvillaw01_half.f ext
  rw [and_low x hx]
  by_cases h : x % 4294967296 < 2147483648
  · rw [if_neg (by omega), if_pos h]
  · rw [if_pos (by omega), if_neg h]
    congr 1
    have e : Go.bits .or .u64 ((x % 4294967296 : Nat) : Int) ((18446744069414584320 : Nat) : Int) = ((x % 4294967296 ||| 18446744069414584320 : Nat) : Int) := bits_or _ _ (by omega) (by decide)
    refine Eq.trans e ?_
    congr 1
    have h2 := Nat.two_pow_add_eq_or_of_lt (show x % 4294967296 < 2 ^ 32 from by rw [p32]; omega) 4294967295
    rw [p32] at h2
    rw [Nat.or_comm, show (18446744069414584320 : Nat) = 4294967296 * 4294967295 from by decide, ← h2, Nat.add_comm]
theorem pt_signed (v : Nat) : PT.arith_signed.f ((v : Int) % 4294967296) = some (ext v : Int) := by
  show PC.arith_signed.f ((v : Int) % 4294967296) = _
  rw [mod32, signed_ext _ (Nat.mod_lt _ (by decide)), ext_of (show v % 4294967296 % 4294967296 = v % 4294967296 by omega)]
theorem w64_sg (a : Nat) (h : a < 18446744073709551616) : wrap64 (a : Int) = sg 64 a := by
  unfold sg wrap64
  rw [p63, i64p]
  split <;> omega

theorem sg_ext (A : Nat) (h : A < 4294967296) : sg 64 (ext A) = sg 32 A := by
  unfold sg ext
  rw [p63, p31, i64p, i32p, Nat.mod_eq_of_lt h]
  split <;> split <;> omega

/-- What the i-th makes of two words of n bits. -/
def R (n i A B : Nat) : Nat :=
  if i = 0 then B else if i = 1 then A + B else if i = 2 then A ^^^ B else if i = 3 then A &&& B else if i = 4 then A ||| B else
  if i = 5 then (if sg n B < sg n A then B else A) else if i = 6 then (if sg n A < sg n B then B else A) else if i = 7 then (if B < A then B else A) else (if A < B then B else A)

theorem R_lt (i x y : Nat) (hx : x < 18446744073709551616) (hy : y < 18446744073709551616) (h : i ≠ 1) : R 64 i x y < 18446744073709551616 := by
  have h1 : x ^^^ y < 2 ^ 64 := Nat.xor_lt_two_pow (n := 64) hx hy
  have h2 : x &&& y < 2 ^ 64 := Nat.and_lt_two_pow x (n := 64) hy
  have h3 : x ||| y < 2 ^ 64 := Nat.or_lt_two_pow (n := 64) hx hy
  rw [p64] at h1 h2 h3
  unfold R
  repeat' split
  all_goals omega

theorem fin_ext (nar : Bool) (V : Int) (r : Nat) (h : V = ((r % 18446744073709551616 : Nat) : Int)) :
    (if nar = true then ((PT.arith_signed.f (V % 4294967296)).bind fun t => (some (t, true))) else (some (V, true))) = some ((((if nar = true then ext r else r % 18446744073709551616) : Nat) : Int), true) := by
  subst h
  cases nar
  · simp
  · rw [if_pos rfl, pt_signed]
    simp only [Option.bind_some, if_true]
    rw [ext_of (show r % 18446744073709551616 % 4294967296 = r % 4294967296 by omega)]

theorem arith_j1 (i x y k : Nat) (nar : Bool) (hx : x < 18446744073709551616) (hy : y < 18446744073709551616) (hi : i ≤ 8) :
    PT.arith_Amo.j1 (k + 1) (88 + (i : Int)) (x : Int) (y : Int) nar = some ((((if nar = true then ext (R 64 i x y) else R 64 i x y % 18446744073709551616) : Nat) : Int), true) := by
  have small : ∀ j, j ≠ 1 → R 64 j x y % 18446744073709551616 = R 64 j x y := fun j h => Nat.mod_eq_of_lt (R_lt j x y hx hy h)
  simp only [PT.arith_Amo.j1, bits_xor x y hx hy, bits_and x y hx hy, bits_or x y hx hy, w64_sg x hx, w64_sg y hy]
  have wx : IntKind.u64.wrap (sg 64 x) = (x : Int) := by rw [← w64_sg x hx, IntKind.wrap_u64]; unfold wrap64; omega
  have wy : IntKind.u64.wrap (sg 64 y) = (y : Int) := by rw [← w64_sg y hy, IntKind.wrap_u64]; unfold wrap64; omega
  obtain rfl | rfl | rfl | rfl | rfl | rfl | rfl | rfl | rfl : i = 0 ∨ i = 1 ∨ i = 2 ∨ i = 3 ∨ i = 4 ∨ i = 5 ∨ i = 6 ∨ i = 7 ∨ i = 8 := by omega
  · rw [if_pos (by decide)]
    exact fin_ext nar _ _ (by rw [small 0 (by decide)]; simp [R])
  · rw [if_neg (by decide), if_pos (by decide)]
    exact fin_ext nar _ _ (by rw [IntKind.wrap_u64]; simp [R])
  · rw [if_neg (by decide), if_neg (by decide), if_pos (by decide)]
    exact fin_ext nar _ _ (by rw [small 2 (by decide)]; simp [R])
  · rw [if_neg (by decide), if_neg (by decide), if_neg (by decide), if_pos (by decide)]
    exact fin_ext nar _ _ (by rw [small 3 (by decide)]; simp [R])
  · rw [if_neg (by decide), if_neg (by decide), if_neg (by decide), if_neg (by decide), if_pos (by decide)]
    exact fin_ext nar _ _ (by rw [small 4 (by decide)]; simp [R])
  · rw [if_neg (by decide), if_neg (by decide), if_neg (by decide), if_neg (by decide), if_neg (by decide), if_pos (by decide)]
    exact fin_ext nar _ _ (by rw [small 5 (by decide)]; unfold mn; by_cases h : sg 64 y < sg 64 x <;> simp [R, h, wx, wy])
  · rw [if_neg (by decide), if_neg (by decide), if_neg (by decide), if_neg (by decide), if_neg (by decide), if_neg (by decide), if_pos (by decide)]
    exact fin_ext nar _ _ (by rw [small 6 (by decide)]; unfold mx; by_cases h : sg 64 x < sg 64 y <;> simp [R, h, wx, wy])
  · rw [if_neg (by decide), if_neg (by decide), if_neg (by decide), if_neg (by decide), if_neg (by decide), if_neg (by decide), if_neg (by decide), if_pos (by decide)]
    exact fin_ext nar _ _ (by rw [small 7 (by decide)]; unfold mn; by_cases h : y < x <;> simp [R, h])
  · rw [if_neg (by decide), if_neg (by decide), if_neg (by decide), if_neg (by decide), if_neg (by decide), if_neg (by decide), if_neg (by decide), if_neg (by decide), if_pos (by decide)]
    exact fin_ext nar _ _ (by rw [small 8 (by decide)]; unfold mx; by_cases h : x < y <;> simp [R, h])

theorem ext_lt_iff (A B : Nat) (hA : A < 4294967296) (hB : B < 4294967296) : (ext A < ext B) ↔ A < B := by
  unfold ext; rw [Nat.mod_eq_of_lt hA, Nat.mod_eq_of_lt hB]; split <;> split <;> omega

/-- On widened halves the operations give what they give on halves. -/
theorem R_ext (i A B : Nat) (hA : A < 4294967296) (hB : B < 4294967296) (hi : i ≤ 8) : ext (R 64 i (ext A) (ext B)) = ext (R 32 i A B) := by
  have mA := ext_mod A
  have mB := ext_mod B
  have eA : ext (ext A) = ext A := ext_of mA
  have eB : ext (ext B) = ext B := ext_of mB
  obtain rfl | rfl | rfl | rfl | rfl | rfl | rfl | rfl | rfl : i = 0 ∨ i = 1 ∨ i = 2 ∨ i = 3 ∨ i = 4 ∨ i = 5 ∨ i = 6 ∨ i = 7 ∨ i = 8 := by omega
  · simp [R, eB]
  · simp only [R]; simp only [Nat.one_ne_zero, if_false, if_true]; exact ext_of (by omega)
  · simp only [R]; simp; refine ext_of ?_
    have := Nat.xor_mod_two_pow (a := ext A) (b := ext B) (n := 32); rw [p32] at this
    have h2 := Nat.xor_mod_two_pow (a := A) (b := B) (n := 32); rw [p32] at h2
    rw [this, h2, mA, mB]
  · simp only [R]; simp; refine ext_of ?_
    have := Nat.and_mod_two_pow (a := ext A) (b := ext B) (n := 32); rw [p32] at this
    have h2 := Nat.and_mod_two_pow (a := A) (b := B) (n := 32); rw [p32] at h2
    rw [this, h2, mA, mB]
  · simp only [R]; simp; refine ext_of ?_
    have := Nat.or_mod_two_pow (a := ext A) (b := ext B) (n := 32); rw [p32] at this
    have h2 := Nat.or_mod_two_pow (a := A) (b := B) (n := 32); rw [p32] at h2
    rw [this, h2, mA, mB]
  · simp only [R, sg_ext A hA, sg_ext B hB]; simp; split <;> assumption
  · simp only [R, sg_ext A hA, sg_ext B hB]; simp; split <;> assumption
  · simp only [R, ext_lt_iff B A hB hA]; simp; split <;> assumption
  · simp only [R, ext_lt_iff A B hA hB]; simp; split <;> assumption


theorem amo_d (i a b k : Nat) (ha : a < 18446744073709551616) (hb : b < 18446744073709551616) (hi : i ≤ 8) :
    anvillaw01_amo.f (k + 2) (88 + (i : Int)) (a : Int) (b : Int) = some ((R 64 i a b % 18446744073709551616 : Nat) : Int) := by
  have e : PT.arith_Amo.f (k + 2) (88 + (i : Int)) (a : Int) (b : Int) = some (((R 64 i a b % 18446744073709551616 : Nat) : Int), true) := by
    unfold PT.arith_Amo.f
    rw [if_pos (by omega)]
    have hd : decide (88 + (i : Int) ≤ 85) = false := by simp; omega
    rw [hd]
    exact arith_j1 i a b k false ha hb hi
  unfold anvillaw01_amo.f
  rw [e]; rfl
theorem amo_w (i a b k : Nat) (ha : a < 18446744073709551616) (hb : b < 18446744073709551616) (hi : i ≤ 8) :
    anvillaw01_amo.f (k + 2) (77 + (i : Int)) (a : Int) (b : Int) = some (ext (R 32 i (a % 4294967296) (b % 4294967296)) : Int) := by
  have e : PT.arith_Amo.f (k + 2) (77 + (i : Int)) (a : Int) (b : Int) = some ((ext (R 32 i (a % 4294967296) (b % 4294967296)) : Int), true) := by
    unfold PT.arith_Amo.f
    rw [if_pos (by omega)]
    have hd : decide (77 + (i : Int) ≤ 85) = true := by simp; omega
    rw [hd]
    have hw : wrap64 (77 + (i : Int) + 11) = 88 + (i : Int) := by unfold wrap64; omega
    have hj := arith_j1 i (ext a) (ext b) k true (ext_lt a) (ext_lt b) hi
    have hu : PT.arith_Amo.j0 (k + 1 + 1) (77 + (i : Int)) (a : Int) (b : Int) true = PT.arith_Amo.j1 (k + 1) (88 + (i : Int)) (ext a) (ext b) true := by
      simp only [PT.arith_Amo.j0, if_true, pt_signed, Option.bind_some, hw]
    refine Eq.trans hu ?_
    rw [hj]
    simp only [if_true]
    have ea : ext a = ext (a % 4294967296) := ext_of (by omega)
    have eb : ext b = ext (b % 4294967296) := ext_of (by omega)
    rw [ea, eb, R_ext i _ _ (by omega) (by omega) hi]
  unfold anvillaw01_amo.f
  rw [e]; rfl

theorem R_pick (n i x y : Nat) (hi : 5 ≤ i) : R n i x y = x ∨ R n i x y = y := by
  unfold R
  rw [if_neg (by omega), if_neg (by omega), if_neg (by omega), if_neg (by omega), if_neg (by omega)]
  repeat' split
  all_goals first | exact .inl rfl | exact .inr rfl
/-- Least and greatest of halves are those of widened halves. -/
theorem R_wide (i a b : Nat) (h5 : 5 ≤ i) (hi : i ≤ 8) : R 64 i (ext a) (ext b) % 18446744073709551616 = ext (R 32 i (a % 4294967296) (b % 4294967296)) := by
  have ea : ext a = ext (a % 4294967296) := ext_of (by omega)
  have eb : ext b = ext (b % 4294967296) := ext_of (by omega)
  rw [ea, eb]
  have h := R_ext i (a % 4294967296) (b % 4294967296) (by omega) (by omega) hi
  rcases R_pick 64 i (ext (a % 4294967296)) (ext (b % 4294967296)) h5 with e | e
  · rw [e, ext_ext] at h
    rw [e, Nat.mod_eq_of_lt (ext_lt _), h]
  · rw [e, ext_ext] at h
    rw [e, Nat.mod_eq_of_lt (ext_lt _), h]

theorem low_xor (a b : Nat) : (a % 4294967296 ^^^ b % 4294967296) % 4294967296 = (a ^^^ b) % 4294967296 := by
  have h := Nat.xor_mod_two_pow (a := a) (b := b) (n := 32)
  rw [p32] at h
  have h2 := Nat.xor_mod_two_pow (a := a % 4294967296) (b := b % 4294967296) (n := 32)
  rw [p32, Nat.mod_mod, Nat.mod_mod] at h2
  rw [h2, h]
theorem low_and (a b : Nat) : (a % 4294967296 &&& b % 4294967296) % 4294967296 = (a &&& b) % 4294967296 := by
  have h := Nat.and_mod_two_pow (a := a) (b := b) (n := 32)
  have h2 := Nat.and_mod_two_pow (a := a % 4294967296) (b := b % 4294967296) (n := 32)
  rw [p32] at h
  rw [p32, Nat.mod_mod, Nat.mod_mod] at h2
  rw [h2, h]
theorem low_or (a b : Nat) : (a % 4294967296 ||| b % 4294967296) % 4294967296 = (a ||| b) % 4294967296 := by
  have h := Nat.or_mod_two_pow (a := a) (b := b) (n := 32)
  have h2 := Nat.or_mod_two_pow (a := a % 4294967296) (b := b % 4294967296) (n := 32)
  rw [p32] at h
  rw [p32, Nat.mod_mod, Nat.mod_mod] at h2
  rw [h2, h]

def atD : List Int := [89, 90, 91, 92]
def atW : List Int := [78, 79, 80, 81]
def atK : List Int := [35, 40, 44, 43]
theorem at_step (m k i j : Nat) (hm : m = k + 2) (a b : Nat) (o x y z : Int) (v : Nat) (ha : a < 18446744073709551616) (hb : b < 18446744073709551616) (hi : i < 4) (hj : j = i + 1) (hD : rd atD (i : Int) = 88 + (j : Int)) (hW : rd atW (i : Int) = 77 + (j : Int)) (hK : rd atK (i : Int) = o)
    (h1 : anvillaw01_op.f o (a : Int) (b : Int) = some (v : Int)) (hv : v < 18446744073709551616) (h2 : R 64 j a b % 18446744073709551616 = v) (h3 : ext (R 32 j (a % 4294967296) (b % 4294967296)) = ext v) :
    anvillaw01_ArithAtomics.l0 (m + 1) atD atW atK (i : Int) x (a : Int) (b : Int) y z = anvillaw01_ArithAtomics.l0 m atD atW atK ((i + 1 : Nat) : Int) x (a : Int) (b : Int) y z := by
  have l1 : (atD.length : Int) = 4 := rfl
  have l2 : (atW.length : Int) = 4 := rfl
  have l3 : (atK.length : Int) = 4 := rfl
  have j8 : j ≤ 8 := by clear hD hW hK h1 h2 h3; omega
  have e1 := amo_d j a b k ha hb j8
  have e2 := amo_w j a b k ha hb j8
  have e3 := half_f v hv
  rw [h2, ← hm] at e1
  rw [h3, ← hm] at e2
  have w := w64_succ i (Nat.lt_trans hi (by decide))
  have c0 : (0 : Int) ≤ (i : Int) := Int.natCast_nonneg i
  have c1 : (i : Int) < 4 := Int.ofNat_lt.2 hi
  simp only [anvillaw01_ArithAtomics.l0]
  rw [l1, l2, l3, hD, hW, hK, e1, h1, e2]
  refine (if_pos c1).trans ((if_pos c0).trans ((if_pos c1).trans ?_))
  rw [Option.bind_some, Option.bind_some]
  refine (if_pos rfl).trans ((if_pos c1).trans ?_)
  rw [Option.bind_some, Option.bind_some, e3, Option.bind_some]
  refine (if_pos rfl).trans ?_
  rw [w]

theorem at_j0 (k : Nat) (x a b y z : Int) : anvillaw01_ArithAtomics.j0 (k + 1) false x a b y z = anvillaw01_ArithAtomics.l0 k atD atW atK ((0 : Nat) : Int) x a b y z := by
  simp only [anvillaw01_ArithAtomics.j0, Bool.false_eq_true, if_false]
  rfl
theorem at_fin (k : Nat) (x a b y z e : Int) (h88 : anvillaw01_amo.f k 88 a b = some b) (h77 : anvillaw01_amo.f k 77 a b = some e) (hB : anvillaw01_half.f b = some e) (hj : anvillaw01_ArithAtomics.j0 k false x a b y z = some true) :
    anvillaw01_ArithAtomics.f k x a b y z = some true := by
  unfold anvillaw01_ArithAtomics.f
  simp only [live_true, h88, h77, hB, Option.bind_some, if_true, bne_self_eq_false]
  exact hj
theorem ArithAtomics (a0 a1 a2 a3 a4 : Int) (b0 : -9223372036854775808 ≤ a0) (c0 : a0 ≤ 9223372036854775807) (b1 : 0 ≤ a1) (c1 : a1 ≤ 18446744073709551615) (b2 : 0 ≤ a2) (c2 : a2 ≤ 18446744073709551615) (b3 : -9223372036854775808 ≤ a3) (c3 : a3 ≤ 9223372036854775807) (b4 : -9223372036854775808 ≤ a4) (c4 : a4 ≤ 9223372036854775807) : ∃ k, anvillaw01_ArithAtomics.f k a0 a1 a2 a3 a4 = some true := by
  obtain ⟨a, rfl⟩ := Int.eq_ofNat_of_zero_le b1
  obtain ⟨b, rfl⟩ := Int.eq_ofNat_of_zero_le b2
  have ha : a < 18446744073709551616 := by omega
  have hb : b < 18446744073709551616 := by omega
  clear b1 c1 b2 c2
  have lx : a ^^^ b < 18446744073709551616 := Nat.xor_lt_two_pow (n := 64) ha hb
  have ln : a &&& b < 18446744073709551616 := Nat.and_lt_two_pow a (n := 64) hb
  have lo : a ||| b < 18446744073709551616 := Nat.or_lt_two_pow (n := 64) ha hb
  have la := ext_lt a
  have lb := ext_lt b
  have hA := half_f a ha
  have hB := half_f b hb
  have fin : ∀ m k, m = k + 3 → anvillaw01_ArithAtomics.l0 (m + 1) atD atW atK ((4 : Nat) : Int) a0 (a : Int) (b : Int) a3 a4 = some true := fun m k hm => by
    have l3 : (atK.length : Int) = 4 := rfl
    have m82 : anvillaw01_amo.f (k + 1 + 2) 82 (a : Int) (b : Int) = _ := amo_w 5 a b (k + 1) ha hb (by decide)
    have m83 : anvillaw01_amo.f (k + 1 + 2) 83 (a : Int) (b : Int) = _ := amo_w 6 a b (k + 1) ha hb (by decide)
    have m84 : anvillaw01_amo.f (k + 2) 84 (a : Int) (b : Int) = _ := amo_w 7 a b k ha hb (by decide)
    have m85 : anvillaw01_amo.f (k + 2) 85 (a : Int) (b : Int) = _ := amo_w 8 a b k ha hb (by decide)
    have m93 : anvillaw01_amo.f (k + 1 + 2) 93 (ext a : Int) (ext b : Int) = _ := amo_d 5 (ext a) (ext b) (k + 1) la lb (by decide)
    have m94 : anvillaw01_amo.f (k + 1 + 2) 94 (ext a : Int) (ext b : Int) = _ := amo_d 6 (ext a) (ext b) (k + 1) la lb (by decide)
    have m95 : anvillaw01_amo.f (k + 2) 95 (ext a : Int) (ext b : Int) = _ := amo_d 7 (ext a) (ext b) k la lb (by decide)
    have m96 : anvillaw01_amo.f (k + 2) 96 (ext a : Int) (ext b : Int) = _ := amo_d 8 (ext a) (ext b) k la lb (by decide)
    rw [R_wide 5 a b (by decide) (by decide)] at m93
    rw [R_wide 6 a b (by decide) (by decide)] at m94
    rw [R_wide 7 a b (by decide) (by decide)] at m95
    rw [R_wide 8 a b (by decide) (by decide)] at m96
    have hm' : k + 1 + 2 = m := by omega
    rw [hm'] at m82 m83 m93 m94
    have j2 : anvillaw01_ArithAtomics.j2 m (ext a : Int) (ext b : Int) false a0 (a : Int) (b : Int) a3 a4 = some true := by
      obtain ⟨q, hq⟩ : ∃ q, q = k + 2 := ⟨_, rfl⟩
      rw [← hq] at m84 m85 m95 m96
      obtain rfl : m = q + 1 := by omega
      simp only [anvillaw01_ArithAtomics.j2, Bool.false_eq_true, if_false, m84, m95, m85, m96, Option.bind_some, if_true, beq_self_eq_true]
    have c1 := eq_false (show ¬ ((4 : Nat) : Int) < 4 by omega)
    simp only [anvillaw01_ArithAtomics.l0, l3, c1, if_false, hA, hB, m82, m93, m83, m94, Option.bind_some, if_true, bne_self_eq_false]
    exact j2
  have lp : anvillaw01_ArithAtomics.l0 9 atD atW atK ((0 : Nat) : Int) a0 (a : Int) (b : Int) a3 a4 = some true := by
    have q1 := at_step 8 6 0 1 rfl a b 35 a0 a3 a4 _ ha hb (by decide) rfl (by decide) (by decide) (by decide) (op35 a b ha hb) (Nat.mod_lt _ (by decide)) (by simp [R]) (ext_of (by simp [R]))
    have q2 := at_step 7 5 1 2 rfl a b 40 a0 a3 a4 _ ha hb (by decide) rfl (by decide) (by decide) (by decide) (op40 a b ha hb) lx (Nat.mod_eq_of_lt (show R 64 2 a b < 18446744073709551616 from lx)) (ext_of (by simp only [R]; exact low_xor a b))
    have q3 := at_step 6 4 2 3 rfl a b 44 a0 a3 a4 _ ha hb (by decide) rfl (by decide) (by decide) (by decide) (op44 a b ha hb) ln (Nat.mod_eq_of_lt (show R 64 3 a b < 18446744073709551616 from ln)) (ext_of (by simp only [R]; exact low_and a b))
    have q4 := at_step 5 3 3 4 rfl a b 43 a0 a3 a4 _ ha hb (by decide) rfl (by decide) (by decide) (by decide) (op43 a b ha hb) lo (Nat.mod_eq_of_lt (show R 64 4 a b < 18446744073709551616 from lo)) (ext_of (by simp only [R]; exact low_or a b))
    exact q1.trans (q2.trans (q3.trans (q4.trans (fin 4 1 rfl))))
  have m88 : anvillaw01_amo.f (8 + 2) 88 (a : Int) (b : Int) = _ := amo_d 0 a b 8 ha hb (by decide)
  have m77 : anvillaw01_amo.f (8 + 2) 77 (a : Int) (b : Int) = _ := amo_w 0 a b 8 ha hb (by decide)
  have r1 : R 64 0 a b % 18446744073709551616 = b := Nat.mod_eq_of_lt (show R 64 0 a b < 18446744073709551616 from hb)
  have r2 : ext (R 32 0 (a % 4294967296) (b % 4294967296)) = ext b := ext_of (by simp [R])
  rw [r1] at m88
  rw [r2] at m77
  have hj : anvillaw01_ArithAtomics.j0 (8 + 2) false a0 (a : Int) (b : Int) a3 a4 = some true := (at_j0 9 a0 a b a3 a4).trans lp
  exact ⟨8 + 2, at_fin _ a0 a b a3 a4 _ m88 m77 hB hj⟩
end Go.Proofs.YtdjppkffmeccoaaDoor.Pure
