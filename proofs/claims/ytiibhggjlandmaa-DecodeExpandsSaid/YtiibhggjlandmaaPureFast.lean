/- The loops of the reference's expansion (cut, sx, low, join) in closed form. Plain facts over the printed functions. -/
import Derived.Test.YtiibhggjlandmaaPDx8
namespace Go.Proofs.Ytiibhggjlandmaa.Pure
open Go.RowKit Go.Proofs.YtiibhggjlandmaaW.PrintWords Go.Proofs.YtiibhggjlandmaaW.PrintMore Go.Proofs.Ytiibhggjlandmaa.PD
set_option linter.unusedVariables false

theorem fw (x : Int) (h0 : -4611686018427387904 ≤ x) (h1 : x ≤ 4611686018427387904) : wrap64 x = x := by unfold wrap64; omega
theorem two_pos (d : Nat) : (1 : Int) ≤ 2 ^ d := by
  have := Nat.one_le_two_pow (n := d); exact_mod_cast this
theorem two_up (x : Int) (d : Nat) : x * 2 ^ (d + 1) = x * 2 * 2 ^ d := by
  rw [Int.pow_succ, Int.mul_comm (2 ^ d) 2, Int.mul_assoc]
theorem two_top {d : Nat} (h : d ≤ 32) : (2 : Nat) ^ d ≤ 4294967296 := Nat.le_trans (Nat.pow_le_pow_right (by decide) h) (by decide)
theorem ediv2 (x : Int) (d : Nat) : x / 2 / 2 ^ d = x / 2 ^ (d + 1) := by
  rw [Int.pow_succ, Int.mul_comm (2 ^ d) 2]
  first | exact Int.ediv_ediv (by decide) | exact (Int.ediv_ediv_of_nonneg (by decide)) | rw [Int.ediv_ediv (by decide)]
theorem half_le {x : Int} {d : Nat} {B : Int} (h0 : 0 ≤ x) (h : x * 2 ^ d ≤ B) : x ≤ B := by
  have := Int.mul_le_mul_of_nonneg_left (two_pos d) h0
  rw [Int.mul_one] at this; omega

theorem cut_l1 (x1 x7 : Int) (hx : x1 ≤ 31) : ∀ (d k : Nat) (x9 x10 : Int), x10 + d = x1 + 1 → 0 ≤ x10 → 0 < x9 → x9 * 2 ^ d ≤ 4294967296 → anvilref05_cut.l1 (k + d + 1) x1 x7 x9 x10 = some (Int.tmod x7 (x9 * 2 ^ d))
  | 0, k, x9, x10, he, h0, h9, hm => by
    rw [anvilref05_cut.l1, if_neg (by omega), if_neg (by omega)]; simp
  | d + 1, k, x9, x10, he, h0, h9, hm => by
    rw [two_up] at hm ⊢
    have h2 := half_le (by omega) hm
    have ih := cut_l1 x1 x7 hx d k (x9 * 2) (x10 + 1) (by omega) (by omega) (by omega) hm
    rw [show k + (d + 1) + 1 = (k + d + 1) + 1 from rfl, anvilref05_cut.l1, if_pos (by omega), fw (x9 * 2) (by omega) (by omega), fw (x10 + 1) (by omega) (by omega), ih]

theorem cut_l0 (x1 x2 : Int) (hx : x2 ≤ 31) : ∀ (d k : Nat) (x7 x8 : Int), x8 + d = x2 → 0 ≤ x8 → 0 ≤ x7 → x7 ≤ 4294967296 → anvilref05_cut.l0 (k + d + 1) x1 x2 x7 x8 = anvilref05_cut.l1 k x1 (x7 / 2 ^ d) 1 x2
  | 0, k, x7, x8, he, h0, h7, hm => by
    rw [anvilref05_cut.l0, if_neg (by omega)]; simp
  | d + 1, k, x7, x8, he, h0, h7, hm => by
    have ih := cut_l0 x1 x2 hx d k (x7 / 2) (x8 + 1) (by omega) (by omega) (by omega) (by omega)
    rw [show k + (d + 1) + 1 = (k + d + 1) + 1 from rfl, anvilref05_cut.l0, if_pos (by omega), Int.tdiv_eq_ediv_of_nonneg h7, fw (x7 / 2) (by omega) (by omega), fw (x8 + 1) (by omega) (by omega), ih, ediv2]

/-- cut: the closed form, by natural numbers (fast in the kernel). -/
def cutC (p hi lo : Int) : Int := ((p.toNat / 2 ^ lo.toNat % 2 ^ (hi + 1 - lo).toNat : Nat) : Int)
theorem cut_eq {k : Nat} {p hi lo : Int} (hk : 80 ≤ k) (h0 : 0 ≤ p) (h1 : p < 4294967296) (hl : 0 ≤ lo) (hlh : lo ≤ hi) (hh : hi ≤ 31) : anvilref05_cut.f k p hi lo = some (cutC p hi lo) := by
  obtain ⟨d0, hd0⟩ : ∃ d0 : Nat, lo = d0 := ⟨lo.toNat, by omega⟩
  obtain ⟨d1, hd1⟩ : ∃ d1 : Nat, hi + 1 - lo = d1 := ⟨(hi + 1 - lo).toNat, by omega⟩
  obtain ⟨n, rfl⟩ : ∃ n : Nat, p = n := ⟨p.toNat, by omega⟩
  obtain ⟨j, rfl⟩ : ∃ j, k = (j + d1 + 1) + d0 + 1 := ⟨k - d1 - d0 - 2, by omega⟩
  have hp : (2 : Int) ^ d1 ≤ 4294967296 := by
    have := two_top (d := d1) (by omega)
    have e : (2 : Int) ^ d1 = ((2 ^ d1 : Nat) : Int) := by simp
    rw [e]; exact Int.ofNat_le.mpr this
  unfold anvilref05_cut.f cutC
  rw [fw _ (by omega) (by omega), cut_l0 hi lo (by omega) d0 (j + d1 + 1) (n : Int) 0 (by omega) (by omega) (by omega) (by omega),
    cut_l1 hi _ hh d1 j 1 lo (by omega) hl (by decide) (by rw [Int.one_mul]; exact hp), Int.one_mul]
  have hn : (0 : Int) ≤ (n : Int) / 2 ^ d0 := Int.ediv_nonneg (by omega) (by have := two_pos d0; omega)
  rw [Int.tmod_eq_emod_of_nonneg hn, hd1, hd0, Int.toNat_natCast, Int.toNat_natCast, Int.toNat_natCast]
  simp

theorem sx_l0 (x0 x1 : Int) (hx : x1 ≤ 31) : ∀ (d k : Nat) (x5 x6 : Int), x6 + d = x1 → 0 ≤ x6 → 0 < x5 → x5 * 2 ^ d ≤ 4294967296 → anvilref05_sx.l0 (k + d + 1) x0 x1 x5 x6 = if x0 ≥ (wrap64 (Int.tdiv (x5 * 2 ^ d) 2)) then (some (wrap64 (x0 - x5 * 2 ^ d))) else (some x0)
  | 0, k, x5, x6, he, h0, h5, hm => by
    rw [anvilref05_sx.l0, if_neg (by omega)]; simp
  | d + 1, k, x5, x6, he, h0, h5, hm => by
    rw [two_up] at hm ⊢
    have h2 := half_le (by omega) hm
    have ih := sx_l0 x0 x1 hx d k (x5 * 2) (x6 + 1) (by omega) (by omega) (by omega) hm
    rw [show k + (d + 1) + 1 = (k + d + 1) + 1 from rfl, anvilref05_sx.l0, if_pos (by omega), fw (x5 * 2) (by omega) (by omega), fw (x6 + 1) (by omega) (by omega), ih]

def sxC (v n : Int) : Int := if v ≥ ((2 ^ n.toNat / 2 : Nat) : Int) then wrap64 (v - ((2 ^ n.toNat : Nat) : Int)) else v
theorem sx_eq {k : Nat} {v n : Int} (hk : 80 ≤ k) (h0 : 0 ≤ n) (h1 : n ≤ 31) : anvilref05_sx.f k v n = some (sxC v n) := by
  obtain ⟨d, rfl⟩ : ∃ d : Nat, n = d := ⟨n.toNat, by omega⟩
  obtain ⟨j, rfl⟩ : ∃ j, k = j + d + 1 := ⟨k - d - 1, by omega⟩
  have hp : (2 : Nat) ^ d ≤ 4294967296 := two_top (by omega)
  have he : (2 : Int) ^ d = ((2 ^ d : Nat) : Int) := by simp
  unfold anvilref05_sx.f sxC
  rw [sx_l0 v d (by omega) d j 1 0 (by omega) (by omega) (by decide) (by rw [Int.one_mul, he]; exact Int.ofNat_le.mpr hp), Int.one_mul, he, Int.toNat_natCast]
  generalize (2 : Nat) ^ d = m at hp ⊢
  rw [Int.tdiv_eq_ediv_of_nonneg (by omega), fw _ (by omega) (by omega), show ((m : Nat) : Int) / 2 = ((m / 2 : Nat) : Int) by omega]
  split <;> rfl

theorem tmod_up (v m : Int) (hm : 0 < m) : (if Int.tmod v m < 0 then Int.tmod v m + m else Int.tmod v m) = v % m := by
  have a := Int.emod_nonneg v (show m ≠ 0 by omega)
  have b := Int.emod_lt_of_pos v hm
  by_cases hn : 0 ≤ v
  · rw [Int.tmod_eq_emod_of_nonneg hn, if_neg (by omega)]
  · have c := Int.tmod_eq_emod (a := v) (b := m)
    by_cases hz : m ∣ v
    · rw [if_pos (Or.inr hz)] at c
      have z : v % m = 0 := Int.emod_eq_zero_of_dvd hz
      rw [c, z]; rfl
    · rw [if_neg (fun h => h.elim hn hz)] at c
      rw [c, if_pos (by omega)]; omega
theorem low_l0 (x0 x1 : Int) (hx : x1 ≤ 32) : ∀ (d k : Nat) (x5 x6 : Int), x6 + d = x1 → 0 ≤ x6 → 0 < x5 → x5 * 2 ^ d ≤ 4294967296 → anvilref05_low.l0 (k + d + 1) x0 x1 x5 x6 = some (x0 % (x5 * 2 ^ d) % 4294967296)
  | 0, k, x5, x6, he, h0, h5, hm => by
    simp only [Int.pow_zero, Int.mul_one] at hm ⊢
    rw [anvilref05_low.l0, if_neg (show ¬ x6 < x1 by omega), if_neg (show ¬ x5 = 0 by omega), ← tmod_up x0 x5 h5]
    have e1 := Int.tmod_lt_of_pos x0 h5
    have e2 := Int.lt_tmod_of_pos x0 h5
    split
    · rw [fw _ (by omega) (by omega)]
    · rfl
  | d + 1, k, x5, x6, he, h0, h5, hm => by
    rw [two_up] at hm ⊢
    have h2 := half_le (by omega) hm
    have ih := low_l0 x0 x1 hx d k (x5 * 2) (x6 + 1) (by omega) (by omega) (by omega) hm
    rw [show k + (d + 1) + 1 = (k + d + 1) + 1 from rfl, anvilref05_low.l0, if_pos (by omega), fw (x5 * 2) (by omega) (by omega), fw (x6 + 1) (by omega) (by omega), ih]

def lowC (v n : Int) : Int := v % ((2 ^ n.toNat : Nat) : Int) % 4294967296
theorem low_eq {k : Nat} {v n : Int} (hk : 80 ≤ k) (h0 : 0 ≤ n) (h1 : n ≤ 32) : anvilref05_low.f k v n = some (lowC v n) := by
  obtain ⟨d, rfl⟩ : ∃ d : Nat, n = d := ⟨n.toNat, by omega⟩
  obtain ⟨j, rfl⟩ : ∃ j, k = j + d + 1 := ⟨k - d - 1, by omega⟩
  have hp : (2 : Nat) ^ d ≤ 4294967296 := two_top (by omega)
  have he : (2 : Int) ^ d = ((2 ^ d : Nat) : Int) := by simp
  unfold anvilref05_low.f lowC
  rw [low_l0 v d (by omega) d j 1 0 (by omega) (by omega) (by decide) (by rw [Int.one_mul, he]; exact Int.ofNat_le.mpr hp), Int.one_mul, he, Int.toNat_natCast]

def joinC (p : Int) : List Int → Int → Int
  | a :: b :: r, n => joinC p r (wrap64 (n + cutC p a a * ((2 ^ b.toNat : Nat) : Int)))
  | _, n => n
def okL : List Int → Bool
  | a :: b :: r => decide (0 ≤ a) && decide (a ≤ 31) && decide (0 ≤ b) && decide (b ≤ 31) && okL r
  | _ => true

theorem cutC_bit (p a : Int) : 0 ≤ cutC p a a ∧ cutC p a a ≤ 1 := by
  unfold cutC
  rw [show a + 1 - a = 1 by omega]
  have : p.toNat / 2 ^ a.toNat % 2 ^ (1 : Int).toNat < 2 := Nat.mod_lt _ (by decide)
  omega

theorem join_l1 (x0 : Int) (x1 : List Int) (x5 b : Int) (i : Nat) (hb : rd x1 ((i : Int) + 1) = b) (hl : i + 1 < x1.length) (hlen : x1.length ≤ 30) (hb1 : b ≤ 31) : ∀ (d k : Nat) (x7 x8 : Int), x8 + d = b → 0 ≤ x8 → 0 ≤ x7 → x7 * 2 ^ d ≤ 4294967296 → anvilref05_join.l1 (k + d + 1) x0 x1 x5 i x7 x8 = anvilref05_join.l0 k x0 x1 (wrap64 (x5 + x7 * 2 ^ d)) ((i + 2 : Nat) : Int)
  | 0, k, x7, x8, he, h0, h7, hm => by
    rw [anvilref05_join.l1, fw ((i : Int) + 1) (by omega) (by omega), if_pos (by omega), if_pos (by omega), hb, if_neg (by omega), fw ((i : Int) + 2) (by omega) (by omega)]
    simp
  | d + 1, k, x7, x8, he, h0, h7, hm => by
    rw [two_up] at hm ⊢
    have h2 := half_le (by omega) hm
    have ih := join_l1 x0 x1 x5 b i hb hl hlen hb1 d k (x7 * 2) (x8 + 1) (by omega) (by omega) (by omega) hm
    rw [show k + (d + 1) + 1 = (k + d + 1) + 1 from rfl, anvilref05_join.l1, fw ((i : Int) + 1) (by omega) (by omega), if_pos (by omega), if_pos (by omega), hb, if_pos (by omega), fw (x7 * 2) (by omega) (by omega), fw (x8 + 1) (by omega) (by omega), ih]

theorem rd_drop (x1 : List Int) (i n : Nat) : rd x1 ((i + n : Nat) : Int) = (x1.drop i).getD n 0 := by
  unfold rd
  rw [Int.toNat_natCast, List.getD_eq_getElem?_getD, List.getD_eq_getElem?_getD, List.getElem?_drop]
theorem mul_bit (c : Int) (d : Nat) (hc : 0 ≤ c ∧ c ≤ 1) (hd : d ≤ 31) : c * 2 ^ d ≤ 4294967296 := by
  have hp : (2 : Nat) ^ d ≤ 4294967296 := two_top (by omega)
  have he : (2 : Int) ^ d = ((2 ^ d : Nat) : Int) := by simp
  rcases (show c = 0 ∨ c = 1 by omega) with h | h
  · rw [h, Int.zero_mul]; decide
  · rw [h, Int.one_mul, he]; exact Int.ofNat_le.mpr hp
theorem join_step (x0 : Int) (h0 : 0 ≤ x0) (h1 : x0 < 4294967296) (x1 : List Int) (hlen : x1.length ≤ 30) (a : Int) (d : Nat) (r : List Int) (i j : Nat) (x5 : Int) (hd : x1.drop i = a :: (d : Int) :: r) (ha0 : 0 ≤ a) (ha1 : a ≤ 31) (hb1 : d ≤ 31) (hj : 80 ≤ j) :
    anvilref05_join.l0 ((j + d + 1) + 1) x0 x1 x5 i = anvilref05_join.l0 j x0 x1 (wrap64 (x5 + cutC x0 a a * 2 ^ d)) ((i + 2 : Nat) : Int) := by
  have hn : x1.length - i = r.length + 2 := by have := congrArg List.length hd; simpa using this
  have ea : rd x1 (i : Int) = a := by
    have := rd_drop x1 i 0; rw [hd] at this; exact this
  have eb : rd x1 ((i : Int) + 1) = d := by
    have := rd_drop x1 i 1; rw [hd] at this; exact this
  have hc := cutC_bit x0 a
  have hm := mul_bit _ d hc hb1
  rw [anvilref05_join.l0, fw ((i : Int) + 1) (by omega) (by omega), if_pos (by omega), if_pos (by omega), if_pos (by omega), ea, cut_eq (by omega) h0 h1 ha0 (Int.le_refl _) ha1]
  rw [Option.bind_some]
  exact join_l1 x0 x1 x5 d i eb (by omega) hlen (by omega) d j _ 0 (by omega) (by decide) hc.1 hm
theorem join_end (x0 : Int) (x1 : List Int) (i k : Nat) (x5 : Int) (hi : i ≤ 100) (hn : x1.length ≤ i + 1) : anvilref05_join.l0 (k + 1) x0 x1 x5 i = some x5 := by
  rw [anvilref05_join.l0, fw _ (by omega) (by omega), if_neg (by omega)]

theorem join_l0 (x0 : Int) (h0 : 0 ≤ x0) (h1 : x0 < 4294967296) (x1 : List Int) (hlen : x1.length ≤ 30) : ∀ (rest : List Int) (i k : Nat) (x5 : Int), x1.drop i = rest → okL rest = true → 120 + 34 * rest.length ≤ k → i ≤ x1.length → anvilref05_join.l0 k x0 x1 x5 i = some (joinC x0 rest x5)
  | [], i, k + 1, x5, hd, ho, hk, hi => by
    have hn : x1.length - i = 0 := by have := congrArg List.length hd; simpa using this
    exact join_end x0 x1 i k x5 (by omega) (by omega)
  | [a], i, k + 1, x5, hd, ho, hk, hi => by
    have hn : x1.length - i = 1 := by have := congrArg List.length hd; simpa using this
    exact join_end x0 x1 i k x5 (by omega) (by omega)
  | a :: b :: r, i, k, x5, hd, ho, hk, hi => by
    have hn : x1.length - i = r.length + 2 := by have := congrArg List.length hd; simpa using this
    simp only [List.length_cons] at hk
    simp only [okL, Bool.and_eq_true, decide_eq_true_eq] at ho
    obtain ⟨⟨⟨⟨ha0, ha1⟩, hb0⟩, hb1⟩, hr⟩ := ho
    obtain ⟨d, rfl⟩ : ∃ d : Nat, b = d := ⟨b.toNat, by omega⟩
    obtain ⟨j, rfl⟩ : ∃ j, k = (j + d + 1) + 1 := ⟨k - d - 2, by omega⟩
    have er : x1.drop (i + 2) = r := by rw [← List.drop_drop, hd]; rfl
    rw [join_step x0 h0 h1 x1 hlen a d r i j x5 hd ha0 ha1 (by omega) (by omega), join_l0 x0 h0 h1 x1 hlen r (i + 2) j _ er hr (by omega) (by omega)]
    have he : (2 : Int) ^ d = ((2 ^ d : Nat) : Int) := by simp
    rw [joinC, he, Int.toNat_natCast]
  | [], _, 0, _, _, _, hk, _ => absurd hk (by simp)
  | [_], _, 0, _, _, _, hk, _ => absurd hk (by simp)

theorem join_eq {k : Nat} {p : Int} {l : List Int} (hk : 1200 ≤ k) (h0 : 0 ≤ p) (h1 : p < 4294967296) (hl : l.length ≤ 30) (ho : okL l = true) : anvilref05_join.f k p l = some (joinC p l 0) :=
  join_l0 p h0 h1 l hl l 0 k 0 rfl ho (by omega) (by omega)
end Go.Proofs.Ytiibhggjlandmaa.Pure
