/- What the reference's one, register, long and Compute answer. -/
import Derived.Test.YtdjppkffmeccoaaDoorRefBits2
set_option linter.unusedSimpArgs false
set_option linter.unusedVariables false
namespace Go.Proofs.YtdjppkffmeccoaaDoor.PR
open Go.RowKit Go.Proofs.YtdjppkffmeccoaaDoorW.PrintWords Go.Proofs.YtdjppkffmeccoaaDoorW.PrintMore Mth

def V (op : Int) (n a b : Nat) : Nat :=
  if op = 35 then a + b else if op = 36 then a + (2 ^ n - b) else if op = 37 then a * 2 ^ (b % n)
  else if op = 41 then dn n (b % n) 0 a else if op = 42 then dn n (b % n) (a / 2 ^ (n - 1) % 2) a
  else if op = 38 then (if sg n a < sg n b then 1 else 0) else if op = 39 then (if a < b then 1 else 0)
  else if op = 40 then a ^^^ b else if op = 43 then a ||| b else if op = 44 then a &&& b
  else if op = 62 then a * b else Q op n a b
def has (op : Int) : Prop := op = 35 ∨ op = 36 ∨ op = 37 ∨ op = 41 ∨ op = 42 ∨ op = 38 ∨ op = 39 ∨ op = 40 ∨ op = 43 ∨ op = 44 ∨ op = 62 ∨ op = 66 ∨ op = 67 ∨ op = 68 ∨ op = 69

theorem one_bl (op : Int) (ho : has op) (n a b k : Nat) (hn : n = 32 ∨ n = 64) (ha : a < 2 ^ n) (hb : b < 2 ^ n) (hk : 600 ≤ k) :
    anvilref01_one.f k op (bl n a) (bl n b) = some (bl n (V op n a b), true) := by
  obtain ⟨k, rfl⟩ : ∃ m, k = m + 1 := ⟨k - 1, by omega⟩
  have hb' : b % 2 ^ n = b := Nat.mod_eq_of_lt hb
  have hbn := Nat.mod_lt b (show 0 < n by omega)
  have w : wrap64 ((n : Int) - 1) = ((n - 1 : Nat) : Int) := by unfold wrap64; omega
  rcases ho with rfl | rfl | rfl | rfl | rfl | rfl | rfl | rfl | rfl | rfl | rfl | rfl | rfl | rfl | rfl
  · have p : anvilref01_plus.f (k + 1) (bl n a) (bl n b) 0 = some (bl n (a + b)) := plus_bl n a b 0 (k + 1) (by omega) (by omega) (by omega)
    simp [anvilref01_one.f, V, p]
  · have p := minus_bl n a b (k + 1) (by omega) (by omega)
    rw [hb'] at p
    simp [anvilref01_one.f, V, p]
  · have s := shift_bl n b (k + 1) hn hb (by omega)
    have p := up_bl n a (b % n) (k + 1) (by omega) (by omega) (by omega)
    have e : anvilref01_one.f (k + 1) 37 (bl n a) (bl n b) = ((anvilref01_shift.f (k + 1) (bl n b)).bind fun t282 => ((anvilref01_up.f (k + 1) (bl n a) t282).bind fun t283 => (some (t283, true)))) := by simp [anvilref01_one.f]
    rw [e, s, Option.bind_some, p, Option.bind_some]; rfl
  · have s := shift_bl n b (k + 1) hn hb (by omega)
    have p := down_bl n a (b % n) 0 (k + 1) (by omega) (by omega) (by omega) (by omega)
    have e : anvilref01_one.f (k + 1) 41 (bl n a) (bl n b) = ((anvilref01_shift.f (k + 1) (bl n b)).bind fun t286 => ((anvilref01_down.f (k + 1) (bl n a) t286 ((0 : Nat) : Int)).bind fun t287 => (some (t287, true)))) := by simp [anvilref01_one.f]
    rw [e, s, Option.bind_some, p, Option.bind_some]; rfl
  · have s := shift_bl n b (k + 1) hn hb (by omega)
    have p := down_bl n a (b % n) (a / 2 ^ (n - 1) % 2) (k + 1) (by omega) (by omega) (Nat.mod_lt _ (by decide)) (by omega)
    have r := rd_bl n a (n - 1) (by omega)
    have e : anvilref01_one.f (k + 1) 42 (bl n a) (bl n b) = ((anvilref01_shift.f (k + 1) (bl n b)).bind fun t290 => (if 0 ≤ (wrap64 (((bl n a).length : Int) - 1)) then (if (wrap64 (((bl n a).length : Int) - 1)) < ((bl n a).length : Int) then ((anvilref01_down.f (k + 1) (bl n a) t290 (rd (bl n a) (wrap64 (((bl n a).length : Int) - 1)))).bind fun t292 => (some (t292, true))) else (none)) else (none))) := by simp [anvilref01_one.f]
    rw [e, s, Option.bind_some, bl_length, w, r, if_pos (by omega), if_pos (by omega), p, Option.bind_some]; rfl
  · have s := lessSigned_bl n a b (k + 1) (by omega) (by omega) ha hb (by omega)
    have y := yes_bl (decide (sg n a < sg n b)) n (by omega) (by omega)
    simp [anvilref01_one.f, V, s, bl_length, y]
  · have s := less_bl n a b (k + 1) (by omega) ha hb (by omega)
    have y := yes_bl (decide (a < b)) n (by omega) (by omega)
    simp [anvilref01_one.f, V, s, bl_length, y]
  · have p := xor_bl n a b k (by omega) (by omega)
    simp [anvilref01_one.f, anvilref01_one.j0, V, p]
  · have p := or_bl n a b k (by omega) (by omega)
    simp [anvilref01_one.f, anvilref01_one.j0, V, p]
  · have p := and_bl n a b k (by omega) (by omega)
    simp [anvilref01_one.f, anvilref01_one.j0, V, p]
  · have p := times_bl n a b k (by omega) (by omega)
    simp [anvilref01_one.f, anvilref01_one.j0, V, p]
  · have p := quotients_bl 66 (.inl rfl) n a b k (by omega) (by omega) ha hb (by omega)
    simp [anvilref01_one.f, anvilref01_one.j0, V, p]
  · have p := quotients_bl 67 (.inr (.inl rfl)) n a b k (by omega) (by omega) ha hb (by omega)
    simp [anvilref01_one.f, anvilref01_one.j0, V, p]
  · have p := quotients_bl 68 (.inr (.inr (.inl rfl))) n a b k (by omega) (by omega) ha hb (by omega)
    simp [anvilref01_one.f, anvilref01_one.j0, V, p]
  · have p := quotients_bl 69 (.inr (.inr (.inr rfl))) n a b k (by omega) (by omega) ha hb (by omega)
    simp [anvilref01_one.f, anvilref01_one.j0, V, p]

theorem one_no (op : Int) (ho : ¬ has op) (k : Nat) (l1 l2 : List Int) : anvilref01_one.f (k + 1) op l1 l2 = some ([], false) := by
  have n : op ≠ 35 ∧ op ≠ 36 ∧ op ≠ 37 ∧ op ≠ 41 ∧ op ≠ 42 ∧ op ≠ 38 ∧ op ≠ 39 ∧ op ≠ 40 ∧ op ≠ 43 ∧ op ≠ 44 ∧ op ≠ 62 ∧ op ≠ 66 ∧ op ≠ 67 ∧ op ≠ 68 ∧ op ≠ 69 := by unfold has at ho; omega
  obtain ⟨n1, n2, n3, n4, n5, n6, n7, n8, n9, n10, n11, n12, n13, n14, n15⟩ := n
  simp [anvilref01_one.f, anvilref01_one.j0, n1, n2, n3, n4, n5, n6, n7, n8, n9, n10, n11, n12, n13, n14, n15]

/-- The lower half, its sign widened. -/
def xt (v : Nat) : Nat := if v % 4294967296 < 2147483648 then v % 4294967296 else v % 4294967296 + 18446744069414584320
theorem xt_wd (v : Nat) : wd 32 64 (top true 32 v) v = xt v := by
  unfold wd top xt
  rw [if_pos rfl, show (2 : Nat) ^ 32 = 4294967296 from by decide, show (2 : Nat) ^ 64 = 18446744073709551616 from by decide, show (2 : Nat) ^ (32 - 1) = 2147483648 from by decide]
  split <;> omega
theorem wd_all (v : Nat) : wd 64 64 (top true 64 v) v = v % 18446744073709551616 := by
  unfold wd
  rw [Nat.sub_self, Nat.mul_zero, Nat.add_zero]
theorem j0_long (op : Int) (ho : has op) (a b k : Nat) (ha : a < 18446744073709551616) (hb : b < 18446744073709551616) (hk : 600 ≤ k) :
    anvilref01_Compute.j0 (k + 1) op (a : Int) (b : Int) 64 = some (((V op 64 a b % 18446744073709551616 : Nat) : Int), true) := by
  have e1 : anvilref01_Split.f k (a : Int) 64 = some (bl 64 a) := split_bl a 64 k ha (by omega) (by omega)
  have e2 : anvilref01_Split.f k (b : Int) 64 = some (bl 64 b) := split_bl b 64 k hb (by omega) (by omega)
  have e3 := one_bl op ho 64 a b k (.inr rfl) (Nat.lt_of_lt_of_le ha (by decide)) (Nat.lt_of_lt_of_le hb (by decide)) hk
  have e4 : anvilref01_widen.f k (bl 64 (V op 64 a b)) 64 true = _ := widen_bl 64 64 (V op 64 a b) k true (by omega) (by omega) (by omega) (by omega)
  rw [wd_all] at e4
  have e5 := join_bl 64 (V op 64 a b % 18446744073709551616) k (by omega) (by omega)
  rw [Nat.min_self, show (2 : Nat) ^ 64 = 18446744073709551616 from by decide, Nat.mod_mod] at e5
  rw [anvilref01_Compute.j0, e1, Option.bind_some, e2, Option.bind_some, e3, Option.bind_some, if_pos rfl, e4, Option.bind_some, e5, Option.bind_some]
theorem j0_half (op : Int) (ho : has op) (a b k : Nat) (ha : a < 18446744073709551616) (hb : b < 18446744073709551616) (hk : 600 ≤ k) :
    anvilref01_Compute.j0 (k + 1) op (a : Int) (b : Int) 32 = some (((xt (V op 32 (a % 4294967296) (b % 4294967296)) : Nat) : Int), true) := by
  have p32 : (2 : Nat) ^ 32 = 4294967296 := by decide
  have e1 : anvilref01_Split.f k (a : Int) 32 = some (bl 32 a) := split_bl a 32 k ha (by omega) (by omega)
  have e2 : anvilref01_Split.f k (b : Int) 32 = some (bl 32 b) := split_bl b 32 k hb (by omega) (by omega)
  rw [← bl_mod 32 a, p32] at e1
  rw [← bl_mod 32 b, p32] at e2
  have e3 := one_bl op ho 32 (a % 4294967296) (b % 4294967296) k (.inl rfl) (by rw [p32]; omega) (by rw [p32]; omega) hk
  have e4 : anvilref01_widen.f k (bl 32 (V op 32 (a % 4294967296) (b % 4294967296))) 64 true = _ := widen_bl 32 64 (V op 32 (a % 4294967296) (b % 4294967296)) k true (by omega) (by omega) (by omega) (by omega)
  rw [xt_wd] at e4
  have e5 := join_bl 64 (xt (V op 32 (a % 4294967296) (b % 4294967296))) k (by omega) (by omega)
  have hx : xt (V op 32 (a % 4294967296) (b % 4294967296)) < 18446744073709551616 := by unfold xt; split <;> omega
  rw [Nat.min_self, show (2 : Nat) ^ 64 = 18446744073709551616 from by decide, Nat.mod_eq_of_lt hx] at e5
  rw [anvilref01_Compute.j0, e1, Option.bind_some, e2, Option.bind_some, e3, Option.bind_some, if_pos rfl, e4, Option.bind_some, e5, Option.bind_some]
theorem j0_no (op : Int) (ho : ¬ has op) (a b k : Nat) (ha : a < 18446744073709551616) (hb : b < 18446744073709551616) (hk : 600 ≤ k) :
    anvilref01_Compute.j0 (k + 2) op (a : Int) (b : Int) 64 = some (0, false) := by
  have e1 : anvilref01_Split.f (k + 1) (a : Int) 64 = some (bl 64 a) := split_bl a 64 (k + 1) ha (by omega) (by omega)
  have e2 : anvilref01_Split.f (k + 1) (b : Int) 64 = some (bl 64 b) := split_bl b 64 (k + 1) hb (by omega) (by omega)
  rw [anvilref01_Compute.j0, e1, Option.bind_some, e2, Option.bind_some, one_no op ho, Option.bind_some, if_neg (by decide)]
end Go.Proofs.YtdjppkffmeccoaaDoor.PR
