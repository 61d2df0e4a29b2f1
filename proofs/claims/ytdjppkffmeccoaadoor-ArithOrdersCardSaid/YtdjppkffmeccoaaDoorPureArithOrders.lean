/- The pure side of ArithOrders: orders, branches, SLT, min and max. -/
import Derived.Test.YtdjppkffmeccoaaDoorQArithOrdersx2
import Derived.Test.YtdjppkffmeccoaaDoorPureOps
set_option linter.unusedVariables false
set_option linter.unusedSimpArgs false
namespace Go.Proofs.YtdjppkffmeccoaaDoor.Pure
open Go.RowKit Go.Proofs.YtdjppkffmeccoaaDoorW.PrintWords Go.Proofs.YtdjppkffmeccoaaDoorW.PrintMore Mth PC PL PT QArithOrders

theorem tk (o a b : Int) (r : Bool) (h : arith_Taken.f o a b = some (r, true)) : anvillaw01_taken.f o a b = some r := by
  unfold anvillaw01_taken.f; rw [h]; rfl
theorem tk5 (a b : Int) : anvillaw01_taken.f 5 a b = some (a == b) := tk _ _ _ _ rfl
theorem tk6 (a b : Int) : anvillaw01_taken.f 6 a b = some (a != b) := tk _ _ _ _ rfl
theorem tk7 (a b : Int) : anvillaw01_taken.f 7 a b = some (decide (wrap64 a < wrap64 b)) := tk _ _ _ _ rfl
theorem tk8 (a b : Int) : anvillaw01_taken.f 8 a b = some (decide (wrap64 a ≥ wrap64 b)) := tk _ _ _ _ rfl
theorem tk9 (a b : Int) : anvillaw01_taken.f 9 a b = some (decide (a < b)) := tk _ _ _ _ rfl
theorem tk10 (a b : Int) : anvillaw01_taken.f 10 a b = some (decide (a ≥ b)) := tk _ _ _ _ rfl

theorem am (k : Nat) (o a b r : Int) (h : arith_Amo.f k o a b = some (r, true)) : anvillaw01_amo.f k o a b = some r := by
  unfold anvillaw01_amo.f; rw [h]; rfl
theorem am93 (k : Nat) (a b : Int) : anvillaw01_amo.f (k + 2) 93 a b = some (IntKind.u64.wrap (mn (wrap64 a) (wrap64 b))) := am _ _ _ _ _ (by simp [arith_Amo.f, arith_Amo.j0, arith_Amo.j1])
theorem am94 (k : Nat) (a b : Int) : anvillaw01_amo.f (k + 2) 94 a b = some (IntKind.u64.wrap (mx (wrap64 a) (wrap64 b))) := am _ _ _ _ _ (by simp [arith_Amo.f, arith_Amo.j0, arith_Amo.j1])
theorem am95 (k : Nat) (a b : Int) : anvillaw01_amo.f (k + 2) 95 a b = some (mn a b) := am _ _ _ _ _ (by simp [arith_Amo.f, arith_Amo.j0, arith_Amo.j1])
theorem am96 (k : Nat) (a b : Int) : anvillaw01_amo.f (k + 2) 96 a b = some (mx a b) := am _ _ _ _ _ (by simp [arith_Amo.f, arith_Amo.j0, arith_Amo.j1])

set_option maxRecDepth 100000 in
theorem xor_key (a : Nat) (ha : a < 18446744073709551616) : a ^^^ 9223372036854775808 = (a + 9223372036854775808) % 18446744073709551616 := by
  have h1 := Nat.xor_mod_two_pow (a := a) (b := 9223372036854775808) (n := 63)
  have h2 : (a ^^^ 9223372036854775808) / 2 ^ 63 = a / 2 ^ 63 ^^^ 9223372036854775808 / 2 ^ 63 := by
    rw [← Nat.shiftRight_eq_div_pow, ← Nat.shiftRight_eq_div_pow, ← Nat.shiftRight_eq_div_pow, Nat.shiftRight_xor_distrib]
  have p : (2 : Nat) ^ 63 = 9223372036854775808 := by decide
  rw [p] at h1 h2
  have h3 : (9223372036854775808 : Nat) % 9223372036854775808 = 0 := by decide
  have h4 : (9223372036854775808 : Nat) / 9223372036854775808 = 1 := by decide
  rw [h3, Nat.xor_zero] at h1
  rw [h4] at h2
  have h5 : a / 9223372036854775808 = 0 ∨ a / 9223372036854775808 = 1 := by omega
  generalize a ^^^ 9223372036854775808 = x at *
  rcases h5 with h5 | h5
  · rw [h5, Nat.zero_xor] at h2; omega
  · rw [h5, Nat.xor_self] at h2; omega
set_option maxRecDepth 100000 in
theorem xor_top (a : Nat) (ha : a < 18446744073709551616) : Go.bits .xor .u64 (a : Int) 9223372036854775808 = (((a + 9223372036854775808) % 18446744073709551616 : Nat) : Int) := by
  have e : Go.bits .xor .u64 (a : Int) ((9223372036854775808 : Nat) : Int) = ((a ^^^ 9223372036854775808 : Nat) : Int) := bits_xor a 9223372036854775808 ha (by decide)
  have e2 : Go.bits .xor .u64 (a : Int) 9223372036854775808 = ((a ^^^ 9223372036854775808 : Nat) : Int) := by
    rw [show ((9223372036854775808 : Nat) : Int) = 9223372036854775808 from by simp] at e
    exact e
  rw [e2, xor_key a ha]
theorem top_lt (a b : Nat) (ha : a < 18446744073709551616) (hb : b < 18446744073709551616) :
    ((a : Int) + 9223372036854775808) % 18446744073709551616 < ((b : Int) + 9223372036854775808) % 18446744073709551616 ↔ wrap64 (a : Int) < wrap64 (b : Int) := by
  unfold wrap64; omega
theorem w64_inj (a b : Nat) (ha : a < 18446744073709551616) (hb : b < 18446744073709551616) : wrap64 (a : Int) = wrap64 (b : Int) ↔ a = b := by unfold wrap64; omega
theorem u64_w (a : Nat) (ha : a < 18446744073709551616) : IntKind.u64.wrap (wrap64 (a : Int)) = (a : Int) := by rw [IntKind.wrap_u64]; unfold wrap64; omega

theorem xor_comm64 (a b : Nat) (ha : a < 18446744073709551616) (hb : b < 18446744073709551616) : Go.bits .xor .u64 (b : Int) (a : Int) = Go.bits .xor .u64 (a : Int) (b : Int) := by
  rw [bits_xor a b ha hb, bits_xor b a hb ha, Nat.xor_comm]

set_option maxRecDepth 100000 in
set_option maxHeartbeats 2000000 in
/-- What both orders say of two words, in one of the ways in which they can stand. -/
theorem orders_way (a b : Nat) (a0 a3 a4 : Int) (ha : a < 18446744073709551616) (hb : b < 18446744073709551616) (s t : Int) (hs : wrap64 (a : Int) = s) (ht : wrap64 (b : Int) = t)
    (hus : IntKind.u64.wrap s = (a : Int)) (hut : IntKind.u64.wrap t = (b : Int)) (hst : s = t ↔ a = b) (hti : ((a : Int) + 9223372036854775808) % 18446744073709551616 < ((b : Int) + 9223372036854775808) % 18446744073709551616 ↔ s < t) :
    ∃ k, anvillaw01_ArithOrders.f k a0 (a : Int) (b : Int) a3 a4 = some true := by
  have w1 : wrap64 1 = 1 := by unfold wrap64; omega
  have o38 := op38 a b ha hb
  have o39 := op39 a b ha hb
  rw [hs, ht] at o38
  have xt1 := xor_top a ha
  have xt2 := xor_top b hb
  have xc := xor_comm64 a b ha hb
  refine ⟨10, ?_⟩
  rcases Nat.lt_trichotomy a b with h | h | h
  · have n1 : ¬ b < a := by omega
    have n2 : ¬ a = b := by omega
    have n2' : ¬ ((a : Int) = (b : Int)) := by omega
    have be : ((a : Int) == (b : Int)) = false := beq_eq_false_iff_ne.2 n2'
    have bn : ((a : Int) != (b : Int)) = true := bne_iff_ne.2 n2'
    have n2'' : ¬ ((b : Int) = (a : Int)) := by omega
    have i1 : (a : Int) < (b : Int) := by omega
    have i2 : ¬ (b : Int) < (a : Int) := by omega
    have i3 : ¬ (b : Int) ≤ (a : Int) := by omega
    have i4 : (a : Int) ≤ (b : Int) := by omega
    rcases Int.lt_trichotomy s t with g | g | g
    · have m1 : ¬ t < s := by omega
      have m3 : ¬ t ≤ s := by omega
      have p1 := hti.2 g
      simp [anvillaw01_ArithOrders.f, anvillaw01_ArithOrders.j0, anvillaw01_ArithOrders.j1, anvillaw01_ArithOrders.j2, anvillaw01_ArithOrders.j3, anvillaw01_ArithOrders.j4, anvillaw01_ArithOrders.j5, anvillaw01_ArithOrders.j6, anvillaw01_ArithOrders.j7, tk5, tk6, tk7, tk8, tk9, tk10, hs, ht, w1, o38, o39, am93 0, am94 0, am95 0, am96 0, mn, mx, xt1, xt2, p1, hus, hut, xc, h, n1, n2, n2', n2'', i1, i2, i3, i4, g, m1, m3, be, bn]
    · exact absurd (hst.1 g) n2
    · have m1 : ¬ s < t := by omega
      have m3 : t ≤ s := by omega
      have p1 : ¬ (((a : Int) + 9223372036854775808) % 18446744073709551616 < ((b : Int) + 9223372036854775808) % 18446744073709551616) := fun e => m1 (hti.1 e)
      simp [anvillaw01_ArithOrders.f, anvillaw01_ArithOrders.j0, anvillaw01_ArithOrders.j1, anvillaw01_ArithOrders.j2, anvillaw01_ArithOrders.j3, anvillaw01_ArithOrders.j4, anvillaw01_ArithOrders.j5, anvillaw01_ArithOrders.j6, anvillaw01_ArithOrders.j7, tk5, tk6, tk7, tk8, tk9, tk10, hs, ht, w1, o38, o39, am93 0, am94 0, am95 0, am96 0, mn, mx, xt1, xt2, p1, hus, hut, xc, h, n1, n2, n2', n2'', i1, i2, i3, i4, g, m1, m3, be, bn]
  · subst h
    have g : s = t := hst.2 rfl
    subst g
    simp [anvillaw01_ArithOrders.f, anvillaw01_ArithOrders.j0, anvillaw01_ArithOrders.j1, anvillaw01_ArithOrders.j2, anvillaw01_ArithOrders.j3, anvillaw01_ArithOrders.j4, anvillaw01_ArithOrders.j5, anvillaw01_ArithOrders.j6, anvillaw01_ArithOrders.j7, tk5, tk6, tk7, tk8, tk9, tk10, hs, w1, o38, o39, am93 0, am94 0, am95 0, am96 0, mn, mx, xt1, xt2, hus]
  · have n1 : ¬ a < b := by omega
    have n2 : ¬ a = b := by omega
    have n2' : ¬ ((a : Int) = (b : Int)) := by omega
    have be : ((a : Int) == (b : Int)) = false := beq_eq_false_iff_ne.2 n2'
    have bn : ((a : Int) != (b : Int)) = true := bne_iff_ne.2 n2'
    have n2'' : ¬ ((b : Int) = (a : Int)) := by omega
    have i1 : (b : Int) < (a : Int) := by omega
    have i2 : ¬ (a : Int) < (b : Int) := by omega
    have i3 : ¬ (a : Int) ≤ (b : Int) := by omega
    have i4 : (b : Int) ≤ (a : Int) := by omega
    rcases Int.lt_trichotomy s t with g | g | g
    · have m1 : ¬ t < s := by omega
      have m3 : ¬ t ≤ s := by omega
      have p1 := hti.2 g
      simp [anvillaw01_ArithOrders.f, anvillaw01_ArithOrders.j0, anvillaw01_ArithOrders.j1, anvillaw01_ArithOrders.j2, anvillaw01_ArithOrders.j3, anvillaw01_ArithOrders.j4, anvillaw01_ArithOrders.j5, anvillaw01_ArithOrders.j6, anvillaw01_ArithOrders.j7, tk5, tk6, tk7, tk8, tk9, tk10, hs, ht, w1, o38, o39, am93 0, am94 0, am95 0, am96 0, mn, mx, xt1, xt2, p1, hus, hut, xc, h, n1, n2, n2', n2'', i1, i2, i3, i4, g, m1, m3, be, bn]
    · exact absurd (hst.1 g) n2
    · have m1 : ¬ s < t := by omega
      have m3 : t ≤ s := by omega
      have p1 : ¬ (((a : Int) + 9223372036854775808) % 18446744073709551616 < ((b : Int) + 9223372036854775808) % 18446744073709551616) := fun e => m1 (hti.1 e)
      simp [anvillaw01_ArithOrders.f, anvillaw01_ArithOrders.j0, anvillaw01_ArithOrders.j1, anvillaw01_ArithOrders.j2, anvillaw01_ArithOrders.j3, anvillaw01_ArithOrders.j4, anvillaw01_ArithOrders.j5, anvillaw01_ArithOrders.j6, anvillaw01_ArithOrders.j7, tk5, tk6, tk7, tk8, tk9, tk10, hs, ht, w1, o38, o39, am93 0, am94 0, am95 0, am96 0, mn, mx, xt1, xt2, p1, hus, hut, xc, h, n1, n2, n2', n2'', i1, i2, i3, i4, g, m1, m3, be, bn]

theorem ArithOrders (a0 a1 a2 a3 a4 : Int) (b0 : -9223372036854775808 ≤ a0) (c0 : a0 ≤ 9223372036854775807) (b1 : 0 ≤ a1) (c1 : a1 ≤ 18446744073709551615) (b2 : 0 ≤ a2) (c2 : a2 ≤ 18446744073709551615) (b3 : -9223372036854775808 ≤ a3) (c3 : a3 ≤ 9223372036854775807) (b4 : -9223372036854775808 ≤ a4) (c4 : a4 ≤ 9223372036854775807) : ∃ k, anvillaw01_ArithOrders.f k a0 a1 a2 a3 a4 = some true := by
  obtain ⟨a, rfl⟩ := Int.eq_ofNat_of_zero_le b1
  obtain ⟨b, rfl⟩ := Int.eq_ofNat_of_zero_le b2
  have ha : a < 18446744073709551616 := by omega
  have hb : b < 18446744073709551616 := by omega
  exact orders_way a b a0 a3 a4 ha hb _ _ rfl rfl (u64_w a ha) (u64_w b hb) (w64_inj a b ha hb) (top_lt a b ha hb)
end Go.Proofs.YtdjppkffmeccoaaDoor.Pure
