/- DecodeApart: two different legal raws of four bytes have different records. No condition. -/
import Derived.Test.YtiibhggjlandmaaPureDec2
import Derived.Test.YtiibhggjlandmaaPDecodeAparty2
namespace Go.Proofs.Ytiibhggjlandmaa.Pure
open Go.RowKit Go.Proofs.YtiibhggjlandmaaW.PrintWords Go.Proofs.YtiibhggjlandmaaW.PrintMore Go.Proofs.Ytiibhggjlandmaa.PB Go.Proofs.Ytiibhggjlandmaa.PF Go.Proofs.Ytiibhggjlandmaa.Mth Go.Proofs.Ytiibhggjlandmaa.PDecodeApart
set_option linter.unusedVariables false
set_option linter.unusedSimpArgs false
set_option maxRecDepth 100000 in
theorem first_apart : anvillaw05_first.f 2020 = some true := by decide +kernel
theorem op_one : ∀ f ∈ formsL, ∀ g ∈ formsL, f.op = g.op → f.mask = g.mask ∧ f.code = g.code ∧ f.shape = g.shape := by decide +kernel
theorem shape_mask : ∀ f ∈ formsL, ((f.shape = 0 ∨ f.shape = 1) ∧ f.mask = 127) ∨ ((f.shape = 2 ∨ f.shape = 3 ∨ f.shape = 4 ∨ f.shape = 8) ∧ f.mask = 28799) ∨ (f.shape = 5 ∧ f.mask = 4227887231) ∨ ((f.shape = 6 ∨ f.shape = 7) ∧ f.mask = 4261441663) ∨ (f.shape = 9 ∧ f.mask = 4294967295) ∨ (f.shape = 10 ∧ (f.mask = 4160778367 ∨ f.mask = 4193284223)) := by decide +kernel
theorem sgn_inj {n v u : Nat} (h1 : 1 ≤ n) (h : sgn n v = sgn n u) : v % 2 ^ n = u % 2 ^ n := by
  have hv := Nat.mod_lt v (pow_pos2 n)
  have hu := Nat.mod_lt u (pow_pos2 n)
  unfold sgn at h
  generalize v % 2 ^ n = a at *
  generalize u % 2 ^ n = b at *
  generalize 2 ^ n = Q at *
  generalize 2 ^ (n - 1) = R at *
  split at h <;> split at h <;> omega
theorem key127 (r : Nat) : key 127 r = r % 128 := by simp [key]
theorem keyF3 (r : Nat) : key 28799 r = r % 128 + r / 4096 % 8 * 4096 := by simp [key]
theorem key6 (r : Nat) : key 4227887231 r = r % 128 + r / 4096 % 8 * 4096 + r / 67108864 % 64 * 67108864 := by simp [key]
theorem key7 (r : Nat) : key 4261441663 r = r % 128 + r / 4096 % 8 * 4096 + r / 33554432 % 128 * 33554432 := by simp [key]
theorem key5 (r : Nat) : key 4160778367 r = r % 128 + r / 4096 % 8 * 4096 + r / 134217728 % 32 * 134217728 := by simp [key]
theorem keyAll (r : Nat) : key 4294967295 r = r := by simp [key]
theorem keyLr (r : Nat) : key 4193284223 r = r % 128 + r / 4096 % 8 * 4096 + (r / 134217728 % 32 * 134217728 + r / 1048576 % 32 * 1048576) := by simp [key]
theorem flds (r : Nat) : fld r 11 7 = r / 128 % 32 ∧ fld r 19 15 = r / 32768 % 32 ∧ fld r 24 20 = r / 1048576 % 32 ∧ fld r 31 20 = r / 1048576 % 4096 ∧ fld r 25 20 = r / 1048576 % 64 ∧ fld r 26 26 = r / 67108864 % 2 ∧ fld r 25 25 = r / 33554432 % 2 ∧ fld r 31 12 = r / 4096 % 1048576 ∧ fld r 31 31 = r / 2147483648 % 2 ∧ fld r 19 12 = r / 4096 % 256 ∧ fld r 20 20 = r / 1048576 % 2 ∧ fld r 30 21 = r / 2097152 % 1024 ∧ fld r 7 7 = r / 128 % 2 ∧ fld r 30 25 = r / 33554432 % 64 ∧ fld r 11 8 = r / 256 % 16 ∧ fld r 31 25 = r / 33554432 % 128 := by
  simp [fld]
theorem beq_one {a b : Nat} (ha : a < 2) (hb : b < 2) (h : (((a : Int) == 1) = ((b : Int) == 1))) : a = b := by
  rcases (show a = 0 ∨ a = 1 by omega) with rfl | rfl <;> rcases (show b = 0 ∨ b = 1 by omega) with rfl | rfl <;> simp_all
/-- The digits of two numbers are the same. -/
def dig : List Nat → Nat → Nat → Nat → Prop
  | [], a, r, q => r / a = q / a
  | b :: l, a, r, q => r / a % b = q / a % b ∧ dig l (a * b) r q
theorem dig_eq : ∀ (l : List Nat) (a r q : Nat), dig l a r q → r / a = q / a
  | [], a, r, q, h => h
  | b :: l, a, r, q, h => by
    have ih := dig_eq l (a * b) r q h.2
    rw [← Nat.mod_add_div (r / a) b, ← Nat.mod_add_div (q / a) b, Nat.div_div_eq_div_mul, Nat.div_div_eq_div_mul, h.1, ih]
theorem top_eq {r q : Nat} (hr : r < 4294967296) (hq : q < 4294967296) : r / 4294967296 = q / 4294967296 := by
  rw [Nat.div_eq_of_lt hr, Nat.div_eq_of_lt hq]
theorem imm20 {x y : Nat} (hx : x < 1048576) (hy : y < 1048576) (h : x * 4096 % 2 ^ 32 = y * 4096 % 2 ^ 32) : x = y := by
  have h2 : (2 : Nat) ^ 32 = 4294967296 := by decide
  rw [h2] at h
  omega
theorem immJ_inj {A B C D A' B' C' D' : Nat} (a : A < 2) (b : B < 256) (c : C < 2) (d : D < 1024) (a' : A' < 2) (b' : B' < 256) (c' : C' < 2) (d' : D' < 1024)
    (h : (((A * 256 + B) * 2 + C) * 2048 + D * 2) % 2 ^ 21 = (((A' * 256 + B') * 2 + C') * 2048 + D' * 2) % 2 ^ 21) : A = A' ∧ B = B' ∧ C = C' ∧ D = D' := by
  rw [Nat.mod_eq_of_lt (by omega), Nat.mod_eq_of_lt (by omega)] at h
  have h1 : D = D' := by omega
  have h2 : (A * 256 + B) * 2 + C = (A' * 256 + B') * 2 + C' := by omega
  clear h
  have h3 : C = C' := by omega
  subst h3
  have h4 : A * 256 + B = A' * 256 + B' := by clear h1; omega
  clear h2
  exact ⟨by omega, by omega, rfl, h1⟩
theorem immB_inj {A B C D A' B' C' D' : Nat} (a : A < 2) (b : B < 2) (c : C < 64) (d : D < 16) (a' : A' < 2) (b' : B' < 2) (c' : C' < 64) (d' : D' < 16)
    (h : (((A * 2 + B) * 64 + C) * 32 + D * 2) % 2 ^ 13 = (((A' * 2 + B') * 64 + C') * 32 + D' * 2) % 2 ^ 13) : A = A' ∧ B = B' ∧ C = C' ∧ D = D' := by
  rw [Nat.mod_eq_of_lt (by omega), Nat.mod_eq_of_lt (by omega)] at h
  have h1 : D = D' := by omega
  have h2 : (A * 2 + B) * 64 + C = (A' * 2 + B') * 64 + C' := by omega
  clear h
  have h3 : C = C' := by omega
  subst h3
  have h4 : A * 2 + B = A' * 2 + B' := by clear h1; omega
  clear h2
  exact ⟨by omega, by omega, rfl, h1⟩
theorem immS_inj {A B A' B' : Nat} (a : A < 128) (b : B < 32) (a' : A' < 128) (b' : B' < 32) (h : (A * 32 + B) % 2 ^ 12 = (A' * 32 + B') % 2 ^ 12) : A = A' ∧ B = B' := by
  rw [Nat.mod_eq_of_lt (by omega), Nat.mod_eq_of_lt (by omega)] at h
  exact ⟨by omega, by omega⟩
theorem imm12 {x y : Nat} (hx : x < 4096) (hy : y < 4096) (h : x % 2 ^ 12 = y % 2 ^ 12) : x = y := by
  rw [Nat.mod_eq_of_lt (by omega), Nat.mod_eq_of_lt (by omega)] at h; exact h
theorem sep3 {a b c d : Nat} (ha : a < 128) (hb : b < 8) (hc : c < 128) (hd : d < 8) (h : a + b * 4096 = c + d * 4096) : a = c ∧ b = d := by omega
theorem sep4 {a b e c d f : Nat} (M : Nat) (hM : 32768 ≤ M) (ha : a < 128) (hb : b < 8) (hc : c < 128) (hd : d < 8) (h : a + b * 4096 + e * M = c + d * 4096 + f * M) : a = c ∧ b = d ∧ e = f := by
  have h1 : (a + b * 4096) % M = a + b * 4096 := Nat.mod_eq_of_lt (by omega)
  have h2 : (c + d * 4096) % M = c + d * 4096 := Nat.mod_eq_of_lt (by omega)
  have h3 : (a + b * 4096 + e * M) % M = (c + d * 4096 + f * M) % M := by rw [h]
  rw [Nat.add_mul_mod_self_right, Nat.add_mul_mod_self_right, h1, h2] at h3
  have h4 := sep3 ha hb hc hd h3
  have h5 : e * M = f * M := by omega
  exact ⟨h4.1, h4.2, Nat.eq_of_mul_eq_mul_right (by omega) h5⟩
theorem lo7 (r : Nat) : r % 128 < 128 := Nat.mod_lt _ (by decide)
theorem lo3 (r : Nat) : r / 4096 % 8 < 8 := Nat.mod_lt _ (by decide)
theorem one_eq (r : Nat) : r / 1 = r := Nat.div_one r
theorem fill_inj (s : Int) (m : Nat) (r q : Nat) (hr : r < 4294967296) (hq : q < 4294967296) (op len raw len2 raw2 : Int) (hk : key m r = key m q)
    (hs : ((s = 0 ∨ s = 1) ∧ m = 127) ∨ ((s = 2 ∨ s = 3 ∨ s = 4 ∨ s = 8) ∧ m = 28799) ∨ (s = 5 ∧ m = 4227887231) ∨ ((s = 6 ∨ s = 7) ∧ m = 4261441663) ∨ (s = 9 ∧ m = 4294967295) ∨ (s = 10 ∧ (m = 4160778367 ∨ m = 4193284223)))
    (A B C D : Int) (E F : Bool) (h1 : fillN s r op len raw = (op, A, B, C, D, E, F, len, raw)) (h2 : fillN s q op len2 raw2 = (op, A, B, C, D, E, F, len2, raw2)) : r = q := by
  obtain ⟨a1, a2, a3, a4, a5, a6, a7, a8, a9, a10, a11, a12, a13, a14, a15, a16⟩ := flds r
  obtain ⟨b1, b2, b3, b4, b5, b6, b7, b8, b9, b10, b11, b12, b13, b14, b15, b16⟩ := flds q
  have tp := top_eq hr hq
  rw [← one_eq r, ← one_eq q]
  rcases hs with ⟨rfl | rfl, rfl⟩ | ⟨rfl | rfl | rfl | rfl, rfl⟩ | ⟨rfl, rfl⟩ | ⟨rfl | rfl, rfl⟩ | ⟨rfl, rfl⟩ | ⟨rfl, rfl | rfl⟩
  · have e1 := Int.ofNat.inj (show ((fld r 11 7 : Nat) : Int) = ((fld q 11 7 : Nat) : Int) from (congrArg (fun z => z.2.1) h1).trans (congrArg (fun z => z.2.1) h2).symm)
    rw [a1, b1] at e1
    have hi := sgn_inj (n := 32) (by decide) (show sgn 32 (fld r 31 12 * 4096) = sgn 32 (fld q 31 12 * 4096) from (congrArg (fun z => z.2.2.2.2.1) h1).trans (congrArg (fun z => z.2.2.2.2.1) h2).symm)
    replace hi := imm20 (fld_lt r 31 12) (fld_lt q 31 12) hi
    rw [a8, b8] at hi
    rw [key127, key127] at hk
    exact dig_eq [128, 32, 1048576] 1 r q ⟨by rwa [one_eq, one_eq], e1, hi, tp⟩
  · have e1 := Int.ofNat.inj (show ((fld r 11 7 : Nat) : Int) = ((fld q 11 7 : Nat) : Int) from (congrArg (fun z => z.2.1) h1).trans (congrArg (fun z => z.2.1) h2).symm)
    rw [a1, b1] at e1
    have hi := sgn_inj (n := 21) (by decide) (show sgn 21 (immJ r) = sgn 21 (immJ q) from (congrArg (fun z => z.2.2.2.2.1) h1).trans (congrArg (fun z => z.2.2.2.2.1) h2).symm)
    obtain ⟨x1, x2, x3, x4⟩ := immJ_inj (fld_lt r 31 31) (fld_lt r 19 12) (fld_lt r 20 20) (fld_lt r 30 21) (fld_lt q 31 31) (fld_lt q 19 12) (fld_lt q 20 20) (fld_lt q 30 21) hi
    rw [a9, b9] at x1; rw [a10, b10] at x2; rw [a11, b11] at x3; rw [a12, b12] at x4
    rw [key127, key127] at hk
    exact dig_eq [128, 32, 256, 2, 1024, 2] 1 r q ⟨by rwa [one_eq, one_eq], e1, x2, x3, x4, x1, tp⟩
  · have e1 := Int.ofNat.inj (show ((fld r 11 7 : Nat) : Int) = ((fld q 11 7 : Nat) : Int) from (congrArg (fun z => z.2.1) h1).trans (congrArg (fun z => z.2.1) h2).symm)
    rw [a1, b1] at e1
    have e2 := Int.ofNat.inj (show ((fld r 19 15 : Nat) : Int) = ((fld q 19 15 : Nat) : Int) from (congrArg (fun z => z.2.2.1) h1).trans (congrArg (fun z => z.2.2.1) h2).symm)
    rw [a2, b2] at e2
    rw [keyF3, keyF3] at hk
    have k := sep3 (lo7 r) (lo3 r) (lo7 q) (lo3 q) hk
    have hi := sgn_inj (n := 12) (by decide) (show sgn 12 (fld r 31 20) = sgn 12 (fld q 31 20) from (congrArg (fun z => z.2.2.2.2.1) h1).trans (congrArg (fun z => z.2.2.2.2.1) h2).symm)
    replace hi := imm12 (fld_lt r 31 20) (fld_lt q 31 20) hi
    rw [a4, b4] at hi
    exact dig_eq [128, 32, 8, 32, 4096] 1 r q ⟨by rw [one_eq, one_eq]; exact k.1, e1, k.2, e2, hi, tp⟩
  · have e2 := Int.ofNat.inj (show ((fld r 19 15 : Nat) : Int) = ((fld q 19 15 : Nat) : Int) from (congrArg (fun z => z.2.2.1) h1).trans (congrArg (fun z => z.2.2.1) h2).symm)
    rw [a2, b2] at e2
    have e3 := Int.ofNat.inj (show ((fld r 24 20 : Nat) : Int) = ((fld q 24 20 : Nat) : Int) from (congrArg (fun z => z.2.2.2.1) h1).trans (congrArg (fun z => z.2.2.2.1) h2).symm)
    rw [a3, b3] at e3
    rw [keyF3, keyF3] at hk
    have k := sep3 (lo7 r) (lo3 r) (lo7 q) (lo3 q) hk
    have hi := sgn_inj (n := 13) (by decide) (show sgn 13 (immB r) = sgn 13 (immB q) from (congrArg (fun z => z.2.2.2.2.1) h1).trans (congrArg (fun z => z.2.2.2.2.1) h2).symm)
    obtain ⟨x1, x2, x3, x4⟩ := immB_inj (fld_lt r 31 31) (fld_lt r 7 7) (fld_lt r 30 25) (fld_lt r 11 8) (fld_lt q 31 31) (fld_lt q 7 7) (fld_lt q 30 25) (fld_lt q 11 8) hi
    rw [a9, b9] at x1; rw [a13, b13] at x2; rw [a14, b14] at x3; rw [a15, b15] at x4
    exact dig_eq [128, 2, 16, 8, 32, 32, 64, 2] 1 r q ⟨by rw [one_eq, one_eq]; exact k.1, x2, x4, k.2, e2, e3, x3, x1, tp⟩
  · have e2 := Int.ofNat.inj (show ((fld r 19 15 : Nat) : Int) = ((fld q 19 15 : Nat) : Int) from (congrArg (fun z => z.2.2.1) h1).trans (congrArg (fun z => z.2.2.1) h2).symm)
    rw [a2, b2] at e2
    have e3 := Int.ofNat.inj (show ((fld r 24 20 : Nat) : Int) = ((fld q 24 20 : Nat) : Int) from (congrArg (fun z => z.2.2.2.1) h1).trans (congrArg (fun z => z.2.2.2.1) h2).symm)
    rw [a3, b3] at e3
    rw [keyF3, keyF3] at hk
    have k := sep3 (lo7 r) (lo3 r) (lo7 q) (lo3 q) hk
    have hi := sgn_inj (n := 12) (by decide) (show sgn 12 (immS r) = sgn 12 (immS q) from (congrArg (fun z => z.2.2.2.2.1) h1).trans (congrArg (fun z => z.2.2.2.2.1) h2).symm)
    obtain ⟨x1, x2⟩ := immS_inj (fld_lt r 31 25) (fld_lt r 11 7) (fld_lt q 31 25) (fld_lt q 11 7) hi
    rw [a16, b16] at x1; rw [a1, b1] at x2
    exact dig_eq [128, 32, 8, 32, 32, 128] 1 r q ⟨by rw [one_eq, one_eq]; exact k.1, x2, k.2, e2, e3, x1, tp⟩
  · have e1 := Int.ofNat.inj (show ((fld r 11 7 : Nat) : Int) = ((fld q 11 7 : Nat) : Int) from (congrArg (fun z => z.2.1) h1).trans (congrArg (fun z => z.2.1) h2).symm)
    rw [a1, b1] at e1
    have e2 := Int.ofNat.inj (show ((fld r 19 15 : Nat) : Int) = ((fld q 19 15 : Nat) : Int) from (congrArg (fun z => z.2.2.1) h1).trans (congrArg (fun z => z.2.2.1) h2).symm)
    rw [a2, b2] at e2
    rw [keyF3, keyF3] at hk
    have k := sep3 (lo7 r) (lo3 r) (lo7 q) (lo3 q) hk
    have e4 := Int.ofNat.inj (show ((fld r 31 20 : Nat) : Int) = ((fld q 31 20 : Nat) : Int) from (congrArg (fun z => z.2.2.2.2.1) h1).trans (congrArg (fun z => z.2.2.2.2.1) h2).symm)
    rw [a4, b4] at e4
    exact dig_eq [128, 32, 8, 32, 4096] 1 r q ⟨by rw [one_eq, one_eq]; exact k.1, e1, k.2, e2, e4, tp⟩
  · have e1 := Int.ofNat.inj (show ((fld r 11 7 : Nat) : Int) = ((fld q 11 7 : Nat) : Int) from (congrArg (fun z => z.2.1) h1).trans (congrArg (fun z => z.2.1) h2).symm)
    rw [a1, b1] at e1
    have e2 := Int.ofNat.inj (show ((fld r 19 15 : Nat) : Int) = ((fld q 19 15 : Nat) : Int) from (congrArg (fun z => z.2.2.1) h1).trans (congrArg (fun z => z.2.2.1) h2).symm)
    rw [a2, b2] at e2
    rw [key6, key6] at hk
    have k := sep4 67108864 (by decide) (lo7 r) (lo3 r) (lo7 q) (lo3 q) hk
    have e4 := Int.ofNat.inj (show ((fld r 25 20 : Nat) : Int) = ((fld q 25 20 : Nat) : Int) from (congrArg (fun z => z.2.2.2.2.1) h1).trans (congrArg (fun z => z.2.2.2.2.1) h2).symm)
    rw [a5, b5] at e4
    exact dig_eq [128, 32, 8, 32, 64, 64] 1 r q ⟨by rw [one_eq, one_eq]; exact k.1, e1, k.2.1, e2, e4, k.2.2, tp⟩
  · have e1 := Int.ofNat.inj (show ((fld r 11 7 : Nat) : Int) = ((fld q 11 7 : Nat) : Int) from (congrArg (fun z => z.2.1) h1).trans (congrArg (fun z => z.2.1) h2).symm)
    rw [a1, b1] at e1
    have e2 := Int.ofNat.inj (show ((fld r 19 15 : Nat) : Int) = ((fld q 19 15 : Nat) : Int) from (congrArg (fun z => z.2.2.1) h1).trans (congrArg (fun z => z.2.2.1) h2).symm)
    rw [a2, b2] at e2
    rw [key7, key7] at hk
    have k := sep4 33554432 (by decide) (lo7 r) (lo3 r) (lo7 q) (lo3 q) hk
    have e4 := Int.ofNat.inj (show ((fld r 24 20 : Nat) : Int) = ((fld q 24 20 : Nat) : Int) from (congrArg (fun z => z.2.2.2.2.1) h1).trans (congrArg (fun z => z.2.2.2.2.1) h2).symm)
    rw [a3, b3] at e4
    exact dig_eq [128, 32, 8, 32, 32, 128] 1 r q ⟨by rw [one_eq, one_eq]; exact k.1, e1, k.2.1, e2, e4, k.2.2, tp⟩
  · have e1 := Int.ofNat.inj (show ((fld r 11 7 : Nat) : Int) = ((fld q 11 7 : Nat) : Int) from (congrArg (fun z => z.2.1) h1).trans (congrArg (fun z => z.2.1) h2).symm)
    rw [a1, b1] at e1
    have e2 := Int.ofNat.inj (show ((fld r 19 15 : Nat) : Int) = ((fld q 19 15 : Nat) : Int) from (congrArg (fun z => z.2.2.1) h1).trans (congrArg (fun z => z.2.2.1) h2).symm)
    rw [a2, b2] at e2
    have e3 := Int.ofNat.inj (show ((fld r 24 20 : Nat) : Int) = ((fld q 24 20 : Nat) : Int) from (congrArg (fun z => z.2.2.2.1) h1).trans (congrArg (fun z => z.2.2.2.1) h2).symm)
    rw [a3, b3] at e3
    rw [key7, key7] at hk
    have k := sep4 33554432 (by decide) (lo7 r) (lo3 r) (lo7 q) (lo3 q) hk
    exact dig_eq [128, 32, 8, 32, 32, 128] 1 r q ⟨by rw [one_eq, one_eq]; exact k.1, e1, k.2.1, e2, e3, k.2.2, tp⟩
  · rw [keyAll, keyAll] at hk; rw [hk]
  · have e1 := Int.ofNat.inj (show ((fld r 11 7 : Nat) : Int) = ((fld q 11 7 : Nat) : Int) from (congrArg (fun z => z.2.1) h1).trans (congrArg (fun z => z.2.1) h2).symm)
    rw [a1, b1] at e1
    have e2 := Int.ofNat.inj (show ((fld r 19 15 : Nat) : Int) = ((fld q 19 15 : Nat) : Int) from (congrArg (fun z => z.2.2.1) h1).trans (congrArg (fun z => z.2.2.1) h2).symm)
    rw [a2, b2] at e2
    have e3 := Int.ofNat.inj (show ((fld r 24 20 : Nat) : Int) = ((fld q 24 20 : Nat) : Int) from (congrArg (fun z => z.2.2.2.1) h1).trans (congrArg (fun z => z.2.2.2.1) h2).symm)
    rw [a3, b3] at e3
    have e5 := beq_one (fld_lt r 26 26) (fld_lt q 26 26) ((congrArg (fun z => z.2.2.2.2.2.1) h1).trans (congrArg (fun z => z.2.2.2.2.2.1) h2).symm)
    rw [a6, b6] at e5
    have e6 := beq_one (fld_lt r 25 25) (fld_lt q 25 25) ((congrArg (fun z => z.2.2.2.2.2.2.1) h1).trans (congrArg (fun z => z.2.2.2.2.2.2.1) h2).symm)
    rw [a7, b7] at e6
    rw [key5, key5] at hk
    have k := sep4 134217728 (by decide) (lo7 r) (lo3 r) (lo7 q) (lo3 q) hk
    exact dig_eq [128, 32, 8, 32, 32, 2, 2, 32] 1 r q ⟨by rw [one_eq, one_eq]; exact k.1, e1, k.2.1, e2, e3, e6, e5, k.2.2, tp⟩
  · have e1 := Int.ofNat.inj (show ((fld r 11 7 : Nat) : Int) = ((fld q 11 7 : Nat) : Int) from (congrArg (fun z => z.2.1) h1).trans (congrArg (fun z => z.2.1) h2).symm)
    rw [a1, b1] at e1
    have e2 := Int.ofNat.inj (show ((fld r 19 15 : Nat) : Int) = ((fld q 19 15 : Nat) : Int) from (congrArg (fun z => z.2.2.1) h1).trans (congrArg (fun z => z.2.2.1) h2).symm)
    rw [a2, b2] at e2
    have e3 := Int.ofNat.inj (show ((fld r 24 20 : Nat) : Int) = ((fld q 24 20 : Nat) : Int) from (congrArg (fun z => z.2.2.2.1) h1).trans (congrArg (fun z => z.2.2.2.1) h2).symm)
    rw [a3, b3] at e3
    have e5 := beq_one (fld_lt r 26 26) (fld_lt q 26 26) ((congrArg (fun z => z.2.2.2.2.2.1) h1).trans (congrArg (fun z => z.2.2.2.2.2.1) h2).symm)
    rw [a6, b6] at e5
    have e6 := beq_one (fld_lt r 25 25) (fld_lt q 25 25) ((congrArg (fun z => z.2.2.2.2.2.2.1) h1).trans (congrArg (fun z => z.2.2.2.2.2.2.1) h2).symm)
    rw [a7, b7] at e6
    rw [keyLr, keyLr, e3, ← Nat.add_assoc, ← Nat.add_assoc] at hk
    have k := sep4 134217728 (by decide) (lo7 r) (lo3 r) (lo7 q) (lo3 q) (Nat.add_right_cancel hk)
    exact dig_eq [128, 32, 8, 32, 32, 2, 2, 32] 1 r q ⟨by rw [one_eq, one_eq]; exact k.1, e1, k.2.1, e2, e3, e6, e5, k.2.2, tp⟩
theorem decN_inj (r q : Nat) (hr : r < 4294967296) (hq : q < 4294967296) (A B C D O : Int) (E F : Bool) (lr rr lq rq l1 w1 l2 w2 : Int) (hO : O ≠ 0) (h1 : decN r lr rr = (O, A, B, C, D, E, F, l1, w1)) (h2 : decN q lq rq = (O, A, B, C, D, E, F, l2, w2)) : r = q := by
  unfold decN at h1 h2
  cases hf : findF (r : Int) formsL with
  | none => rw [hf] at h1; exact absurd (congrArg (fun z => z.1) h1).symm hO
  | some f =>
    cases hg : findF (q : Int) formsL with
    | none => rw [hg] at h2; exact absurd (congrArg (fun z => z.1) h2).symm hO
    | some g =>
      rw [hf] at h1; rw [hg] at h2
      replace h1 : fillN f.shape r f.op lr rr = (O, A, B, C, D, E, F, l1, w1) := h1
      replace h2 : fillN g.shape q g.op lq rq = (O, A, B, C, D, E, F, l2, w2) := h2
      obtain ⟨f1, f2⟩ := findF_key hr hf
      obtain ⟨g1, g2⟩ := findF_key hq hg
      have ho1 : f.op = O := by
        obtain ⟨A', B', C', D', E', F', hs⟩ := fillN_split f.shape r f.op
        rw [hs] at h1; exact congrArg (fun z => z.1) h1
      have ho2 : g.op = O := by
        obtain ⟨A', B', C', D', E', F', hs⟩ := fillN_split g.shape q g.op
        rw [hs] at h2; exact congrArg (fun z => z.1) h2
      obtain ⟨e1, e2, e3⟩ := op_one f f1 g g1 (ho1.trans ho2.symm)
      rw [← e3, ho2] at h2
      rw [ho1] at h1
      have hl1 : lr = l1 ∧ rr = w1 := by
        obtain ⟨A', B', C', D', E', F', hs⟩ := fillN_split f.shape r O
        rw [hs] at h1; exact ⟨congrArg (fun z => z.2.2.2.2.2.2.2.1) h1, congrArg (fun z => z.2.2.2.2.2.2.2.2) h1⟩
      have hl2 : lq = l2 ∧ rq = w2 := by
        obtain ⟨A', B', C', D', E', F', hs⟩ := fillN_split f.shape q O
        rw [hs] at h2; exact ⟨congrArg (fun z => z.2.2.2.2.2.2.2.1) h2, congrArg (fun z => z.2.2.2.2.2.2.2.2) h2⟩
      rw [← hl1.1, ← hl1.2] at h1
      rw [← hl2.1, ← hl2.2] at h2
      have hm := shape_mask f f1
      refine fill_inj f.shape f.mask.toNat r q hr hq O lr rr lq rq ?_ ?_ A B C D E F h1 h2
      · rw [f2, e1, g2, e2]
      · rcases hm with ⟨h, e⟩ | ⟨h, e⟩ | ⟨h, e⟩ | ⟨h, e⟩ | ⟨h, e⟩ | ⟨h, e | e⟩
        · exact .inl ⟨h, by rw [e]; rfl⟩
        · exact .inr (.inl ⟨h, by rw [e]; rfl⟩)
        · exact .inr (.inr (.inl ⟨h, by rw [e]; rfl⟩))
        · exact .inr (.inr (.inr (.inl ⟨h, by rw [e]; rfl⟩)))
        · exact .inr (.inr (.inr (.inr (.inl ⟨h, by rw [e]; rfl⟩))))
        · exact .inr (.inr (.inr (.inr (.inr ⟨h, .inl (by rw [e]; rfl)⟩))))
        · exact .inr (.inr (.inr (.inr (.inr ⟨h, .inr (by rw [e]; rfl)⟩))))
theorem DecodeApart : anvillaw05_DecodeApart.Pure := by
  intro a0 a1 w0 w1
  have hb : 0 ≤ a0 ∧ a0 < 4294967296 := by
    simp only [Lit.wf, IntKind.min, IntKind.max, IntKind.signed, IntKind.bits, Bool.and_eq_true, decide_eq_true_eq] at w0
    simp at w0; omega
  have hc : 0 ≤ a1 ∧ a1 < 4294967296 := by
    simp only [Lit.wf, IntKind.min, IntKind.max, IntKind.signed, IntKind.bits, Bool.and_eq_true, decide_eq_true_eq] at w1
    simp at w1; omega
  obtain ⟨a, rfl⟩ : ∃ n : Nat, a0 = n := ⟨a0.toNat, by omega⟩
  obtain ⟨b, rfl⟩ : ∃ n : Nat, a1 = n := ⟨a1.toNat, by omega⟩
  refine ⟨2020, ?_⟩
  have or3 : ∀ x : Nat, x < 4294967296 → ∃ y : Nat, Go.bits .or .u32 (x : Int) 3 = (y : Int) ∧ y < 4294967296 ∧ y % 4 = 3 := fun x hx => by
    refine ⟨x ||| 3, or32 x 3 hx (by decide), Nat.or_lt_two_pow (n := 32) hx (by decide), ?_⟩
    have h1 := Nat.and_two_pow_sub_one_eq_mod (x ||| 3) 2
    rw [show (2 : Nat) ^ 2 - 1 = 3 from rfl, Nat.and_or_distrib_right, Nat.and_self] at h1
    rw [show (4 : Nat) = 2 ^ 2 from rfl, ← h1]
    have h2 : x &&& 3 ≤ 3 := Nat.and_le_right
    have h3 := Nat.or_and_distrib_right x 3 3
    rw [Nat.or_self] at h3
    rcases (show x &&& 3 = 0 ∨ x &&& 3 = 1 ∨ x &&& 3 = 2 ∨ x &&& 3 = 3 by omega) with h | h | h | h <;> rw [h] <;> rfl
  obtain ⟨x, hx, hx1, hx3⟩ := or3 a (by omega)
  obtain ⟨y, hy, hy1, hy3⟩ := or3 b (by omega)
  unfold anvillaw05_DecodeApart.f
  rw [hx, hy, decode_long (by decide) x hx1 hx3, Option.bind_some, decode_long (by decide) y hy1 hy3, Option.bind_some, first_apart, Option.bind_some, if_pos rfl]
  have lens : ∀ (e : Nat) (len raw : Int), (decN e len raw).2.2.2.2.2.2.2.1 = len ∧ (decN e len raw).2.2.2.2.2.2.2.2 = raw := fun e len raw => by
    unfold decN
    cases h : findF (e : Int) formsL with
    | none => exact ⟨rfl, rfl⟩
    | some f =>
      obtain ⟨A, B, C, D', E, F, hs⟩ := fillN_split f.shape e f.op
      show (fillN f.shape e f.op len raw).2.2.2.2.2.2.2.1 = len ∧ (fillN f.shape e f.op len raw).2.2.2.2.2.2.2.2 = raw
      rw [hs]; exact ⟨rfl, rfl⟩
  have L1 := lens x 4 x
  have L2 := lens y 4 y
  have I := decN_inj x y hx1 hy1
  have I2 := I
  generalize hX : decN x 4 (x : Int) = X at *
  generalize hY : decN y 4 (y : Int) = Y at *
  obtain ⟨o1, A1, B1, C1, D1, E1, F1, l1, w1⟩ := X
  obtain ⟨o2, A2, B2, C2, D2, E2, F2, l2, w2⟩ := Y
  obtain ⟨rfl, rfl⟩ := L1
  obtain ⟨rfl, rfl⟩ := L2
  simp only [if_true]
  rw [show (2020 : Nat) = 2019 + 1 from rfl, anvillaw05_DecodeApart.j0, bne_self_eq_false, if_neg (by decide), hx, hy]
  by_cases c : (x : Int) = (y : Int)
  · rw [if_pos c]
  rw [if_neg c]
  by_cases c1 : o1 = 0
  · rw [if_pos c1]
  rw [if_neg c1]
  by_cases c2 : o2 = 0
  · rw [if_pos c2]
  rw [if_neg c2]
  congr 1
  by_cases e1 : o1 = o2
  case neg => simp [e1]
  by_cases e2 : A1 = A2
  case neg => simp [e2]
  by_cases e3 : B1 = B2
  case neg => simp [e3]
  by_cases e4 : C1 = C2
  case neg => simp [e4]
  by_cases e5 : D1 = D2
  case neg => simp [e5]
  by_cases e6 : E1 = E2
  case neg => simp [e6]
  by_cases e7 : F1 = F2
  case neg => simp [e7]
  subst e1 e2 e3 e4 e5 e6 e7
  exact absurd (congrArg (fun n : Nat => (n : Int)) (I A1 B1 C1 D1 o1 E1 F1 _ _ _ _ _ _ _ _ c1 hX hY)) c
end Go.Proofs.Ytiibhggjlandmaa.Pure
