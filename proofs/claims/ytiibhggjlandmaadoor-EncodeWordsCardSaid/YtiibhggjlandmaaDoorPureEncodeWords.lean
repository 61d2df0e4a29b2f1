/- EncodeWords in plain numbers: the program's word and the document's, shape by shape. No condition. -/
import Derived.Test.YtiibhggjlandmaaDoorPureChk
import Derived.Test.YtiibhggjlandmaaDoorPureEnc2
namespace Go.Proofs.YtiibhggjlandmaaDoor.Pure
open Go.RowKit Go.Proofs.YtiibhggjlandmaaDoorW.PrintWords Go.Proofs.YtiibhggjlandmaaDoor.PF Go.Proofs.YtiibhggjlandmaaDoor.PL
open Go.Proofs.YtiibhggjlandmaaDoor.Enc (W6 fi fb Val immOk encT formN mv move_eq shr64)
set_option linter.unusedVariables false
set_option linter.unusedSimpArgs false
theorem w64n (n : Nat) (h : n < 9223372036854775808) : IntKind.u64.wrap (n : Int) = (n : Int) := by rw [IntKind.wrap_u64]; omega
theorem pick_eq (v hi lo at_ : Int) (lo' n at' : Nat) (e1 : lo = lo') (e2 : wrap64 (wrap64 (hi - lo) + 1) = n) (e3 : at_ = at') (h1 : lo' ≤ 63) (h2 : n ≤ 31) (h3 : n + at' ≤ 32) (h4 : at' ≤ 31) :
    anvilref06_pick.f v hi lo at_ = some ((fi v (2 ^ lo') (2 ^ n) * 2 ^ at' : Nat) : Int) := by
  unfold anvilref06_pick.f
  rw [e2, e1, e3, w64n lo' (by omega), w64n n (by omega), w64n at' (by omega), if_pos (by omega), if_pos (by omega), if_pos (by omega), move_eq v lo' n at' h1 h2 h3 h4]
theorem bit_eq (b : Bool) (at' : Nat) (h : at' ≤ 31) : anvilref06_bit.f b (at' : Int) = some ((if b = true then 2 ^ at' else 0 : Nat) : Int) := by
  unfold anvilref06_bit.f
  cases b
  · rfl
  · rw [if_pos rfl, w64n at' (by omega), if_pos (by omega), if_pos rfl]
    have hp : 2 ^ at' ≤ 2147483648 := Nat.pow_le_pow_right (n := 2) (by decide) h
    have := Go.Proofs.YtiibhggjlandmaaDoor.Enc.shl32 1 at' h (by omega)
    rw [Nat.one_mul] at this
    exact congrArg some this
/-- The two tables' bits. -/
def pairC (op : Int) : Bool :=
  match encode_formOf.f op, findL op refL with
  | some (n, b, true), (_, c, f3, top, _) => decide (0 ≤ top) && decide (top < 4294967296) && ((n == 9 && top == b) || (n != 9 && decide (0 ≤ c) && decide (c < 128) && decide (0 ≤ f3) && decide (f3 < 8) && decide (top < 64) &&
      (b == c + f3 * 4096 + (if n = 5 ∨ n = 7 then top else if n = 6 then top * 2 else if n = 10 ∨ n = 11 then top * 4 else 0) * 33554432) && ((n != 0 && n != 1) || f3 == 0)))
  | _, _ => true
set_option maxRecDepth 100000 in
theorem pairC_in : ∀ i : Fin 97, pairC (i.val : Int) = true := by decide +kernel
theorem pairC_all (op : Int) : pairC op = true := by
  by_cases h : 0 ≤ op ∧ op ≤ 96
  · have := pairC_in ⟨op.toNat, by omega⟩
    rwa [show ((op.toNat : Nat) : Int) = op by omega] at this
  · unfold pairC; rw [Go.Proofs.YtiibhggjlandmaaDoor.Enc.formOf_out op h]
def sUJ : ByteArray := ⟨#[85, 74]⟩
theorem one_uj (n : Nat) (h : n < 12) (k : Nat) (hk : 12 ≤ k) : anvilref06_one.f k (kindOf n) sUJ = some (n == 0 || n == 1) := by
  refine one_up ?_ k hk
  have : ∀ m : Fin 12, anvilref06_one.f 12 (kindOf m.val) sUJ = some (m.val == 0 || m.val == 1) := by decide +kernel
  exact this ⟨n, h⟩
theorem low_and (v : Int) : Go.bits .and .u32 (v % 4294967296) 4294963200 = (((v / 4096 % 1048576).toNat * 4096 : Nat) : Int) := by
  obtain ⟨X, hX⟩ : ∃ X : Nat, v % 4294967296 = (X : Int) := ⟨(v % 4294967296).toNat, by omega⟩
  have hx : X < 4294967296 := by omega
  have e := Go.Proofs.YtiibhggjlandmaaDoor.Enc.and32 X 4294963200 hx (by decide)
  rw [hX]
  refine Eq.trans e ?_
  have hd : X &&& 4294963200 = X / 4096 * 4096 := by
    have h2 : X &&& 4294963200 = (X / 2 ^ 12 &&& 1048575) * 2 ^ 12 + (X % 2 ^ 12 &&& 0) := by
      have hs : X = X / 2 ^ 12 * 2 ^ 12 + X % 2 ^ 12 := by omega
      conv => lhs; rw [hs, show (4294963200 : Nat) = 1048575 * 2 ^ 12 + 0 from rfl]
      have hb : X % 2 ^ 12 < 2 ^ 12 := Nat.mod_lt _ (by decide)
      apply Nat.eq_of_testBit_eq
      intro j
      rw [Nat.testBit_and, Nat.mul_comm (X / 2 ^ 12), Nat.mul_comm 1048575, Nat.mul_comm (X / 2 ^ 12 &&& 1048575), Nat.testBit_two_pow_mul_add _ hb, Nat.testBit_two_pow_mul_add _ (by decide), Nat.testBit_two_pow_mul_add _ (by simp)]
      by_cases h : j < 12
      · simp only [h, if_true, Nat.testBit_and]
      · simp only [h, if_false, Nat.testBit_and]
    rw [h2, show (1048575 : Nat) = 2 ^ 20 - 1 from rfl, Nat.and_two_pow_sub_one_eq_mod, Nat.and_zero]; omega
  rw [hd]; omega
theorem up0 (k : Nat) (o c f3 : Int) (top : Nat) (ht : top < 64) (v : Int) (aq rl : Bool) (op rd rs1 rs2 len raw : Int) :
    anvilref06_upper.f (k + 2) o c f3 top (kindOf 0) op rd rs1 rs2 v aq rl len raw = some (((v / 4096 % 1048576).toNat * 4096 : Nat) : Int) := by
  unfold anvilref06_upper.f
  rw [if_pos (by decide), low_and]
theorem up1 (k : Nat) (o c f3 : Int) (top : Nat) (ht : top < 64) (v : Int) (aq rl : Bool) (op rd rs1 rs2 len raw : Int) :
    anvilref06_upper.f (k + 2) o c f3 top (kindOf 1) op rd rs1 rs2 v aq rl len raw = some ((fi v 1048576 2 * 2147483648 + fi v 2 1024 * 2097152 + fi v 2048 2 * 1048576 + fi v 4096 256 * 4096 : Nat) : Int) := by
  have q0 : anvilref06_pick.f v 20 20 31 = some ((fi v 1048576 2 * 2147483648 : Nat) : Int) := pick_eq v 20 20 31 20 1 31 rfl (by decide +kernel) rfl (by decide) (by decide) (by decide) (by decide)
  have g0 := fb v 1048576 2 2 rfl (by decide)
  have q1 : anvilref06_pick.f v 10 1 21 = some ((fi v 2 1024 * 2097152 : Nat) : Int) := pick_eq v 10 1 21 1 10 21 rfl (by decide +kernel) rfl (by decide) (by decide) (by decide) (by decide)
  have g1 := fb v 2 1024 1024 rfl (by decide)
  have q2 : anvilref06_pick.f v 11 11 20 = some ((fi v 2048 2 * 1048576 : Nat) : Int) := pick_eq v 11 11 20 11 1 20 rfl (by decide +kernel) rfl (by decide) (by decide) (by decide) (by decide)
  have g2 := fb v 2048 2 2 rfl (by decide)
  have q3 : anvilref06_pick.f v 19 12 12 = some ((fi v 4096 256 * 4096 : Nat) : Int) := pick_eq v 19 12 12 12 8 12 rfl (by decide +kernel) rfl (by decide) (by decide) (by decide) (by decide)
  have g3 := fb v 4096 256 256 rfl (by decide)
  unfold anvilref06_upper.f
  rw [if_neg (by decide), if_pos (by decide), q0, Option.bind_some, q1, Option.bind_some, q2, Option.bind_some, q3, Option.bind_some]
  refine congrArg some ?_; omega
theorem up3 (k : Nat) (o c f3 : Int) (top : Nat) (ht : top < 64) (v : Int) (aq rl : Bool) (op rd rs1 rs2 len raw : Int) :
    anvilref06_upper.f (k + 2) o c f3 top (kindOf 3) op rd rs1 rs2 v aq rl len raw = some ((fi v 4096 2 * 2147483648 + fi v 32 64 * 33554432 + fi v 2 16 * 256 + fi v 2048 2 * 128 : Nat) : Int) := by
  have q0 : anvilref06_pick.f v 12 12 31 = some ((fi v 4096 2 * 2147483648 : Nat) : Int) := pick_eq v 12 12 31 12 1 31 rfl (by decide +kernel) rfl (by decide) (by decide) (by decide) (by decide)
  have g0 := fb v 4096 2 2 rfl (by decide)
  have q1 : anvilref06_pick.f v 10 5 25 = some ((fi v 32 64 * 33554432 : Nat) : Int) := pick_eq v 10 5 25 5 6 25 rfl (by decide +kernel) rfl (by decide) (by decide) (by decide) (by decide)
  have g1 := fb v 32 64 64 rfl (by decide)
  have q2 : anvilref06_pick.f v 4 1 8 = some ((fi v 2 16 * 256 : Nat) : Int) := pick_eq v 4 1 8 1 4 8 rfl (by decide +kernel) rfl (by decide) (by decide) (by decide) (by decide)
  have g2 := fb v 2 16 16 rfl (by decide)
  have q3 : anvilref06_pick.f v 11 11 7 = some ((fi v 2048 2 * 128 : Nat) : Int) := pick_eq v 11 11 7 11 1 7 rfl (by decide +kernel) rfl (by decide) (by decide) (by decide) (by decide)
  have g3 := fb v 2048 2 2 rfl (by decide)
  unfold anvilref06_upper.f
  rw [if_neg (by decide), if_neg (by decide), if_pos (by decide), q0, Option.bind_some, q1, Option.bind_some, q2, Option.bind_some, q3, Option.bind_some]
  refine congrArg some ?_; omega
theorem up4 (k : Nat) (o c f3 : Int) (top : Nat) (ht : top < 64) (v : Int) (aq rl : Bool) (op rd rs1 rs2 len raw : Int) :
    anvilref06_upper.f (k + 2) o c f3 top (kindOf 4) op rd rs1 rs2 v aq rl len raw = some ((fi v 32 128 * 33554432 + fi v 1 32 * 128 : Nat) : Int) := by
  have q0 : anvilref06_pick.f v 11 5 25 = some ((fi v 32 128 * 33554432 : Nat) : Int) := pick_eq v 11 5 25 5 7 25 rfl (by decide +kernel) rfl (by decide) (by decide) (by decide) (by decide)
  have g0 := fb v 32 128 128 rfl (by decide)
  have q1 : anvilref06_pick.f v 4 0 7 = some ((fi v 1 32 * 128 : Nat) : Int) := pick_eq v 4 0 7 0 5 7 rfl (by decide +kernel) rfl (by decide) (by decide) (by decide) (by decide)
  have g1 := fb v 1 32 32 rfl (by decide)
  unfold anvilref06_upper.f
  rw [if_neg (by decide), if_neg (by decide), if_neg (by decide), if_pos (by decide), q0, Option.bind_some, q1, Option.bind_some]
  refine congrArg some ?_; omega
theorem up6 (k : Nat) (o c f3 : Int) (top : Nat) (ht : top < 64) (v : Int) (aq rl : Bool) (op rd rs1 rs2 len raw : Int) :
    anvilref06_upper.f (k + 2) o c f3 top (kindOf 6) op rd rs1 rs2 v aq rl len raw = some ((top * 67108864 + fi v 1 64 * 1048576 : Nat) : Int) := by
  have q0 : anvilref06_pick.f v 5 0 20 = some ((fi v 1 64 * 1048576 : Nat) : Int) := pick_eq v 5 0 20 0 6 20 rfl (by decide +kernel) rfl (by decide) (by decide) (by decide) (by decide)
  have g0 := fb v 1 64 64 rfl (by decide)
  unfold anvilref06_upper.f
  rw [if_neg (by decide), if_neg (by decide), if_neg (by decide), if_neg (by decide), if_pos (by decide), q0, Option.bind_some]
  refine congrArg some ?_; omega
theorem up7 (k : Nat) (o c f3 : Int) (top : Nat) (ht : top < 64) (v : Int) (aq rl : Bool) (op rd rs1 rs2 len raw : Int) :
    anvilref06_upper.f (k + 2) o c f3 top (kindOf 7) op rd rs1 rs2 v aq rl len raw = some ((top * 33554432 + fi v 1 32 * 1048576 : Nat) : Int) := by
  have q0 : anvilref06_pick.f v 4 0 20 = some ((fi v 1 32 * 1048576 : Nat) : Int) := pick_eq v 4 0 20 0 5 20 rfl (by decide +kernel) rfl (by decide) (by decide) (by decide) (by decide)
  have g0 := fb v 1 32 32 rfl (by decide)
  unfold anvilref06_upper.f
  rw [if_neg (by decide), if_neg (by decide), if_neg (by decide), if_neg (by decide), if_neg (by decide), if_pos (by decide), q0, Option.bind_some]
  refine congrArg some ?_; omega
theorem up5 (k : Nat) (o c f3 : Int) (top : Nat) (ht : top < 64) (v : Int) (aq rl : Bool) (op rd rs1 rs2 len raw : Int) :
    anvilref06_upper.f (k + 2) o c f3 top (kindOf 5) op rd rs1 rs2 v aq rl len raw = some ((top * 33554432 : Nat) : Int) := by
  unfold anvilref06_upper.f
  rw [if_neg (by decide), if_neg (by decide), if_neg (by decide), if_neg (by decide), if_neg (by decide), if_neg (by decide), if_pos (by decide)]
  refine congrArg some ?_; omega
theorem up2 (k : Nat) (o c f3 : Int) (top : Nat) (ht : top < 64) (v : Int) (aq rl : Bool) (op rd rs1 rs2 len raw : Int) :
    anvilref06_upper.f (k + 2) o c f3 top (kindOf 2) op rd rs1 rs2 v aq rl len raw = some ((fi v 1 4096 * 1048576 : Nat) : Int) := by
  have q0 : anvilref06_pick.f v 11 0 20 = some ((fi v 1 4096 * 1048576 : Nat) : Int) := pick_eq v 11 0 20 0 12 20 rfl (by decide +kernel) rfl (by decide) (by decide) (by decide) (by decide)
  have g0 := fb v 1 4096 4096 rfl (by decide)
  unfold anvilref06_upper.f
  rw [if_neg (by decide), if_neg (by decide), if_neg (by decide), if_neg (by decide), if_neg (by decide), if_neg (by decide), if_neg (by decide), if_neg (by decide), anvilref06_upper.j0, if_neg (by decide), q0, Option.bind_some]
theorem up8 (k : Nat) (o c f3 : Int) (top : Nat) (ht : top < 64) (v : Int) (aq rl : Bool) (op rd rs1 rs2 len raw : Int) :
    anvilref06_upper.f (k + 2) o c f3 top (kindOf 8) op rd rs1 rs2 v aq rl len raw = some ((fi v 1 4096 * 1048576 : Nat) : Int) := by
  have q0 : anvilref06_pick.f v 11 0 20 = some ((fi v 1 4096 * 1048576 : Nat) : Int) := pick_eq v 11 0 20 0 12 20 rfl (by decide +kernel) rfl (by decide) (by decide) (by decide) (by decide)
  have g0 := fb v 1 4096 4096 rfl (by decide)
  unfold anvilref06_upper.f
  rw [if_neg (by decide), if_neg (by decide), if_neg (by decide), if_neg (by decide), if_neg (by decide), if_neg (by decide), if_neg (by decide), if_neg (by decide), anvilref06_upper.j0, if_neg (by decide), q0, Option.bind_some]
theorem upA (k : Nat) (o c f3 : Int) (top : Nat)  (v : Int) (aq rl : Bool) (op rd rs1 rs2 len raw : Int) (h32 : top < 32) :
    anvilref06_upper.f (k + 2) o c f3 top (kindOf 10) op rd rs1 rs2 v aq rl len raw = some ((top * 134217728 + (if aq = true then 67108864 else 0) + (if rl = true then 33554432 else 0) : Nat) : Int) := by
  have q14 : anvilref06_bit.f aq 26 = some ((if aq = true then 67108864 else 0 : Nat) : Int) := bit_eq aq 26 (by decide)
  have q15 : anvilref06_bit.f rl 25 = some ((if rl = true then 33554432 else 0 : Nat) : Int) := bit_eq rl 25 (by decide)
  unfold anvilref06_upper.f
  rw [if_neg (by decide), if_neg (by decide), if_neg (by decide), if_neg (by decide), if_neg (by decide), if_neg (by decide), if_neg (by decide), if_neg (by decide), anvilref06_upper.j0, if_pos (by decide), q14, Option.bind_some, q15, Option.bind_some]
  refine congrArg some ?_
  have hA : (if aq = true then 67108864 else 0 : Nat) ≤ 67108864 := by cases aq <;> decide
  have hB : (if rl = true then 33554432 else 0 : Nat) ≤ 33554432 := by cases rl <;> decide
  clear q14 q15
  generalize (if aq = true then 67108864 else 0 : Nat) = A at *
  generalize (if rl = true then 33554432 else 0 : Nat) = B at *
  omega
theorem upL (k : Nat) (o c f3 : Int) (top : Nat)  (v : Int) (aq rl : Bool) (op rd rs1 rs2 len raw : Int) (h32 : top < 32) :
    anvilref06_upper.f (k + 2) o c f3 top (kindOf 11) op rd rs1 rs2 v aq rl len raw = some ((top * 134217728 + (if aq = true then 67108864 else 0) + (if rl = true then 33554432 else 0) : Nat) : Int) := by
  have q14 : anvilref06_bit.f aq 26 = some ((if aq = true then 67108864 else 0 : Nat) : Int) := bit_eq aq 26 (by decide)
  have q15 : anvilref06_bit.f rl 25 = some ((if rl = true then 33554432 else 0 : Nat) : Int) := bit_eq rl 25 (by decide)
  unfold anvilref06_upper.f
  rw [if_neg (by decide), if_neg (by decide), if_neg (by decide), if_neg (by decide), if_neg (by decide), if_neg (by decide), if_neg (by decide), if_pos (by decide), anvilref06_upper.j0, if_pos (by decide), q14, Option.bind_some, q15, Option.bind_some]
  refine congrArg some ?_
  have hA : (if aq = true then 67108864 else 0 : Nat) ≤ 67108864 := by cases aq <;> decide
  have hB : (if rl = true then 33554432 else 0 : Nat) ≤ 33554432 := by cases rl <;> decide
  clear q14 q15
  generalize (if aq = true then 67108864 else 0 : Nat) = A at *
  generalize (if rl = true then 33554432 else 0 : Nat) = B at *
  omega
theorem low20 (v : Int) : (v / 4096 % 1048576).toNat * 4096 = W6 (fi v 33554432 128) (fi v 1048576 32) (fi v 32768 32) (fi v 4096 8) 0 0 := by unfold W6 fi; omega
theorem base_of (C F X B : Nat) (hC : C < 128) (hF : F < 8) (hb : B = C + F * 4096 + X * 33554432) : B % 128 = C ∧ B / 4096 % 8 = F ∧ B / 33554432 = X := by omega
theorem sumA (C u F RD R1 R2 S : Nat) (h : C + u + F * 4096 + RD * 128 + R1 * 32768 + R2 * 1048576 = S) (hS : S < 4294967296) :
    ((((((((((C : Int) % 4294967296) + (u : Int)) % 4294967296) + ((((F : Int) % 4294967296) * 4096) % 4294967296)) % 4294967296) + ((((RD : Int) % 4294967296) * 128) % 4294967296)) % 4294967296) + ((((R1 : Int) % 4294967296) * 32768) % 4294967296)) % 4294967296 + ((((R2 : Int) % 4294967296) * 1048576) % 4294967296)) % 4294967296 = (S : Int) := by
  have m : ∀ n : Nat, n < 4294967296 → (n : Int) % 4294967296 = n := fun n hn => by omega
  have q : ∀ n c : Nat, n * c < 4294967296 → 0 < c → ((n : Int) % 4294967296 * (c : Int)) % 4294967296 = ((n * c : Nat) : Int) := fun n c hn hc => by
    have : n ≤ n * c := Nat.le_mul_of_pos_right n hc
    rw [m n (by omega), ← Int.natCast_mul, m _ hn]
  have qF := q F 4096 (by omega) (by decide); have qD := q RD 128 (by omega) (by decide); have q1 := q R1 32768 (by omega) (by decide); have q2 := q R2 1048576 (by omega) (by decide)
  simp only [Int.cast_ofNat_Int] at qF qD q1 q2
  rw [qF, qD, q1, q2, m C (by omega), ← Int.natCast_add, m _ (by omega), ← Int.natCast_add, m _ (by omega), ← Int.natCast_add, m _ (by omega), ← Int.natCast_add, m _ (by omega), ← Int.natCast_add, m _ (by omega), h]
theorem sumB (C u RD R1 R2 S : Nat) (h : C + u + RD * 128 + R1 * 32768 + R2 * 1048576 = S) (hS : S < 4294967296) :
    ((((((((C : Int) % 4294967296) + (u : Int)) % 4294967296) + ((((RD : Int) % 4294967296) * 128) % 4294967296)) % 4294967296) + ((((R1 : Int) % 4294967296) * 32768) % 4294967296)) % 4294967296 + ((((R2 : Int) % 4294967296) * 1048576) % 4294967296)) % 4294967296 = (S : Int) := by
  have m : ∀ n : Nat, n < 4294967296 → (n : Int) % 4294967296 = n := fun n hn => by omega
  have q : ∀ n c : Nat, n * c < 4294967296 → 0 < c → ((n : Int) % 4294967296 * (c : Int)) % 4294967296 = ((n * c : Nat) : Int) := fun n c hn hc => by
    have : n ≤ n * c := Nat.le_mul_of_pos_right n hc
    rw [m n (by omega), ← Int.natCast_mul, m _ hn]
  have qD := q RD 128 (by omega) (by decide); have q1 := q R1 32768 (by omega) (by decide); have q2 := q R2 1048576 (by omega) (by decide)
  simp only [Int.cast_ofNat_Int] at qD q1 q2
  rw [qD, q1, q2, m C (by omega), ← Int.natCast_add, m _ (by omega), ← Int.natCast_add, m _ (by omega), ← Int.natCast_add, m _ (by omega), ← Int.natCast_add, m _ (by omega), h]
theorem shapes11 (n : Nat) (n12 : n < 12) (h9 : n ≠ 9) : n = 0 ∨ n = 1 ∨ n = 2 ∨ n = 3 ∨ n = 4 ∨ n = 5 ∨ n = 6 ∨ n = 7 ∨ n = 8 ∨ n = 10 ∨ n = 11 := by omega
theorem r2z {n R2 : Nat} (h2 : n = 3 ∨ n = 4 ∨ n = 5 ∨ n = 10 ∨ R2 = 0) (h : n ≠ 3 ∧ n ≠ 4 ∧ n ≠ 5 ∧ n ≠ 10) : R2 = 0 := by omega
set_option maxHeartbeats 4000000 in
theorem ref_ok (op rd rs1 rs2 v : Int) (aq rl : Bool) (len raw : Int) (h : encode_Check.f op rd rs1 rs2 v aq rl len raw = some 0) (n B RD R1 R2 : Nat) (hz : encode_formOf.f op = some ((n : Int), (B : Int), true)) (e1 : rd = RD) (e2 : rs1 = R1) (e3 : rs2 = R2) (hv : Val n B RD R1 R2 v aq rl) :
    anvilref06_Encode.f 200 op rd rs1 rs2 v aq rl len raw = some (((encT n B RD R1 R2 v aq rl : Nat) : Int), 0) := by
  obtain ⟨x, hx1, hx2⟩ := checks_same op rd rs1 rs2 v aq rl len raw
  obtain rfl : x = 0 := Option.some.inj (hx1.symm.trans h)
  have hp := pairs op
  have hc := pairC_all op
  unfold pairB at hp
  unfold pairC at hc
  rw [hz] at hp hc
  unfold anvilref06_Encode.f
  rw [hx2, Option.bind_some, if_pos rfl, form_ok op 200 (by omega), Option.bind_some]
  clear hx1 hx2 h
  generalize findL op refL = L at *
  obtain ⟨o, c, f3, top, kd⟩ := L
  simp only [Bool.and_eq_true, decide_eq_true_eq, beq_iff_eq, Int.toNat_natCast, Bool.or_eq_true, bne_iff_ne, ne_eq] at hp hc ⊢
  obtain ⟨⟨⟨⟨_, _⟩, hk⟩, _⟩, _⟩ := hp
  obtain ⟨⟨t0, t1⟩, hc⟩ := hc
  subst hk e1 e2 e3
  obtain ⟨n12, b32, hf, d, s1, s2, hd, h1, h2, hi, oo⟩ := hv
  obtain ⟨T, rfl⟩ : ∃ T : Nat, top = (T : Int) := ⟨top.toNat, by omega⟩
  by_cases h9 : n = 9
  · subst h9
    rcases hc with hc | hc
    · have hT : T = B := by omega
      subst hT
      rw [if_pos (by decide)]
      simp only [encT]; simp; omega
    · exact absurd rfl hc.1.1.1.1.1.1.1
  have k90 : kindOf n ≠ 90 := by
    have : ∀ m : Fin 12, m.val ≠ 9 → kindOf m.val ≠ 90 := by decide
    exact this ⟨n, n12⟩ h9
  rw [if_neg k90]
  rcases hc with hc | hc
  · exact absurd (by omega) h9
  obtain ⟨⟨⟨⟨⟨⟨⟨_, c0⟩, c1⟩, f0⟩, f1⟩, ht⟩, hb⟩, hf0⟩ := hc
  obtain ⟨C, rfl⟩ : ∃ C : Nat, c = (C : Int) := ⟨c.toNat, by omega⟩
  obtain ⟨F, rfl⟩ : ∃ F : Nat, f3 = (F : Int) := ⟨f3.toNat, by omega⟩
  have hj := one_uj n n12 200 (by decide)
  unfold sUJ at hj
  rw [hj]
  have ht64 : T < 64 := by omega
  clear hj k90 t0 t1
  have g1 := fb v 1048576 2 2 rfl (by decide); have g3 := fb v 2048 2 2 rfl (by decide); have g5 := fb v 4096 2 2 rfl (by decide)
  have g6 := fb v 32 64 64 rfl (by decide); have g7 := fb v 2 16 16 rfl (by decide); have g9 := fb v 32 128 128 rfl (by decide); have g10 := fb v 1 32 32 rfl (by decide)
  have g14 := fb v 33554432 128 128 rfl (by decide); have g15 := fb v 1048576 32 32 rfl (by decide); have g16 := fb v 32768 32 32 rfl (by decide); have g17 := fb v 4096 8 8 rfl (by decide)
  have e := shapes11 n n12 h9
  rcases e with rfl | rfl | rfl | rfl | rfl | rfl | rfl | rfl | rfl | rfl | rfl
  · rw [if_neg (by decide), if_neg (by decide), if_neg (by decide)] at hb
    obtain rfl := h1 (.inl rfl)
    obtain rfl : R2 = 0 := r2z h2 (by decide)
    have hu := up0 198 o C F T ht64 v aq rl op RD 0 0 len raw
    rw [low20] at hu
    have hF : F = 0 := by rcases hf0 with x | x; exact absurd x (by decide); omega
    rw [show (200 : Nat) = 198 + 2 from rfl]
    refine (congrArg (fun z => Option.bind z _) hu).trans ?_
    rw [Option.bind_some, Option.bind_some, if_pos (by decide)]
    refine congrArg (fun z : Int => some (z, (0 : Int))) ?_
    rw [show encT 0 B RD 0 0 v aq rl = W6 (fi v 33554432 128) (fi v 1048576 32) (fi v 32768 32) (fi v 4096 8) RD (B % 128) from rfl]
    clear hu hd h1 h2 oo hi hz hf hf0
    obtain ⟨bC, bF, bX⟩ := base_of C F 0 B (by omega) (by omega) (by omega)
    rw [bC]
    clear bC bF bX hb b32
    refine sumB _ _ _ _ _ _ ?_ (by unfold W6; omega)
    unfold W6; omega
  · rw [if_neg (by decide), if_neg (by decide), if_neg (by decide)] at hb
    obtain rfl := h1 (.inr (.inl rfl))
    obtain rfl : R2 = 0 := r2z h2 (by decide)
    have hu := up1 198 o C F T ht64 v aq rl op RD 0 0 len raw
    have x1 : fi v 2 1024 = fi v 32 64 * 16 + fi v 2 16 := by unfold fi; omega
    have x2 : fi v 4096 256 = fi v 32768 32 * 8 + fi v 4096 8 := by unfold fi; omega
    rw [x1, x2] at hu
    have hF : F = 0 := by rcases hf0 with x | x; exact absurd x (by decide); omega
    rw [show (200 : Nat) = 198 + 2 from rfl]
    refine (congrArg (fun z => Option.bind z _) hu).trans ?_
    rw [Option.bind_some, Option.bind_some, if_pos (by decide)]
    refine congrArg (fun z : Int => some (z, (0 : Int))) ?_
    rw [show encT 1 B RD 0 0 v aq rl = W6 (fi v 1048576 2 * 64 + fi v 32 64) (fi v 2 16 * 2 + fi v 2048 2) (fi v 32768 32) (fi v 4096 8) RD (B % 128) from rfl]
    clear hu hd h1 h2 oo hi hz hf hf0
    obtain ⟨bC, bF, bX⟩ := base_of C F 0 B (by omega) (by omega) (by omega)
    rw [bC]
    clear bC bF bX hb b32
    refine sumB _ _ _ _ _ _ ?_ (by unfold W6; omega)
    unfold W6; omega
  · rw [if_neg (by decide), if_neg (by decide), if_neg (by decide)] at hb
    obtain rfl : R2 = 0 := r2z h2 (by decide)
    have hu := up2 198 o C F T ht64 v aq rl op RD R1 0 len raw
    have x1 : fi v 1 4096 = fi v 32 128 * 32 + fi v 1 32 := by unfold fi; omega
    rw [x1] at hu
    rw [show (200 : Nat) = 198 + 2 from rfl]
    refine (congrArg (fun z => Option.bind z _) hu).trans ?_
    rw [Option.bind_some, Option.bind_some, if_neg (by decide)]
    refine congrArg (fun z : Int => some (z, (0 : Int))) ?_
    rw [show encT 2 B RD R1 0 v aq rl = W6 (fi v 32 128) (fi v 1 32) R1 (B / 4096 % 8) RD (B % 128) from rfl]
    clear hu hd h1 h2 oo hi hz hf hf0
    obtain ⟨bC, bF, bX⟩ := base_of C F 0 B (by omega) (by omega) (by omega)
    rw [bC, bF]
    clear bC bF bX hb b32
    refine sumA _ _ _ _ _ _ _ ?_ (by unfold W6; omega)
    unfold W6; omega
  · rw [if_neg (by decide), if_neg (by decide), if_neg (by decide)] at hb
    obtain rfl := hd (.inl rfl)
    have hu := up3 198 o C F T ht64 v aq rl op 0 R1 R2 len raw
    rw [show (200 : Nat) = 198 + 2 from rfl]
    refine (congrArg (fun z => Option.bind z _) hu).trans ?_
    rw [Option.bind_some, Option.bind_some, if_neg (by decide)]
    refine congrArg (fun z : Int => some (z, (0 : Int))) ?_
    rw [show encT 3 B 0 R1 R2 v aq rl = W6 (fi v 4096 2 * 64 + fi v 32 64) R2 R1 (B / 4096 % 8) (fi v 2 16 * 2 + fi v 2048 2) (B % 128) from rfl]
    clear hu hd h1 h2 oo hi hz hf hf0
    obtain ⟨bC, bF, bX⟩ := base_of C F 0 B (by omega) (by omega) (by omega)
    rw [bC, bF]
    clear bC bF bX hb b32
    refine sumA _ _ _ _ _ _ _ ?_ (by unfold W6; omega)
    unfold W6; omega
  · rw [if_neg (by decide), if_neg (by decide), if_neg (by decide)] at hb
    obtain rfl := hd (.inr (.inl rfl))
    have hu := up4 198 o C F T ht64 v aq rl op 0 R1 R2 len raw
    rw [show (200 : Nat) = 198 + 2 from rfl]
    refine (congrArg (fun z => Option.bind z _) hu).trans ?_
    rw [Option.bind_some, Option.bind_some, if_neg (by decide)]
    refine congrArg (fun z : Int => some (z, (0 : Int))) ?_
    rw [show encT 4 B 0 R1 R2 v aq rl = W6 (fi v 32 128) R2 R1 (B / 4096 % 8) (fi v 1 32) (B % 128) from rfl]
    clear hu hd h1 h2 oo hi hz hf hf0
    obtain ⟨bC, bF, bX⟩ := base_of C F 0 B (by omega) (by omega) (by omega)
    rw [bC, bF]
    clear bC bF bX hb b32
    refine sumA _ _ _ _ _ _ _ ?_ (by unfold W6; omega)
    unfold W6; omega
  · rw [if_pos (by decide)] at hb
    obtain ⟨rfl, rfl⟩ : aq = false ∧ rl = false := by rcases oo with o | o | o; exact absurd o (by decide); exact absurd o (by decide); exact o
    have hu := up5 198 o C F T ht64 v false false op RD R1 R2 len raw
    rw [show (200 : Nat) = 198 + 2 from rfl]
    refine (congrArg (fun z => Option.bind z _) hu).trans ?_
    rw [Option.bind_some, Option.bind_some, if_neg (by decide)]
    refine congrArg (fun z : Int => some (z, (0 : Int))) ?_
    rw [show encT 5 B RD R1 R2 v false false = W6 (B / 33554432) R2 R1 (B / 4096 % 8) RD (B % 128) from rfl]
    clear hu hd h1 h2 oo hi hz hf hf0
    obtain ⟨bC, bF, bX⟩ := base_of C F T B (by omega) (by omega) (by omega)
    rw [bC, bF, bX]
    clear bC bF bX hb b32
    refine sumA _ _ _ _ _ _ _ ?_ (by unfold W6; omega)
    unfold W6; omega
  · rw [if_neg (by decide), if_pos (by decide)] at hb
    obtain rfl : R2 = 0 := r2z h2 (by decide)
    have hu := up6 198 o C F T ht64 v aq rl op RD R1 0 len raw
    have x1 : fi v 1 64 = fi v 32 2 * 32 + fi v 1 32 := by unfold fi; omega
    have g18 := fb v 32 2 2 rfl (by decide)
    rw [x1] at hu
    rw [show (200 : Nat) = 198 + 2 from rfl]
    refine (congrArg (fun z => Option.bind z _) hu).trans ?_
    rw [Option.bind_some, Option.bind_some, if_neg (by decide)]
    refine congrArg (fun z : Int => some (z, (0 : Int))) ?_
    rw [show encT 6 B RD R1 0 v aq rl = W6 (B / 33554432 + fi v 32 2) (fi v 1 32) R1 (B / 4096 % 8) RD (B % 128) from rfl]
    clear hu hd h1 h2 oo hi hz hf hf0
    obtain ⟨bC, bF, bX⟩ := base_of C F (T * 2) B (by omega) (by omega) (by omega)
    rw [bC, bF, bX]
    clear bC bF bX hb b32
    refine sumA _ _ _ _ _ _ _ ?_ (by unfold W6; omega)
    unfold W6; omega
  · rw [if_pos (by decide)] at hb
    obtain rfl : R2 = 0 := r2z h2 (by decide)
    have hu := up7 198 o C F T ht64 v aq rl op RD R1 0 len raw
    rw [show (200 : Nat) = 198 + 2 from rfl]
    refine (congrArg (fun z => Option.bind z _) hu).trans ?_
    rw [Option.bind_some, Option.bind_some, if_neg (by decide)]
    refine congrArg (fun z : Int => some (z, (0 : Int))) ?_
    rw [show encT 7 B RD R1 0 v aq rl = W6 (B / 33554432) (fi v 1 32) R1 (B / 4096 % 8) RD (B % 128) from rfl]
    clear hu hd h1 h2 oo hi hz hf hf0
    obtain ⟨bC, bF, bX⟩ := base_of C F T B (by omega) (by omega) (by omega)
    rw [bC, bF, bX]
    clear bC bF bX hb b32
    refine sumA _ _ _ _ _ _ _ ?_ (by unfold W6; omega)
    unfold W6; omega
  · rw [if_neg (by decide), if_neg (by decide), if_neg (by decide)] at hb
    obtain rfl : R2 = 0 := r2z h2 (by decide)
    have hu := up8 198 o C F T ht64 v aq rl op RD R1 0 len raw
    have x1 : fi v 1 4096 = fi v 32 128 * 32 + fi v 1 32 := by unfold fi; omega
    rw [x1] at hu
    rw [show (200 : Nat) = 198 + 2 from rfl]
    refine (congrArg (fun z => Option.bind z _) hu).trans ?_
    rw [Option.bind_some, Option.bind_some, if_neg (by decide)]
    refine congrArg (fun z : Int => some (z, (0 : Int))) ?_
    rw [show encT 8 B RD R1 0 v aq rl = W6 (fi v 32 128) (fi v 1 32) R1 (B / 4096 % 8) RD (B % 128) from rfl]
    clear hu hd h1 h2 oo hi hz hf hf0
    obtain ⟨bC, bF, bX⟩ := base_of C F 0 B (by omega) (by omega) (by omega)
    rw [bC, bF]
    clear bC bF bX hb b32
    refine sumA _ _ _ _ _ _ _ ?_ (by unfold W6; omega)
    unfold W6; omega
  · rw [if_neg (by decide), if_neg (by decide), if_pos (by decide)] at hb
    have hT32 : T < 32 := by clear hd h1 h2 oo hi hz hf hf0; omega
    have hu := upA 198 o C F T v aq rl op RD R1 R2 len raw hT32
    rw [show (200 : Nat) = 198 + 2 from rfl]
    refine (congrArg (fun z => Option.bind z _) hu).trans ?_
    rw [Option.bind_some, Option.bind_some, if_neg (by decide)]
    refine congrArg (fun z : Int => some (z, (0 : Int))) ?_
    rw [show encT 10 B RD R1 R2 v aq rl = W6 (B / 33554432 + (if aq = true then 2 else 0) + (if rl = true then 1 else 0)) R2 R1 (B / 4096 % 8) RD (B % 128) from rfl]
    clear hu hd h1 h2 oo hi hz hf hf0
    have eA : (if aq = true then 67108864 else 0 : Nat) = (if aq = true then 2 else 0 : Nat) * 33554432 := by cases aq <;> rfl
    have eR : (if rl = true then 33554432 else 0 : Nat) = (if rl = true then 1 else 0 : Nat) * 33554432 := by cases rl <;> rfl
    have bA : (if aq = true then 2 else 0 : Nat) ≤ 2 := by cases aq <;> decide
    have bR : (if rl = true then 1 else 0 : Nat) ≤ 1 := by cases rl <;> decide
    rw [eA, eR]
    generalize (if aq = true then 2 else 0 : Nat) = A at *
    generalize (if rl = true then 1 else 0 : Nat) = Q at *
    obtain ⟨bC, bF, bX⟩ := base_of C F (T * 4) B (by omega) (by omega) (by omega)
    rw [bC, bF, bX]
    clear bC bF bX hb b32
    refine sumA _ _ _ _ _ _ _ ?_ (by unfold W6; omega)
    unfold W6; omega
  · rw [if_neg (by decide), if_neg (by decide), if_pos (by decide)] at hb
    have hT32 : T < 32 := by clear hd h1 h2 oo hi hz hf hf0; omega
    have hu := upL 198 o C F T v aq rl op RD R1 R2 len raw hT32
    rw [show (200 : Nat) = 198 + 2 from rfl]
    refine (congrArg (fun z => Option.bind z _) hu).trans ?_
    rw [Option.bind_some, Option.bind_some, if_neg (by decide)]
    refine congrArg (fun z : Int => some (z, (0 : Int))) ?_
    rw [show encT 11 B RD R1 R2 v aq rl = W6 (B / 33554432 + (if aq = true then 2 else 0) + (if rl = true then 1 else 0)) R2 R1 (B / 4096 % 8) RD (B % 128) from rfl]
    clear hu hd h1 h2 oo hi hz hf hf0
    have eA : (if aq = true then 67108864 else 0 : Nat) = (if aq = true then 2 else 0 : Nat) * 33554432 := by cases aq <;> rfl
    have eR : (if rl = true then 33554432 else 0 : Nat) = (if rl = true then 1 else 0 : Nat) * 33554432 := by cases rl <;> rfl
    have bA : (if aq = true then 2 else 0 : Nat) ≤ 2 := by cases aq <;> decide
    have bR : (if rl = true then 1 else 0 : Nat) ≤ 1 := by cases rl <;> decide
    rw [eA, eR]
    generalize (if aq = true then 2 else 0 : Nat) = A at *
    generalize (if rl = true then 1 else 0 : Nat) = Q at *
    obtain ⟨bC, bF, bX⟩ := base_of C F (T * 4) B (by omega) (by omega) (by omega)
    rw [bC, bF, bX]
    clear bC bF bX hb b32
    refine sumA _ _ _ _ _ _ _ ?_ (by unfold W6; omega)
    unfold W6; omega
theorem words_true (a0_0 a0_1 a0_2 a0_3 a0_4 : Int) (a0_5 a0_6 : Bool) (a0_7 a0_8 : Int) : anvillaw06_EncodeWords.f 200 a0_0 a0_1 a0_2 a0_3 a0_4 a0_5 a0_6 a0_7 a0_8 = some true := by
  obtain ⟨x, hx1, hx2⟩ := checks_same a0_0 a0_1 a0_2 a0_3 a0_4 a0_5 a0_6 a0_7 a0_8
  unfold anvillaw06_EncodeWords.f
  by_cases c : x = 0
  · subst c
    obtain ⟨n, B, RD, R1, R2, hz, e1, e2, e3, hv, he⟩ := Go.Proofs.YtiibhggjlandmaaDoor.Enc.enc_ok 200 (by decide) _ _ _ _ _ _ _ _ _ hx1
    rw [he, ref_ok _ _ _ _ _ _ _ _ _ hx1 n B RD R1 R2 hz e1 e2 e3 hv]
    simp [anvillaw06_num.f]
  · unfold encode_Encode.f anvilref06_Encode.f
    rw [hx1, hx2]
    simp [c, anvillaw06_num.f]
theorem EncodeWords (a0_0 a0_1 a0_2 a0_3 a0_4 : Int) (a0_5 a0_6 : Bool) (a0_7 a0_8 : Int)
    (_ : -9223372036854775808 ≤ a0_0) (_ : a0_0 ≤ 9223372036854775807) (_ : -9223372036854775808 ≤ a0_1) (_ : a0_1 ≤ 9223372036854775807) (_ : -9223372036854775808 ≤ a0_2) (_ : a0_2 ≤ 9223372036854775807)
    (_ : -9223372036854775808 ≤ a0_3) (_ : a0_3 ≤ 9223372036854775807) (_ : -9223372036854775808 ≤ a0_4) (_ : a0_4 ≤ 9223372036854775807) (_ : -9223372036854775808 ≤ a0_7) (_ : a0_7 ≤ 9223372036854775807) (_ : 0 ≤ a0_8) (_ : a0_8 ≤ 4294967295) :
    ∃ k, anvillaw06_EncodeWords.f k a0_0 a0_1 a0_2 a0_3 a0_4 a0_5 a0_6 a0_7 a0_8 = some true := ⟨200, words_true ..⟩
end Go.Proofs.YtiibhggjlandmaaDoor.Pure
