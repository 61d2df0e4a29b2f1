/- decode.Decode: what a raw's form depends on; what Decode answers, by its form. Plain facts over the printed functions. -/
import Derived.Test.YtiibhggjlandmaaPureDec
namespace Go.Proofs.Ytiibhggjlandmaa.Pure
open Go.RowKit Go.Proofs.YtiibhggjlandmaaW.PrintWords Go.Proofs.YtiibhggjlandmaaW.PrintMore Go.Proofs.Ytiibhggjlandmaa.PB Go.Proofs.Ytiibhggjlandmaa.PF Go.Proofs.Ytiibhggjlandmaa.Mth
set_option linter.unusedVariables false
set_option linter.unusedSimpArgs false

theorem ofInt32 (a : Nat) (h : a < 4294967296) : (BitVec.ofInt 32 (a : Int)).toNat = a := by
  rw [BitVec.ofInt_natCast, BitVec.toNat_ofNat]; exact Nat.mod_eq_of_lt (by omega)
theorem u32_nat (n : Nat) (h : n < 4294967296) : IntKind.u32.wrap (n : Int) = (n : Int) := by rw [IntKind.wrap_u32]; omega
theorem and32 (a b : Nat) (ha : a < 4294967296) (hb : b < 4294967296) : Go.bits .and .u32 (a : Int) (b : Int) = ((a &&& b : Nat) : Int) := by
  have hx : a &&& b < 2 ^ 32 := Nat.and_lt_two_pow _ (by omega)
  show IntKind.u32.wrap ((BitVec.ofInt 32 (a : Int) &&& BitVec.ofInt 32 (b : Int)).toNat : Int) = _
  rw [BitVec.toNat_and, ofInt32 a ha, ofInt32 b hb, u32_nat _ (by omega)]
theorem or32 (a b : Nat) (ha : a < 4294967296) (hb : b < 4294967296) : Go.bits .or .u32 (a : Int) (b : Int) = ((a ||| b : Nat) : Int) := by
  have hx : a ||| b < 2 ^ 32 := Nat.or_lt_two_pow (by omega) (by omega)
  show IntKind.u32.wrap ((BitVec.ofInt 32 (a : Int) ||| BitVec.ofInt 32 (b : Int)).toNat : Int) = _
  rw [BitVec.toNat_or, ofInt32 a ha, ofInt32 b hb, u32_nat _ (by omega)]
theorem or32_sum (y x i : Nat) (hx : x < 2 ^ i) (h : y * 2 ^ i + x < 4294967296) : Go.bits .or .u32 ((y * 2 ^ i : Nat) : Int) (x : Int) = ((y * 2 ^ i + x : Nat) : Int) := by
  rw [or32 _ _ (by omega) (by omega)]
  congr 1
  rw [Nat.mul_comm, ← Nat.two_pow_add_eq_or_of_lt hx]
theorem and_ones (r n : Nat) : r &&& (2 ^ n - 1) = r % 2 ^ n := Nat.and_two_pow_sub_one_eq_mod r n
theorem and32_3 (r : Nat) (hr : r < 4294967296) : Go.bits .and .u32 (r : Int) 3 = ((r % 4 : Nat) : Int) := by
  have := and32 r 3 hr (by decide); rw [show (3 : Nat) = 2 ^ 2 - 1 from rfl, and_ones] at this; exact this
theorem and32_low (r : Nat) (hr : r < 4294967296) : Go.bits .and .u32 (r : Int) 65535 = ((r % 65536 : Nat) : Int) := by
  have := and32 r 65535 hr (by decide); rw [show (65535 : Nat) = 2 ^ 16 - 1 from rfl, and_ones] at this; exact this
/-- And, part by part. -/
theorem and_split (a b c d i : Nat) (hb : b < 2 ^ i) (hd : d < 2 ^ i) : (a * 2 ^ i + b) &&& (c * 2 ^ i + d) = (a &&& c) * 2 ^ i + (b &&& d) := by
  have hbd : b &&& d < 2 ^ i := Nat.and_lt_two_pow _ hd
  apply Nat.eq_of_testBit_eq
  intro j
  rw [Nat.testBit_and, Nat.mul_comm a, Nat.mul_comm c, Nat.mul_comm (a &&& c), Nat.testBit_two_pow_mul_add _ hb, Nat.testBit_two_pow_mul_add _ hd, Nat.testBit_two_pow_mul_add _ hbd]
  by_cases h : j < i
  · simp only [h, if_true, Nat.testBit_and]
  · simp only [h, if_false, Nat.testBit_and]
theorem and_cut (r m i c d : Nat) (hm : m = c * 2 ^ i + d) (hd : d < 2 ^ i) : r &&& m = (r / 2 ^ i &&& c) * 2 ^ i + (r % 2 ^ i &&& d) := by
  have : r = r / 2 ^ i * 2 ^ i + r % 2 ^ i := by rw [Nat.mul_comm]; exact (Nat.div_add_mod _ _).symm
  conv => lhs; rw [this, hm]
  exact and_split _ _ _ _ _ (Nat.mod_lt _ (pow_pos2 i)) hd

/-- What the forms' masks take of a raw: opcode, f3, and the bits above 20. -/
def key (m r : Nat) : Nat := if m = 4294967295 then r else r % 128 + (if m = 127 then 0 else r / 4096 % 8 * 4096) + (if m = 4227887231 then r / 67108864 % 64 * 67108864 else if m = 4261441663 then r / 33554432 % 128 * 33554432 else if m = 4160778367 then r / 134217728 % 32 * 134217728 else if m = 4193284223 then r / 134217728 % 32 * 134217728 + r / 1048576 % 32 * 1048576 else 0)
theorem and_f3 (r : Nat) : r &&& 28799 = r % 128 + r / 4096 % 8 * 4096 := by
  rw [and_cut r 28799 12 7 127 (by decide) (by decide), show (7 : Nat) = 2 ^ 3 - 1 from rfl, and_ones, show (127 : Nat) = 2 ^ 7 - 1 from rfl, and_ones]
  omega
theorem and_key (r : Nat) (hr : r < 4294967296) (m : Nat) (hm : m = 127 ∨ m = 28799 ∨ m = 4227887231 ∨ m = 4261441663 ∨ m = 4160778367 ∨ m = 4294967295 ∨ m = 4193284223) : r &&& m = key m r := by
  have f3 : ∀ i, 15 ≤ i → r % 2 ^ i &&& 28799 = r % 128 + r / 4096 % 8 * 4096 := fun i hi => by
    obtain ⟨d, rfl⟩ : ∃ d, i = 15 + d := ⟨i - 15, by omega⟩
    have hp : 2 ^ (15 + d) = 32768 * 2 ^ d := by rw [Nat.pow_add]
    rw [and_f3]
    have e1 : r % 2 ^ (15 + d) % 32768 = r % 32768 := by rw [hp, Nat.mod_mul_right_mod]
    omega
  rcases hm with rfl | rfl | rfl | rfl | rfl | rfl | rfl
  · rw [show (127 : Nat) = 2 ^ 7 - 1 from rfl, and_ones]; simp [key]
  · rw [and_f3]; simp [key]
  · rw [and_cut r 4227887231 26 63 28799 (by decide) (by decide), show (63 : Nat) = 2 ^ 6 - 1 from rfl, and_ones, f3 26 (by decide)]; simp [key]; omega
  · rw [and_cut r 4261441663 25 127 28799 (by decide) (by decide), show (127 : Nat) = 2 ^ 7 - 1 from rfl, and_ones, f3 25 (by decide)]; simp [key]; omega
  · rw [and_cut r 4160778367 27 31 28799 (by decide) (by decide), show (31 : Nat) = 2 ^ 5 - 1 from rfl, and_ones, f3 27 (by decide)]; simp [key]; omega
  · rw [show (4294967295 : Nat) = 2 ^ 32 - 1 from rfl, and_ones]; simp [key]; omega
  · rw [and_cut r 4193284223 27 31 32534655 (by decide) (by decide), show (31 : Nat) = 2 ^ 5 - 1 from rfl, and_ones]
    rw [and_cut (r % 2 ^ 27) 32534655 20 31 28799 (by decide) (by decide), show (31 : Nat) = 2 ^ 5 - 1 from rfl, and_ones]
    have e2 : r % 2 ^ 27 % 2 ^ 20 = r % 2 ^ 20 := by omega
    rw [e2, f3 20 (by decide)]; simp [key]; omega

/-- The masks and codes as natural numbers. -/
def maskOk (f : Frm) : Bool := (f.mask == 127 || f.mask == 28799 || f.mask == 4227887231 || f.mask == 4261441663 || f.mask == 4160778367 || f.mask == 4294967295 || f.mask == 4193284223) && decide (0 ≤ f.code) && decide (f.code < 4294967296)
theorem masks_ok : ∀ f ∈ formsL, maskOk f = true := by decide
theorem match_key (r : Nat) (hr : r < 4294967296) (f : Frm) (hf : maskOk f = true) : Go.bits .and .u32 (r : Int) f.mask = f.code ↔ key f.mask.toNat r = f.code.toNat := by
  simp only [maskOk, Bool.and_eq_true, Bool.or_eq_true, beq_iff_eq, decide_eq_true_eq] at hf
  obtain ⟨⟨hm, h0⟩, h1⟩ := hf
  have hb : f.mask.toNat < 4294967296 := by omega
  have e : f.mask = ((f.mask.toNat : Nat) : Int) := by omega
  have k := and_key r hr f.mask.toNat (by omega)
  rw [e, and32 r _ hr hb, k, Int.toNat_natCast]
  omega
theorem findF_mem {r : Int} {f : Frm} : ∀ {l : List Frm}, findF r l = some f → f ∈ l ∧ Go.bits .and .u32 r f.mask = f.code
  | g :: l, h => by
    unfold findF at h
    split at h
    · next hm => simp only [Option.some.injEq] at h; subst h; exact ⟨List.mem_cons_self, hm⟩
    · have := findF_mem h; exact ⟨List.mem_cons_of_mem _ this.1, this.2⟩
theorem findF_key {r : Nat} {f : Frm} (hr : r < 4294967296) (h : findF (r : Int) formsL = some f) : f ∈ formsL ∧ key f.mask.toNat r = f.code.toNat :=
  ⟨(findF_mem h).1, (match_key r hr f (masks_ok f (findF_mem h).1)).mp (findF_mem h).2⟩
/-- Two raws that all forms see alike have one form. -/
theorem findF_same {r q : Nat} (hr : r < 4294967296) (hq : q < 4294967296) : ∀ (l : List Frm), (∀ f ∈ l, maskOk f = true) → (∀ f ∈ l, (key f.mask.toNat r = f.code.toNat ↔ key f.mask.toNat q = f.code.toNat)) → findF (r : Int) l = findF (q : Int) l
  | [], _, _ => rfl
  | g :: l, ho, h => by
    have ih := findF_same hr hq l (fun f hf => ho f (List.mem_cons_of_mem _ hf)) (fun f hf => h f (List.mem_cons_of_mem _ hf))
    have hg := h g List.mem_cons_self
    have e1 := match_key r hr g (ho g List.mem_cons_self)
    have e2 := match_key q hq g (ho g List.mem_cons_self)
    unfold findF
    by_cases c : Go.bits .and .u32 (r : Int) g.mask = g.code
    · rw [if_pos c, if_pos (e2.mpr (hg.mp (e1.mp c)))]
    · rw [if_neg c, if_neg (fun c2 => c (e1.mpr (hg.mpr (e2.mp c2)))), ih]

def decN (r : Nat) (len raw : Int) : Int × Int × Int × Int × Int × Bool × Bool × Int × Int := match findF (r : Int) formsL with
  | none => (0, 0, 0, 0, 0, false, false, len, raw)
  | some f => fillN f.shape r f.op len raw
theorem dec_eq {k : Nat} (hk : 70 ≤ k) (r : Nat) (hr : r < 4294967296) (len raw : Int) : decode_dec k (r : Int) len raw = some (decN r len raw) := by
  unfold decode_dec decN
  cases findF (r : Int) formsL with
  | none => rfl
  | some f => exact fill_eq hk f.shape r hr f.op len raw
theorem fillN_split (s : Int) (r : Nat) (op : Int) : ∃ A B C D E F, ∀ len raw, fillN s r op len raw = (op, A, B, C, D, E, F, len, raw) := by
  refine ⟨(fillN s r op 0 0).2.1, (fillN s r op 0 0).2.2.1, (fillN s r op 0 0).2.2.2.1, (fillN s r op 0 0).2.2.2.2.1, (fillN s r op 0 0).2.2.2.2.2.1, (fillN s r op 0 0).2.2.2.2.2.2.1, fun len raw => ?_⟩
  unfold fillN
  by_cases h0 : s = 0
  · simp only [if_pos h0]
  by_cases h1 : s = 1
  · simp only [if_neg h0, if_pos h1]
  by_cases h2 : s = 2
  · simp only [if_neg h0, if_neg h1, if_pos h2]
  by_cases h3 : s = 3
  · simp only [if_neg h0, if_neg h1, if_neg h2, if_pos h3]
  by_cases h4 : s = 4
  · simp only [if_neg h0, if_neg h1, if_neg h2, if_neg h3, if_pos h4]
  by_cases h5 : s = 5
  · simp only [if_neg h0, if_neg h1, if_neg h2, if_neg h3, if_neg h4, if_pos h5]
  by_cases h6 : s = 6
  · simp only [if_neg h0, if_neg h1, if_neg h2, if_neg h3, if_neg h4, if_neg h5, if_pos h6]
  by_cases h7 : s = 7
  · simp only [if_neg h0, if_neg h1, if_neg h2, if_neg h3, if_neg h4, if_neg h5, if_neg h6, if_pos h7]
  by_cases h8 : s = 8
  · simp only [if_neg h0, if_neg h1, if_neg h2, if_neg h3, if_neg h4, if_neg h5, if_neg h6, if_neg h7, if_pos h8]
  by_cases h10 : s = 10
  · simp only [if_neg h0, if_neg h1, if_neg h2, if_neg h3, if_neg h4, if_neg h5, if_neg h6, if_neg h7, if_neg h8, if_pos h10]
  simp only [if_neg h0, if_neg h1, if_neg h2, if_neg h3, if_neg h4, if_neg h5, if_neg h6, if_neg h7, if_neg h8, if_neg h10]
theorem decode_long {k : Nat} (hk : 70 ≤ k) (r : Nat) (hr : r < 4294967296) (h3 : r % 4 = 3) : decode_Decode.f k (r : Int) = some (decN r 4 r) := by
  unfold decode_Decode.f
  rw [and32_3 r hr, if_pos (by omega), dec_eq hk r hr]
theorem u16_wrap (r : Nat) : IntKind.u16.wrap (r : Int) = ((r % 65536 : Nat) : Int) := by rw [IntKind.wrap_u16]; omega
theorem decode_short {k : Nat} (hk : 70 ≤ k) (r e : Nat) (b : Bool) (hr : r < 4294967296) (he : e < 4294967296) (h3 : r % 4 ≠ 3) (hE : decode_Expand.f k ((r % 65536 : Nat) : Int) = some ((e : Int), b)) :
    decode_Decode.f k (r : Int) = some (if b = true then decN e 2 ((r % 65536 : Nat) : Int) else (0, 0, 0, 0, 0, false, false, 2, ((r % 65536 : Nat) : Int))) := by
  unfold decode_Decode.f
  rw [and32_3 r hr, if_neg (by omega), u16_wrap, hE, Option.bind_some, and32_low r hr]
  cases b with
  | true => simp only [if_true]; exact dec_eq hk e he _ _
  | false => rfl
theorem ops_ok : ∀ f ∈ formsL, 1 ≤ f.op ∧ f.op < 97 := by decide
end Go.Proofs.Ytiibhggjlandmaa.Pure
