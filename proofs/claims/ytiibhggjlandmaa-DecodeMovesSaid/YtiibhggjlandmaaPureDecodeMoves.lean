/- DecodeMoves: another register's number is another register, and nothing else. No condition. -/
import Derived.Test.YtiibhggjlandmaaPureDec2
import Derived.Test.YtiibhggjlandmaaPDecodeMovesy3
namespace Go.Proofs.Ytiibhggjlandmaa.Pure
open Go.RowKit Go.Proofs.YtiibhggjlandmaaW.PrintWords Go.Proofs.YtiibhggjlandmaaW.PrintMore Go.Proofs.Ytiibhggjlandmaa.PB Go.Proofs.Ytiibhggjlandmaa.PF Go.Proofs.Ytiibhggjlandmaa.Mth Go.Proofs.Ytiibhggjlandmaa.PDecodeMoves
set_option linter.unusedVariables false
set_option linter.unusedSimpArgs false
set_option maxRecDepth 100000 in
theorem first_moves : ∀ j, anvillaw05_first.f (2010 + j) = some true := by
  have h : anvillaw05_first.f 2010 = some true := by decide +kernel
  intro j
  induction j with
  | zero => exact h
  | succ j ih => exact anvillaw05_first.mono (2010 + j) _ ih
theorem andNot32 (x m c : Nat) (hx : x < 4294967296) (hm : m < 4294967296) (hc : c = 4294967295 - m) : Go.bits .andNot .u32 (x : Int) (m : Int) = ((x &&& c : Nat) : Int) := by
  have hb : x &&& c < 2 ^ 32 := Nat.and_lt_two_pow _ (by omega)
  show IntKind.u32.wrap ((BitVec.ofInt 32 (x : Int) &&& ~~~BitVec.ofInt 32 (m : Int)).toNat : Int) = _
  rw [BitVec.toNat_and, BitVec.toNat_not, ofInt32 x hx, ofInt32 m hm, show (2 : Nat) ^ 32 - 1 - m = c by omega, u32_nat _ (by omega)]
theorem or_split (a b c d i : Nat) (hb : b < 2 ^ i) (hd : d < 2 ^ i) : (a * 2 ^ i + b) ||| (c * 2 ^ i + d) = (a ||| c) * 2 ^ i + (b ||| d) := by
  have hbd : b ||| d < 2 ^ i := Nat.or_lt_two_pow hb hd
  apply Nat.eq_of_testBit_eq
  intro j
  rw [Nat.testBit_or, Nat.mul_comm a, Nat.mul_comm c, Nat.mul_comm (a ||| c), Nat.testBit_two_pow_mul_add _ hb, Nat.testBit_two_pow_mul_add _ hd, Nat.testBit_two_pow_mul_add _ hbd]
  by_cases h : j < i
  · simp only [h, if_true, Nat.testBit_or]
  · simp only [h, if_false, Nat.testBit_or]
/-- Another number in the bits 11:7, in the bits 19:15. -/
def putRd (x r : Nat) : Nat := x / 4096 * 4096 + (r * 128 + x % 128)
def putRs (x r : Nat) : Nat := x / 1048576 * 1048576 + (r * 32768 + x % 32768)
theorem putRd_lt {x r : Nat} (hx : x < 4294967296) (hr : r < 32) : putRd x r < 4294967296 := by unfold putRd; omega
theorem putRs_lt {x r : Nat} (hx : x < 4294967296) (hr : r < 32) : putRs x r < 4294967296 := by unfold putRs; omega
theorem rd_bits (x r : Nat) (hx : x < 4294967296) (hr : r < 32) : Go.bits .or .u32 (Go.bits .andNot .u32 (x : Int) 3968) ((((r : Int) % 4294967296) * 128) % 4294967296) = ((putRd x r : Nat) : Int) := by
  have e1 : Go.bits .andNot .u32 (x : Int) 3968 = ((x &&& 4294963327 : Nat) : Int) := andNot32 x 3968 _ hx (by decide) (by decide)
  have e2 : x &&& 4294963327 = x / 4096 * 2 ^ 12 + x % 128 := by
    rw [and_cut x 4294963327 12 1048575 127 (by decide) (by decide), show (1048575 : Nat) = 2 ^ 20 - 1 from rfl, and_ones, show (127 : Nat) = 2 ^ 7 - 1 from rfl, and_ones]
    omega
  have e3 : (((r : Int) % 4294967296) * 128) % 4294967296 = ((r * 128 : Nat) : Int) := by omega
  rw [e1, e2, e3, or32 _ _ (by omega) (by omega)]
  congr 1
  have h := or_split (x / 4096) (x % 128) 0 (r * 128) 12 (by omega) (by omega)
  rw [Nat.zero_mul, Nat.zero_add, Nat.or_zero] at h
  rw [h]
  unfold putRd
  rw [Nat.or_comm, Nat.mul_comm r, show (128 : Nat) = 2 ^ 7 from rfl, ← Nat.two_pow_add_eq_or_of_lt (Nat.mod_lt x (by decide))]
theorem rs_bits (x r : Nat) (hx : x < 4294967296) (hr : r < 32) : Go.bits .or .u32 (Go.bits .andNot .u32 (x : Int) 1015808) ((((r : Int) % 4294967296) * 32768) % 4294967296) = ((putRs x r : Nat) : Int) := by
  have e1 : Go.bits .andNot .u32 (x : Int) 1015808 = ((x &&& 4293951487 : Nat) : Int) := andNot32 x 1015808 _ hx (by decide) (by decide)
  have e2 : x &&& 4293951487 = x / 1048576 * 2 ^ 20 + x % 32768 := by
    rw [and_cut x 4293951487 20 4095 32767 (by decide) (by decide), show (4095 : Nat) = 2 ^ 12 - 1 from rfl, and_ones, show (32767 : Nat) = 2 ^ 15 - 1 from rfl, and_ones]
    omega
  have e3 : (((r : Int) % 4294967296) * 32768) % 4294967296 = ((r * 32768 : Nat) : Int) := by omega
  rw [e1, e2, e3, or32 _ _ (by omega) (by omega)]
  congr 1
  have h := or_split (x / 1048576) (x % 32768) 0 (r * 32768) 20 (by omega) (by omega)
  rw [Nat.zero_mul, Nat.zero_add, Nat.or_zero] at h
  rw [h]
  unfold putRs
  rw [Nat.or_comm, Nat.mul_comm r, show (32768 : Nat) = 2 ^ 15 from rfl, ← Nat.two_pow_add_eq_or_of_lt (Nat.mod_lt x (by decide))]
theorem rd_keys (x r : Nat) (hr : r < 32) (m : Nat) (hm : m ≠ 4294967295) : key m (putRd x r) = key m x := by
  have e1 : putRd x r % 128 = x % 128 := by unfold putRd; omega
  have e2 : putRd x r / 4096 = x / 4096 := by unfold putRd; omega
  have up : ∀ d, putRd x r / (4096 * d) = x / (4096 * d) := fun d => by rw [← Nat.div_div_eq_div_mul, ← Nat.div_div_eq_div_mul, e2]
  have u1 := up 16384; have u2 := up 8192; have u3 := up 32768; have u4 := up 256
  simp only [Nat.reduceMul] at u1 u2 u3 u4
  unfold key
  rw [if_neg hm, if_neg hm, e1, e2, u1, u2, u3, u4]
theorem z1 (z : Nat) : z % 128 = z % 32768 % 128 := (Nat.mod_mod_of_dvd z ⟨256, rfl⟩).symm
theorem z2 (z : Nat) : z / 4096 % 8 = z % 32768 / 4096 := by omega
theorem rs_keys (x r : Nat) (hr : r < 32) (m : Nat) (hm : m ≠ 4294967295) : key m (putRs x r) = key m x := by
  have e1 : putRs x r % 32768 = x % 32768 := by unfold putRs; omega
  have e2 : putRs x r / 1048576 = x / 1048576 := by unfold putRs; omega
  have up : ∀ d, putRs x r / (1048576 * d) = x / (1048576 * d) := fun d => by rw [← Nat.div_div_eq_div_mul, ← Nat.div_div_eq_div_mul, e2]
  have u1 := up 64; have u2 := up 32; have u3 := up 128
  simp only [Nat.reduceMul] at u1 u2 u3
  have l1 : putRs x r % 128 = x % 128 := by rw [z1, e1, ← z1]
  have l2 : putRs x r / 4096 % 8 = x / 4096 % 8 := by rw [z2, e1, ← z2]
  unfold key
  rw [if_neg hm, if_neg hm, l1, l2, u1, u2, u3, e2]
theorem not_all : ∀ f ∈ formsL, ∀ g ∈ formsL, f.mask ≠ 4294967295 → g.mask = 4294967295 → key f.mask.toNat g.code.toNat ≠ f.code.toNat := by decide +kernel
theorem all_code : ∀ f ∈ formsL, f.mask = 4294967295 ↔ f.shape = 9 := by decide +kernel
theorem mask_nat : ∀ f ∈ formsL, f.mask ≠ 4294967295 → f.mask.toNat ≠ 4294967295 := by decide +kernel
theorem same_form {x y : Nat} {f : Frm} (hx : x < 4294967296) (hy : y < 4294967296) (hf : findF (x : Int) formsL = some f) (hm : f.mask ≠ 4294967295) (hk : ∀ m, m ≠ 4294967295 → key m y = key m x) : findF (y : Int) formsL = some f := by
  rw [← hf]
  obtain ⟨f1, f2⟩ := findF_key hx hf
  refine (findF_same hx hy formsL masks_ok fun g hg => ?_).symm
  by_cases c : g.mask = 4294967295
  · have n := not_all f f1 g hg hm c
    have e : ∀ z, key g.mask.toNat z = z := fun z => by rw [c]; simp [key]
    rw [e, e]
    constructor
    · intro h; rw [← h] at n; exact absurd f2 n
    · intro h; rw [← h, hk _ (mask_nat f f1 hm)] at n; exact absurd f2 n
  · rw [hk _ (mask_nat g hg c)]
theorem has_rd : ∀ f ∈ formsL, anvillaw05_hasRd.f f.op = some (decide (f.shape = 0 ∨ f.shape = 1 ∨ f.shape = 2 ∨ f.shape = 5 ∨ f.shape = 6 ∨ f.shape = 7 ∨ f.shape = 8 ∨ f.shape = 10)) := by decide +kernel
theorem has_rs : ∀ f ∈ formsL, anvillaw05_hasRs1.f f.op = some (decide (f.shape = 2 ∨ f.shape = 3 ∨ f.shape = 4 ∨ f.shape = 5 ∨ f.shape = 6 ∨ f.shape = 7 ∨ f.shape = 8 ∨ f.shape = 10)) := by decide +kernel
theorem rd_flds (x r : Nat) (hr : r < 32) : fld (putRd x r) 11 7 = r ∧ fld (putRd x r) 19 15 = fld x 19 15 ∧ fld (putRd x r) 24 20 = fld x 24 20 ∧ fld (putRd x r) 31 20 = fld x 31 20 ∧ fld (putRd x r) 25 20 = fld x 25 20 ∧ fld (putRd x r) 26 26 = fld x 26 26 ∧ fld (putRd x r) 25 25 = fld x 25 25 ∧ fld (putRd x r) 31 12 = fld x 31 12 ∧ fld (putRd x r) 31 31 = fld x 31 31 ∧ fld (putRd x r) 19 12 = fld x 19 12 ∧ fld (putRd x r) 20 20 = fld x 20 20 ∧ fld (putRd x r) 30 21 = fld x 30 21 ∧ fld (putRd x r) 30 25 = fld x 30 25 ∧ fld (putRd x r) 31 25 = fld x 31 25 := by
  have e2 : putRd x r / 4096 = x / 4096 := by unfold putRd; omega
  have up : ∀ d, putRd x r / (4096 * d) = x / (4096 * d) := fun d => by rw [← Nat.div_div_eq_div_mul, ← Nat.div_div_eq_div_mul, e2]
  unfold fld
  refine ⟨by unfold putRd; omega, congrArg (· % 2 ^ (19 + 1 - 15)) (up 8), congrArg (· % 2 ^ (24 + 1 - 20)) (up 256), congrArg (· % 2 ^ (31 + 1 - 20)) (up 256), congrArg (· % 2 ^ (25 + 1 - 20)) (up 256), congrArg (· % 2 ^ (26 + 1 - 26)) (up 16384), congrArg (· % 2 ^ (25 + 1 - 25)) (up 8192), congrArg (· % 2 ^ (31 + 1 - 12)) (up 1), congrArg (· % 2 ^ (31 + 1 - 31)) (up 524288), congrArg (· % 2 ^ (19 + 1 - 12)) (up 1), congrArg (· % 2 ^ (20 + 1 - 20)) (up 256), congrArg (· % 2 ^ (30 + 1 - 21)) (up 512), congrArg (· % 2 ^ (30 + 1 - 25)) (up 8192), congrArg (· % 2 ^ (31 + 1 - 25)) (up 8192)⟩
theorem rs_flds (x r : Nat) (hr : r < 32) : fld (putRs x r) 19 15 = r ∧ fld (putRs x r) 11 7 = fld x 11 7 ∧ fld (putRs x r) 24 20 = fld x 24 20 ∧ fld (putRs x r) 31 20 = fld x 31 20 ∧ fld (putRs x r) 25 20 = fld x 25 20 ∧ fld (putRs x r) 26 26 = fld x 26 26 ∧ fld (putRs x r) 25 25 = fld x 25 25 ∧ fld (putRs x r) 31 31 = fld x 31 31 ∧ fld (putRs x r) 20 20 = fld x 20 20 ∧ fld (putRs x r) 30 21 = fld x 30 21 ∧ fld (putRs x r) 7 7 = fld x 7 7 ∧ fld (putRs x r) 30 25 = fld x 30 25 ∧ fld (putRs x r) 11 8 = fld x 11 8 ∧ fld (putRs x r) 31 25 = fld x 31 25 := by
  have e1 : putRs x r % 32768 = x % 32768 := by unfold putRs; omega
  have e2 : putRs x r / 1048576 = x / 1048576 := by unfold putRs; omega
  have up : ∀ d, putRs x r / (1048576 * d) = x / (1048576 * d) := fun d => by rw [← Nat.div_div_eq_div_mul, ← Nat.div_div_eq_div_mul, e2]
  unfold fld
  refine ⟨by unfold putRs; omega, by omega, congrArg (· % 2 ^ (24 + 1 - 20)) (up 1), congrArg (· % 2 ^ (31 + 1 - 20)) (up 1), congrArg (· % 2 ^ (25 + 1 - 20)) (up 1), congrArg (· % 2 ^ (26 + 1 - 26)) (up 64), congrArg (· % 2 ^ (25 + 1 - 25)) (up 32), congrArg (· % 2 ^ (31 + 1 - 31)) (up 2048), congrArg (· % 2 ^ (20 + 1 - 20)) (up 1), congrArg (· % 2 ^ (30 + 1 - 21)) (up 2), by omega, congrArg (· % 2 ^ (30 + 1 - 25)) (up 32), by omega, congrArg (· % 2 ^ (31 + 1 - 25)) (up 32)⟩
theorem fill_rd (s : Int) (x r : Nat) (hr : r < 32) (op l w l2 w2 A B C D : Int) (E G : Bool) (hs : s = 0 ∨ s = 1 ∨ s = 2 ∨ s = 5 ∨ s = 6 ∨ s = 7 ∨ s = 8 ∨ s = 10) (h : fillN s x op l w = (op, A, B, C, D, E, G, l, w)) : fillN s (putRd x r) op l2 w2 = (op, (r : Int), B, C, D, E, G, l2, w2) := by
  obtain ⟨e0, e1, e2, e3, e4, e5, e6, e7, e8, e9, e10, e11, e12, e13⟩ := rd_flds x r hr
  rcases hs with rfl | rfl | rfl | rfl | rfl | rfl | rfl | rfl
  · replace h : ((op, ((fld x 11 7 : Nat) : Int), 0, 0, sgn 32 (fld x 31 12 * 4096), false, false, l, w) : Int × Int × Int × Int × Int × Bool × Bool × Int × Int) = (op, A, B, C, D, E, G, l, w) := h
    simp only [Prod.mk.injEq, true_and, and_true] at h
    obtain ⟨rfl, rfl, rfl, rfl, rfl, rfl⟩ := h
    show ((op, ((fld (putRd x r) 11 7 : Nat) : Int), 0, 0, sgn 32 (fld (putRd x r) 31 12 * 4096), false, false, l2, w2) : Int × Int × Int × Int × Int × Bool × Bool × Int × Int) = _
    simp only [immJ, immB, immS, e0, e1, e2, e3, e4, e5, e6, e7, e8, e9, e10, e11, e12, e13]
  · replace h : ((op, ((fld x 11 7 : Nat) : Int), 0, 0, sgn 21 (immJ x), false, false, l, w) : Int × Int × Int × Int × Int × Bool × Bool × Int × Int) = (op, A, B, C, D, E, G, l, w) := h
    simp only [Prod.mk.injEq, true_and, and_true] at h
    obtain ⟨rfl, rfl, rfl, rfl, rfl, rfl⟩ := h
    show ((op, ((fld (putRd x r) 11 7 : Nat) : Int), 0, 0, sgn 21 (immJ (putRd x r)), false, false, l2, w2) : Int × Int × Int × Int × Int × Bool × Bool × Int × Int) = _
    simp only [immJ, immB, immS, e0, e1, e2, e3, e4, e5, e6, e7, e8, e9, e10, e11, e12, e13]
  · replace h : ((op, ((fld x 11 7 : Nat) : Int), ((fld x 19 15 : Nat) : Int), 0, sgn 12 (fld x 31 20), false, false, l, w) : Int × Int × Int × Int × Int × Bool × Bool × Int × Int) = (op, A, B, C, D, E, G, l, w) := h
    simp only [Prod.mk.injEq, true_and, and_true] at h
    obtain ⟨rfl, rfl, rfl, rfl, rfl, rfl⟩ := h
    show ((op, ((fld (putRd x r) 11 7 : Nat) : Int), ((fld (putRd x r) 19 15 : Nat) : Int), 0, sgn 12 (fld (putRd x r) 31 20), false, false, l2, w2) : Int × Int × Int × Int × Int × Bool × Bool × Int × Int) = _
    simp only [immJ, immB, immS, e0, e1, e2, e3, e4, e5, e6, e7, e8, e9, e10, e11, e12, e13]
  · replace h : ((op, ((fld x 11 7 : Nat) : Int), ((fld x 19 15 : Nat) : Int), 0, ((fld x 25 20 : Nat) : Int), false, false, l, w) : Int × Int × Int × Int × Int × Bool × Bool × Int × Int) = (op, A, B, C, D, E, G, l, w) := h
    simp only [Prod.mk.injEq, true_and, and_true] at h
    obtain ⟨rfl, rfl, rfl, rfl, rfl, rfl⟩ := h
    show ((op, ((fld (putRd x r) 11 7 : Nat) : Int), ((fld (putRd x r) 19 15 : Nat) : Int), 0, ((fld (putRd x r) 25 20 : Nat) : Int), false, false, l2, w2) : Int × Int × Int × Int × Int × Bool × Bool × Int × Int) = _
    simp only [immJ, immB, immS, e0, e1, e2, e3, e4, e5, e6, e7, e8, e9, e10, e11, e12, e13]
  · replace h : ((op, ((fld x 11 7 : Nat) : Int), ((fld x 19 15 : Nat) : Int), 0, ((fld x 24 20 : Nat) : Int), false, false, l, w) : Int × Int × Int × Int × Int × Bool × Bool × Int × Int) = (op, A, B, C, D, E, G, l, w) := h
    simp only [Prod.mk.injEq, true_and, and_true] at h
    obtain ⟨rfl, rfl, rfl, rfl, rfl, rfl⟩ := h
    show ((op, ((fld (putRd x r) 11 7 : Nat) : Int), ((fld (putRd x r) 19 15 : Nat) : Int), 0, ((fld (putRd x r) 24 20 : Nat) : Int), false, false, l2, w2) : Int × Int × Int × Int × Int × Bool × Bool × Int × Int) = _
    simp only [immJ, immB, immS, e0, e1, e2, e3, e4, e5, e6, e7, e8, e9, e10, e11, e12, e13]
  · replace h : ((op, ((fld x 11 7 : Nat) : Int), ((fld x 19 15 : Nat) : Int), ((fld x 24 20 : Nat) : Int), 0, false, false, l, w) : Int × Int × Int × Int × Int × Bool × Bool × Int × Int) = (op, A, B, C, D, E, G, l, w) := h
    simp only [Prod.mk.injEq, true_and, and_true] at h
    obtain ⟨rfl, rfl, rfl, rfl, rfl, rfl⟩ := h
    show ((op, ((fld (putRd x r) 11 7 : Nat) : Int), ((fld (putRd x r) 19 15 : Nat) : Int), ((fld (putRd x r) 24 20 : Nat) : Int), 0, false, false, l2, w2) : Int × Int × Int × Int × Int × Bool × Bool × Int × Int) = _
    simp only [immJ, immB, immS, e0, e1, e2, e3, e4, e5, e6, e7, e8, e9, e10, e11, e12, e13]
  · replace h : ((op, ((fld x 11 7 : Nat) : Int), ((fld x 19 15 : Nat) : Int), 0, ((fld x 31 20 : Nat) : Int), false, false, l, w) : Int × Int × Int × Int × Int × Bool × Bool × Int × Int) = (op, A, B, C, D, E, G, l, w) := h
    simp only [Prod.mk.injEq, true_and, and_true] at h
    obtain ⟨rfl, rfl, rfl, rfl, rfl, rfl⟩ := h
    show ((op, ((fld (putRd x r) 11 7 : Nat) : Int), ((fld (putRd x r) 19 15 : Nat) : Int), 0, ((fld (putRd x r) 31 20 : Nat) : Int), false, false, l2, w2) : Int × Int × Int × Int × Int × Bool × Bool × Int × Int) = _
    simp only [immJ, immB, immS, e0, e1, e2, e3, e4, e5, e6, e7, e8, e9, e10, e11, e12, e13]
  · replace h : ((op, ((fld x 11 7 : Nat) : Int), ((fld x 19 15 : Nat) : Int), ((fld x 24 20 : Nat) : Int), 0, ((fld x 26 26 : Nat) : Int) == 1, ((fld x 25 25 : Nat) : Int) == 1, l, w) : Int × Int × Int × Int × Int × Bool × Bool × Int × Int) = (op, A, B, C, D, E, G, l, w) := h
    simp only [Prod.mk.injEq, true_and, and_true] at h
    obtain ⟨rfl, rfl, rfl, rfl, rfl, rfl⟩ := h
    show ((op, ((fld (putRd x r) 11 7 : Nat) : Int), ((fld (putRd x r) 19 15 : Nat) : Int), ((fld (putRd x r) 24 20 : Nat) : Int), 0, ((fld (putRd x r) 26 26 : Nat) : Int) == 1, ((fld (putRd x r) 25 25 : Nat) : Int) == 1, l2, w2) : Int × Int × Int × Int × Int × Bool × Bool × Int × Int) = _
    simp only [immJ, immB, immS, e0, e1, e2, e3, e4, e5, e6, e7, e8, e9, e10, e11, e12, e13]
theorem fill_rs (s : Int) (x r : Nat) (hr : r < 32) (op l w l2 w2 A B C D : Int) (E G : Bool) (hs : s = 2 ∨ s = 3 ∨ s = 4 ∨ s = 5 ∨ s = 6 ∨ s = 7 ∨ s = 8 ∨ s = 10) (h : fillN s x op l w = (op, A, B, C, D, E, G, l, w)) : fillN s (putRs x r) op l2 w2 = (op, A, (r : Int), C, D, E, G, l2, w2) := by
  obtain ⟨e0, e1, e2, e3, e4, e5, e6, e7, e8, e9, e10, e11, e12, e13⟩ := rs_flds x r hr
  rcases hs with rfl | rfl | rfl | rfl | rfl | rfl | rfl | rfl
  · replace h : ((op, ((fld x 11 7 : Nat) : Int), ((fld x 19 15 : Nat) : Int), 0, sgn 12 (fld x 31 20), false, false, l, w) : Int × Int × Int × Int × Int × Bool × Bool × Int × Int) = (op, A, B, C, D, E, G, l, w) := h
    simp only [Prod.mk.injEq, true_and, and_true] at h
    obtain ⟨rfl, rfl, rfl, rfl, rfl, rfl⟩ := h
    show ((op, ((fld (putRs x r) 11 7 : Nat) : Int), ((fld (putRs x r) 19 15 : Nat) : Int), 0, sgn 12 (fld (putRs x r) 31 20), false, false, l2, w2) : Int × Int × Int × Int × Int × Bool × Bool × Int × Int) = _
    simp only [immJ, immB, immS, e0, e1, e2, e3, e4, e5, e6, e7, e8, e9, e10, e11, e12, e13]
  · replace h : ((op, 0, ((fld x 19 15 : Nat) : Int), ((fld x 24 20 : Nat) : Int), sgn 13 (immB x), false, false, l, w) : Int × Int × Int × Int × Int × Bool × Bool × Int × Int) = (op, A, B, C, D, E, G, l, w) := h
    simp only [Prod.mk.injEq, true_and, and_true] at h
    obtain ⟨rfl, rfl, rfl, rfl, rfl, rfl⟩ := h
    show ((op, 0, ((fld (putRs x r) 19 15 : Nat) : Int), ((fld (putRs x r) 24 20 : Nat) : Int), sgn 13 (immB (putRs x r)), false, false, l2, w2) : Int × Int × Int × Int × Int × Bool × Bool × Int × Int) = _
    simp only [immJ, immB, immS, e0, e1, e2, e3, e4, e5, e6, e7, e8, e9, e10, e11, e12, e13]
  · replace h : ((op, 0, ((fld x 19 15 : Nat) : Int), ((fld x 24 20 : Nat) : Int), sgn 12 (immS x), false, false, l, w) : Int × Int × Int × Int × Int × Bool × Bool × Int × Int) = (op, A, B, C, D, E, G, l, w) := h
    simp only [Prod.mk.injEq, true_and, and_true] at h
    obtain ⟨rfl, rfl, rfl, rfl, rfl, rfl⟩ := h
    show ((op, 0, ((fld (putRs x r) 19 15 : Nat) : Int), ((fld (putRs x r) 24 20 : Nat) : Int), sgn 12 (immS (putRs x r)), false, false, l2, w2) : Int × Int × Int × Int × Int × Bool × Bool × Int × Int) = _
    simp only [immJ, immB, immS, e0, e1, e2, e3, e4, e5, e6, e7, e8, e9, e10, e11, e12, e13]
  · replace h : ((op, ((fld x 11 7 : Nat) : Int), ((fld x 19 15 : Nat) : Int), 0, ((fld x 25 20 : Nat) : Int), false, false, l, w) : Int × Int × Int × Int × Int × Bool × Bool × Int × Int) = (op, A, B, C, D, E, G, l, w) := h
    simp only [Prod.mk.injEq, true_and, and_true] at h
    obtain ⟨rfl, rfl, rfl, rfl, rfl, rfl⟩ := h
    show ((op, ((fld (putRs x r) 11 7 : Nat) : Int), ((fld (putRs x r) 19 15 : Nat) : Int), 0, ((fld (putRs x r) 25 20 : Nat) : Int), false, false, l2, w2) : Int × Int × Int × Int × Int × Bool × Bool × Int × Int) = _
    simp only [immJ, immB, immS, e0, e1, e2, e3, e4, e5, e6, e7, e8, e9, e10, e11, e12, e13]
  · replace h : ((op, ((fld x 11 7 : Nat) : Int), ((fld x 19 15 : Nat) : Int), 0, ((fld x 24 20 : Nat) : Int), false, false, l, w) : Int × Int × Int × Int × Int × Bool × Bool × Int × Int) = (op, A, B, C, D, E, G, l, w) := h
    simp only [Prod.mk.injEq, true_and, and_true] at h
    obtain ⟨rfl, rfl, rfl, rfl, rfl, rfl⟩ := h
    show ((op, ((fld (putRs x r) 11 7 : Nat) : Int), ((fld (putRs x r) 19 15 : Nat) : Int), 0, ((fld (putRs x r) 24 20 : Nat) : Int), false, false, l2, w2) : Int × Int × Int × Int × Int × Bool × Bool × Int × Int) = _
    simp only [immJ, immB, immS, e0, e1, e2, e3, e4, e5, e6, e7, e8, e9, e10, e11, e12, e13]
  · replace h : ((op, ((fld x 11 7 : Nat) : Int), ((fld x 19 15 : Nat) : Int), ((fld x 24 20 : Nat) : Int), 0, false, false, l, w) : Int × Int × Int × Int × Int × Bool × Bool × Int × Int) = (op, A, B, C, D, E, G, l, w) := h
    simp only [Prod.mk.injEq, true_and, and_true] at h
    obtain ⟨rfl, rfl, rfl, rfl, rfl, rfl⟩ := h
    show ((op, ((fld (putRs x r) 11 7 : Nat) : Int), ((fld (putRs x r) 19 15 : Nat) : Int), ((fld (putRs x r) 24 20 : Nat) : Int), 0, false, false, l2, w2) : Int × Int × Int × Int × Int × Bool × Bool × Int × Int) = _
    simp only [immJ, immB, immS, e0, e1, e2, e3, e4, e5, e6, e7, e8, e9, e10, e11, e12, e13]
  · replace h : ((op, ((fld x 11 7 : Nat) : Int), ((fld x 19 15 : Nat) : Int), 0, ((fld x 31 20 : Nat) : Int), false, false, l, w) : Int × Int × Int × Int × Int × Bool × Bool × Int × Int) = (op, A, B, C, D, E, G, l, w) := h
    simp only [Prod.mk.injEq, true_and, and_true] at h
    obtain ⟨rfl, rfl, rfl, rfl, rfl, rfl⟩ := h
    show ((op, ((fld (putRs x r) 11 7 : Nat) : Int), ((fld (putRs x r) 19 15 : Nat) : Int), 0, ((fld (putRs x r) 31 20 : Nat) : Int), false, false, l2, w2) : Int × Int × Int × Int × Int × Bool × Bool × Int × Int) = _
    simp only [immJ, immB, immS, e0, e1, e2, e3, e4, e5, e6, e7, e8, e9, e10, e11, e12, e13]
  · replace h : ((op, ((fld x 11 7 : Nat) : Int), ((fld x 19 15 : Nat) : Int), ((fld x 24 20 : Nat) : Int), 0, ((fld x 26 26 : Nat) : Int) == 1, ((fld x 25 25 : Nat) : Int) == 1, l, w) : Int × Int × Int × Int × Int × Bool × Bool × Int × Int) = (op, A, B, C, D, E, G, l, w) := h
    simp only [Prod.mk.injEq, true_and, and_true] at h
    obtain ⟨rfl, rfl, rfl, rfl, rfl, rfl⟩ := h
    show ((op, ((fld (putRs x r) 11 7 : Nat) : Int), ((fld (putRs x r) 19 15 : Nat) : Int), ((fld (putRs x r) 24 20 : Nat) : Int), 0, ((fld (putRs x r) 26 26 : Nat) : Int) == 1, ((fld (putRs x r) 25 25 : Nat) : Int) == 1, l2, w2) : Int × Int × Int × Int × Int × Bool × Bool × Int × Int) = _
    simp only [immJ, immB, immS, e0, e1, e2, e3, e4, e5, e6, e7, e8, e9, e10, e11, e12, e13]
theorem decN_form {x : Nat} {f : Frm} (h : findF (x : Int) formsL = some f) (l w : Int) : decN x l w = fillN f.shape x f.op l w := by unfold decN; rw [h]
theorem j1_moves (x r : Nat) (hx : x < 4294967296) (h3 : x % 4 = 3) (hr : r < 32) (O A B C D : Int) (E G : Bool) (h : decN x 4 (x : Int) = (O, A, B, C, D, E, G, 4, (x : Int))) : anvillaw05_DecodeMoves.j1 2019 (x : Int) (r : Int) O A B C D E G 4 (x : Int) = some true := by
  rw [show (2019 : Nat) = 2018 + 1 from rfl, anvillaw05_DecodeMoves.j1]
  cases hf : findF (x : Int) formsL with
  | none =>
    have hO : O = 0 := by unfold decN at h; rw [hf] at h; exact (congrArg (fun z => z.1) h).symm
    subst hO; rfl
  | some f =>
    have fm := (findF_mem hf).1
    rw [decN_form hf] at h
    obtain ⟨A', B', C', D', E', F', hs⟩ := fillN_split f.shape x f.op
    have hO : f.op = O := by rw [hs] at h; exact congrArg (fun z => z.1) h
    subst hO
    rw [has_rs f fm, Option.bind_some]
    by_cases c : f.shape = 2 ∨ f.shape = 3 ∨ f.shape = 4 ∨ f.shape = 5 ∨ f.shape = 6 ∨ f.shape = 7 ∨ f.shape = 8 ∨ f.shape = 10
    · rw [decide_eq_true c, if_pos rfl, rs_bits x r hx hr]
      have hm : f.mask ≠ 4294967295 := fun e => by have := (all_code f fm).mp e; omega
      have hy := putRs_lt hx hr
      have hg := same_form hx hy hf hm (fun m hm2 => rs_keys x r hr m hm2)
      rw [decode_long (by decide) (putRs x r) hy (by unfold putRs; omega), Option.bind_some, decN_form hg, fill_rs f.shape x r hr f.op 4 (x : Int) 4 ((putRs x r : Nat) : Int) A B C D E G c h]
      simp
    · rw [decide_eq_false c, if_neg (by decide)]
theorem j0_moves (x r : Nat) (hx : x < 4294967296) (h3 : x % 4 = 3) (hr : r < 32) (O A B C D : Int) (E G : Bool) (h : decN x 4 (x : Int) = (O, A, B, C, D, E, G, 4, (x : Int))) : anvillaw05_DecodeMoves.j0 2020 (x : Int) (r : Int) false O A B C D E G 4 (x : Int) = some true := by
  have J := j1_moves x r hx h3 hr O A B C D E G h
  rw [show (2020 : Nat) = 2019 + 1 from rfl, anvillaw05_DecodeMoves.j0, if_neg (by decide)]
  cases hf : findF (x : Int) formsL with
  | none =>
    have hO : O = 0 := by unfold decN at h; rw [hf] at h; exact (congrArg (fun z => z.1) h).symm
    subst hO
    rw [show anvillaw05_hasRd.f 0 = some false from rfl, Option.bind_some, if_neg (by decide)]; exact J
  | some f =>
    have fm := (findF_mem hf).1
    have h' := h
    rw [decN_form hf] at h'
    obtain ⟨A', B', C', D', E', F', hs⟩ := fillN_split f.shape x f.op
    have hO : f.op = O := by rw [hs] at h'; exact congrArg (fun z => z.1) h'
    subst hO
    rw [has_rd f fm, Option.bind_some]
    by_cases c : f.shape = 0 ∨ f.shape = 1 ∨ f.shape = 2 ∨ f.shape = 5 ∨ f.shape = 6 ∨ f.shape = 7 ∨ f.shape = 8 ∨ f.shape = 10
    · rw [decide_eq_true c, if_pos rfl, rd_bits x r hx hr]
      have hm : f.mask ≠ 4294967295 := fun e => by have := (all_code f fm).mp e; omega
      have hy := putRd_lt hx hr
      have hg := same_form hx hy hf hm (fun m hm2 => rd_keys x r hr m hm2)
      rw [decode_long (by decide) (putRd x r) hy (by unfold putRd; omega), Option.bind_some, decN_form hg, fill_rd f.shape x r hr f.op 4 (x : Int) 4 ((putRd x r : Nat) : Int) A B C D E G c h', if_neg (by simp)]
      exact J
    · rw [decide_eq_false c, if_neg (by decide)]; exact J
theorem DecodeMoves : anvillaw05_DecodeMoves.Pure := by
  intro a0 a1 w0 w1
  have hb : 0 ≤ a0 ∧ a0 < 4294967296 := by
    simp only [Lit.wf, IntKind.min, IntKind.max, IntKind.signed, IntKind.bits, Bool.and_eq_true, decide_eq_true_eq] at w0
    simp at w0; omega
  obtain ⟨a, rfl⟩ : ∃ n : Nat, a0 = n := ⟨a0.toNat, by omega⟩
  refine ⟨2020, ?_⟩
  have or3 : ∀ x : Nat, x < 4294967296 → ∃ y : Nat, Go.bits .or .u32 (x : Int) 3 = (y : Int) ∧ y < 4294967296 ∧ y % 4 = 3 := fun x hx => by
    refine ⟨x ||| 3, or32 x 3 hx (by decide), Nat.or_lt_two_pow (n := 32) hx (by decide), ?_⟩
    have h1 := Nat.and_two_pow_sub_one_eq_mod (x ||| 3) 2
    rw [show (2 : Nat) ^ 2 - 1 = 3 from rfl, Nat.and_or_distrib_right, Nat.and_self] at h1
    rw [show (4 : Nat) = 2 ^ 2 from rfl, ← h1]
    have h2 : x &&& 3 ≤ 3 := Nat.and_le_right
    rcases (show x &&& 3 = 0 ∨ x &&& 3 = 1 ∨ x &&& 3 = 2 ∨ x &&& 3 = 3 by omega) with h | h | h | h <;> rw [h] <;> rfl
  obtain ⟨x, hx, hx1, hx3⟩ := or3 a (by omega)
  have lens : ∀ (e : Nat) (len raw : Int), (decN e len raw).2.2.2.2.2.2.2.1 = len ∧ (decN e len raw).2.2.2.2.2.2.2.2 = raw := fun e len raw => by
    unfold decN
    cases h : findF (e : Int) formsL with
    | none => exact ⟨rfl, rfl⟩
    | some f =>
      obtain ⟨A, B, C, D', E, F, hs⟩ := fillN_split f.shape e f.op
      show (fillN f.shape e f.op len raw).2.2.2.2.2.2.2.1 = len ∧ (fillN f.shape e f.op len raw).2.2.2.2.2.2.2.2 = raw
      rw [hs]; exact ⟨rfl, rfl⟩
  unfold anvillaw05_DecodeMoves.f
  rw [hx, decode_long (by decide) x hx1 hx3, Option.bind_some, show (2020 : Nat) = 2010 + 10 from rfl, first_moves 10, Option.bind_some, if_pos rfl]
  have L1 := lens x 4 x
  have J := j0_moves x
  generalize hX : decN x 4 (x : Int) = X at *
  obtain ⟨O, A, B, C, D, E, G, l, w⟩ := X
  obtain ⟨rfl, rfl⟩ := L1
  simp only
  unfold anvillaw05_reg.f
  have out : ∀ b : Bool, b = true → anvillaw05_DecodeMoves.j0 (2010 + 10) (x : Int) a1 b O A B C D E G 4 (x : Int) = some true := fun b hb => by
    rw [show (2010 + 10 : Nat) = (2010 + 9) + 1 from rfl, anvillaw05_DecodeMoves.j0, if_pos hb, first_moves 9, Option.bind_some]
  by_cases c0 : a1 ≥ 0
  · rw [if_pos c0, Option.bind_some]
    by_cases c1 : a1 ≤ 31
    · obtain ⟨r, rfl⟩ : ∃ n : Nat, a1 = n := ⟨a1.toNat, by omega⟩
      rw [decide_eq_true c1]
      exact J r hx1 hx3 (by omega) O A B C D E G rfl
    · rw [decide_eq_false c1]; exact out _ rfl
  · rw [if_neg c0, Option.bind_some]; exact out _ rfl
end Go.Proofs.Ytiibhggjlandmaa.Pure
