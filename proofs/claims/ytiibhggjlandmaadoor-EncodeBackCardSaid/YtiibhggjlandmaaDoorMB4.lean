/- Texts of this claim, put together by a program: PureEnc, Middle. -/
import Derived.Test.YtiibhggjlandmaaDoorMBxPEW2
import Derived.Test.YtiibhggjlandmaaDoorMB0
import Derived.KernelRfl
/- encode.Encode in closed form: a word of six parts. Plain facts over the printed functions. No condition. -/
namespace Go.Proofs.YtiibhggjlandmaaDoor.Enc
open Go.RowKit Go.Proofs.YtiibhggjlandmaaDoorW.PrintWords Go.Proofs.YtiibhggjlandmaaDoor.PF Go.Proofs.YtiibhggjlandmaaDoor.PL
set_option linter.unusedVariables false
set_option linter.unusedSimpArgs false
/-- A word of six parts: 7, 5, 5, 3, 5 and 7 bits. -/
def W6 (t y x f r c : Nat) : Nat := ((((t * 32 + y) * 32 + x) * 8 + f) * 32 + r) * 128 + c
theorem pw (n : Nat) : 0 < 2 ^ n := Nat.two_pow_pos n
theorem or_split (a b c d i : Nat) (hb : b < 2 ^ i) (hd : d < 2 ^ i) : (a * 2 ^ i + b) ||| (c * 2 ^ i + d) = (a ||| c) * 2 ^ i + (b ||| d) := by
  have hbd : b ||| d < 2 ^ i := Nat.or_lt_two_pow hb hd
  apply Nat.eq_of_testBit_eq
  intro j
  rw [Nat.testBit_or, Nat.mul_comm a, Nat.mul_comm c, Nat.mul_comm (a ||| c), Nat.testBit_two_pow_mul_add _ hb, Nat.testBit_two_pow_mul_add _ hd, Nat.testBit_two_pow_mul_add _ hbd]
  by_cases h : j < i
  · simp only [h, if_true, Nat.testBit_or]
  · simp only [h, if_false, Nat.testBit_or]
theorem or6 (t y x f r c t' y' x' f' r' c' : Nat) (h1 : y < 32) (h2 : x < 32) (h3 : f < 8) (h4 : r < 32) (h5 : c < 128) (g1 : y' < 32) (g2 : x' < 32) (g3 : f' < 8) (g4 : r' < 32) (g5 : c' < 128) :
    W6 t y x f r c ||| W6 t' y' x' f' r' c' = W6 (t ||| t') (y ||| y') (x ||| x') (f ||| f') (r ||| r') (c ||| c') := by
  unfold W6
  rw [show (128 : Nat) = 2 ^ 7 from rfl, show (32 : Nat) = 2 ^ 5 from rfl, show (8 : Nat) = 2 ^ 3 from rfl, or_split _ _ _ _ _ h5 g5, or_split _ _ _ _ _ h4 g4, or_split _ _ _ _ _ h3 g3, or_split _ _ _ _ _ h2 g2, or_split _ _ _ _ _ h1 g1]
theorem ofInt32 (a : Nat) (h : a < 4294967296) : (BitVec.ofInt 32 (a : Int)).toNat = a := by
  rw [BitVec.ofInt_natCast, BitVec.toNat_ofNat]; exact Nat.mod_eq_of_lt (by omega)
theorem u32_nat (n : Nat) (h : n < 4294967296) : IntKind.u32.wrap (n : Int) = (n : Int) := by rw [IntKind.wrap_u32]; omega
theorem and32 (a b : Nat) (ha : a < 4294967296) (hb : b < 4294967296) : Go.bits .and .u32 (a : Int) (b : Int) = ((a &&& b : Nat) : Int) := by
  have hx : a &&& b < 2 ^ 32 := Nat.and_lt_two_pow _ (by omega)
  show IntKind.u32.wrap ((BitVec.ofInt 32 (a : Int) &&& BitVec.ofInt 32 (b : Int)).toNat : Int) = _
  rw [BitVec.toNat_and, ofInt32 a ha, ofInt32 b hb, u32_nat _ (by omega)]
theorem or32 (a b : Nat) (ha : a < 4294967296) (hb : b < 4294967296) : Go.bits .or .u32 (a : Int) (b : Int) = ((a ||| b : Nat) : Int) := by
  have hx : a ||| b < 2 ^ 32 := Nat.or_lt_two_pow (by omega) (by omega)
  show IntKind.u32.wrap ((BitVec.ofInt 32 (a : Int) ||| BitVec.ofInt 32 (b : Int)).toNat : Int) = _
  rw [BitVec.toNat_or, ofInt32 a ha, ofInt32 b hb, u32_nat _ (by omega)]
/-- Bits of a signed number: from 2 ^ lo on, below b. -/
def fi (v : Int) (a b : Int) : Nat := (v / a % b).toNat
theorem fi_lt (v a b : Int) (h : 0 < b) : (fi v a b : Int) < b := by
  unfold fi
  have := Int.emod_lt_of_pos (v / a) h
  have := Int.emod_nonneg (v / a) (show b ≠ 0 by omega)
  omega
theorem shr64 (v : Int) (lo : Nat) (h : lo ≤ 63) : shr .i64 v (lo : Int) = v / 2 ^ lo := by
  unfold shr
  rw [Int.toNat_natCast, Nat.min_eq_left (by simp [IntKind.bits]; omega)]
theorem shl32 (x at_ : Nat) (h : at_ ≤ 31) (hx : x * 2 ^ at_ < 4294967296) : shl .u32 (x : Int) (at_ : Int) = ((x * 2 ^ at_ : Nat) : Int) := by
  have e : shl .u32 (x : Int) (at_ : Int) = IntKind.u32.wrap ((x * 2 ^ at_ : Nat) : Int) := by
    unfold shl
    rw [Int.toNat_natCast, Nat.min_eq_left (by simp [IntKind.bits]; omega)]; simp
  rw [e, u32_nat _ hx]
theorem move_eq (v : Int) (lo n at_ : Nat) (h1 : lo ≤ 63) (h2 : n ≤ 31) (h3 : n + at_ ≤ 32) (h4 : at_ ≤ 31) :
    shl .u32 (Go.bits .and .u32 ((shr .i64 v (lo : Int)) % 4294967296) (((shl .u32 1 (n : Int)) - 1) % 4294967296)) (at_ : Int) = ((fi v (2 ^ lo) (2 ^ n) * 2 ^ at_ : Nat) : Int) := by
  have p1 : 2 ^ n * 2 ^ at_ ≤ 4294967296 := by rw [← Nat.pow_add]; exact Nat.pow_le_pow_right (by decide) h3
  have p2 : 2 ^ n ≤ 2147483648 := Nat.pow_le_pow_right (n := 2) (by decide) h2
  have p0 := pw n
  have e1 : shl .u32 1 (n : Int) = ((2 ^ n : Nat) : Int) := by
    have := shl32 1 n h2 (by omega)
    rw [Nat.one_mul] at this; exact this
  have e2 : ((((2 ^ n : Nat) : Int)) - 1) % 4294967296 = ((2 ^ n - 1 : Nat) : Int) := by omega
  have hb : (0 : Int) ≤ v / 2 ^ lo % 4294967296 := Int.emod_nonneg _ (by decide)
  have hc : v / 2 ^ lo % 4294967296 < 4294967296 := Int.emod_lt_of_pos _ (by decide)
  obtain ⟨X, hX⟩ : ∃ X : Nat, v / 2 ^ lo % 4294967296 = (X : Int) := ⟨(v / 2 ^ lo % 4294967296).toNat, by omega⟩
  rw [shr64 v lo h1, hX, e1, e2, and32 X (2 ^ n - 1) (by omega) (by omega), Nat.and_two_pow_sub_one_eq_mod]
  have hm := Nat.mod_lt X p0
  have e3 : X % 2 ^ n = fi v (2 ^ lo) (2 ^ n) := by
    have d : ((2 : Int) ^ n) ∣ 4294967296 := by
      refine ⟨2 ^ (32 - n), ?_⟩
      rw [← Int.pow_add, show n + (32 - n) = 32 by omega]; rfl
    unfold fi
    rw [← Int.emod_emod_of_dvd (v / 2 ^ lo) d, hX]
    rw [show ((2 : Int) ^ n) = ((2 ^ n : Nat) : Int) by simp, ← Int.natCast_emod, Int.toNat_natCast]
  rw [← e3]
  refine shl32 _ _ h4 ?_
  have : X % 2 ^ n * 2 ^ at_ < 2 ^ n * 2 ^ at_ := Nat.mul_lt_mul_of_pos_right hm (pw at_)
  omega
/-- One move. -/
def mv (v : Int) (m : S78) : Int := shl .u32 (Go.bits .and .u32 ((shr .i64 v (m.f1)) % 4294967296) (((shl .u32 1 (wrap64 ((wrap64 (m.f0 - m.f1)) + 1))) - 1) % 4294967296)) (m.f2)
def mvOk (m : S78) : Bool := decide (0 ≤ m.f1) && decide (0 ≤ wrap64 ((wrap64 (m.f0 - m.f1)) + 1)) && decide (0 ≤ m.f2)
theorem scat (v : Int) : ∀ (r p : List S78) (k : Nat) (acc : Int), r.length < k → (p ++ r).length < 1000 → (∀ m ∈ r, mvOk m = true) →
    encode_scatter.l0 k v acc (p ++ r) ((p ++ r).length : Int) p.length = some (r.foldl (fun a m => Go.bits .or .u32 a (mv v m)) acc)
  | [], p, k + 1, acc, _, _, _ => by
    rw [encode_scatter.l0, if_neg (by simp)]; rfl
  | a :: r, p, k + 1, acc, h, hb, ho => by
    simp only [List.length_cons, List.length_append] at h hb
    have hg : rd_T78 (p ++ a :: r) (p.length : Int) = a := by simp [rd_T78]
    have ha := ho a List.mem_cons_self
    simp only [mvOk, Bool.and_eq_true, decide_eq_true_eq] at ha
    have hl : ((p ++ a :: r).length : Int) = (p.length : Int) + (r.length : Int) + 1 := by simp; omega
    rw [encode_scatter.l0, hl, if_pos (by omega), if_pos (by omega), if_pos (by omega), hg, if_pos ha.1.1, if_pos ha.1.2, if_pos ha.2]
    have hw : wrap64 ((p.length : Int) + 1) = ((p ++ [a]).length : Nat) := by rw [List.length_append]; simp; unfold wrap64; omega
    rw [hw]
    have := scat v r (p ++ [a]) k (Go.bits .or .u32 acc (mv v a)) (by omega) (by simp; omega) (fun m hm => ho m (List.mem_cons_of_mem _ hm))
    rw [List.append_assoc, List.singleton_append] at this
    rw [show ((p ++ a :: r).length : Int) = (p.length : Int) + (r.length : Int) + 1 by simp; omega] at this
    exact this
theorem scatter_ok (v : Int) (l : List S78) (k : Nat) (hk : 10 ≤ k) (hl : l.length < 10) (ho : ∀ m ∈ l, mvOk m = true) : encode_scatter.f k v l = some (l.foldl (fun a m => Go.bits .or .u32 a (mv v m)) 0) := by
  unfold encode_scatter.f
  have := scat v l [] k 0 (by omega) (by simp; omega) ho
  simpa using this
theorem mv_eq (v : Int) (hi lo at_ : Int) (lo' n at' : Nat) (e1 : lo = lo') (e2 : wrap64 (wrap64 (hi - lo) + 1) = n) (e3 : at_ = at') (h1 : lo' ≤ 63) (h2 : n ≤ 31) (h3 : n + at' ≤ 32) (h4 : at' ≤ 31) :
    mv v ⟨hi, lo, at_⟩ = ((fi v (2 ^ lo') (2 ^ n) * 2 ^ at' : Nat) : Int) := by
  unfold mv; dsimp only
  rw [e2, e1, e3]; exact move_eq v lo' n at' h1 h2 h3 h4
theorem or_w (t y x f r c t' y' x' f' r' c' : Nat) (h0 : t < 128) (h1 : y < 32) (h2 : x < 32) (h3 : f < 8) (h4 : r < 32) (h5 : c < 128) (g0 : t' < 128) (g1 : y' < 32) (g2 : x' < 32) (g3 : f' < 8) (g4 : r' < 32) (g5 : c' < 128) :
    Go.bits .or .u32 (W6 t y x f r c : Nat) (W6 t' y' x' f' r' c' : Nat) = (W6 (t ||| t') (y ||| y') (x ||| x') (f ||| f') (r ||| r') (c ||| c') : Nat) := by
  rw [or32 _ _ (by unfold W6; omega) (by unfold W6; omega), or6 _ _ _ _ _ _ _ _ _ _ _ _ h1 h2 h3 h4 h5 g1 g2 g3 g4 g5]
theorem fb (v : Int) (a b : Int) (n : Nat) (h : b = (n : Int)) (hp : 0 < n) : fi v a b < n := by
  have := fi_lt v a b (by omega); omega
theorem or_tail (y x i : Nat) (hx : x < 2 ^ i) : y * 2 ^ i ||| x = y * 2 ^ i + x := by rw [Nat.mul_comm, ← Nat.two_pow_add_eq_or_of_lt hx]
/-- The scattered bits as words of six parts. -/
theorem sc_S (v : Int) (k : Nat) (hk : 10 ≤ k) : encode_scatter.f k v [⟨11, 5, 25⟩, ⟨4, 0, 7⟩] = some ((W6 (fi v 32 128) 0 0 0 (fi v 1 32) 0 : Nat) : Int) := by
  have b1 := fb v 32 128 128 rfl (by decide); have b2 := fb v 1 32 32 rfl (by decide)
  rw [scatter_ok v _ k hk (by decide) (by decide +kernel)]
  have m1 : mv v ⟨11, 5, 25⟩ = ((W6 (fi v 32 128) 0 0 0 0 0 : Nat) : Int) := by rw [mv_eq v 11 5 25 5 7 25 rfl (by decide +kernel) rfl (by decide) (by decide) (by decide) (by decide)]; congr 1; simp only [W6]; show fi v 32 128 * 33554432 = _; omega
  have m2 : mv v ⟨4, 0, 7⟩ = ((W6 0 0 0 0 (fi v 1 32) 0 : Nat) : Int) := by rw [mv_eq v 4 0 7 0 5 7 rfl (by decide +kernel) rfl (by decide) (by decide) (by decide) (by decide)]; congr 1; simp only [W6]; show fi v 1 32 * 128 = _; omega
  simp only [List.foldl, m1, m2]
  rw [show (0 : Int) = ((W6 0 0 0 0 0 0 : Nat) : Int) from rfl, or_w _ _ _ _ _ _ _ _ _ _ _ _ (by decide) (by decide) (by decide) (by decide) (by decide) (by decide) b1 (by decide) (by decide) (by decide) (by decide) (by decide)]
  simp only [Nat.zero_or]
  rw [or_w _ _ _ _ _ _ _ _ _ _ _ _ b1 (by decide) (by decide) (by decide) (by decide) (by decide) (by decide) (by decide) (by decide) (by decide) b2 (by decide)]
  simp only [Nat.zero_or, Nat.or_zero]
theorem sc_I (v : Int) (k : Nat) (hk : 10 ≤ k) : encode_scatter.f k v [⟨11, 0, 20⟩] = some ((W6 (fi v 32 128) (fi v 1 32) 0 0 0 0 : Nat) : Int) := by
  rw [scatter_ok v _ k hk (by decide) (by decide +kernel)]
  have m1 : mv v ⟨11, 0, 20⟩ = ((W6 (fi v 32 128) (fi v 1 32) 0 0 0 0 : Nat) : Int) := by
    rw [mv_eq v 11 0 20 0 12 20 rfl (by decide +kernel) rfl (by decide) (by decide) (by decide) (by decide)]; congr 1; simp only [W6]; show fi v 1 4096 * 1048576 = _; unfold fi; omega
  have b1 := fb v 32 128 128 rfl (by decide); have b2 := fb v 1 32 32 rfl (by decide)
  simp only [List.foldl, m1]
  rw [show (0 : Int) = ((W6 0 0 0 0 0 0 : Nat) : Int) from rfl, or_w _ _ _ _ _ _ _ _ _ _ _ _ (by decide) (by decide) (by decide) (by decide) (by decide) (by decide) b1 b2 (by decide) (by decide) (by decide) (by decide)]
  simp only [Nat.zero_or]
theorem or2_64 : ∀ a : Fin 2, ∀ b : Fin 64, a.val * 64 ||| b.val = a.val * 64 + b.val := by decide
theorem or_64 (a b : Nat) (ha : a < 2) (hb : b < 64) : a * 64 ||| b = a * 64 + b := or2_64 ⟨a, ha⟩ ⟨b, hb⟩
theorem or2_16 : ∀ a : Fin 2, ∀ b : Fin 16, b.val * 2 ||| a.val = b.val * 2 + a.val := by decide
theorem or_16 (b a : Nat) (ha : a < 2) (hb : b < 16) : b * 2 ||| a = b * 2 + a := or2_16 ⟨a, ha⟩ ⟨b, hb⟩
theorem sc_B (v : Int) (k : Nat) (hk : 10 ≤ k) : encode_scatter.f k v [⟨12, 12, 31⟩, ⟨10, 5, 25⟩, ⟨4, 1, 8⟩, ⟨11, 11, 7⟩] = some ((W6 (fi v 4096 2 * 64 + fi v 32 64) 0 0 0 (fi v 2 16 * 2 + fi v 2048 2) 0 : Nat) : Int) := by
  have b1 := fb v 4096 2 2 rfl (by decide); have b2 := fb v 32 64 64 rfl (by decide); have b3 := fb v 2 16 16 rfl (by decide); have b4 := fb v 2048 2 2 rfl (by decide)
  rw [scatter_ok v _ k hk (by decide) (by decide +kernel)]
  have m1 : mv v ⟨12, 12, 31⟩ = ((W6 (fi v 4096 2 * 64) 0 0 0 0 0 : Nat) : Int) := by rw [mv_eq v 12 12 31 12 1 31 rfl (by decide +kernel) rfl (by decide) (by decide) (by decide) (by decide)]; congr 1; simp only [W6]; show fi v 4096 2 * 2147483648 = _; omega
  have m2 : mv v ⟨10, 5, 25⟩ = ((W6 (fi v 32 64) 0 0 0 0 0 : Nat) : Int) := by rw [mv_eq v 10 5 25 5 6 25 rfl (by decide +kernel) rfl (by decide) (by decide) (by decide) (by decide)]; congr 1; simp only [W6]; show fi v 32 64 * 33554432 = _; omega
  have m3 : mv v ⟨4, 1, 8⟩ = ((W6 0 0 0 0 (fi v 2 16 * 2) 0 : Nat) : Int) := by rw [mv_eq v 4 1 8 1 4 8 rfl (by decide +kernel) rfl (by decide) (by decide) (by decide) (by decide)]; congr 1; simp only [W6]; show fi v 2 16 * 256 = _; omega
  have m4 : mv v ⟨11, 11, 7⟩ = ((W6 0 0 0 0 (fi v 2048 2) 0 : Nat) : Int) := by rw [mv_eq v 11 11 7 11 1 7 rfl (by decide +kernel) rfl (by decide) (by decide) (by decide) (by decide)]; congr 1; simp only [W6]; show fi v 2048 2 * 128 = _; omega
  simp only [List.foldl, m1, m2, m3, m4]
  rw [show (0 : Int) = ((W6 0 0 0 0 0 0 : Nat) : Int) from rfl, or_w _ _ _ _ _ _ _ _ _ _ _ _ (by decide) (by decide) (by decide) (by decide) (by decide) (by decide) (by omega) (by decide) (by decide) (by decide) (by decide) (by decide)]
  simp only [Nat.zero_or]
  rw [or_w _ _ _ _ _ _ _ _ _ _ _ _ (by omega) (by decide) (by decide) (by decide) (by decide) (by decide) (by omega) (by decide) (by decide) (by decide) (by decide) (by decide), or_64 _ _ b1 b2]
  simp only [Nat.zero_or, Nat.or_zero]
  rw [or_w _ _ _ _ _ _ _ _ _ _ _ _ (by omega) (by decide) (by decide) (by decide) (by decide) (by decide) (by decide) (by decide) (by decide) (by decide) (by omega) (by decide)]
  simp only [Nat.zero_or, Nat.or_zero]
  rw [or_w _ _ _ _ _ _ _ _ _ _ _ _ (by omega) (by decide) (by decide) (by decide) (by omega) (by decide) (by decide) (by decide) (by decide) (by decide) (by omega) (by decide), or_16 _ _ b4 b3]
  simp only [Nat.zero_or, Nat.or_zero]
theorem sc_J (v : Int) (k : Nat) (hk : 10 ≤ k) : encode_scatter.f k v [⟨20, 20, 31⟩, ⟨10, 1, 21⟩, ⟨11, 11, 20⟩, ⟨19, 12, 12⟩] = some ((W6 (fi v 1048576 2 * 64 + fi v 32 64) (fi v 2 16 * 2 + fi v 2048 2) (fi v 32768 32) (fi v 4096 8) 0 0 : Nat) : Int) := by
  have b1 := fb v 1048576 2 2 rfl (by decide); have b2 := fb v 32 64 64 rfl (by decide); have b3 := fb v 2 16 16 rfl (by decide); have b4 := fb v 2048 2 2 rfl (by decide)
  have b5 := fb v 32768 32 32 rfl (by decide); have b6 := fb v 4096 8 8 rfl (by decide)
  rw [scatter_ok v _ k hk (by decide) (by decide +kernel)]
  have m1 : mv v ⟨20, 20, 31⟩ = ((W6 (fi v 1048576 2 * 64) 0 0 0 0 0 : Nat) : Int) := by rw [mv_eq v 20 20 31 20 1 31 rfl (by decide +kernel) rfl (by decide) (by decide) (by decide) (by decide)]; congr 1; simp only [W6]; show fi v 1048576 2 * 2147483648 = _; omega
  have m2 : mv v ⟨10, 1, 21⟩ = ((W6 (fi v 32 64) (fi v 2 16 * 2) 0 0 0 0 : Nat) : Int) := by rw [mv_eq v 10 1 21 1 10 21 rfl (by decide +kernel) rfl (by decide) (by decide) (by decide) (by decide)]; congr 1; simp only [W6]; show fi v 2 1024 * 2097152 = _; unfold fi; omega
  have m3 : mv v ⟨11, 11, 20⟩ = ((W6 0 (fi v 2048 2) 0 0 0 0 : Nat) : Int) := by rw [mv_eq v 11 11 20 11 1 20 rfl (by decide +kernel) rfl (by decide) (by decide) (by decide) (by decide)]; congr 1; simp only [W6]; show fi v 2048 2 * 1048576 = _; omega
  have m4 : mv v ⟨19, 12, 12⟩ = ((W6 0 0 (fi v 32768 32) (fi v 4096 8) 0 0 : Nat) : Int) := by rw [mv_eq v 19 12 12 12 8 12 rfl (by decide +kernel) rfl (by decide) (by decide) (by decide) (by decide)]; congr 1; simp only [W6]; show fi v 4096 256 * 4096 = _; unfold fi; omega
  simp only [List.foldl, m1, m2, m3, m4]
  rw [show (0 : Int) = ((W6 0 0 0 0 0 0 : Nat) : Int) from rfl, or_w _ _ _ _ _ _ _ _ _ _ _ _ (by decide) (by decide) (by decide) (by decide) (by decide) (by decide) (by omega) (by decide) (by decide) (by decide) (by decide) (by decide)]
  simp only [Nat.zero_or]
  rw [or_w _ _ _ _ _ _ _ _ _ _ _ _ (by omega) (by decide) (by decide) (by decide) (by decide) (by decide) (by omega) (by omega) (by decide) (by decide) (by decide) (by decide), or_64 _ _ b1 b2]
  simp only [Nat.zero_or, Nat.or_zero]
  rw [or_w _ _ _ _ _ _ _ _ _ _ _ _ (by omega) (by omega) (by decide) (by decide) (by decide) (by decide) (by decide) (by omega) (by decide) (by decide) (by decide) (by decide), or_16 _ _ b4 b3]
  simp only [Nat.zero_or, Nat.or_zero]
  rw [or_w _ _ _ _ _ _ _ _ _ _ _ _ (by omega) (by omega) (by decide) (by decide) (by decide) (by decide) (by decide) (by decide) b5 b6 (by decide) (by decide)]
  simp only [Nat.zero_or, Nat.or_zero]
end Go.Proofs.YtiibhggjlandmaaDoor.Enc
/- encode.middle: the map that it makes, by running its one region; what a look into it answers. No condition. -/
namespace Go.Proofs.YtiibhggjlandmaaDoor.TR
open Go.RowKit Go.Proofs.YtiibhggjlandmaaDoor.PF
set_option linter.unusedVariables false
def midT : List (Int × Int) := [(36, 0), (40, 32), (43, 64), (44, 96), (46, 4096), (45, 4128)]
def midE : List MapEntry := [⟨.int .i64 36, .int .u32 0, 0⟩, ⟨.int .i64 40, .int .u32 32, 1⟩, ⟨.int .i64 43, .int .u32 64, 2⟩, ⟨.int .i64 44, .int .u32 96, 3⟩, ⟨.int .i64 46, .int .u32 4096, 4⟩, ⟨.int .i64 45, .int .u32 4128, 5⟩]
def midO : Obj := .map midE.toArray 6
def midV (w : World) : Value := .map (some w.heap.size)
def midA0 : Act := { tmps := (Value.map none :: List.replicate 2 undef).toArray, defers := [] }
def midA (w : World) : Act := { tmps := #[midV w, midV w, midV w], defers := [] }
set_option maxHeartbeats 8000000 in
set_option maxRecDepth 1000000 in
theorem middle_calls (w : World) : Calls Tryd.prog 48 #[] w fun e w' => e = .returned (midV w) ∧ w' = w.alloc midO := by
  go_enter Tryd.func48, Tryd.ntmps48
  refine wp_seq (wp_region_one (.map none) w midA0 (by kernel_rfl) (by kernel_rfl) ?_)
  refine wp_seq (wp_region_map 107 3 22 Tryd.underlying107 Tryd.underlying3 (midA w, midE, 6) (by kernel_rfl) ?_)
  refine wp_ret ?_
  have e : (midA w).tmps.getD 0 undef = midV w := by kernel_rfl
  have h1 := results_tmp (fn := Tryd.f48) (t := 0) rfl (midA w).tmps Tryd.prog (w.alloc midO)
  rw [e] at h1
  exact bodyPost_ret h1 rfl ⟨rfl, rfl⟩
def findM (x : Int) : List (Int × Int) → Option Int
  | [] => none
  | (o, b) :: r => if x = o then some b else findM x r
theorem findE_mid (x : Int) : findE x midE = (findM x midT).map fun z => .int .u32 z := by
  simp only [findE, midE, midT, findM]
  repeat (split; · rfl)
  rfl
theorem keys_mid : ∀ m ∈ midE, ∃ y, m.key = .int .i64 y := by
  intro m h
  simp only [midE, List.mem_cons, List.not_mem_nil, or_false] at h
  rcases h with rfl | rfl | rfl | rfl | rfl | rfl <;> exact ⟨_, rfl⟩
theorem zeroU (w : World) : (zeroValue 22).run Tryd.prog w = .ok (.int .u32 0) w := by kernel_rfl
theorem run_lookup_mid (w : World) (g : Nat) (x : Int) (hg : w.heap[g]? = some midO) : (Instr.lookup 107 (.map (some g)) (.int .i64 x) true).run Tryd.prog w = .ok (.tuple #[.int .u32 ((findM x midT).getD 0), .bool (findM x midT).isSome]) w := by
  have h := run_lookup_int 107 3 22 w g midE.toArray 6 x _ hg Tryd.underlying107 Tryd.underlying3 keys_mid (zeroU w)
  rw [h, findE_mid]
  cases findM x midT <;> rfl
end Go.Proofs.YtiibhggjlandmaaDoor.TR
