/- Texts of this claim, put together by a program: PureED0, PureEDc0, PureEDc1, PureEDc2, PureEDc3, PureEDc4, PureEDc5, PureEDc6, PureEDc7, PureEDc8, PureEDc9, PureEDc10, PureEDc11, PureEDz, PurePcl. -/
import Derived.Test.YtiibhggjlandmaaDoorMBxPureDE2
import Derived.Test.YtiibhggjlandmaaDoorMB29
/- encode against decode in plain numbers: the record of a legal raw of four bytes can be, and is encoded as that raw. No condition. -/
namespace Go.Proofs.YtiibhggjlandmaaDoor.Pure
open Go.RowKit Go.Proofs.YtiibhggjlandmaaDoorW.PrintWords Go.Proofs.YtiibhggjlandmaaDoorW.PrintMore Go.Proofs.YtiibhggjlandmaaDoor.PB Go.Proofs.YtiibhggjlandmaaDoor.PD Go.Proofs.YtiibhggjlandmaaDoor.Mth
open Go.Proofs.YtiibhggjlandmaaDoor.PF (encode_formOf.f encode_Check.f findT formT hasL bad bad2 chkR findR reachT)
open Go.Proofs.YtiibhggjlandmaaDoor.Enc (W6 fi fb Val immOk encT formN)
set_option linter.unusedVariables false
set_option linter.unusedSimpArgs false
/-- A record that can be is one that Check lets pass. -/
theorem check_of (op : Int) (n B rd rs1 rs2 : Nat) (v : Int) (aq rl : Bool) (len raw : Int) (hz : encode_formOf.f op = some ((n : Int), (B : Int), true)) (hv : Val n B rd rs1 rs2 v aq rl) :
    encode_Check.f op rd rs1 rs2 v aq rl len raw = some 0 := by
  obtain ⟨n12, b32, hf, d, s1, s2, hd, h1, h2, hi, o⟩ := hv
  have nb : ∀ R : Nat, R < 32 → ¬ bad (R : Int) := fun R h => by unfold bad; omega
  unfold encode_Check.f
  rw [hz, Option.bind_some]
  simp only [if_true, if_neg (show ¬ ((n : Int) < 0) by omega), Int.toNat_natCast]
  have c1 : ¬ (bad (rd : Int) ∨ bad (rs1 : Int) ∨ bad (rs2 : Int)) := fun h => by rcases h with h | h | h; exact nb _ d h; exact nb _ s1 h; exact nb _ s2 h
  have ne0 : ∀ R : Nat, R = 0 → ((R : Int) != 0) = false := fun R h => by subst h; rfl
  clear hz hf b32 nb
  have e : n = 0 ∨ n = 1 ∨ n = 2 ∨ n = 3 ∨ n = 4 ∨ n = 5 ∨ n = 6 ∨ n = 7 ∨ n = 8 ∨ n = 9 ∨ n = 10 ∨ n = 11 := by clear hd h1 h2 o c1; omega
  have fin : ∀ (hh : Go.Proofs.YtiibhggjlandmaaDoor.PF.Has) (R : Option Int), R = some 0 → bad2 hh (rd : Int) (rs1 : Int) (rs2 : Int) v aq rl = false →
      (if bad (rd : Int) ∨ bad (rs1 : Int) ∨ bad (rs2 : Int) then some 60 else if bad2 hh (rd : Int) (rs1 : Int) (rs2 : Int) v aq rl = true then some 60 else R) = some (0 : Int) := fun hh R hR hb => by
    rw [if_neg c1, if_neg (by rw [hb]; decide), hR]
  have tm : ∀ m : Int, v % m = 0 → Int.tmod v m = 0 := fun m h => Int.dvd_iff_tmod_eq_zero.mp (Int.dvd_of_emod_eq_zero h)
  rcases e with rfl | rfl | rfl | rfl | rfl | rfl | rfl | rfl | rfl | rfl | rfl | rfl
  · obtain rfl := h1 (.inl rfl)
    obtain rfl : rs2 = 0 := by clear hd h1 o c1; omega
    obtain ⟨rfl, rfl⟩ : aq = false ∧ rl = false := by rcases o with o | o | o; exact absurd o (by decide); exact absurd o (by decide); exact o
    simp only [immOk, if_true] at hi
    refine fin _ _ ?_ (by simp [bad2])
    show chkR v (some (-2147483648, 2147479552, 4096)) = some 0
    simp only [chkR]; rw [if_neg (by omega), if_neg (by decide), if_pos (tm _ hi.2.2)]
  · obtain rfl := h1 (.inr (.inl rfl))
    obtain rfl : rs2 = 0 := by clear hd h1 o c1; omega
    obtain ⟨rfl, rfl⟩ : aq = false ∧ rl = false := by rcases o with o | o | o; exact absurd o (by decide); exact absurd o (by decide); exact o
    simp only [immOk] at hi; simp at hi
    refine fin _ _ ?_ (by simp [bad2])
    show chkR v (some (-1048576, 1048574, 2)) = some 0
    simp only [chkR]; rw [if_neg (by omega), if_neg (by decide), if_pos (tm _ hi.2.2)]
  · obtain rfl : rs2 = 0 := by clear hd h1 o c1; omega
    obtain ⟨rfl, rfl⟩ : aq = false ∧ rl = false := by rcases o with o | o | o; exact absurd o (by decide); exact absurd o (by decide); exact o
    simp only [immOk] at hi; simp at hi
    refine fin _ _ ?_ (by simp [bad2])
    show chkR v (some (-2048, 2047, 1)) = some 0
    simp only [chkR]; rw [if_neg (by omega), if_neg (by decide), if_pos (Int.tmod_one _)]
  · obtain rfl := hd (.inl rfl)
    obtain ⟨rfl, rfl⟩ : aq = false ∧ rl = false := by rcases o with o | o | o; exact absurd o (by decide); exact absurd o (by decide); exact o
    simp only [immOk] at hi; simp at hi
    refine fin _ _ ?_ (by simp [bad2])
    show chkR v (some (-4096, 4094, 2)) = some 0
    simp only [chkR]; rw [if_neg (by omega), if_neg (by decide), if_pos (tm _ hi.2.2)]
  · obtain rfl := hd (.inr (.inl rfl))
    obtain ⟨rfl, rfl⟩ : aq = false ∧ rl = false := by rcases o with o | o | o; exact absurd o (by decide); exact absurd o (by decide); exact o
    simp only [immOk] at hi; simp at hi
    refine fin _ _ ?_ (by simp [bad2])
    show chkR v (some (-2048, 2047, 1)) = some 0
    simp only [chkR]; rw [if_neg (by omega), if_neg (by decide), if_pos (Int.tmod_one _)]
  · obtain ⟨rfl, rfl⟩ : aq = false ∧ rl = false := by rcases o with o | o | o; exact absurd o (by decide); exact absurd o (by decide); exact o
    obtain rfl : v = 0 := by simpa [immOk] using hi
    refine fin _ _ ?_ (by simp [bad2])
    rfl
  · obtain rfl : rs2 = 0 := by clear hd h1 o c1; omega
    obtain ⟨rfl, rfl⟩ : aq = false ∧ rl = false := by rcases o with o | o | o; exact absurd o (by decide); exact absurd o (by decide); exact o
    simp only [immOk] at hi; simp at hi
    refine fin _ _ ?_ (by simp [bad2])
    show chkR v (some (0, 63, 1)) = some 0
    simp only [chkR]; rw [if_neg (by omega), if_neg (by decide), if_pos (Int.tmod_one _)]
  · obtain rfl : rs2 = 0 := by clear hd h1 o c1; omega
    obtain ⟨rfl, rfl⟩ : aq = false ∧ rl = false := by rcases o with o | o | o; exact absurd o (by decide); exact absurd o (by decide); exact o
    simp only [immOk] at hi; simp at hi
    refine fin _ _ ?_ (by simp [bad2])
    show chkR v (some (0, 31, 1)) = some 0
    simp only [chkR]; rw [if_neg (by omega), if_neg (by decide), if_pos (Int.tmod_one _)]
  · obtain rfl : rs2 = 0 := by clear hd h1 o c1; omega
    obtain ⟨rfl, rfl⟩ : aq = false ∧ rl = false := by rcases o with o | o | o; exact absurd o (by decide); exact absurd o (by decide); exact o
    simp only [immOk] at hi; simp at hi
    refine fin _ _ ?_ (by simp [bad2])
    show chkR v (some (0, 4095, 1)) = some 0
    simp only [chkR]; rw [if_neg (by omega), if_neg (by decide), if_pos (Int.tmod_one _)]
  · obtain rfl := hd (.inr (.inr rfl))
    obtain rfl := h1 (.inr (.inr rfl))
    obtain rfl : rs2 = 0 := by clear hd h1 o c1; omega
    obtain ⟨rfl, rfl⟩ : aq = false ∧ rl = false := by rcases o with o | o | o; exact absurd o (by decide); exact absurd o (by decide); exact o
    obtain rfl : v = 0 := by simpa [immOk] using hi
    refine fin ⟨false, false, false, false, false⟩ _ ?_ ?_
    · rfl
    · simp [bad2]
  · obtain rfl : v = 0 := by simpa [immOk] using hi
    refine fin _ _ ?_ (by simp [bad2])
    rfl
  · obtain rfl : rs2 = 0 := by clear hd h1 o c1; omega
    obtain rfl : v = 0 := by simpa [immOk] using hi
    refine fin _ _ ?_ (by simp [bad2])
    rfl
/-- The two tables of forms agree. -/
def tabF (f : Frm) : Bool := match encode_formOf.f f.op with
  | some (n, b, true) => decide (0 ≤ n) && decide (n < 12) && (b == f.code) && (f.shape == shp n.toNat) && formN n.toNat b.toNat && decide (0 ≤ b) && decide (b < 4294967296) &&
      (f.mask == ([127, 127, 28799, 28799, 28799, 4261441663, 4227887231, 4261441663, 28799, 4294967295, 4160778367, 4193284223] : List Int).getD n.toNat 0)
  | _ => false
set_option maxRecDepth 100000 in
theorem tabF_all : ∀ f ∈ formsL, tabF f = true := by decide +kernel
theorem fld_e (r : Nat) (hr : r < 4294967296) : fld r 11 7 = r / 128 % 32 ∧ fld r 19 15 = r / 32768 % 32 ∧ fld r 24 20 = r / 1048576 % 32 ∧ fld r 31 20 = r / 1048576 ∧ fld r 31 12 = r / 4096 ∧ fld r 25 20 = r / 1048576 % 64 ∧ fld r 31 25 = r / 33554432 := by
  unfold fld
  refine ⟨rfl, rfl, rfl, ?_, ?_, rfl, ?_⟩ <;> simp only [Nat.reduceAdd, Nat.reduceSub, Nat.reducePow] <;> omega
theorem sgn12_e (V : Nat) (h : V < 4096) : (sgn 12 V = (V : Int) ∧ V < 2048) ∨ (sgn 12 V = (V : Int) - 4096 ∧ 2048 ≤ V) := by
  unfold sgn; simp only [Nat.reduceSub, Nat.reducePow]; split <;> omega
theorem sgn13_e (V : Nat) (h : V < 8192) : (sgn 13 V = (V : Int) ∧ V < 4096) ∨ (sgn 13 V = (V : Int) - 8192 ∧ 4096 ≤ V) := by
  unfold sgn; simp only [Nat.reduceSub, Nat.reducePow]; split <;> omega
theorem sgn21_e (V : Nat) (h : V < 2097152) : (sgn 21 V = (V : Int) ∧ V < 1048576) ∨ (sgn 21 V = (V : Int) - 2097152 ∧ 1048576 ≤ V) := by
  unfold sgn; simp only [Nat.reduceSub, Nat.reducePow]; split <;> omega
theorem sgn32_e (V : Nat) (h : V < 4294967296) : (sgn 32 V = (V : Int) ∧ V < 2147483648) ∨ (sgn 32 V = (V : Int) - 4294967296 ∧ 2147483648 ≤ V) := by
  unfold sgn; simp only [Nat.reduceSub, Nat.reducePow]; split <;> omega
theorem fi_nat (V : Nat) (v : Int) (m a b : Nat) (ha : 0 < a) (hb : 0 < b) (hm : (a * b) ∣ m) (h : v = (V : Int) ∨ v = (V : Int) - m) : fi v a b = V / a % b := by
  obtain ⟨q, rfl⟩ := hm
  have e : ∀ V : Nat, fi (V : Int) a b = V / a % b := fun V => by
    unfold fi
    rw [← Int.natCast_ediv, ← Int.natCast_emod, Int.toNat_natCast]
  rcases h with rfl | rfl
  · exact e V
  · unfold fi
    have h1 : ((V : Int) - ((a * b * q : Nat) : Int)) / (a : Int) = (V : Int) / a - (b * q : Nat) := by
      rw [show ((a * b * q : Nat) : Int) = (a : Int) * ((b * q : Nat) : Int) by rw [Nat.mul_assoc, Int.natCast_mul]]
      rw [Int.sub_eq_add_neg, Int.neg_mul_eq_mul_neg, Int.add_mul_ediv_left _ _ (by omega)]; omega
    have h2 : ((V : Int) / a - ((b * q : Nat) : Int)) % (b : Int) = (V : Int) / a % b := by
      rw [Int.natCast_mul, Int.sub_eq_add_neg, Int.neg_mul_eq_mul_neg, Int.add_mul_emod_self_left]
    rw [h1, h2]
    exact e V
theorem fi12 (V : Nat) (h : V < 4096) (a b : Nat) (ha : 0 < a) (hb : 0 < b) (hd : a * b ∣ 4096) : fi (sgn 12 V) a b = V / a % b :=
  fi_nat _ _ 4096 a b ha hb hd (by rcases sgn12_e V h with h | h; exact .inl h.1; exact .inr h.1)
theorem fi13 (V : Nat) (h : V < 8192) (a b : Nat) (ha : 0 < a) (hb : 0 < b) (hd : a * b ∣ 8192) : fi (sgn 13 V) a b = V / a % b :=
  fi_nat _ _ 8192 a b ha hb hd (by rcases sgn13_e V h with h | h; exact .inl h.1; exact .inr h.1)
theorem fi21 (V : Nat) (h : V < 2097152) (a b : Nat) (ha : 0 < a) (hb : 0 < b) (hd : a * b ∣ 2097152) : fi (sgn 21 V) a b = V / a % b :=
  fi_nat _ _ 2097152 a b ha hb hd (by rcases sgn21_e V h with h | h; exact .inl h.1; exact .inr h.1)
theorem fi32 (V : Nat) (h : V < 4294967296) (a b : Nat) (ha : 0 < a) (hb : 0 < b) (hd : a * b ∣ 4294967296) : fi (sgn 32 V) a b = V / a % b :=
  fi_nat _ _ 4294967296 a b ha hb hd (by rcases sgn32_e V h with h | h; exact .inl h.1; exact .inr h.1)
theorem fiN (V : Nat) (a b : Nat) (ha : 0 < a) (hb : 0 < b) : fi ((V : Nat) : Int) a b = V / a % b :=
  fi_nat V _ (a * b) a b ha hb (Nat.dvd_refl _) (.inl rfl)
theorem w6_self (r : Nat) : r = W6 (r / 33554432) (r / 1048576 % 32) (r / 32768 % 32) (r / 4096 % 8) (r / 128 % 32) (r % 128) := by unfold W6; omega
theorem fd_ (r : Nat) : fld r 11 7 < 32 := by have := fld_lt r 11 7; simpa using this
theorem fs1_ (r : Nat) : fld r 19 15 < 32 := by have := fld_lt r 19 15; simpa using this
theorem fs2_ (r : Nat) : fld r 24 20 < 32 := by have := fld_lt r 24 20; simpa using this
end Go.Proofs.YtiibhggjlandmaaDoor.Pure
/- enc_dec, shape 0. Written by gen_ed.py. -/
namespace Go.Proofs.YtiibhggjlandmaaDoor.Pure
open Go.RowKit Go.Proofs.YtiibhggjlandmaaDoorW.PrintWords Go.Proofs.YtiibhggjlandmaaDoorW.PrintMore Go.Proofs.YtiibhggjlandmaaDoor.PB Go.Proofs.YtiibhggjlandmaaDoor.PD Go.Proofs.YtiibhggjlandmaaDoor.Mth
open Go.Proofs.YtiibhggjlandmaaDoor.PF (encode_formOf.f encode_Check.f findT formT hasL bad bad2 chkR findR reachT)
open Go.Proofs.YtiibhggjlandmaaDoor.Enc (W6 fi fb Val immOk encT formN)
set_option linter.unusedVariables false
set_option linter.unusedSimpArgs false
set_option maxHeartbeats 4000000 in
theorem enc_dec_0 (r B : Nat) (hr : r < 4294967296) (op : Int) (hform : formN 0 B = true) (b32 : B < 4294967296) (hk : r % 128 = B) (len raw : Int) :
    ∃ n' B' rd rs1 rs2 : Nat, ∃ v : Int, ∃ aq rl : Bool, fillN (shp 0) r op len raw = (op, (rd : Int), (rs1 : Int), (rs2 : Int), v, aq, rl, len, raw) ∧ some (((0 : Nat) : Int), (B : Int), true) = some ((n' : Int), (B' : Int), true) ∧ Val n' B' rd rs1 rs2 v aq rl ∧ encT n' B' rd rs1 rs2 v aq rl = r := by
  have n12 : 0 < 12 := by decide
  have hc : B % 128 = r % 128 := by omega
  have hV : r / 4096 * 4096 < 4294967296 := by omega
  have hs := sgn32_e _ hV
  have g0 : fi (sgn 32 (r / 4096 * 4096)) 33554432 128 = (r / 4096 * 4096) / 33554432 % 128 := fi32 _ hV 33554432 128 (by decide) (by decide) (by decide)
  have g1 : fi (sgn 32 (r / 4096 * 4096)) 1048576 32 = (r / 4096 * 4096) / 1048576 % 32 := fi32 _ hV 1048576 32 (by decide) (by decide) (by decide)
  have g2 : fi (sgn 32 (r / 4096 * 4096)) 32768 32 = (r / 4096 * 4096) / 32768 % 32 := fi32 _ hV 32768 32 (by decide) (by decide) (by decide)
  have g3 : fi (sgn 32 (r / 4096 * 4096)) 4096 8 = (r / 4096 * 4096) / 4096 % 8 := fi32 _ hV 4096 8 (by decide) (by decide) (by decide)
  refine ⟨0, B, fld r 11 7, 0, 0, sgn 32 (fld r 31 12 * 4096), false, false, rfl, rfl, ⟨n12, b32, hform, fd_ r, by decide, by decide, by simp, by simp, by simp, ?_, by simp⟩, ?_⟩
  · rw [(fld_e r hr).2.2.2.2.1]; simp only [immOk, if_true]; clear g0 g1 g2 g3; omega
  · show W6 (fi _ 33554432 128) (fi _ 1048576 32) (fi _ 32768 32) (fi _ 4096 8) (fld r 11 7) (B % 128) = r
    rw [(fld_e r hr).2.2.2.2.1]
    refine (congrArg (fun z => W6 z _ _ _ _ _) g0).trans ((congrArg (fun z => W6 _ z _ _ _ _) g1).trans ((congrArg (fun z => W6 _ _ z _ _ _) g2).trans ((congrArg (fun z => W6 _ _ _ z _ _) g3).trans ?_)))
    rw [(fld_e r hr).1, hc]
    clear g0 g1 g2 g3 hs hV
    unfold W6; omega
end Go.Proofs.YtiibhggjlandmaaDoor.Pure
/- enc_dec, shape 1. Written by gen_ed.py. -/
namespace Go.Proofs.YtiibhggjlandmaaDoor.Pure
open Go.RowKit Go.Proofs.YtiibhggjlandmaaDoorW.PrintWords Go.Proofs.YtiibhggjlandmaaDoorW.PrintMore Go.Proofs.YtiibhggjlandmaaDoor.PB Go.Proofs.YtiibhggjlandmaaDoor.PD Go.Proofs.YtiibhggjlandmaaDoor.Mth
open Go.Proofs.YtiibhggjlandmaaDoor.PF (encode_formOf.f encode_Check.f findT formT hasL bad bad2 chkR findR reachT)
open Go.Proofs.YtiibhggjlandmaaDoor.Enc (W6 fi fb Val immOk encT formN)
set_option linter.unusedVariables false
set_option linter.unusedSimpArgs false
theorem zj_0 (a b c d : Nat) (ha : a < 2) (hb : b < 256) (hc : c < 2) (hd : d < 1024) : (((a * 256 + b) * 2 + c) * 2048 + d * 2) / 1048576 % 2 = a := by omega
theorem zj_1 (a b c d : Nat) (ha : a < 2) (hb : b < 256) (hc : c < 2) (hd : d < 1024) : (((a * 256 + b) * 2 + c) * 2048 + d * 2) / 32 % 64 = d / 16 := by omega
theorem zj_2 (a b c d : Nat) (ha : a < 2) (hb : b < 256) (hc : c < 2) (hd : d < 1024) : (((a * 256 + b) * 2 + c) * 2048 + d * 2) / 2 % 16 = d % 16 := by omega
theorem zj_3 (a b c d : Nat) (ha : a < 2) (hb : b < 256) (hc : c < 2) (hd : d < 1024) : (((a * 256 + b) * 2 + c) * 2048 + d * 2) / 2048 % 2 = c := by omega
theorem zj_4 (a b c d : Nat) (ha : a < 2) (hb : b < 256) (hc : c < 2) (hd : d < 1024) : (((a * 256 + b) * 2 + c) * 2048 + d * 2) / 32768 % 32 = b / 8 := by omega
theorem zj_5 (a b c d : Nat) (ha : a < 2) (hb : b < 256) (hc : c < 2) (hd : d < 1024) : (((a * 256 + b) * 2 + c) * 2048 + d * 2) / 4096 % 8 = b % 8 := by omega
set_option maxHeartbeats 4000000 in
theorem enc_dec_1 (r B : Nat) (hr : r < 4294967296) (op : Int) (hform : formN 1 B = true) (b32 : B < 4294967296) (hk : r % 128 = B) (len raw : Int) :
    ∃ n' B' rd rs1 rs2 : Nat, ∃ v : Int, ∃ aq rl : Bool, fillN (shp 1) r op len raw = (op, (rd : Int), (rs1 : Int), (rs2 : Int), v, aq, rl, len, raw) ∧ some (((1 : Nat) : Int), (B : Int), true) = some ((n' : Int), (B' : Int), true) ∧ Val n' B' rd rs1 rs2 v aq rl ∧ encT n' B' rd rs1 rs2 v aq rl = r := by
  have n12 : 1 < 12 := by decide
  have hc : B % 128 = r % 128 := by omega
  have e1 : fld r 31 31 = r / 2147483648 := by unfold fld; simp only [Nat.reduceAdd, Nat.reduceSub, Nat.reducePow]; omega
  have e2 : fld r 19 12 = r / 4096 % 256 := rfl
  have e3 : fld r 20 20 = r / 1048576 % 2 := rfl
  have e4 : fld r 30 21 = r / 2097152 % 1024 := rfl
  have eV : immJ r = ((r / 2147483648 * 256 + r / 4096 % 256) * 2 + r / 1048576 % 2) * 2048 + r / 2097152 % 1024 * 2 := by unfold immJ; rw [e1, e2, e3, e4]
  have hV : immJ r < 2097152 := by rw [eV]; omega
  have hs := sgn21_e _ hV
  have g0 : fi (sgn 21 (immJ r)) 1048576 2 = (immJ r) / 1048576 % 2 := fi21 _ hV 1048576 2 (by decide) (by decide) (by decide)
  have g1 : fi (sgn 21 (immJ r)) 32 64 = (immJ r) / 32 % 64 := fi21 _ hV 32 64 (by decide) (by decide) (by decide)
  have g2 : fi (sgn 21 (immJ r)) 2 16 = (immJ r) / 2 % 16 := fi21 _ hV 2 16 (by decide) (by decide) (by decide)
  have g3 : fi (sgn 21 (immJ r)) 2048 2 = (immJ r) / 2048 % 2 := fi21 _ hV 2048 2 (by decide) (by decide) (by decide)
  have g4 : fi (sgn 21 (immJ r)) 32768 32 = (immJ r) / 32768 % 32 := fi21 _ hV 32768 32 (by decide) (by decide) (by decide)
  have g5 : fi (sgn 21 (immJ r)) 4096 8 = (immJ r) / 4096 % 8 := fi21 _ hV 4096 8 (by decide) (by decide) (by decide)
  refine ⟨1, B, fld r 11 7, 0, 0, sgn 21 (immJ r), false, false, rfl, rfl, ⟨n12, b32, hform, fd_ r, by decide, by decide, by simp, by simp, by simp, ?_, by simp⟩, ?_⟩
  · have h2 : immJ r % 2 = 0 := by rw [eV]; omega
    simp only [immOk]; simp; clear g0 g1 g2 g3 g4 g5 eV; omega
  · show W6 (fi _ 1048576 2 * 64 + fi _ 32 64) (fi _ 2 16 * 2 + fi _ 2048 2) (fi _ 32768 32) (fi _ 4096 8) (fld r 11 7) (B % 128) = r
    refine (congrArg (fun z => W6 (z * 64 + _) _ _ _ _ _) g0).trans ((congrArg (fun z => W6 (_ + z) _ _ _ _ _) g1).trans ((congrArg (fun z => W6 _ (z * 2 + _) _ _ _ _) g2).trans ((congrArg (fun z => W6 _ (_ + z) _ _ _ _) g3).trans ((congrArg (fun z => W6 _ _ z _ _ _) g4).trans ((congrArg (fun z => W6 _ _ _ z _ _) g5).trans ?_)))))
    rw [(fld_e r hr).1, hc, eV]
    clear g0 g1 g2 g3 g4 g5 hs hV eV
    have q1 : r / 2147483648 < 2 := by omega
    have q2 : r / 4096 % 256 < 256 := Nat.mod_lt _ (by decide)
    have q3 : r / 1048576 % 2 < 2 := Nat.mod_lt _ (by decide)
    have q4 : r / 2097152 % 1024 < 1024 := Nat.mod_lt _ (by decide)
    have z0 : (((r / 2147483648 * 256 + r / 4096 % 256) * 2 + r / 1048576 % 2) * 2048 + r / 2097152 % 1024 * 2) / 1048576 % 2 = r / 2147483648 := zj_0 _ _ _ _ q1 q2 q3 q4
    have z1 : (((r / 2147483648 * 256 + r / 4096 % 256) * 2 + r / 1048576 % 2) * 2048 + r / 2097152 % 1024 * 2) / 32 % 64 = r / 2097152 % 1024 / 16 := zj_1 _ _ _ _ q1 q2 q3 q4
    have z2 : (((r / 2147483648 * 256 + r / 4096 % 256) * 2 + r / 1048576 % 2) * 2048 + r / 2097152 % 1024 * 2) / 2 % 16 = r / 2097152 % 1024 % 16 := zj_2 _ _ _ _ q1 q2 q3 q4
    have z3 : (((r / 2147483648 * 256 + r / 4096 % 256) * 2 + r / 1048576 % 2) * 2048 + r / 2097152 % 1024 * 2) / 2048 % 2 = r / 1048576 % 2 := zj_3 _ _ _ _ q1 q2 q3 q4
    have z4 : (((r / 2147483648 * 256 + r / 4096 % 256) * 2 + r / 1048576 % 2) * 2048 + r / 2097152 % 1024 * 2) / 32768 % 32 = r / 4096 % 256 / 8 := zj_4 _ _ _ _ q1 q2 q3 q4
    have z5 : (((r / 2147483648 * 256 + r / 4096 % 256) * 2 + r / 1048576 % 2) * 2048 + r / 2097152 % 1024 * 2) / 4096 % 8 = r / 4096 % 256 % 8 := zj_5 _ _ _ _ q1 q2 q3 q4
    rw [z0, z1, z2, z3, z4, z5]
    clear z0 z1 z2 z3 z4 z5
    have y1 : r / 2097152 % 1024 / 16 = r / 33554432 % 64 := by (try clear hk); (try clear hc); (try clear hg); (try clear htt); (try clear b32); (try clear hform); (try clear n12); (try clear hs); (try clear hV); (try clear ht); (try clear eV); (try clear g0); (try clear g1); (try clear bA); (try clear bR); (try clear hB0); (try clear hy0); omega
    have y2 : r / 2097152 % 1024 % 16 = r / 2097152 % 16 := by (try clear hk); (try clear hc); (try clear hg); (try clear htt); (try clear b32); (try clear hform); (try clear n12); (try clear hs); (try clear hV); (try clear ht); (try clear eV); (try clear g0); (try clear g1); (try clear bA); (try clear bR); (try clear hB0); (try clear hy0); omega
    have y3 : r / 4096 % 256 / 8 = r / 32768 % 32 := by (try clear hk); (try clear hc); (try clear hg); (try clear htt); (try clear b32); (try clear hform); (try clear n12); (try clear hs); (try clear hV); (try clear ht); (try clear eV); (try clear g0); (try clear g1); (try clear bA); (try clear bR); (try clear hB0); (try clear hy0); omega
    have y4 : r / 4096 % 256 % 8 = r / 4096 % 8 := by (try clear hk); (try clear hc); (try clear hg); (try clear htt); (try clear b32); (try clear hform); (try clear n12); (try clear hs); (try clear hV); (try clear ht); (try clear eV); (try clear g0); (try clear g1); (try clear bA); (try clear bR); (try clear hB0); (try clear hy0); omega
    rw [y1, y2, y3, y4]
    clear y1 y2 y3 y4 q2 q4
    conv => rhs; rw [w6_self r]
    rw [show r / 2147483648 * 64 + r / 33554432 % 64 = r / 33554432 by (try clear hk); (try clear hc); (try clear hg); (try clear htt); (try clear b32); (try clear hform); (try clear n12); (try clear hs); (try clear hV); (try clear ht); (try clear eV); (try clear g0); (try clear g1); (try clear bA); (try clear bR); (try clear hB0); (try clear hy0); omega, show r / 2097152 % 16 * 2 + r / 1048576 % 2 = r / 1048576 % 32 by (try clear hk); (try clear hc); (try clear hg); (try clear htt); (try clear b32); (try clear hform); (try clear n12); (try clear hs); (try clear hV); (try clear ht); (try clear eV); (try clear g0); (try clear g1); (try clear bA); (try clear bR); (try clear hB0); (try clear hy0); omega]
end Go.Proofs.YtiibhggjlandmaaDoor.Pure
/- enc_dec, shape 2. Written by gen_ed.py. -/
namespace Go.Proofs.YtiibhggjlandmaaDoor.Pure
open Go.RowKit Go.Proofs.YtiibhggjlandmaaDoorW.PrintWords Go.Proofs.YtiibhggjlandmaaDoorW.PrintMore Go.Proofs.YtiibhggjlandmaaDoor.PB Go.Proofs.YtiibhggjlandmaaDoor.PD Go.Proofs.YtiibhggjlandmaaDoor.Mth
open Go.Proofs.YtiibhggjlandmaaDoor.PF (encode_formOf.f encode_Check.f findT formT hasL bad bad2 chkR findR reachT)
open Go.Proofs.YtiibhggjlandmaaDoor.Enc (W6 fi fb Val immOk encT formN)
set_option linter.unusedVariables false
set_option linter.unusedSimpArgs false
set_option maxHeartbeats 4000000 in
theorem enc_dec_2 (r B : Nat) (hr : r < 4294967296) (op : Int) (hform : formN 2 B = true) (b32 : B < 4294967296) (hk : r % 128 + r / 4096 % 8 * 4096 = B) (len raw : Int) :
    ∃ n' B' rd rs1 rs2 : Nat, ∃ v : Int, ∃ aq rl : Bool, fillN (shp 2) r op len raw = (op, (rd : Int), (rs1 : Int), (rs2 : Int), v, aq, rl, len, raw) ∧ some (((2 : Nat) : Int), (B : Int), true) = some ((n' : Int), (B' : Int), true) ∧ Val n' B' rd rs1 rs2 v aq rl ∧ encT n' B' rd rs1 rs2 v aq rl = r := by
  have n12 : 2 < 12 := by decide
  have hc : B % 128 = r % 128 := by omega
  have hg : B / 4096 % 8 = r / 4096 % 8 := by omega
  have hV : r / 1048576 < 4096 := by omega
  have ht : r / 4096 < 1048576 := by omega
  have hs := sgn12_e _ hV
  have g0 : fi (sgn 12 (r / 1048576)) 32 128 = (r / 1048576) / 32 % 128 := fi12 _ hV 32 128 (by decide) (by decide) (by decide)
  have g1 : fi (sgn 12 (r / 1048576)) 1 32 = (r / 1048576) / 1 % 32 := fi12 _ hV 1 32 (by decide) (by decide) (by decide)
  refine ⟨2, B, fld r 11 7, fld r 19 15, 0, sgn 12 (fld r 31 20), false, false, rfl, rfl, ⟨n12, b32, hform, fd_ r, fs1_ r, by decide, by simp, by simp, by simp, ?_, by simp⟩, ?_⟩
  · rw [(fld_e r hr).2.2.2.1]; simp only [immOk]; simp; clear g0 g1; omega
  · show W6 (fi _ 32 128) (fi _ 1 32) (fld r 19 15) (B / 4096 % 8) (fld r 11 7) (B % 128) = r
    rw [(fld_e r hr).2.2.2.1]
    refine (congrArg (fun z => W6 z _ _ _ _ _) g0).trans ((congrArg (fun z => W6 _ z _ _ _ _) g1).trans ?_)
    rw [(fld_e r hr).1, (fld_e r hr).2.1, hc, hg, show r / 1048576 / 32 % 128 = r / 33554432 by (try clear hk); (try clear hc); (try clear hg); (try clear htt); (try clear b32); (try clear hform); (try clear n12); (try clear hs); (try clear hV); (try clear ht); (try clear eV); (try clear g0); (try clear g1); (try clear bA); (try clear bR); (try clear hB0); (try clear hy0); omega, Nat.div_one]
    exact (w6_self r).symm
end Go.Proofs.YtiibhggjlandmaaDoor.Pure
/- enc_dec, shape 3. Written by gen_ed.py. -/
namespace Go.Proofs.YtiibhggjlandmaaDoor.Pure
open Go.RowKit Go.Proofs.YtiibhggjlandmaaDoorW.PrintWords Go.Proofs.YtiibhggjlandmaaDoorW.PrintMore Go.Proofs.YtiibhggjlandmaaDoor.PB Go.Proofs.YtiibhggjlandmaaDoor.PD Go.Proofs.YtiibhggjlandmaaDoor.Mth
open Go.Proofs.YtiibhggjlandmaaDoor.PF (encode_formOf.f encode_Check.f findT formT hasL bad bad2 chkR findR reachT)
open Go.Proofs.YtiibhggjlandmaaDoor.Enc (W6 fi fb Val immOk encT formN)
set_option linter.unusedVariables false
set_option linter.unusedSimpArgs false
theorem zb_0 (a b c d : Nat) (ha : a < 2) (hb : b < 2) (hc : c < 64) (hd : d < 16) : (((a * 2 + b) * 64 + c) * 32 + d * 2) / 4096 % 2 = a := by omega
theorem zb_1 (a b c d : Nat) (ha : a < 2) (hb : b < 2) (hc : c < 64) (hd : d < 16) : (((a * 2 + b) * 64 + c) * 32 + d * 2) / 32 % 64 = c := by omega
theorem zb_2 (a b c d : Nat) (ha : a < 2) (hb : b < 2) (hc : c < 64) (hd : d < 16) : (((a * 2 + b) * 64 + c) * 32 + d * 2) / 2 % 16 = d := by omega
theorem zb_3 (a b c d : Nat) (ha : a < 2) (hb : b < 2) (hc : c < 64) (hd : d < 16) : (((a * 2 + b) * 64 + c) * 32 + d * 2) / 2048 % 2 = b := by omega
set_option maxHeartbeats 4000000 in
theorem enc_dec_3 (r B : Nat) (hr : r < 4294967296) (op : Int) (hform : formN 3 B = true) (b32 : B < 4294967296) (hk : r % 128 + r / 4096 % 8 * 4096 = B) (len raw : Int) :
    ∃ n' B' rd rs1 rs2 : Nat, ∃ v : Int, ∃ aq rl : Bool, fillN (shp 3) r op len raw = (op, (rd : Int), (rs1 : Int), (rs2 : Int), v, aq, rl, len, raw) ∧ some (((3 : Nat) : Int), (B : Int), true) = some ((n' : Int), (B' : Int), true) ∧ Val n' B' rd rs1 rs2 v aq rl ∧ encT n' B' rd rs1 rs2 v aq rl = r := by
  have n12 : 3 < 12 := by decide
  have hc : B % 128 = r % 128 := by omega
  have hg : B / 4096 % 8 = r / 4096 % 8 := by omega
  have e1 : fld r 31 31 = r / 2147483648 := by unfold fld; simp only [Nat.reduceAdd, Nat.reduceSub, Nat.reducePow]; omega
  have e2 : fld r 7 7 = r / 128 % 2 := rfl
  have e3 : fld r 30 25 = r / 33554432 % 64 := rfl
  have e4 : fld r 11 8 = r / 256 % 16 := rfl
  have eV : immB r = ((r / 2147483648 * 2 + r / 128 % 2) * 64 + r / 33554432 % 64) * 32 + r / 256 % 16 * 2 := by unfold immB; rw [e1, e2, e3, e4]
  have hV : immB r < 8192 := by rw [eV]; omega
  have hs := sgn13_e _ hV
  have g0 : fi (sgn 13 (immB r)) 4096 2 = (immB r) / 4096 % 2 := fi13 _ hV 4096 2 (by decide) (by decide) (by decide)
  have g1 : fi (sgn 13 (immB r)) 32 64 = (immB r) / 32 % 64 := fi13 _ hV 32 64 (by decide) (by decide) (by decide)
  have g2 : fi (sgn 13 (immB r)) 2 16 = (immB r) / 2 % 16 := fi13 _ hV 2 16 (by decide) (by decide) (by decide)
  have g3 : fi (sgn 13 (immB r)) 2048 2 = (immB r) / 2048 % 2 := fi13 _ hV 2048 2 (by decide) (by decide) (by decide)
  refine ⟨3, B, 0, fld r 19 15, fld r 24 20, sgn 13 (immB r), false, false, rfl, rfl, ⟨n12, b32, hform, by decide, fs1_ r, fs2_ r, by simp, by simp, by simp, ?_, by simp⟩, ?_⟩
  · have h2 : immB r % 2 = 0 := by rw [eV]; omega
    simp only [immOk]; simp; clear g0 g1 g2 g3 eV; omega
  · show W6 (fi _ 4096 2 * 64 + fi _ 32 64) (fld r 24 20) (fld r 19 15) (B / 4096 % 8) (fi _ 2 16 * 2 + fi _ 2048 2) (B % 128) = r
    refine (congrArg (fun z => W6 (z * 64 + _) _ _ _ _ _) g0).trans ((congrArg (fun z => W6 (_ + z) _ _ _ _ _) g1).trans ((congrArg (fun z => W6 _ _ _ _ (z * 2 + _) _) g2).trans ((congrArg (fun z => W6 _ _ _ _ (_ + z) _) g3).trans ?_)))
    rw [(fld_e r hr).2.1, (fld_e r hr).2.2.1, hc, hg, eV]
    clear g0 g1 g2 g3 hs hV eV
    have q1 : r / 2147483648 < 2 := by omega
    have q2 : r / 128 % 2 < 2 := Nat.mod_lt _ (by decide)
    have q3 : r / 33554432 % 64 < 64 := Nat.mod_lt _ (by decide)
    have q4 : r / 256 % 16 < 16 := Nat.mod_lt _ (by decide)
    have z0 : (((r / 2147483648 * 2 + r / 128 % 2) * 64 + r / 33554432 % 64) * 32 + r / 256 % 16 * 2) / 4096 % 2 = r / 2147483648 := zb_0 _ _ _ _ q1 q2 q3 q4
    have z1 : (((r / 2147483648 * 2 + r / 128 % 2) * 64 + r / 33554432 % 64) * 32 + r / 256 % 16 * 2) / 32 % 64 = r / 33554432 % 64 := zb_1 _ _ _ _ q1 q2 q3 q4
    have z2 : (((r / 2147483648 * 2 + r / 128 % 2) * 64 + r / 33554432 % 64) * 32 + r / 256 % 16 * 2) / 2 % 16 = r / 256 % 16 := zb_2 _ _ _ _ q1 q2 q3 q4
    have z3 : (((r / 2147483648 * 2 + r / 128 % 2) * 64 + r / 33554432 % 64) * 32 + r / 256 % 16 * 2) / 2048 % 2 = r / 128 % 2 := zb_3 _ _ _ _ q1 q2 q3 q4
    rw [z0, z1, z2, z3]
    clear z0 z1 z2 z3 q2 q3 q4
    conv => rhs; rw [w6_self r]
    rw [show r / 2147483648 * 64 + r / 33554432 % 64 = r / 33554432 by (try clear hk); (try clear hc); (try clear hg); (try clear htt); (try clear b32); (try clear hform); (try clear n12); (try clear hs); (try clear hV); (try clear ht); (try clear eV); (try clear g0); (try clear g1); (try clear bA); (try clear bR); (try clear hB0); (try clear hy0); omega, show r / 256 % 16 * 2 + r / 128 % 2 = r / 128 % 32 by (try clear hk); (try clear hc); (try clear hg); (try clear htt); (try clear b32); (try clear hform); (try clear n12); (try clear hs); (try clear hV); (try clear ht); (try clear eV); (try clear g0); (try clear g1); (try clear bA); (try clear bR); (try clear hB0); (try clear hy0); omega]
end Go.Proofs.YtiibhggjlandmaaDoor.Pure
/- enc_dec, shape 4. Written by gen_ed.py. -/
namespace Go.Proofs.YtiibhggjlandmaaDoor.Pure
open Go.RowKit Go.Proofs.YtiibhggjlandmaaDoorW.PrintWords Go.Proofs.YtiibhggjlandmaaDoorW.PrintMore Go.Proofs.YtiibhggjlandmaaDoor.PB Go.Proofs.YtiibhggjlandmaaDoor.PD Go.Proofs.YtiibhggjlandmaaDoor.Mth
open Go.Proofs.YtiibhggjlandmaaDoor.PF (encode_formOf.f encode_Check.f findT formT hasL bad bad2 chkR findR reachT)
open Go.Proofs.YtiibhggjlandmaaDoor.Enc (W6 fi fb Val immOk encT formN)
set_option linter.unusedVariables false
set_option linter.unusedSimpArgs false
set_option maxHeartbeats 4000000 in
theorem enc_dec_4 (r B : Nat) (hr : r < 4294967296) (op : Int) (hform : formN 4 B = true) (b32 : B < 4294967296) (hk : r % 128 + r / 4096 % 8 * 4096 = B) (len raw : Int) :
    ∃ n' B' rd rs1 rs2 : Nat, ∃ v : Int, ∃ aq rl : Bool, fillN (shp 4) r op len raw = (op, (rd : Int), (rs1 : Int), (rs2 : Int), v, aq, rl, len, raw) ∧ some (((4 : Nat) : Int), (B : Int), true) = some ((n' : Int), (B' : Int), true) ∧ Val n' B' rd rs1 rs2 v aq rl ∧ encT n' B' rd rs1 rs2 v aq rl = r := by
  have n12 : 4 < 12 := by decide
  have hc : B % 128 = r % 128 := by omega
  have hg : B / 4096 % 8 = r / 4096 % 8 := by omega
  have eV : immS r = r / 33554432 * 32 + r / 128 % 32 := by unfold immS; rw [(fld_e r hr).2.2.2.2.2.2, (fld_e r hr).1]
  have hV : immS r < 4096 := by rw [eV]; omega
  have hs := sgn12_e _ hV
  have g0 : fi (sgn 12 (immS r)) 32 128 = (immS r) / 32 % 128 := fi12 _ hV 32 128 (by decide) (by decide) (by decide)
  have g1 : fi (sgn 12 (immS r)) 1 32 = (immS r) / 1 % 32 := fi12 _ hV 1 32 (by decide) (by decide) (by decide)
  refine ⟨4, B, 0, fld r 19 15, fld r 24 20, sgn 12 (immS r), false, false, rfl, rfl, ⟨n12, b32, hform, by decide, fs1_ r, fs2_ r, by simp, by simp, by simp, ?_, by simp⟩, ?_⟩
  · simp only [immOk]; simp; clear g0 g1 eV; omega
  · show W6 (fi _ 32 128) (fld r 24 20) (fld r 19 15) (B / 4096 % 8) (fi _ 1 32) (B % 128) = r
    refine (congrArg (fun z => W6 z _ _ _ _ _) g0).trans ((congrArg (fun z => W6 _ _ _ _ z _) g1).trans ?_)
    rw [(fld_e r hr).2.1, (fld_e r hr).2.2.1, hc, hg, eV, show (r / 33554432 * 32 + r / 128 % 32) / 32 % 128 = r / 33554432 by (try clear hk); (try clear hc); (try clear hg); (try clear htt); (try clear b32); (try clear hform); (try clear n12); (try clear hs); (try clear hV); (try clear ht); (try clear eV); (try clear g0); (try clear g1); (try clear bA); (try clear bR); (try clear hB0); (try clear hy0); omega, Nat.div_one, show (r / 33554432 * 32 + r / 128 % 32) % 32 = r / 128 % 32 by (try clear hk); (try clear hc); (try clear hg); (try clear htt); (try clear b32); (try clear hform); (try clear n12); (try clear hs); (try clear hV); (try clear ht); (try clear eV); (try clear g0); (try clear g1); (try clear bA); (try clear bR); (try clear hB0); (try clear hy0); omega]
    exact (w6_self r).symm
end Go.Proofs.YtiibhggjlandmaaDoor.Pure
/- enc_dec, shape 5. Written by gen_ed.py. -/
namespace Go.Proofs.YtiibhggjlandmaaDoor.Pure
open Go.RowKit Go.Proofs.YtiibhggjlandmaaDoorW.PrintWords Go.Proofs.YtiibhggjlandmaaDoorW.PrintMore Go.Proofs.YtiibhggjlandmaaDoor.PB Go.Proofs.YtiibhggjlandmaaDoor.PD Go.Proofs.YtiibhggjlandmaaDoor.Mth
open Go.Proofs.YtiibhggjlandmaaDoor.PF (encode_formOf.f encode_Check.f findT formT hasL bad bad2 chkR findR reachT)
open Go.Proofs.YtiibhggjlandmaaDoor.Enc (W6 fi fb Val immOk encT formN)
set_option linter.unusedVariables false
set_option linter.unusedSimpArgs false
set_option maxHeartbeats 4000000 in
theorem enc_dec_5 (r B : Nat) (hr : r < 4294967296) (op : Int) (hform : formN 5 B = true) (b32 : B < 4294967296) (hk : r % 128 + r / 4096 % 8 * 4096 + r / 33554432 % 128 * 33554432 = B) (len raw : Int) :
    ∃ n' B' rd rs1 rs2 : Nat, ∃ v : Int, ∃ aq rl : Bool, fillN (shp 5) r op len raw = (op, (rd : Int), (rs1 : Int), (rs2 : Int), v, aq, rl, len, raw) ∧ some (((5 : Nat) : Int), (B : Int), true) = some ((n' : Int), (B' : Int), true) ∧ Val n' B' rd rs1 rs2 v aq rl ∧ encT n' B' rd rs1 rs2 v aq rl = r := by
  have n12 : 5 < 12 := by decide
  have hc : B % 128 = r % 128 := by omega
  have hg : B / 4096 % 8 = r / 4096 % 8 := by omega
  have htt : B / 33554432 = r / 33554432 := by omega
  refine ⟨5, B, fld r 11 7, fld r 19 15, fld r 24 20, 0, false, false, rfl, rfl, ⟨n12, b32, hform, fd_ r, fs1_ r, fs2_ r, by simp, by simp, by simp, by simp [immOk], by simp⟩, ?_⟩
  show W6 (B / 33554432) (fld r 24 20) (fld r 19 15) (B / 4096 % 8) (fld r 11 7) (B % 128) = r
  rw [(fld_e r hr).1, (fld_e r hr).2.1, (fld_e r hr).2.2.1, hc, hg, htt]
  exact (w6_self r).symm
end Go.Proofs.YtiibhggjlandmaaDoor.Pure
/- enc_dec, shape 6. Written by gen_ed.py. -/
namespace Go.Proofs.YtiibhggjlandmaaDoor.Pure
open Go.RowKit Go.Proofs.YtiibhggjlandmaaDoorW.PrintWords Go.Proofs.YtiibhggjlandmaaDoorW.PrintMore Go.Proofs.YtiibhggjlandmaaDoor.PB Go.Proofs.YtiibhggjlandmaaDoor.PD Go.Proofs.YtiibhggjlandmaaDoor.Mth
open Go.Proofs.YtiibhggjlandmaaDoor.PF (encode_formOf.f encode_Check.f findT formT hasL bad bad2 chkR findR reachT)
open Go.Proofs.YtiibhggjlandmaaDoor.Enc (W6 fi fb Val immOk encT formN)
set_option linter.unusedVariables false
set_option linter.unusedSimpArgs false
set_option maxHeartbeats 4000000 in
theorem enc_dec_6 (r B : Nat) (hr : r < 4294967296) (op : Int) (hform : formN 6 B = true) (b32 : B < 4294967296) (hk : r % 128 + r / 4096 % 8 * 4096 + r / 67108864 % 64 * 67108864 = B) (len raw : Int) :
    ∃ n' B' rd rs1 rs2 : Nat, ∃ v : Int, ∃ aq rl : Bool, fillN (shp 6) r op len raw = (op, (rd : Int), (rs1 : Int), (rs2 : Int), v, aq, rl, len, raw) ∧ some (((6 : Nat) : Int), (B : Int), true) = some ((n' : Int), (B' : Int), true) ∧ Val n' B' rd rs1 rs2 v aq rl ∧ encT n' B' rd rs1 rs2 v aq rl = r := by
  have n12 : 6 < 12 := by decide
  have hc : B % 128 = r % 128 := by omega
  have hg : B / 4096 % 8 = r / 4096 % 8 := by omega
  have htt : B / 33554432 = r / 67108864 * 2 := by omega
  have g0 : fi ((r / 1048576 % 64 : Nat) : Int) 32 2 = r / 1048576 % 64 / 32 % 2 := fiN _ 32 2 (by decide) (by decide)
  have g1 : fi ((r / 1048576 % 64 : Nat) : Int) 1 32 = r / 1048576 % 64 / 1 % 32 := fiN _ 1 32 (by decide) (by decide)
  refine ⟨6, B, fld r 11 7, fld r 19 15, 0, ((fld r 25 20 : Nat) : Int), false, false, rfl, rfl, ⟨n12, b32, hform, fd_ r, fs1_ r, by decide, by simp, by simp, by simp, ?_, by simp⟩, ?_⟩
  · rw [(fld_e r hr).2.2.2.2.2.1]; simp only [immOk]; simp; clear g0 g1; omega
  · show W6 (B / 33554432 + fi _ 32 2) (fi _ 1 32) (fld r 19 15) (B / 4096 % 8) (fld r 11 7) (B % 128) = r
    rw [(fld_e r hr).2.2.2.2.2.1]
    refine (congrArg (fun z => W6 (_ + z) _ _ _ _ _) g0).trans ((congrArg (fun z => W6 _ z _ _ _ _) g1).trans ?_)
    rw [(fld_e r hr).1, (fld_e r hr).2.1, hc, hg, htt, Nat.div_one, show r / 67108864 * 2 + r / 1048576 % 64 / 32 % 2 = r / 33554432 by (try clear hk); (try clear hc); (try clear hg); (try clear htt); (try clear b32); (try clear hform); (try clear n12); (try clear hs); (try clear hV); (try clear ht); (try clear eV); (try clear g0); (try clear g1); (try clear bA); (try clear bR); (try clear hB0); (try clear hy0); omega, show r / 1048576 % 64 % 32 = r / 1048576 % 32 by (try clear hk); (try clear hc); (try clear hg); (try clear htt); (try clear b32); (try clear hform); (try clear n12); (try clear hs); (try clear hV); (try clear ht); (try clear eV); (try clear g0); (try clear g1); (try clear bA); (try clear bR); (try clear hB0); (try clear hy0); omega]
    exact (w6_self r).symm
end Go.Proofs.YtiibhggjlandmaaDoor.Pure
/- enc_dec, shape 7. Written by gen_ed.py. -/
namespace Go.Proofs.YtiibhggjlandmaaDoor.Pure
open Go.RowKit Go.Proofs.YtiibhggjlandmaaDoorW.PrintWords Go.Proofs.YtiibhggjlandmaaDoorW.PrintMore Go.Proofs.YtiibhggjlandmaaDoor.PB Go.Proofs.YtiibhggjlandmaaDoor.PD Go.Proofs.YtiibhggjlandmaaDoor.Mth
open Go.Proofs.YtiibhggjlandmaaDoor.PF (encode_formOf.f encode_Check.f findT formT hasL bad bad2 chkR findR reachT)
open Go.Proofs.YtiibhggjlandmaaDoor.Enc (W6 fi fb Val immOk encT formN)
set_option linter.unusedVariables false
set_option linter.unusedSimpArgs false
set_option maxHeartbeats 4000000 in
theorem enc_dec_7 (r B : Nat) (hr : r < 4294967296) (op : Int) (hform : formN 7 B = true) (b32 : B < 4294967296) (hk : r % 128 + r / 4096 % 8 * 4096 + r / 33554432 % 128 * 33554432 = B) (len raw : Int) :
    ∃ n' B' rd rs1 rs2 : Nat, ∃ v : Int, ∃ aq rl : Bool, fillN (shp 7) r op len raw = (op, (rd : Int), (rs1 : Int), (rs2 : Int), v, aq, rl, len, raw) ∧ some (((7 : Nat) : Int), (B : Int), true) = some ((n' : Int), (B' : Int), true) ∧ Val n' B' rd rs1 rs2 v aq rl ∧ encT n' B' rd rs1 rs2 v aq rl = r := by
  have n12 : 7 < 12 := by decide
  have hc : B % 128 = r % 128 := by omega
  have hg : B / 4096 % 8 = r / 4096 % 8 := by omega
  have htt : B / 33554432 = r / 33554432 := by omega
  have g1 : fi ((r / 1048576 % 32 : Nat) : Int) 1 32 = r / 1048576 % 32 / 1 % 32 := fiN _ 1 32 (by decide) (by decide)
  refine ⟨7, B, fld r 11 7, fld r 19 15, 0, ((fld r 24 20 : Nat) : Int), false, false, rfl, rfl, ⟨n12, b32, hform, fd_ r, fs1_ r, by decide, by simp, by simp, by simp, ?_, by simp⟩, ?_⟩
  · rw [(fld_e r hr).2.2.1]; simp only [immOk]; simp; clear g1; omega
  · show W6 (B / 33554432) (fi _ 1 32) (fld r 19 15) (B / 4096 % 8) (fld r 11 7) (B % 128) = r
    rw [(fld_e r hr).2.2.1]
    refine (congrArg (fun z => W6 _ z _ _ _ _) g1).trans ?_
    rw [(fld_e r hr).1, (fld_e r hr).2.1, hc, hg, htt, Nat.div_one, Nat.mod_mod]
    exact (w6_self r).symm
end Go.Proofs.YtiibhggjlandmaaDoor.Pure
/- enc_dec, shape 8. Written by gen_ed.py. -/
namespace Go.Proofs.YtiibhggjlandmaaDoor.Pure
open Go.RowKit Go.Proofs.YtiibhggjlandmaaDoorW.PrintWords Go.Proofs.YtiibhggjlandmaaDoorW.PrintMore Go.Proofs.YtiibhggjlandmaaDoor.PB Go.Proofs.YtiibhggjlandmaaDoor.PD Go.Proofs.YtiibhggjlandmaaDoor.Mth
open Go.Proofs.YtiibhggjlandmaaDoor.PF (encode_formOf.f encode_Check.f findT formT hasL bad bad2 chkR findR reachT)
open Go.Proofs.YtiibhggjlandmaaDoor.Enc (W6 fi fb Val immOk encT formN)
set_option linter.unusedVariables false
set_option linter.unusedSimpArgs false
set_option maxHeartbeats 4000000 in
theorem enc_dec_8 (r B : Nat) (hr : r < 4294967296) (op : Int) (hform : formN 8 B = true) (b32 : B < 4294967296) (hk : r % 128 + r / 4096 % 8 * 4096 = B) (len raw : Int) :
    ∃ n' B' rd rs1 rs2 : Nat, ∃ v : Int, ∃ aq rl : Bool, fillN (shp 8) r op len raw = (op, (rd : Int), (rs1 : Int), (rs2 : Int), v, aq, rl, len, raw) ∧ some (((8 : Nat) : Int), (B : Int), true) = some ((n' : Int), (B' : Int), true) ∧ Val n' B' rd rs1 rs2 v aq rl ∧ encT n' B' rd rs1 rs2 v aq rl = r := by
  have n12 : 8 < 12 := by decide
  have hc : B % 128 = r % 128 := by omega
  have hg : B / 4096 % 8 = r / 4096 % 8 := by omega
  have hV : r / 1048576 < 4096 := by omega
  have ht : r / 4096 < 1048576 := by omega
  have g0 : fi ((r / 1048576 : Nat) : Int) 32 128 = r / 1048576 / 32 % 128 := fiN _ 32 128 (by decide) (by decide)
  have g1 : fi ((r / 1048576 : Nat) : Int) 1 32 = r / 1048576 / 1 % 32 := fiN _ 1 32 (by decide) (by decide)
  refine ⟨8, B, fld r 11 7, fld r 19 15, 0, ((fld r 31 20 : Nat) : Int), false, false, rfl, rfl, ⟨n12, b32, hform, fd_ r, fs1_ r, by decide, by simp, by simp, by simp, ?_, by simp⟩, ?_⟩
  · rw [(fld_e r hr).2.2.2.1]; simp only [immOk]; simp; clear g0 g1; omega
  · show W6 (fi _ 32 128) (fi _ 1 32) (fld r 19 15) (B / 4096 % 8) (fld r 11 7) (B % 128) = r
    rw [(fld_e r hr).2.2.2.1]
    refine (congrArg (fun z => W6 z _ _ _ _ _) g0).trans ((congrArg (fun z => W6 _ z _ _ _ _) g1).trans ?_)
    rw [(fld_e r hr).1, (fld_e r hr).2.1, hc, hg, show r / 1048576 / 32 % 128 = r / 33554432 by (try clear hk); (try clear hc); (try clear hg); (try clear htt); (try clear b32); (try clear hform); (try clear n12); (try clear hs); (try clear hV); (try clear ht); (try clear eV); (try clear g0); (try clear g1); (try clear bA); (try clear bR); (try clear hB0); (try clear hy0); omega, Nat.div_one]
    exact (w6_self r).symm
end Go.Proofs.YtiibhggjlandmaaDoor.Pure
/- enc_dec, shape 9. Written by gen_ed.py. -/
namespace Go.Proofs.YtiibhggjlandmaaDoor.Pure
open Go.RowKit Go.Proofs.YtiibhggjlandmaaDoorW.PrintWords Go.Proofs.YtiibhggjlandmaaDoorW.PrintMore Go.Proofs.YtiibhggjlandmaaDoor.PB Go.Proofs.YtiibhggjlandmaaDoor.PD Go.Proofs.YtiibhggjlandmaaDoor.Mth
open Go.Proofs.YtiibhggjlandmaaDoor.PF (encode_formOf.f encode_Check.f findT formT hasL bad bad2 chkR findR reachT)
open Go.Proofs.YtiibhggjlandmaaDoor.Enc (W6 fi fb Val immOk encT formN)
set_option linter.unusedVariables false
set_option linter.unusedSimpArgs false
set_option maxHeartbeats 4000000 in
theorem enc_dec_9 (r B : Nat) (hr : r < 4294967296) (op : Int) (hform : formN 9 B = true) (b32 : B < 4294967296) (hk : r = B) (len raw : Int) :
    ∃ n' B' rd rs1 rs2 : Nat, ∃ v : Int, ∃ aq rl : Bool, fillN (shp 9) r op len raw = (op, (rd : Int), (rs1 : Int), (rs2 : Int), v, aq, rl, len, raw) ∧ some (((9 : Nat) : Int), (B : Int), true) = some ((n' : Int), (B' : Int), true) ∧ Val n' B' rd rs1 rs2 v aq rl ∧ encT n' B' rd rs1 rs2 v aq rl = r := by
  have n12 : 9 < 12 := by decide
  exact ⟨9, B, 0, 0, 0, 0, false, false, rfl, rfl, ⟨n12, b32, hform, by decide, by decide, by decide, by simp, by simp, by simp, by simp [immOk], by simp⟩, hk.symm⟩
end Go.Proofs.YtiibhggjlandmaaDoor.Pure
/- enc_dec, shape 10. Written by gen_ed.py. -/
namespace Go.Proofs.YtiibhggjlandmaaDoor.Pure
open Go.RowKit Go.Proofs.YtiibhggjlandmaaDoorW.PrintWords Go.Proofs.YtiibhggjlandmaaDoorW.PrintMore Go.Proofs.YtiibhggjlandmaaDoor.PB Go.Proofs.YtiibhggjlandmaaDoor.PD Go.Proofs.YtiibhggjlandmaaDoor.Mth
open Go.Proofs.YtiibhggjlandmaaDoor.PF (encode_formOf.f encode_Check.f findT formT hasL bad bad2 chkR findR reachT)
open Go.Proofs.YtiibhggjlandmaaDoor.Enc (W6 fi fb Val immOk encT formN)
set_option linter.unusedVariables false
set_option linter.unusedSimpArgs false
set_option maxHeartbeats 4000000 in
theorem enc_dec_10 (r B : Nat) (hr : r < 4294967296) (op : Int) (hform : formN 10 B = true) (b32 : B < 4294967296) (hk : r % 128 + r / 4096 % 8 * 4096 + r / 134217728 % 32 * 134217728 = B) (len raw : Int) :
    ∃ n' B' rd rs1 rs2 : Nat, ∃ v : Int, ∃ aq rl : Bool, fillN (shp 10) r op len raw = (op, (rd : Int), (rs1 : Int), (rs2 : Int), v, aq, rl, len, raw) ∧ some (((10 : Nat) : Int), (B : Int), true) = some ((n' : Int), (B' : Int), true) ∧ Val n' B' rd rs1 rs2 v aq rl ∧ encT n' B' rd rs1 rs2 v aq rl = r := by
  have n12 : 10 < 12 := by decide
  have hc : B % 128 = r % 128 := by clear hform; omega
  have hg : B / 4096 % 8 = r / 4096 % 8 := by clear hform; omega
  have htt : B / 33554432 = r / 134217728 * 4 := by clear hform; omega
  have eA : fld r 26 26 = r / 67108864 % 2 := rfl
  have eR : fld r 25 25 = r / 33554432 % 2 := rfl
  have bA : (if (((fld r 26 26 : Nat) : Int) == 1) = true then 2 else 0 : Nat) = r / 67108864 % 2 * 2 := by
    rw [eA]; rcases (show r / 67108864 % 2 = 0 ∨ r / 67108864 % 2 = 1 by (try clear hk); (try clear hc); (try clear hg); (try clear htt); (try clear b32); (try clear hform); (try clear n12); (try clear hs); (try clear hV); (try clear ht); (try clear eV); (try clear g0); (try clear g1); (try clear bA); (try clear bR); (try clear hB0); (try clear hy0); omega) with h | h <;> rw [h] <;> rfl
  have bR : (if (((fld r 25 25 : Nat) : Int) == 1) = true then 1 else 0 : Nat) = r / 33554432 % 2 := by
    rw [eR]; rcases (show r / 33554432 % 2 = 0 ∨ r / 33554432 % 2 = 1 by (try clear hk); (try clear hc); (try clear hg); (try clear htt); (try clear b32); (try clear hform); (try clear n12); (try clear hs); (try clear hV); (try clear ht); (try clear eV); (try clear g0); (try clear g1); (try clear bA); (try clear bR); (try clear hB0); (try clear hy0); omega) with h | h <;> rw [h] <;> rfl
  refine ⟨10, B, fld r 11 7, fld r 19 15, fld r 24 20, 0, ((fld r 26 26 : Nat) : Int) == 1, ((fld r 25 25 : Nat) : Int) == 1, rfl, rfl, ⟨n12, b32, hform, fd_ r, fs1_ r, fs2_ r, by simp, by simp, by simp, by simp [immOk], by simp⟩, ?_⟩
  show W6 (B / 33554432 + (if (((fld r 26 26 : Nat) : Int) == 1) = true then 2 else 0) + (if (((fld r 25 25 : Nat) : Int) == 1) = true then 1 else 0)) (fld r 24 20) (fld r 19 15) (B / 4096 % 8) (fld r 11 7) (B % 128) = r
  rw [bA, bR, (fld_e r hr).1, (fld_e r hr).2.1, (fld_e r hr).2.2.1, hc, hg, htt]
  rw [show r / 134217728 * 4 + r / 67108864 % 2 * 2 + r / 33554432 % 2 = r / 33554432 by (try clear hk); (try clear hc); (try clear hg); (try clear htt); (try clear b32); (try clear hform); (try clear n12); (try clear hs); (try clear hV); (try clear ht); (try clear eV); (try clear g0); (try clear g1); (try clear bA); (try clear bR); (try clear hB0); (try clear hy0); omega]
  exact (w6_self r).symm
end Go.Proofs.YtiibhggjlandmaaDoor.Pure
/- enc_dec, shape 11. Written by gen_ed.py. -/
namespace Go.Proofs.YtiibhggjlandmaaDoor.Pure
open Go.RowKit Go.Proofs.YtiibhggjlandmaaDoorW.PrintWords Go.Proofs.YtiibhggjlandmaaDoorW.PrintMore Go.Proofs.YtiibhggjlandmaaDoor.PB Go.Proofs.YtiibhggjlandmaaDoor.PD Go.Proofs.YtiibhggjlandmaaDoor.Mth
open Go.Proofs.YtiibhggjlandmaaDoor.PF (encode_formOf.f encode_Check.f findT formT hasL bad bad2 chkR findR reachT)
open Go.Proofs.YtiibhggjlandmaaDoor.Enc (W6 fi fb Val immOk encT formN)
set_option linter.unusedVariables false
set_option linter.unusedSimpArgs false
set_option maxHeartbeats 4000000 in
theorem enc_dec_11 (r B : Nat) (hr : r < 4294967296) (op : Int) (hform : formN 11 B = true) (b32 : B < 4294967296) (hk : r % 128 + r / 4096 % 8 * 4096 + (r / 134217728 % 32 * 134217728 + r / 1048576 % 32 * 1048576) = B) (len raw : Int) :
    ∃ n' B' rd rs1 rs2 : Nat, ∃ v : Int, ∃ aq rl : Bool, fillN (shp 11) r op len raw = (op, (rd : Int), (rs1 : Int), (rs2 : Int), v, aq, rl, len, raw) ∧ some (((11 : Nat) : Int), (B : Int), true) = some ((n' : Int), (B' : Int), true) ∧ Val n' B' rd rs1 rs2 v aq rl ∧ encT n' B' rd rs1 rs2 v aq rl = r := by
  have n12 : 11 < 12 := by decide
  have hB0 : B / 1048576 % 32 = 0 := by simp [formN] at hform; omega
  have hy0 : r / 1048576 % 32 = 0 := by
    have q2 : r / 4096 % 8 < 8 := Nat.mod_lt _ (by decide)
    have q3 : r / 1048576 % 32 < 32 := Nat.mod_lt _ (by decide)
    have q4 : r / 134217728 % 32 < 32 := Nat.mod_lt _ (by decide)
    generalize r / 4096 % 8 = A2 at *
    generalize r / 1048576 % 32 = A3 at *
    generalize r / 134217728 % 32 = A4 at *
    omega
  rw [hy0, Nat.zero_mul, Nat.add_zero] at hk
  have hc : B % 128 = r % 128 := by clear hform; omega
  have hg : B / 4096 % 8 = r / 4096 % 8 := by clear hform; omega
  have htt : B / 33554432 = r / 134217728 * 4 := by clear hform; omega
  have eA : fld r 26 26 = r / 67108864 % 2 := rfl
  have eR : fld r 25 25 = r / 33554432 % 2 := rfl
  have bA : (if (((fld r 26 26 : Nat) : Int) == 1) = true then 2 else 0 : Nat) = r / 67108864 % 2 * 2 := by
    rw [eA]; rcases (show r / 67108864 % 2 = 0 ∨ r / 67108864 % 2 = 1 by (try clear hk); (try clear hc); (try clear hg); (try clear htt); (try clear b32); (try clear hform); (try clear n12); (try clear hs); (try clear hV); (try clear ht); (try clear eV); (try clear g0); (try clear g1); (try clear bA); (try clear bR); (try clear hB0); (try clear hy0); omega) with h | h <;> rw [h] <;> rfl
  have bR : (if (((fld r 25 25 : Nat) : Int) == 1) = true then 1 else 0 : Nat) = r / 33554432 % 2 := by
    rw [eR]; rcases (show r / 33554432 % 2 = 0 ∨ r / 33554432 % 2 = 1 by (try clear hk); (try clear hc); (try clear hg); (try clear htt); (try clear b32); (try clear hform); (try clear n12); (try clear hs); (try clear hV); (try clear ht); (try clear eV); (try clear g0); (try clear g1); (try clear bA); (try clear bR); (try clear hB0); (try clear hy0); omega) with h | h <;> rw [h] <;> rfl
  refine ⟨11, B, fld r 11 7, fld r 19 15, fld r 24 20, 0, ((fld r 26 26 : Nat) : Int) == 1, ((fld r 25 25 : Nat) : Int) == 1, rfl, rfl, ⟨n12, b32, hform, fd_ r, fs1_ r, fs2_ r, by simp, by simp, by rw [(fld_e r hr).2.2.1]; exact .inr (.inr (.inr (.inr hy0))), by simp [immOk], by simp⟩, ?_⟩
  show W6 (B / 33554432 + (if (((fld r 26 26 : Nat) : Int) == 1) = true then 2 else 0) + (if (((fld r 25 25 : Nat) : Int) == 1) = true then 1 else 0)) (fld r 24 20) (fld r 19 15) (B / 4096 % 8) (fld r 11 7) (B % 128) = r
  rw [bA, bR, (fld_e r hr).1, (fld_e r hr).2.1, (fld_e r hr).2.2.1, hc, hg, htt]
  rw [show r / 134217728 * 4 + r / 67108864 % 2 * 2 + r / 33554432 % 2 = r / 33554432 by (try clear hk); (try clear hc); (try clear hg); (try clear htt); (try clear b32); (try clear hform); (try clear n12); (try clear hs); (try clear hV); (try clear ht); (try clear eV); (try clear g0); (try clear g1); (try clear bA); (try clear bR); (try clear hB0); (try clear hy0); omega]
  exact (w6_self r).symm
end Go.Proofs.YtiibhggjlandmaaDoor.Pure
/- enc_dec put together. Written by gen_ed.py. -/
namespace Go.Proofs.YtiibhggjlandmaaDoor.Pure
open Go.RowKit Go.Proofs.YtiibhggjlandmaaDoorW.PrintWords Go.Proofs.YtiibhggjlandmaaDoorW.PrintMore Go.Proofs.YtiibhggjlandmaaDoor.PB Go.Proofs.YtiibhggjlandmaaDoor.PD Go.Proofs.YtiibhggjlandmaaDoor.Mth
open Go.Proofs.YtiibhggjlandmaaDoor.PF (encode_formOf.f encode_Check.f findT formT hasL bad bad2 chkR findR reachT)
open Go.Proofs.YtiibhggjlandmaaDoor.Enc (W6 fi fb Val immOk encT formN)
set_option linter.unusedVariables false
set_option linter.unusedSimpArgs false
set_option maxHeartbeats 8000000 in
theorem enc_dec (r : Nat) (hr : r < 4294967296) (f : Frm) (hf : findF (r : Int) formsL = some f) (len raw : Int) :
    ∃ n B rd rs1 rs2 : Nat, ∃ v : Int, ∃ aq rl : Bool, fillN f.shape r f.op len raw = (f.op, (rd : Int), (rs1 : Int), (rs2 : Int), v, aq, rl, len, raw) ∧ encode_formOf.f f.op = some ((n : Int), (B : Int), true) ∧ Val n B rd rs1 rs2 v aq rl ∧ encT n B rd rs1 rs2 v aq rl = r := by
  obtain ⟨hmem, hkey⟩ := findF_key hr hf
  have ht := tabF_all f hmem
  unfold tabF at ht
  rcases hz : encode_formOf.f f.op with _ | ⟨n, b, t⟩
  · rw [hz] at ht; exact absurd ht (by simp)
  rw [hz] at ht
  cases t with
  | false => exact absurd ht (by simp)
  | true =>
    simp only [Bool.and_eq_true, decide_eq_true_eq, beq_iff_eq] at ht
    obtain ⟨⟨⟨⟨⟨⟨⟨t0, t1⟩, t2⟩, t3⟩, t4⟩, t5⟩, t6⟩, t7⟩ := ht
    obtain ⟨n, rfl⟩ : ∃ m : Nat, n = (m : Int) := ⟨n.toNat, by omega⟩
    obtain ⟨B, rfl⟩ : ∃ m : Nat, b = (m : Int) := ⟨b.toNat, by omega⟩
    simp only [Int.toNat_natCast] at t3 t4 t7
    rw [← t2, Int.toNat_natCast, t7] at hkey
    rw [t3]
    have n12 : n < 12 := by omega
    have b32 : B < 4294967296 := by omega
    have bt := fld_e r hr
    obtain ⟨f1, f2, f3, f4, f5, f6, f7⟩ := bt
    have hform := t4
    have d := fld_lt r 11 7; have s1 := fld_lt r 19 15; have s2 := fld_lt r 24 20
    simp only [Nat.reduceAdd, Nat.reduceSub, Nat.reducePow] at d s1 s2
    clear t0 t1 t2 t3 t5 t6 t7 hf hmem hz
    have e : n = 0 ∨ n = 1 ∨ n = 2 ∨ n = 3 ∨ n = 4 ∨ n = 5 ∨ n = 6 ∨ n = 7 ∨ n = 8 ∨ n = 9 ∨ n = 10 ∨ n = 11 := by omega
    rcases e with rfl | rfl | rfl | rfl | rfl | rfl | rfl | rfl | rfl | rfl | rfl | rfl
    · have hk : r % 128 = B := by have := k0 r; rw [← this]; exact hkey
      exact enc_dec_0 r B hr f.op hform b32 hk len raw
    · have hk : r % 128 = B := by have := k0 r; rw [← this]; exact hkey
      exact enc_dec_1 r B hr f.op hform b32 hk len raw
    · have hk : r % 128 + r / 4096 % 8 * 4096 = B := by have := k3 r; rw [← this]; exact hkey
      exact enc_dec_2 r B hr f.op hform b32 hk len raw
    · have hk : r % 128 + r / 4096 % 8 * 4096 = B := by have := k3 r; rw [← this]; exact hkey
      exact enc_dec_3 r B hr f.op hform b32 hk len raw
    · have hk : r % 128 + r / 4096 % 8 * 4096 = B := by have := k3 r; rw [← this]; exact hkey
      exact enc_dec_4 r B hr f.op hform b32 hk len raw
    · have hk : r % 128 + r / 4096 % 8 * 4096 + r / 33554432 % 128 * 33554432 = B := by have := k7 r; rw [← this]; exact hkey
      exact enc_dec_5 r B hr f.op hform b32 hk len raw
    · have hk : r % 128 + r / 4096 % 8 * 4096 + r / 67108864 % 64 * 67108864 = B := by have := k6 r; rw [← this]; exact hkey
      exact enc_dec_6 r B hr f.op hform b32 hk len raw
    · have hk : r % 128 + r / 4096 % 8 * 4096 + r / 33554432 % 128 * 33554432 = B := by have := k7 r; rw [← this]; exact hkey
      exact enc_dec_7 r B hr f.op hform b32 hk len raw
    · have hk : r % 128 + r / 4096 % 8 * 4096 = B := by have := k3 r; rw [← this]; exact hkey
      exact enc_dec_8 r B hr f.op hform b32 hk len raw
    · have hk : r = B := by have := kA r; rw [← this]; exact hkey
      exact enc_dec_9 r B hr f.op hform b32 hk len raw
    · have hk : r % 128 + r / 4096 % 8 * 4096 + r / 134217728 % 32 * 134217728 = B := by have := k5 r; rw [← this]; exact hkey
      exact enc_dec_10 r B hr f.op hform b32 hk len raw
    · have hk : r % 128 + r / 4096 % 8 * 4096 + (r / 134217728 % 32 * 134217728 + r / 1048576 % 32 * 1048576) = B := by have := kL r; rw [← this]; exact hkey
      exact enc_dec_11 r B hr f.op hform b32 hk len raw
end Go.Proofs.YtiibhggjlandmaaDoor.Pure
/- What a parcel stands for, against what Compress finds. No condition. -/
namespace Go.Proofs.YtiibhggjlandmaaDoor.Pure
open Go.RowKit Go.Proofs.YtiibhggjlandmaaDoorW.PrintWords Go.Proofs.YtiibhggjlandmaaDoorW.PrintMore Go.Proofs.YtiibhggjlandmaaDoor.PB Go.Proofs.YtiibhggjlandmaaDoor.PD Go.Proofs.YtiibhggjlandmaaDoor.PK Go.Proofs.YtiibhggjlandmaaDoor.Mth
open Go.Proofs.YtiibhggjlandmaaDoor.PF (encode_formOf.f encode_Check.f findT formT hasL)
open Go.Proofs.YtiibhggjlandmaaDoor.PL (encode_Encode.f encode_scatter.f)
open Go.Proofs.YtiibhggjlandmaaDoor.TR (tryL)
open Go.Proofs.YtiibhggjlandmaaDoor.Enc (W6 fi fb Val immOk encT formN)
set_option linter.unusedVariables false
set_option linter.unusedSimpArgs false
/-- A parcel is nothing, or stands for a record that can be, whose word is what Expand says, and which Compress finds at it or below it. -/
theorem parcel (p : Nat) (hp : p < 65536) (h3 : p % 4 ≠ 3) :
    (decode_Expand.f 2020 (p : Int) = some (0, false) ∧ dcd p = (0, 0, 0, 0, 0, false, false, 2, (p : Int))) ∨
    ∃ e : Nat, ∃ op rd rs1 rs2 v : Int, ∃ aq rl : Bool, decode_Expand.f 2020 (p : Int) = some ((e : Int), true) ∧ e % 4 = 3 ∧ e < 4294967296 ∧ dcd p = (op, rd, rs1, rs2, v, aq, rl, 2, (p : Int)) ∧
      (∀ len raw, encode_Check.f op rd rs1 rs2 v aq rl len raw = some 0) ∧ (∀ len raw, encode_Encode.f 2300 op rd rs1 rs2 v aq rl len raw = some ((e : Int), 0)) ∧
      ∃ q : Nat, q ≤ p ∧ decode_Expand.f 2020 (q : Int) = some ((e : Int), true) ∧ (q : Int) ∈ tryL op rd rs1 rs2 v := by
  have hm : p % 65536 = p := Nat.mod_eq_of_lt hp
  rcases okP_get (okP_all p hp) with h | ⟨e, h, h1, h2, h4, f, hf, q, hq, he, ht⟩
  · left
    have := decode_short (k := 2020) (by decide) p 0 false (by omega) (by decide) h3 (by rw [hm]; exact h)
    rw [hm] at this
    refine ⟨h, ?_⟩
    unfold dcd; rw [this]; rfl
  · right
    have hd := decode_short (k := 2020) (by decide) p e true (by omega) h4 h3 (by rw [hm]; exact h)
    rw [hm] at hd
    have hd' : dcd p = decN e 2 (p : Int) := by unfold dcd; rw [hd]; rfl
    obtain ⟨n, B, rd, rs1, rs2, v, aq, rl, g1, g2, g3, g4⟩ := enc_dec e h4 f hf 2 (p : Int)
    have hz : fillN f.shape e f.op 0 0 = (f.op, (rd : Int), (rs1 : Int), (rs2 : Int), v, aq, rl, 0, 0) := by
      obtain ⟨A, B', C, D, E, F, hs⟩ := fillN_split f.shape e f.op
      have a := hs 2 (p : Int)
      rw [g1] at a
      rw [hs 0 0]
      injection a with a0 a; injection a with a1 a; injection a with a2 a; injection a with a3 a; injection a with a4 a; injection a with a5 a; injection a with a6 a
      rw [a1, a2, a3, a4, a5, a6]
    have hc : ∀ len raw, encode_Check.f f.op rd rs1 rs2 v aq rl len raw = some 0 := fun len raw => check_of _ n B rd rs1 rs2 v aq rl len raw g2 g3
    refine ⟨e, f.op, rd, rs1, rs2, v, aq, rl, h, h2, h4, ?_, hc, fun len raw => ?_, q, hq, he, ?_⟩
    · rw [hd']; unfold decN; rw [hf]; exact g1
    · obtain ⟨n', B', RD, R1, R2, z, e1, e2, e3, hv, en⟩ := Go.Proofs.YtiibhggjlandmaaDoor.Enc.enc_ok 2300 (by decide) _ _ _ _ _ _ _ _ _ (hc len raw)
      rw [en]
      have := g2.symm.trans z
      injection this with this
      have a := congrArg Prod.fst this
      have b := congrArg (fun z => z.2.1) this
      simp only at a b
      rw [← g4, show n' = n by omega, show B' = B by omega, show RD = rd by omega, show R1 = rs1 by omega, show R2 = rs2 by omega]
    · rw [hz] at ht; exact ht
end Go.Proofs.YtiibhggjlandmaaDoor.Pure
