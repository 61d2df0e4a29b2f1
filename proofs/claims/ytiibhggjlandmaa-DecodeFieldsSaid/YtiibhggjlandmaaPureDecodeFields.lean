/- DecodeFields: each record is one that can be; an illegal one is bare. No condition. -/
import Derived.Test.YtiibhggjlandmaaPureShoA
import Derived.Test.YtiibhggjlandmaaPDecodeFieldsy3
namespace Go.Proofs.Ytiibhggjlandmaa.Pure
open Go.RowKit Go.Proofs.YtiibhggjlandmaaW.PrintWords Go.Proofs.YtiibhggjlandmaaW.PrintMore Go.Proofs.Ytiibhggjlandmaa.PB Go.Proofs.Ytiibhggjlandmaa.PF Go.Proofs.Ytiibhggjlandmaa.Mth Go.Proofs.Ytiibhggjlandmaa.PDecodeFields
set_option linter.unusedVariables false
set_option linter.unusedSimpArgs false
set_option maxRecDepth 100000 in
theorem first_fields : anvillaw05_first.f 2020 = some true := by decide +kernel
theorem bnd0 : ∀ f ∈ formsL, f.shape = 0 → anvillaw05_bound.f 2018 f.op = some (-2147483648, 2147479552, 4096) := by decide +kernel
theorem bnd1 : ∀ f ∈ formsL, f.shape = 1 → anvillaw05_bound.f 2018 f.op = some (-1048576, 1048574, 2) := by decide +kernel
theorem bnd2 : ∀ f ∈ formsL, f.shape = 2 → anvillaw05_bound.f 2018 f.op = some (-2048, 2047, 1) := by decide +kernel
theorem bnd3 : ∀ f ∈ formsL, f.shape = 3 → anvillaw05_bound.f 2018 f.op = some (-4096, 4094, 2) := by decide +kernel
theorem bnd4 : ∀ f ∈ formsL, f.shape = 4 → anvillaw05_bound.f 2018 f.op = some (-2048, 2047, 1) := by decide +kernel
theorem bnd5 : ∀ f ∈ formsL, f.shape = 5 → anvillaw05_bound.f 2018 f.op = some (0, 63, 1) := by decide +kernel
theorem bnd6 : ∀ f ∈ formsL, f.shape = 6 → anvillaw05_bound.f 2018 f.op = some (0, 31, 1) := by decide +kernel
theorem bnd7 : ∀ f ∈ formsL, f.shape = 7 → anvillaw05_bound.f 2018 f.op = some (0, 0, 1) := by decide +kernel
theorem bnd8 : ∀ f ∈ formsL, f.shape = 8 → anvillaw05_bound.f 2018 f.op = some (0, 4095, 1) := by decide +kernel
theorem bnd9 : ∀ f ∈ formsL, f.shape = 9 → anvillaw05_bound.f 2018 f.op = some (0, 0, 1) := by decide +kernel
theorem bnd10 : ∀ f ∈ formsL, f.shape = 10 → anvillaw05_bound.f 2018 f.op = some (0, 0, 1) ∧ 75 ≤ f.op := by decide +kernel
theorem shapes_ok : ∀ f ∈ formsL, 0 ≤ f.shape ∧ f.shape ≤ 10 := by decide +kernel
/-- What a record must be. -/
def good (D : Int × Int × Int × Int × Int × Bool × Bool × Int × Int) : Prop :=
  0 ≤ D.1 ∧ D.1 < 97 ∧ ((D.1 = 0 ∧ D.2.1 = 0 ∧ D.2.2.1 = 0 ∧ D.2.2.2.1 = 0 ∧ D.2.2.2.2.1 = 0 ∧ D.2.2.2.2.2.1 = false ∧ D.2.2.2.2.2.2.1 = false) ∨
    (D.1 ≠ 0 ∧ (0 ≤ D.2.1 ∧ D.2.1 ≤ 31) ∧ (0 ≤ D.2.2.1 ∧ D.2.2.1 ≤ 31) ∧ (0 ≤ D.2.2.2.1 ∧ D.2.2.2.1 ≤ 31) ∧
      (∃ lo hi st, anvillaw05_bound.f 2018 D.1 = some (lo, hi, st) ∧ lo ≤ D.2.2.2.2.1 ∧ D.2.2.2.2.1 ≤ hi ∧ st ≠ 0 ∧ Int.tmod D.2.2.2.2.1 st = 0) ∧
      (75 ≤ D.1 ∨ (D.2.2.2.2.2.1 = false ∧ D.2.2.2.2.2.2.1 = false))))
theorem tmod_of {x m : Int} (hm : m ≠ 0) (h : x % m = 0) : Int.tmod x m = 0 := by
  have : x = m * (x / m) := by have := Int.mul_ediv_add_emod x m; omega
  rw [this]; exact Int.mul_tmod_right _ _
theorem sgn_mul (n v m : Nat) (h1 : 1 ≤ n) (hm : m ∣ 2 ^ n) (h : m ∣ v) : sgn n v % (m : Int) = 0 := by
  have hx : (m : Int) ∣ ((v % 2 ^ n : Nat) : Int) := by exact_mod_cast (Nat.dvd_mod_iff hm).mpr h
  have hy : (m : Int) ∣ ((2 ^ n : Nat) : Int) := by exact_mod_cast hm
  apply Int.emod_eq_zero_of_dvd
  unfold sgn
  split
  · exact Int.dvd_sub hx hy
  · exact hx
theorem sgn_range (n v : Nat) (h1 : 1 ≤ n) : -((2 ^ (n - 1) : Nat) : Int) ≤ sgn n v ∧ sgn n v < ((2 ^ (n - 1) : Nat) : Int) := by
  have hQ : 2 ^ n = 2 ^ (n - 1) * 2 := by rw [← Nat.pow_succ]; congr 1; omega
  have hm := Nat.mod_lt v (pow_pos2 n)
  unfold sgn
  generalize v % 2 ^ n = m at *
  generalize 2 ^ (n - 1) = R at *
  rw [hQ] at hm ⊢
  split <;> omega
theorem good_fill (f : Frm) (hf : f ∈ formsL) (r : Nat) (len raw : Int) : good (fillN f.shape r f.op len raw) := by
  have ho := ops_ok f hf
  have hs := shapes_ok f hf
  have r1 := fld_lt r 11 7; have r2 := fld_lt r 19 15; have r3 := fld_lt r 24 20; have i1 := fld_lt r 31 20; have i2 := fld_lt r 25 20
  simp only [Nat.reduceAdd, Nat.reduceSub, Nat.reducePow] at r1 r2 r3 i1 i2
  have e1 : (fillN f.shape r f.op len raw).1 = f.op := by
    obtain ⟨A, B, C, D', E, F, hs⟩ := fillN_split f.shape r f.op
    rw [hs]
  have one : ∀ x : Int, Int.tmod x 1 = 0 := fun x => tmod_of (by decide) (Int.emod_one x)
  refine ⟨?_, ?_, .inr ?_⟩
  · rw [e1]; omega
  · rw [e1]; exact ho.2
  unfold fillN
  by_cases h0 : f.shape = 0
  · rw [if_pos h0]; dsimp only
    have := sgn_range 32 (fld r 31 12 * 4096) (by decide)
    have m := sgn_mul 32 (fld r 31 12 * 4096) 4096 (by decide) (by decide) ⟨_, Nat.mul_comm _ _⟩
    simp only [Nat.reduceSub, Nat.reducePow] at this
    refine ⟨by omega, by omega, by omega, by omega, ⟨_, _, _, bnd0 f hf h0, by omega, ?_, by decide, tmod_of (by decide) m⟩, .inr ⟨rfl, rfl⟩⟩
    have m2 : sgn 32 (fld r 31 12 * 4096) % 4096 = 0 := m
    omega
  rw [if_neg h0]
  by_cases h1 : f.shape = 1
  · rw [if_pos h1]; dsimp only
    have := sgn_range 21 (immJ r) (by decide)
    have m := sgn_mul 21 (immJ r) 2 (by decide) (by decide) (by unfold immJ; omega)
    simp only [Nat.reduceSub, Nat.reducePow] at this
    refine ⟨by omega, by omega, by omega, by omega, ⟨_, _, _, bnd1 f hf h1, by omega, ?_, by decide, tmod_of (by decide) m⟩, .inr ⟨rfl, rfl⟩⟩
    have m2 : sgn 21 (immJ r) % 2 = 0 := m
    omega
  rw [if_neg h1]
  by_cases h2 : f.shape = 2
  · rw [if_pos h2]; dsimp only
    have := sgn_range 12 (fld r 31 20) (by decide)
    simp only [Nat.reduceSub, Nat.reducePow] at this
    exact ⟨by omega, by omega, by omega, by omega, ⟨_, _, _, bnd2 f hf h2, by omega, by omega, by decide, one _⟩, .inr ⟨rfl, rfl⟩⟩
  rw [if_neg h2]
  by_cases h3 : f.shape = 3
  · rw [if_pos h3]; dsimp only
    have := sgn_range 13 (immB r) (by decide)
    have m := sgn_mul 13 (immB r) 2 (by decide) (by decide) (by unfold immB; omega)
    simp only [Nat.reduceSub, Nat.reducePow] at this
    refine ⟨by omega, by omega, by omega, by omega, ⟨_, _, _, bnd3 f hf h3, by omega, ?_, by decide, tmod_of (by decide) m⟩, .inr ⟨rfl, rfl⟩⟩
    have m2 : sgn 13 (immB r) % 2 = 0 := m
    omega
  rw [if_neg h3]
  by_cases h4 : f.shape = 4
  · rw [if_pos h4]; dsimp only
    have := sgn_range 12 (immS r) (by decide)
    simp only [Nat.reduceSub, Nat.reducePow] at this
    exact ⟨by omega, by omega, by omega, by omega, ⟨_, _, _, bnd4 f hf h4, by omega, by omega, by decide, one _⟩, .inr ⟨rfl, rfl⟩⟩
  rw [if_neg h4]
  by_cases h5 : f.shape = 5
  · rw [if_pos h5]; dsimp only
    exact ⟨by omega, by omega, by omega, by omega, ⟨_, _, _, bnd5 f hf h5, by omega, by omega, by decide, one _⟩, .inr ⟨rfl, rfl⟩⟩
  rw [if_neg h5]
  by_cases h6 : f.shape = 6
  · rw [if_pos h6]; dsimp only
    exact ⟨by omega, by omega, by omega, by omega, ⟨_, _, _, bnd6 f hf h6, by omega, by omega, by decide, one _⟩, .inr ⟨rfl, rfl⟩⟩
  rw [if_neg h6]
  by_cases h7 : f.shape = 7
  · rw [if_pos h7]; dsimp only
    exact ⟨by omega, by omega, by omega, by omega, ⟨_, _, _, bnd7 f hf h7, by decide, by decide, by decide, one _⟩, .inr ⟨rfl, rfl⟩⟩
  rw [if_neg h7]
  by_cases h8 : f.shape = 8
  · rw [if_pos h8]; dsimp only
    exact ⟨by omega, by omega, by omega, by omega, ⟨_, _, _, bnd8 f hf h8, by omega, by omega, by decide, one _⟩, .inr ⟨rfl, rfl⟩⟩
  rw [if_neg h8]
  by_cases h10 : f.shape = 10
  · rw [if_pos h10]; dsimp only
    exact ⟨by omega, by omega, by omega, by omega, ⟨_, _, _, (bnd10 f hf h10).1, by decide, by decide, by decide, one _⟩, .inl (bnd10 f hf h10).2⟩
  rw [if_neg h10]; dsimp only
  exact ⟨by omega, by omega, by omega, by omega, ⟨_, _, _, bnd9 f hf (by omega), by decide, by decide, by decide, one _⟩, .inr ⟨rfl, rfl⟩⟩
theorem good_dec (r : Nat) (len raw : Int) : good (decN r len raw) := by
  unfold decN
  cases h : findF (r : Int) formsL with
  | none => exact ⟨Int.le_refl _, (by decide : (0 : Int) < 97), .inl ⟨rfl, rfl, rfl, rfl, rfl, rfl, rfl⟩⟩
  | some f => exact good_fill f (findF_mem h).1 r len raw
theorem reg_ok (x : Int) (h : 0 ≤ x ∧ x ≤ 31) : anvillaw05_reg.f x = some true := by
  unfold anvillaw05_reg.f; rw [if_pos h.1, decide_eq_true h.2]
theorem j1_ok (op rd rs1 rs2 imm : Int) (aq rl : Bool) (len raw : Int) (h : good (op, rd, rs1, rs2, imm, aq, rl, len, raw)) : anvillaw05_DecodeFields.j1 2019 false op rd rs1 rs2 imm aq rl len raw = some true := by
  obtain ⟨h0, h1, h2⟩ := h
  simp only at h0 h1 h2
  rw [show (2019 : Nat) = 2018 + 1 from rfl, anvillaw05_DecodeFields.j1, if_neg (by decide)]
  rcases h2 with ⟨rfl, rfl, rfl, rfl, rfl, rfl, rfl⟩ | ⟨hn, e1, e2, e3, ⟨lo, hi, st, hb, b1, b2, b3, b4⟩, hat⟩
  · rfl
  · rw [if_neg hn, hb, Option.bind_some, reg_ok _ e1, Option.bind_some, if_pos rfl, reg_ok _ e2, Option.bind_some, if_pos rfl, reg_ok _ e3, Option.bind_some, if_pos rfl]
    simp only
    rw [if_pos b1, if_pos b2, if_neg b3, if_pos b4]
    rcases hat with ha | ⟨rfl, rfl⟩
    · rw [if_pos ha]
    · by_cases c : op ≥ 75
      · rw [if_pos c]
      · rw [if_neg c]; rfl
theorem j0_ok (r op rd rs1 rs2 imm : Int) (aq rl : Bool) (len raw : Int) (h : good (op, rd, rs1, rs2, imm, aq, rl, len, raw)) (hl : (len = 2 ∧ raw = Int.tmod r 65536) ∨ (len = 4 ∧ raw = r)) : anvillaw05_DecodeFields.j0 2020 r false op rd rs1 rs2 imm aq rl len raw = some true := by
  have J := j1_ok op rd rs1 rs2 imm aq rl len raw h
  rw [show (2020 : Nat) = 2019 + 1 from rfl, anvillaw05_DecodeFields.j0, if_neg (by decide)]
  rcases hl with ⟨rfl, rfl⟩ | ⟨rfl, rfl⟩
  · rw [if_pos rfl, if_pos rfl, if_neg (by decide)]; exact J
  · rw [if_neg (by decide), if_pos rfl, bne_self_eq_false]; exact J
theorem fields_end (r : Nat) (L : Int) (D : Int × Int × Int × Int × Int × Bool × Bool × Int × Int) (hg : good D) (hD : decode_Decode.f 2020 (r : Int) = some D) (hL : decode_Length.f (r : Int) = some L) (hl : D.2.2.2.2.2.2.2.1 = L)
    (hw : (D.2.2.2.2.2.2.2.1 = 2 ∧ D.2.2.2.2.2.2.2.2 = Int.tmod (r : Int) 65536) ∨ (D.2.2.2.2.2.2.2.1 = 4 ∧ D.2.2.2.2.2.2.2.2 = (r : Int))) : anvillaw05_DecodeFields.f 2020 (r : Int) = some true := by
  obtain ⟨op, rd, rs1, rs2, imm, aq, rl, len, raw⟩ := D
  simp only at hl hw
  have hg2 := hg
  obtain ⟨h0, h1, _⟩ := hg2
  simp only at h0 h1
  unfold anvillaw05_DecodeFields.f
  rw [hD, Option.bind_some, first_fields, Option.bind_some, if_pos rfl]
  simp only
  rw [if_neg (by omega), if_neg (by omega), hL, Option.bind_some, hl, bne_self_eq_false, ← hl]
  exact j0_ok _ _ _ _ _ _ _ _ _ _ hg hw
theorem DecodeFields : anvillaw05_DecodeFields.Pure := by
  intro a0 w0
  have hb : 0 ≤ a0 ∧ a0 < 4294967296 := by
    simp only [Lit.wf, IntKind.min, IntKind.max, IntKind.signed, IntKind.bits, Bool.and_eq_true, decide_eq_true_eq] at w0
    simp at w0; omega
  obtain ⟨r, rfl⟩ : ∃ n : Nat, a0 = n := ⟨a0.toNat, by omega⟩
  have hr : r < 4294967296 := by omega
  refine ⟨2020, ?_⟩
  have ht : Int.tmod (r : Int) 65536 = ((r % 65536 : Nat) : Int) := by rw [Int.tmod_eq_emod_of_nonneg (by omega)]; omega
  have lens : ∀ (e : Nat) (len raw : Int), (decN e len raw).2.2.2.2.2.2.2.1 = len ∧ (decN e len raw).2.2.2.2.2.2.2.2 = raw := fun e len raw => by
    unfold decN
    cases h : findF (e : Int) formsL with
    | none => exact ⟨rfl, rfl⟩
    | some f =>
      obtain ⟨A, B, C, D', E, F, hs⟩ := fillN_split f.shape e f.op
      show (fillN f.shape e f.op len raw).2.2.2.2.2.2.2.1 = len ∧ (fillN f.shape e f.op len raw).2.2.2.2.2.2.2.2 = raw
      rw [hs]; exact ⟨rfl, rfl⟩
  by_cases h3 : r % 4 = 3
  · refine fields_end r 4 (decN r 4 r) (good_dec _ _ _) (decode_long (by decide) r hr h3) (by unfold decode_Length.f; rw [and32_3 r hr, if_pos (by omega)]) (lens _ _ _).1 (.inr ⟨(lens _ _ _).1, (lens _ _ _).2⟩)
  · have hL : decode_Length.f (r : Int) = some 2 := by unfold decode_Length.f; rw [and32_3 r hr, if_neg (by omega)]
    rcases okS_get (okS_all (r % 65536) (by omega)) with hE | ⟨e, hE, _, he3, he, f, hf⟩
    · refine fields_end r 2 _ ?_ (decode_short (by decide) r 0 false hr (by decide) h3 hE) hL rfl (.inl ⟨rfl, ht.symm⟩)
      exact ⟨Int.le_refl _, (by decide : (0 : Int) < 97), .inl ⟨rfl, rfl, rfl, rfl, rfl, rfl, rfl⟩⟩
    · refine fields_end r 2 _ (good_dec e 2 _) (decode_short (by decide) r e true hr he h3 hE) hL (lens _ _ _).1 (.inl ⟨(lens _ _ _).1, by rw [ht]; exact (lens _ _ _).2⟩)
end Go.Proofs.Ytiibhggjlandmaa.Pure
