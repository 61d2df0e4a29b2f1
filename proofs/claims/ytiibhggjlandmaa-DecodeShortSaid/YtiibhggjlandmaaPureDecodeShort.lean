/- DecodeShort: a short instruction has the record of the long one that it stands for. No condition. -/
import Derived.Test.YtiibhggjlandmaaPureShoA
import Derived.Test.YtiibhggjlandmaaPDecodeShorty2
namespace Go.Proofs.Ytiibhggjlandmaa.Pure
open Go.RowKit Go.Proofs.YtiibhggjlandmaaW.PrintWords Go.Proofs.YtiibhggjlandmaaW.PrintMore Go.Proofs.Ytiibhggjlandmaa.PB Go.Proofs.Ytiibhggjlandmaa.PF Go.Proofs.Ytiibhggjlandmaa.Mth Go.Proofs.Ytiibhggjlandmaa.PDecodeShort
set_option linter.unusedVariables false
set_option linter.unusedSimpArgs false
set_option maxRecDepth 100000 in
theorem first_short : anvillaw05_first.f 2020 = some true := by decide +kernel
theorem DecodeShort : anvillaw05_DecodeShort.Pure := by
  intro a0 a1 w0 w1
  have hb : 0 ≤ a0 ∧ a0 < 65536 := by
    simp only [Lit.wf, IntKind.min, IntKind.max, IntKind.signed, IntKind.bits, Bool.and_eq_true, decide_eq_true_eq] at w0
    simp at w0; omega
  have hc : 0 ≤ a1 ∧ a1 < 4294967296 := by
    simp only [Lit.wf, IntKind.min, IntKind.max, IntKind.signed, IntKind.bits, Bool.and_eq_true, decide_eq_true_eq] at w1
    simp at w1; omega
  obtain ⟨n, rfl⟩ : ∃ n : Nat, a0 = n := ⟨a0.toNat, by omega⟩
  obtain ⟨m, rfl⟩ : ∃ m : Nat, a1 = m := ⟨a1.toNat, by omega⟩
  refine ⟨2020, ?_⟩
  unfold anvillaw05_DecodeShort.f
  rw [first_short, Option.bind_some, if_pos rfl]
  have ht : Int.tmod (n : Int) 4 = ((n % 4 : Nat) : Int) := by rw [Int.tmod_eq_emod_of_nonneg (by omega)]; omega
  have hraw : Go.bits .or .u32 (((m : Int) * 65536) % 4294967296) ((n : Int) % 4294967296) = ((m % 65536 * 2 ^ 16 + n : Nat) : Int) := by
    rw [show ((m : Int) * 65536) % 4294967296 = ((m % 65536 * 2 ^ 16 : Nat) : Int) by omega, show (n : Int) % 4294967296 = (n : Int) by omega]
    exact or32_sum _ _ 16 (by omega) (by omega)
  have hmod : (m % 65536 * 2 ^ 16 + n) % 65536 = n := by omega
  have hlow : (n : Int) % 4294967296 = (n : Int) := by omega
  have D := @decode_short 2020 (by decide) (m % 65536 * 2 ^ 16 + n)
  rw [hmod] at D
  rw [ht, hraw, hlow]
  rcases okS_get (okS_all n (by omega)) with hE | ⟨e, hE, h3, he3, he, f, hf⟩
  · by_cases h3 : n % 4 = 3
    · rw [if_pos (by omega), hE, Option.bind_some]; simp
    · rw [if_neg (by omega), D 0 false (by omega) (by decide) (by omega) hE, Option.bind_some, hE, Option.bind_some]; simp
  · rw [if_neg (by omega), D e true (by omega) he (by omega) hE, Option.bind_some, hE, Option.bind_some, if_pos rfl, decode_long (by decide) e he he3, Option.bind_some]
    obtain ⟨A, B, C, D', E, F, hs⟩ := fillN_split f.shape e f.op
    have d2 : ∀ len raw, decN e len raw = (f.op, A, B, C, D', E, F, len, raw) := fun len raw => by unfold decN; rw [hf]; exact hs len raw
    have ho := ops_ok f (findF_mem hf).1
    rw [if_pos rfl, d2, d2]
    simp only [if_true, beq_self_eq_true, Bool.and_true]
    rw [if_neg (by omega)]
end Go.Proofs.Ytiibhggjlandmaa.Pure
