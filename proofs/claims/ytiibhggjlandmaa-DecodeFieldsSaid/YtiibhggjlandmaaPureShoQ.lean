/- One parcel's check: what it stands for is a legal raw of four bytes, or nothing. -/
import Derived.Test.YtiibhggjlandmaaPureDec2
namespace Go.Proofs.Ytiibhggjlandmaa.Pure
open Go.RowKit Go.Proofs.YtiibhggjlandmaaW.PrintWords Go.Proofs.YtiibhggjlandmaaW.PrintMore Go.Proofs.Ytiibhggjlandmaa.PB Go.Proofs.Ytiibhggjlandmaa.PF Go.Proofs.Ytiibhggjlandmaa.Mth
def okS (n : Nat) : Bool := match decode_Expand.f 2020 (n : Int) with
  | some (e, true) => n % 4 != 3 && e % 4 == 3 && decide (0 ≤ e) && decide (e < 4294967296) && (findF e formsL).isSome
  | some (e, false) => e == 0
  | none => false
def allS : Nat → Nat → Bool
  | 0, _ => true
  | k + 1, n => okS n && allS k (n + 1)
theorem allS_get : ∀ (k n j : Nat), allS k n = true → j < k → okS (n + j) = true
  | k + 1, n, 0, h, _ => by
    simp only [allS, Bool.and_eq_true] at h; exact h.1
  | k + 1, n, j + 1, h, hj => by
    simp only [allS, Bool.and_eq_true] at h
    have := allS_get k (n + 1) j h.2 (by omega)
    rwa [show n + 1 + j = n + (j + 1) by omega] at this
theorem okS_get {n : Nat} (h : okS n = true) : decode_Expand.f 2020 (n : Int) = some (0, false) ∨ ∃ e : Nat, decode_Expand.f 2020 (n : Int) = some ((e : Int), true) ∧ n % 4 ≠ 3 ∧ e % 4 = 3 ∧ e < 4294967296 ∧ ∃ f, findF (e : Int) formsL = some f := by
  unfold okS at h
  split at h
  · next e he =>
    right
    simp only [Bool.and_eq_true, bne_iff_ne, beq_iff_eq, decide_eq_true_eq] at h
    obtain ⟨⟨⟨⟨h1, h2⟩, h3⟩, h4⟩, h5⟩ := h
    obtain ⟨m, rfl⟩ : ∃ m : Nat, e = m := ⟨e.toNat, by omega⟩
    exact ⟨m, he, h1, by omega, by omega, Option.isSome_iff_exists.mp h5⟩
  · next e he =>
    left
    rw [he, beq_iff_eq.mp h]
  · exact absurd h (by decide)
end Go.Proofs.Ytiibhggjlandmaa.Pure
