/- One parcel's check, by closed forms; and a row of parcels. -/
import Derived.Test.YtiibhggjlandmaaPureFast2
namespace Go.Proofs.Ytiibhggjlandmaa.Pure
open Go.RowKit Go.Proofs.YtiibhggjlandmaaW.PrintWords Go.Proofs.YtiibhggjlandmaaW.PrintMore Go.Proofs.Ytiibhggjlandmaa.PD
def okE (n : Nat) : Bool := match decode_Expand.f 2020 (n : Int), F_Expand.f 2020 (n : Int) with
  | some a, some b => a.1 == b.1 && a.2 == b.2
  | _, _ => false
def allE : Nat → Nat → Bool
  | 0, _ => true
  | k + 1, n => okE n && allE k (n + 1)
theorem allE_get : ∀ (k n j : Nat), allE k n = true → j < k → okE (n + j) = true
  | k + 1, n, 0, h, _ => by
    simp only [allE, Bool.and_eq_true] at h; exact h.1
  | k + 1, n, j + 1, h, hj => by
    simp only [allE, Bool.and_eq_true] at h
    have := allE_get k (n + 1) j h.2 (by omega)
    rwa [show n + 1 + j = n + (j + 1) by omega] at this
theorem okE_get {n : Nat} (h : okE n = true) : ∃ r, decode_Expand.f 2020 (n : Int) = some r ∧ F_Expand.f 2020 (n : Int) = some r := by
  unfold okE at h
  split at h
  · next a b ha hb =>
    simp only [Bool.and_eq_true, beq_iff_eq] at h
    refine ⟨a, ha, ?_⟩
    rw [hb, show b = a from Prod.ext h.1.symm h.2.symm]
  · exact absurd h (by decide)
end Go.Proofs.Ytiibhggjlandmaa.Pure
