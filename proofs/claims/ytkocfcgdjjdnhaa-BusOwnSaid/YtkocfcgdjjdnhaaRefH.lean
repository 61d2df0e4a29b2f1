/- The document's bus: Mip, Output, State, From. Premise: a bus lies there. -/
import Derived.Test.YtkocfcgdjjdnhaaRefC
namespace Go.Proofs.Ytkocfcgdjjdnhaa.BW
open Go.RowKit
set_option linter.unusedVariables false
set_option linter.unusedSimpArgs false
section
variable {w : World} {b : Nat} {vr vi vo : Value} {s : St}
set_option maxHeartbeats 16000000 in
set_option maxRecDepth 100000 in
theorem r_mip_any (h : RL w b vr vi vo s) (hs : s.Ok) : Calls Try.prog 57 #[.pointer (some ⟨b, 0, none⟩)] w fun e w' => e = .returned (.int .u64 s.mip) ∧ ∃ n, w' = w.drewN n := by
  have c1 : w.cell? ⟨b, 1, none⟩ = some (.int .u32 s.msip) := h.cell 1 _ rfl
  have c2 : w.cell? ⟨b, 2, none⟩ = some (.int .u64 s.cmp) := h.cell 2 _ rfl
  have c3 : w.cell? ⟨b, 3, none⟩ = some (.int .u64 s.now) := h.cell 3 _ rfl
  have c4 : w.cell? ⟨b, 4, none⟩ = some (.bool s.ext) := h.cell 4 _ rfl
  have c5 : w.cell? ⟨b, 5, none⟩ = some (.bool s.soft) := h.cell 5 _ rfl
  have hl : ∀ n, Calls Try.prog 74 #[.pointer (some ⟨b, 0, none⟩)] (w.drewN n) fun e w' => e = .returned (.bool s.line) ∧ w.drewN n = w' := fun n => r_line_any (h.keep0 ((Kept.refl [] w).drewN n)) hs
  have HM := Lib.hid (show s.mip = 8 * b2i ((s.msip == 1) || s.soft) + 128 * b2i (decide (s.cmp ≤ s.now)) + 2048 * b2i (s.ext || s.line) by
    unfold St.mip; rw [show decide (s.msip = 1) = (s.msip == 1) by rw [Bool.eq_iff_iff]; simp])
  obtain ⟨q1, h1⟩ : ∃ q, (s.msip == 1) = q := ⟨_, rfl⟩
  obtain ⟨q3, h3⟩ : ∃ q, decide (s.cmp ≤ s.now) = q := ⟨_, rfl⟩
  obtain ⟨q4, h4⟩ : ∃ q, s.ext = q := ⟨_, rfl⟩
  obtain ⟨q2, h2⟩ : ∃ q, s.soft = q := ⟨_, rfl⟩
  obtain ⟨q5, h5⟩ : ∃ q, s.line = q := ⟨_, rfl⟩
  rw [h1, h2, h3, h4, h5] at HM
  rw [h5] at hl
  rw [h2] at c5
  rw [h4] at c4
  have HL := Lib.hid hl
  clear h hl h2 h4 h5
  cases q1 <;> cases q2 <;> cases q3 <;> cases q4 <;> cases q5
  all_goals
    (first
      | (have h3' : s.cmp ≤ s.now := of_decide_eq_true h3)
      | (have h3' : s.now < s.cmp := Int.not_le.mp (of_decide_eq_false h3)))
    have HV := Lib.hid HM.out
    clear h3 HM
    go_enter Try.func57, Try.ntmps57
    go_wp2
    go_quiet (fail)
    go_wp2_with (go_at_call 74; refine (HL.out _).mono ?_; rintro e w' ⟨rfl, rfl⟩)
    go_ret
    exact ⟨ret_int (by rw [HV.out]; rfl), _, rfl⟩
end
end Go.Proofs.Ytkocfcgdjjdnhaa.BW
