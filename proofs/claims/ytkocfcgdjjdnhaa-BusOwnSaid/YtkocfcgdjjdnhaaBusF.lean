/- The console of the program's bus, its lock free before and behind each call. Premise: a bus lies there. -/
import Derived.Test.YtkocfcgdjjdnhaaBusE
import Derived.Test.YtkocfcgdjjdnhaaBusLocks
import Derived.Conc.MuLone
import Derived.Defers
namespace Go.Proofs.Ytkocfcgdjjdnhaa.BW
open Go.RowKit Go.MuLone
set_option linter.unusedVariables false
set_option linter.unusedSimpArgs false
theorem Lies.inpAt {T : TypeId} {cs : Value → Value → Value → St → Array Value} {w : World} {b : Nat} {vr vi vo : Value} {s : St} (h : Lies T cs w b vr vi vo s) : ∃ A c, vi = .slice A s.inp.length c ∧ (0 < s.inp.length → ∃ g, A = some ⟨g, 0, none⟩ ∧ g ≠ b) := by
  rcases h.inp.at with ⟨rfl, e⟩ | ⟨g, cap, cur, rfl, hg, h3, h4, _⟩
  · exact ⟨none, 0, by rw [e]; rfl, by rw [e]; simp⟩
  · exact ⟨_, cap, rfl, fun _ => ⟨g, rfl, h.ni g rfl⟩⟩
theorem Lies.outAt {T : TypeId} {cs : Value → Value → Value → St → Array Value} {w : World} {b : Nat} {vr vi vo : Value} {s : St} (h : Lies T cs w b vr vi vo s) : ∃ A c, vo = .slice A s.out.length c := by
  rcases h.out.at with ⟨rfl, e⟩ | ⟨g, cap, cur, rfl, hg, h3, h4, _⟩
  · exact ⟨none, 0, by rw [e]; rfl⟩
  · exact ⟨_, cap, rfl⟩
set_option maxHeartbeats 1000000 in
set_option maxRecDepth 100000 in
theorem raised_any (w : World) (b n c : Nat) (A : Option Addr) (ier : Int) (i0 : 0 ≤ ier) (i1 : ier ≤ 255) (r : Bool) (hr : r = (decide (ier % 2 = 1) && decide (0 < n))) (c10 : w.cell? ⟨b, 10, none⟩ = some (.int .u8 ier)) (c8 : w.cell? ⟨b, 8, none⟩ = some (.slice A n c)) :
    Calls Try.prog 77 #[.pointer (some ⟨b, 6, none⟩)] w fun e w' => e = .returned (.bool r) ∧ w = w' := by
  have e1 : bits .and .u8 ier 1 = ier % 2 := bits_mask .u8 8 (by decide) wraps_u8 1 (by decide) ier i0 (by omega)
  by_cases h : ier % 2 = 1
  · have b1 : (ier % 2 == 1) = true := by simpa using h
    by_cases hn : 0 < n
    · have b2 : decide (0 < (n : Int)) = true := by simpa using hn
      obtain rfl : r = true := by rw [hr]; simp [h, hn]
      clear hr h
      go_enter Try.func77, Try.ntmps77
      go_wp2
      go_ret
      exact ⟨rfl, rfl⟩
    · obtain rfl : n = 0 := by omega
      obtain rfl : r = false := by rw [hr]; simp
      clear hr h
      go_enter Try.func77, Try.ntmps77
      go_wp2
      go_ret
      exact ⟨rfl, rfl⟩
  · have b1 : (ier % 2 == 1) = false := by simpa using h
    obtain rfl : r = false := by rw [hr]; simp [h]
    clear hr h
    go_enter Try.func77, Try.ntmps77
    go_wp2
    go_ret
    exact ⟨rfl, rfl⟩
theorem line_eq (s : St) : s.line = (decide (s.ier % 2 = 1) && decide (0 < s.inp.length)) := by
  unfold St.line; cases s.inp <;> simp
section
variable {w : World} {b : Nat} {vr vi vo : Value} {s : St}
set_option maxHeartbeats 1000000 in
set_option maxRecDepth 100000 in
theorem up_any (h : PL w b vr vi vo s) (hs : s.Ok) : Calls Try.prog 73 #[.pointer (some ⟨b, 6, none⟩)] w fun e w' => e = .returned (.bool s.line) ∧ PL w' b vr vi vo s ∧ Kept [b] w w' := by
  have c6 := h.cell 6 _ rfl
  have z6 := h.frozen 6
  have h1 : PK 1 (w.setCell ⟨b, 6, none⟩ (.int .i32 1)) b vr vi vo s := h.set 6 (.int .i32 1) rfl
  obtain ⟨A, n, rfl, -⟩ := h1.inpAt
  have H1 := Lib.hid h1
  have H := Lib.hid h
  clear h h1
  go_enter_defers Try.func73, Try.ntmps73
  go_wp2_with (first | (go_at_call 62; refine (lock_free muLib ⟨b, 6, none⟩ _ c6 z6).mono ?_; rintro e w' ⟨rfl, rfl⟩) | (go_at_call 77; refine (raised_any _ b _ _ _ s.ier hs.ie.1 (by have := hs.ie.2; omega) _ (line_eq s) (H1.out.cell 10 _ rfl) (H1.out.cell 8 _ rfl)).mono ?_; rintro e w' ⟨rfl, rfl⟩))
  refine leaves_cons (f := 63) (args := #[.pointer (some ⟨b, 6, none⟩)]) (by simp) (by simp [go_sem]) ?_
  refine (unlock_deferred muLib ⟨b, 6, none⟩ .returning _ (H1.out.cell 6 _ rfl) (H1.out.frozen 6)).mono ?_
  rintro e u' w'' ⟨rfl, rfl, rfl⟩
  exact ⟨_, results_tmp rfl _ _ _, rfl, H1.out.set 6 _ rfl, ((Kept.refl _ w).setCell (by simp) _).setCell (by simp) _⟩
end
end Go.Proofs.Ytkocfcgdjjdnhaa.BW
