/- The devices of the program's bus: RAM, the finisher, the timer. No condition. -/
import Derived.Test.YtkocfcgdjjdnhaaBusSpec
import Derived.Deep.LoopGhost
import Derived.Deep.QuietTactic
import Derived.BigQuiet
import Derived.Deep.RegionWith
namespace Go.Proofs.Ytkocfcgdjjdnhaa.BW
open Go.RowKit
set_option linter.unusedVariables false
set_option linter.unusedSimpArgs false
section
variable {F G : List Nat} {w w' : World} {b : Nat} {vr vi vo : Value} {s : St} {k : Int}
theorem Lies.cell {T : TypeId} {cs : Value → Value → Value → St → Array Value} (h : Lies T cs w b vr vi vo s) (j : Nat) (v : Value) (hv : (cs vr vi vo s)[j]? = some v) : w.cell? ⟨b, j, none⟩ = some v := (cell_of_row w b j _ T (0, 0) h.blk).trans hv
theorem Lies.frozen {T : TypeId} {cs : Value → Value → Value → St → Array Value} (h : Lies T cs w b vr vi vo s) (j : Nat) : w.frozen? ⟨b, j, none⟩ = false := frozen_of_row w b j _ T h.blk
theorem Lies.ramAt {T : TypeId} {cs : Value → Value → Value → St → Array Value} (h : Lies T cs w b vr vi vo s) (hs : s.Ok) : ∃ g cap, vr = .slice (some ⟨g, 0, none⟩) s.ram.length cap ∧ g ≠ b ∧ g < w.heap.size ∧ s.ram.length ≤ cap ∧ cap ≤ maxLen := by
  rcases h.ram.at with ⟨_, e⟩ | ⟨g, cap, cur, rfl, hg, h3, h4, _⟩
  · have := hs.r0; rw [e] at this; simp at this
  · exact ⟨g, cap, rfl, h.nr g rfl, (Array.getElem?_eq_some_iff.1 hg).1, h3, h4⟩
end
theorem ret_bool {a b : Bool} (h : a = b) : Ending.returned (.bool a) = .returned (.bool b) := by rw [h]
theorem ret_int {k : IntKind} {a b : Int} (h : a = b) : Ending.returned (.int k a) = .returned (.int k b) := by rw [h]
set_option maxHeartbeats 1000000 in
theorem holds_any (w : World) (b : Nat) (n cap g : Nat) (hn : n ≤ 65536) (addr size : Int) (c0 : w.cell? ⟨b, 0, none⟩ = some (.slice (some ⟨g, 0, none⟩) n cap)) (a0 : 0 ≤ addr) (a1 : addr ≤ 18446744073709551615) (s0 : 1 ≤ size) (s1 : size ≤ 9223372036854775807) :
    Calls Try.prog 43 #[.pointer (some ⟨b, 0, none⟩), .int .u64 addr, .int .i64 size] w fun e w' => e = .returned (.bool (inRam n addr size)) ∧ w = w' := by
  have hs : size % 18446744073709551616 = size := by omega
  go_enter Try.func43, Try.ntmps43
  go_wp2
  · go_ret
    refine ⟨ret_bool ?_, rfl⟩
    rw [Bool.eq_iff_iff]; simp [inRam]; omega
  all_goals
    go_ret
    refine ⟨ret_bool ?_, rfl⟩
    rw [Bool.eq_iff_iff]; simp [inRam]; omega
set_option maxHeartbeats 1000000 in
theorem ram_here_any (w : World) (b : Nat) (n cap g : Nat) (hn : n ≤ 65536) (addr size : Int) (c0 : w.cell? ⟨b, 0, none⟩ = some (.slice (some ⟨g, 0, none⟩) n cap)) (a0 : 0 ≤ addr) (a1 : addr ≤ 18446744073709551615) (s0 : -9223372036854775808 ≤ size) (s1 : size ≤ 9223372036854775807) :
    Calls Try.prog 114 #[.pointer (some ⟨b, 0, none⟩), .int .u64 addr, .int .i64 size] w fun e w' => e = .returned (.bool (decide (szOk size = true ∧ addr % size = 0 ∧ inRam n addr size = true))) ∧ w = w' := by
  by_cases h : szOk size = true
  · have h' : size = 1 ∨ size = 2 ∨ size = 4 ∨ size = 8 := by simpa [szOk] using h
    rcases h' with rfl | rfl | rfl | rfl
    all_goals
      go_enter Try.func114, Try.ntmps114
      go_wp2_with (go_at_call 43; refine (holds_any _ b n cap g hn _ _ c0 a0 a1 (by omega) (by omega)).mono ?_; rintro e w' ⟨rfl, rfl⟩)
      all_goals
        go_ret
        refine ⟨ret_bool ?_, rfl⟩
        rw [Bool.eq_iff_iff]; simp [szOk, *]
  · have e1 : ¬ size = 1 := by rintro rfl; simp [szOk] at h
    have e2 : ¬ size = 2 := by rintro rfl; simp [szOk] at h
    have e4 : ¬ size = 4 := by rintro rfl; simp [szOk] at h
    have e8 : ¬ size = 8 := by rintro rfl; simp [szOk] at h
    have hf : decide (szOk size = true ∧ addr % size = 0 ∧ inRam n addr size = true) = false := by simp [h]
    rw [hf]; clear hf h
    go_enter Try.func114, Try.ntmps114
    go_wp2
    go_ret
    exact ⟨rfl, rfl⟩
end Go.Proofs.Ytkocfcgdjjdnhaa.BW
