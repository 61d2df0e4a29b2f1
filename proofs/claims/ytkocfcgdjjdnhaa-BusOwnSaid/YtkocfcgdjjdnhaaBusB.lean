/- The devices of the program's bus: the list of them, the finisher, the timer's registers. No condition. -/
import Derived.Test.YtkocfcgdjjdnhaaBusA
import Derived.StillTailTactics
import Derived.RegionTactic
import Derived.Deep.Light
import Derived.Deep.LoopGhost
namespace Go.Proofs.Ytkocfcgdjjdnhaa.BW
open Go.RowKit
set_option linter.unusedVariables false
set_option linter.unusedSimpArgs false
set_option maxHeartbeats 1000000 in
set_option maxRecDepth 100000 in
theorem devices_any (w : World) (b : Nat) : Calls Try.prog 66 #[.pointer (some ⟨b, 0, none⟩)] w fun e w' => e = .returned (.slice (some ⟨w.heap.size, 0, none⟩) 4 4) ∧ w' = (w.alloc (.cells #[.iface 104 (.pointer (some ⟨b, 0, none⟩)), .iface 115 (.pointer (some ⟨b, 1, none⟩)), .iface 116 (.pointer (some ⟨b, 3, none⟩)), .iface 102 (.pointer (some ⟨b, 6, none⟩))] 93)).drew := by
  go_enter Try.func66, Try.ntmps66
  go_wp2
  go_still_tail 16, (by kernel_rfl)
  go_wp2
  go_ret
  exact ⟨rfl, rfl⟩
set_option maxHeartbeats 1000000 in
set_option maxRecDepth 100000 in
theorem fin_here_any (w : World) (b : Nat) (addr size : Int) : Calls Try.prog 117 #[.pointer (some ⟨b, 1, none⟩), .int .u64 addr, .int .i64 size] w fun e w' => e = .returned (.bool (decide (size = 4 ∧ addr = 1048576))) ∧ w = w' := by
  by_cases h1 : addr = 1048576 <;> by_cases h2 : size = 4
  all_goals
    go_enter Try.func117, Try.ntmps117
    go_wp2
    go_ret
    exact ⟨ret_bool (by simp [*]), rfl⟩
set_option maxHeartbeats 1000000 in
set_option maxRecDepth 100000 in
theorem fin_load_any (w : World) (b : Nat) (addr size : Int) : Calls Try.prog 118 #[.pointer (some ⟨b, 1, none⟩), .int .u64 addr, .int .i64 size] w fun e w' => e = .returned (.int .u64 0) ∧ w = w' := by
  go_enter Try.func118, Try.ntmps118
  go_wp2
  go_ret
  exact ⟨rfl, rfl⟩
/-- The register that an access is in. -/
def wordAt (b : Nat) (addr size : Int) : Option Addr :=
  if (addr = 33570816 ∧ (size = 4 ∨ size = 8)) ∨ (addr = 33570820 ∧ size = 4) then some ⟨b, 4, none⟩ else if (addr = 33603576 ∧ (size = 4 ∨ size = 8)) ∨ (addr = 33603580 ∧ size = 4) then some ⟨b, 5, none⟩ else none
theorem ret_ptr {a b : Option Addr} (h : a = b) : Ending.returned (.pointer a) = .returned (.pointer b) := by rw [h]
set_option maxHeartbeats 4000000 in
set_option maxRecDepth 100000 in
theorem word_1 (w : World) (b : Nat) (addr size : Int)  : Calls Try.prog 123 #[.pointer (some ⟨b, 3, none⟩), .int .u64 33570816, .int .i64 4] w fun e w' => e = .returned (.pointer (wordAt b 33570816 4)) ∧ Below w.heap.size w w' := by
  go_enter Try.func123, Try.ntmps123
  go_wp2
  go_region
  go_wp2
  refine wp_loop_rounds 3 ?_
  rw [rounds_succ]
  go_wp2
  go_ret
  refine ⟨ret_ptr ?_, ?_⟩
  · go_light; simp [wordAt, *]
  · go_light; (repeat first | exact Below.refl _ _ | refine Below.drew ?_ | refine Below.setCell ?_ (by simp) _ | refine Below.alloc ?_ (by simp; try omega) _)
set_option maxHeartbeats 4000000 in
set_option maxRecDepth 100000 in
theorem word_2 (w : World) (b : Nat) (addr size : Int)  : Calls Try.prog 123 #[.pointer (some ⟨b, 3, none⟩), .int .u64 33570816, .int .i64 8] w fun e w' => e = .returned (.pointer (wordAt b 33570816 8)) ∧ Below w.heap.size w w' := by
  go_enter Try.func123, Try.ntmps123
  go_wp2
  go_region
  go_wp2
  refine wp_loop_rounds 3 ?_
  rw [rounds_succ]
  go_wp2
  go_ret
  refine ⟨ret_ptr ?_, ?_⟩
  · go_light; simp [wordAt, *]
  · go_light; (repeat first | exact Below.refl _ _ | refine Below.drew ?_ | refine Below.setCell ?_ (by simp) _ | refine Below.alloc ?_ (by simp; try omega) _)
set_option maxHeartbeats 4000000 in
set_option maxRecDepth 100000 in
theorem word_3 (w : World) (b : Nat) (addr size : Int) (h4 : ¬ size = 4) (h8 : ¬ size = 8) : Calls Try.prog 123 #[.pointer (some ⟨b, 3, none⟩), .int .u64 33570816, .int .i64 size] w fun e w' => e = .returned (.pointer (wordAt b 33570816 size)) ∧ Below w.heap.size w w' := by
  have b4 : (size == 4) = false := by simpa using h4
  have b8 : (size == 8) = false := by simpa using h8
  go_enter Try.func123, Try.ntmps123
  go_wp2
  go_region
  go_wp2
  refine wp_loop_rounds 3 ?_
  rw [rounds_succ]
  go_wp2
  rw [rounds_succ]
  go_wp2
  rw [rounds_succ]
  go_wp2
  go_ret
  refine ⟨ret_ptr ?_, ?_⟩
  · go_light; simp [wordAt, *]
  · go_light; (repeat first | exact Below.refl _ _ | refine Below.drew ?_ | refine Below.setCell ?_ (by simp) _ | refine Below.alloc ?_ (by simp; try omega) _)
set_option maxHeartbeats 4000000 in
set_option maxRecDepth 100000 in
theorem word_4 (w : World) (b : Nat) (addr size : Int)  : Calls Try.prog 123 #[.pointer (some ⟨b, 3, none⟩), .int .u64 33570820, .int .i64 4] w fun e w' => e = .returned (.pointer (wordAt b 33570820 4)) ∧ Below w.heap.size w w' := by
  go_enter Try.func123, Try.ntmps123
  go_wp2
  go_region
  go_wp2
  refine wp_loop_rounds 3 ?_
  rw [rounds_succ]
  go_wp2
  go_ret
  refine ⟨ret_ptr ?_, ?_⟩
  · go_light; simp [wordAt, *]
  · go_light; (repeat first | exact Below.refl _ _ | refine Below.drew ?_ | refine Below.setCell ?_ (by simp) _ | refine Below.alloc ?_ (by simp; try omega) _)
set_option maxHeartbeats 4000000 in
set_option maxRecDepth 100000 in
theorem word_5 (w : World) (b : Nat) (addr size : Int) (h4 : ¬ size = 4) : Calls Try.prog 123 #[.pointer (some ⟨b, 3, none⟩), .int .u64 33570820, .int .i64 size] w fun e w' => e = .returned (.pointer (wordAt b 33570820 size)) ∧ Below w.heap.size w w' := by
  have b4 : (size == 4) = false := by simpa using h4
  go_enter Try.func123, Try.ntmps123
  go_wp2
  go_region
  go_wp2
  refine wp_loop_rounds 3 ?_
  rw [rounds_succ]
  go_wp2
  rw [rounds_succ]
  go_wp2
  rw [rounds_succ]
  go_wp2
  go_ret
  refine ⟨ret_ptr ?_, ?_⟩
  · go_light; simp [wordAt, *]
  · go_light; (repeat first | exact Below.refl _ _ | refine Below.drew ?_ | refine Below.setCell ?_ (by simp) _ | refine Below.alloc ?_ (by simp; try omega) _)
set_option maxHeartbeats 4000000 in
set_option maxRecDepth 100000 in
theorem word_6 (w : World) (b : Nat) (addr size : Int)  : Calls Try.prog 123 #[.pointer (some ⟨b, 3, none⟩), .int .u64 33603576, .int .i64 4] w fun e w' => e = .returned (.pointer (wordAt b 33603576 4)) ∧ Below w.heap.size w w' := by
  go_enter Try.func123, Try.ntmps123
  go_wp2
  go_region
  go_wp2
  refine wp_loop_rounds 3 ?_
  rw [rounds_succ]
  go_wp2
  rw [rounds_succ]
  go_wp2
  go_ret
  refine ⟨ret_ptr ?_, ?_⟩
  · go_light; simp [wordAt, *]
  · go_light; (repeat first | exact Below.refl _ _ | refine Below.drew ?_ | refine Below.setCell ?_ (by simp) _ | refine Below.alloc ?_ (by simp; try omega) _)
set_option maxHeartbeats 4000000 in
set_option maxRecDepth 100000 in
theorem word_7 (w : World) (b : Nat) (addr size : Int)  : Calls Try.prog 123 #[.pointer (some ⟨b, 3, none⟩), .int .u64 33603576, .int .i64 8] w fun e w' => e = .returned (.pointer (wordAt b 33603576 8)) ∧ Below w.heap.size w w' := by
  go_enter Try.func123, Try.ntmps123
  go_wp2
  go_region
  go_wp2
  refine wp_loop_rounds 3 ?_
  rw [rounds_succ]
  go_wp2
  rw [rounds_succ]
  go_wp2
  go_ret
  refine ⟨ret_ptr ?_, ?_⟩
  · go_light; simp [wordAt, *]
  · go_light; (repeat first | exact Below.refl _ _ | refine Below.drew ?_ | refine Below.setCell ?_ (by simp) _ | refine Below.alloc ?_ (by simp; try omega) _)
set_option maxHeartbeats 4000000 in
set_option maxRecDepth 100000 in
theorem word_8 (w : World) (b : Nat) (addr size : Int) (h4 : ¬ size = 4) (h8 : ¬ size = 8) : Calls Try.prog 123 #[.pointer (some ⟨b, 3, none⟩), .int .u64 33603576, .int .i64 size] w fun e w' => e = .returned (.pointer (wordAt b 33603576 size)) ∧ Below w.heap.size w w' := by
  have b4 : (size == 4) = false := by simpa using h4
  have b8 : (size == 8) = false := by simpa using h8
  go_enter Try.func123, Try.ntmps123
  go_wp2
  go_region
  go_wp2
  refine wp_loop_rounds 3 ?_
  rw [rounds_succ]
  go_wp2
  rw [rounds_succ]
  go_wp2
  rw [rounds_succ]
  go_wp2
  go_ret
  refine ⟨ret_ptr ?_, ?_⟩
  · go_light; simp [wordAt, *]
  · go_light; (repeat first | exact Below.refl _ _ | refine Below.drew ?_ | refine Below.setCell ?_ (by simp) _ | refine Below.alloc ?_ (by simp; try omega) _)
set_option maxHeartbeats 4000000 in
set_option maxRecDepth 100000 in
theorem word_9 (w : World) (b : Nat) (addr size : Int)  : Calls Try.prog 123 #[.pointer (some ⟨b, 3, none⟩), .int .u64 33603580, .int .i64 4] w fun e w' => e = .returned (.pointer (wordAt b 33603580 4)) ∧ Below w.heap.size w w' := by
  go_enter Try.func123, Try.ntmps123
  go_wp2
  go_region
  go_wp2
  refine wp_loop_rounds 3 ?_
  rw [rounds_succ]
  go_wp2
  rw [rounds_succ]
  go_wp2
  go_ret
  refine ⟨ret_ptr ?_, ?_⟩
  · go_light; simp [wordAt, *]
  · go_light; (repeat first | exact Below.refl _ _ | refine Below.drew ?_ | refine Below.setCell ?_ (by simp) _ | refine Below.alloc ?_ (by simp; try omega) _)
set_option maxHeartbeats 4000000 in
set_option maxRecDepth 100000 in
theorem word_10 (w : World) (b : Nat) (addr size : Int) (h4 : ¬ size = 4) : Calls Try.prog 123 #[.pointer (some ⟨b, 3, none⟩), .int .u64 33603580, .int .i64 size] w fun e w' => e = .returned (.pointer (wordAt b 33603580 size)) ∧ Below w.heap.size w w' := by
  have b4 : (size == 4) = false := by simpa using h4
  go_enter Try.func123, Try.ntmps123
  go_wp2
  go_region
  go_wp2
  refine wp_loop_rounds 3 ?_
  rw [rounds_succ]
  go_wp2
  rw [rounds_succ]
  go_wp2
  rw [rounds_succ]
  go_wp2
  go_ret
  refine ⟨ret_ptr ?_, ?_⟩
  · go_light; simp [wordAt, *]
  · go_light; (repeat first | exact Below.refl _ _ | refine Below.drew ?_ | refine Below.setCell ?_ (by simp) _ | refine Below.alloc ?_ (by simp; try omega) _)
set_option maxHeartbeats 4000000 in
set_option maxRecDepth 100000 in
theorem word_11 (w : World) (b : Nat) (addr size : Int) (e1 : ¬ addr = 33570816) (e2 : ¬ addr = 33570820) (e3 : ¬ addr = 33603576) (e4 : ¬ addr = 33603580) : Calls Try.prog 123 #[.pointer (some ⟨b, 3, none⟩), .int .u64 addr, .int .i64 size] w fun e w' => e = .returned (.pointer (wordAt b addr size)) ∧ Below w.heap.size w w' := by
  have b1 : (addr == 33570816) = false := by simpa using e1
  have b2 : (addr == 33570820) = false := by simpa using e2
  have b3 : (addr == 33603576) = false := by simpa using e3
  have b4 : (addr == 33603580) = false := by simpa using e4
  go_enter Try.func123, Try.ntmps123
  go_wp2
  go_region
  go_wp2
  refine wp_loop_rounds 3 ?_
  rw [rounds_succ]
  go_wp2
  rw [rounds_succ]
  go_wp2
  rw [rounds_succ]
  go_wp2
  go_ret
  refine ⟨ret_ptr ?_, ?_⟩
  · go_light; simp [wordAt, *]
  · go_light; (repeat first | exact Below.refl _ _ | refine Below.drew ?_ | refine Below.setCell ?_ (by simp) _ | refine Below.alloc ?_ (by simp; try omega) _)
theorem word_any (w : World) (b : Nat) (addr size : Int) (a0 : 0 ≤ addr) (a1 : addr ≤ 18446744073709551615) : Calls Try.prog 123 #[.pointer (some ⟨b, 3, none⟩), .int .u64 addr, .int .i64 size] w fun e w' => e = .returned (.pointer (wordAt b addr size)) ∧ Below w.heap.size w w' := by
  by_cases e1 : addr = 33570816
  · subst e1
    by_cases h4 : size = 4
    · subst h4; exact word_1 w b 0 0
    by_cases h8 : size = 8
    · subst h8; exact word_2 w b 0 0
    exact word_3 w b 0 size h4 h8
  by_cases e2 : addr = 33570820
  · subst e2
    by_cases h4 : size = 4
    · subst h4; exact word_4 w b 0 0
    exact word_5 w b 0 size h4
  by_cases e3 : addr = 33603576
  · subst e3
    by_cases h4 : size = 4
    · subst h4; exact word_6 w b 0 0
    by_cases h8 : size = 8
    · subst h8; exact word_7 w b 0 0
    exact word_8 w b 0 size h4 h8
  by_cases e4 : addr = 33603580
  · subst e4
    by_cases h4 : size = 4
    · subst h4; exact word_9 w b 0 0
    exact word_10 w b 0 size h4
  exact word_11 w b addr size e1 e2 e3 e4
end Go.Proofs.Ytkocfcgdjjdnhaa.BW
