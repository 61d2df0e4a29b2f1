/- The devices of the program's bus: the timer. No condition. -/
import Derived.Test.YtkocfcgdjjdnhaaBusB
import Derived.Test.YtkocfcgdjjdnhaaBusMath
namespace Go.Proofs.Ytkocfcgdjjdnhaa.BW
open Go.RowKit
set_option linter.unusedVariables false
set_option linter.unusedSimpArgs false
set_option maxHeartbeats 4000000 in
set_option maxRecDepth 100000 in
theorem clint_here_any (w : World) (b : Nat) (addr size : Int) (a0 : 0 ≤ addr) (a1 : addr ≤ 18446744073709551615) : Calls Try.prog 120 #[.pointer (some ⟨b, 3, none⟩), .int .u64 addr, .int .i64 size] w fun e w' => e = .returned (.bool (decide (addr = 33554432 ∧ size = 4) || (wordAt b addr size).isSome)) ∧ Below w.heap.size w w' := by
  by_cases e1 : addr = 33554432
  · subst e1
    by_cases e2 : size = 4
    · subst e2
      go_enter Try.func120, Try.ntmps120
      go_wp2
      go_ret
      exact ⟨rfl, Below.refl _ _⟩
    · have b2 : (size == 4) = false := by simpa using e2
      go_enter Try.func120, Try.ntmps120
      go_wp2_with (go_at_call 123; refine (word_any _ b _ size (by omega) (by omega)).mono ?_; rintro e w' ⟨rfl, hb⟩)
      go_ret
      exact ⟨ret_bool (by simp [wordAt, e2]), hb⟩
  · have b1 : (addr == 33554432) = false := by simpa using e1
    go_enter Try.func120, Try.ntmps120
    go_wp2_with (go_at_call 123; refine (word_any _ b addr size a0 a1).mono ?_; rintro e w' ⟨rfl, hb⟩)
    go_ret
    exact ⟨ret_bool (by cases h : wordAt b addr size <;> simp [e1]), hb⟩
theorem word_is (w : World) (b : Nat) (addr size : Int) (p : Option Addr) (h : wordAt b addr size = p) (a0 : 0 ≤ addr) (a1 : addr ≤ 18446744073709551615) : Calls Try.prog 123 #[.pointer (some ⟨b, 3, none⟩), .int .u64 addr, .int .i64 size] w fun e w' => e = .returned (.pointer p) ∧ Below w.heap.size w w' := by
  subst h; exact word_any w b addr size a0 a1
set_option maxHeartbeats 4000000 in
set_option maxRecDepth 100000 in
theorem clint_load_m (w : World) (b : Nat) (x : Int) (x0 : 0 ≤ x) (x1 : x ≤ 4294967295) (hlt : b < w.heap.size) (c : w.cell? ⟨b, 3, none⟩ = some (.int .u32 x)) : Calls Try.prog 121 #[.pointer (some ⟨b, 3, none⟩), .int .u64 33554432, .int .i64 4] w fun e w' => e = .returned (.int .u64 (x)) ∧ Below w.heap.size w w' := by
  have k4 : bits .and .u64 33570820 4 = 4 := by decide
  have k0 : bits .and .u64 33570816 4 = 0 := by decide
  have m4 : bits .and .u64 33603580 4 = 4 := by decide
  have m0 : bits .and .u64 33603576 4 = 0 := by decide
  have z : w.frozen? ⟨b, 3, none⟩ = w.frozen? ⟨b, 3, none⟩ := rfl
  go_enter Try.func121, Try.ntmps121
  go_wp2_with (go_at_call 123; refine (word_is _ b _ _ none (by simp [wordAt]) (by omega) (by omega)).mono ?_; rintro e w' ⟨rfl, hb⟩; have d := (hb.cell (p := ⟨b, 3, none⟩) hlt).trans c; have f := (hb.frozen (p := ⟨b, 3, none⟩) hlt).trans z)
  go_ret
  exact ⟨ret_int (by rfl), hb⟩
set_option maxHeartbeats 4000000 in
set_option maxRecDepth 100000 in
theorem clint_load_c (w : World) (b : Nat) (x : Int) (x0 : 0 ≤ x) (x1 : x ≤ 18446744073709551615) (hlt : b < w.heap.size) (c : w.cell? ⟨b, 4, none⟩ = some (.int .u64 x)) : Calls Try.prog 121 #[.pointer (some ⟨b, 3, none⟩), .int .u64 33570816, .int .i64 8] w fun e w' => e = .returned (.int .u64 (x)) ∧ Below w.heap.size w w' := by
  have k4 : bits .and .u64 33570820 4 = 4 := by decide
  have k0 : bits .and .u64 33570816 4 = 0 := by decide
  have m4 : bits .and .u64 33603580 4 = 4 := by decide
  have m0 : bits .and .u64 33603576 4 = 0 := by decide
  have z : w.frozen? ⟨b, 4, none⟩ = w.frozen? ⟨b, 4, none⟩ := rfl
  go_enter Try.func121, Try.ntmps121
  go_wp2_with (go_at_call 123; refine (word_is _ b _ _ (some ⟨b, 4, none⟩) (by simp [wordAt]) (by omega) (by omega)).mono ?_; rintro e w' ⟨rfl, hb⟩; have d := (hb.cell (p := ⟨b, 4, none⟩) hlt).trans c; have f := (hb.frozen (p := ⟨b, 4, none⟩) hlt).trans z)
  go_ret
  exact ⟨ret_int (by rfl), hb⟩
set_option maxHeartbeats 4000000 in
set_option maxRecDepth 100000 in
theorem clint_load_cl (w : World) (b : Nat) (x : Int) (x0 : 0 ≤ x) (x1 : x ≤ 18446744073709551615) (hlt : b < w.heap.size) (c : w.cell? ⟨b, 4, none⟩ = some (.int .u64 x)) : Calls Try.prog 121 #[.pointer (some ⟨b, 3, none⟩), .int .u64 33570816, .int .i64 4] w fun e w' => e = .returned (.int .u64 (x % 4294967296)) ∧ Below w.heap.size w w' := by
  have k4 : bits .and .u64 33570820 4 = 4 := by decide
  have k0 : bits .and .u64 33570816 4 = 0 := by decide
  have m4 : bits .and .u64 33603580 4 = 4 := by decide
  have m0 : bits .and .u64 33603576 4 = 0 := by decide
  have z : w.frozen? ⟨b, 4, none⟩ = w.frozen? ⟨b, 4, none⟩ := rfl
  go_enter Try.func121, Try.ntmps121
  go_wp2_with (go_at_call 123; refine (word_is _ b _ _ (some ⟨b, 4, none⟩) (by simp [wordAt]) (by omega) (by omega)).mono ?_; rintro e w' ⟨rfl, hb⟩; have d := (hb.cell (p := ⟨b, 4, none⟩) hlt).trans c; have f := (hb.frozen (p := ⟨b, 4, none⟩) hlt).trans z)
  go_ret
  exact ⟨ret_int (by first | rfl | exact u64_andlo x x0 x1), hb⟩
set_option maxHeartbeats 4000000 in
set_option maxRecDepth 100000 in
theorem clint_load_ch (w : World) (b : Nat) (x : Int) (x0 : 0 ≤ x) (x1 : x ≤ 18446744073709551615) (hlt : b < w.heap.size) (c : w.cell? ⟨b, 4, none⟩ = some (.int .u64 x)) : Calls Try.prog 121 #[.pointer (some ⟨b, 3, none⟩), .int .u64 33570820, .int .i64 4] w fun e w' => e = .returned (.int .u64 (x / 4294967296)) ∧ Below w.heap.size w w' := by
  have k4 : bits .and .u64 33570820 4 = 4 := by decide
  have k0 : bits .and .u64 33570816 4 = 0 := by decide
  have m4 : bits .and .u64 33603580 4 = 4 := by decide
  have m0 : bits .and .u64 33603576 4 = 0 := by decide
  have z : w.frozen? ⟨b, 4, none⟩ = w.frozen? ⟨b, 4, none⟩ := rfl
  go_enter Try.func121, Try.ntmps121
  go_wp2_with (go_at_call 123; refine (word_is _ b _ _ (some ⟨b, 4, none⟩) (by simp [wordAt]) (by omega) (by omega)).mono ?_; rintro e w' ⟨rfl, hb⟩; have d := (hb.cell (p := ⟨b, 4, none⟩) hlt).trans c; have f := (hb.frozen (p := ⟨b, 4, none⟩) hlt).trans z)
  go_ret
  exact ⟨ret_int (by first | rfl | (rw [u64_andlo _ (by omega) (by omega)]; omega)), hb⟩
set_option maxHeartbeats 4000000 in
set_option maxRecDepth 100000 in
theorem clint_load_n (w : World) (b : Nat) (x : Int) (x0 : 0 ≤ x) (x1 : x ≤ 18446744073709551615) (hlt : b < w.heap.size) (c : w.cell? ⟨b, 5, none⟩ = some (.int .u64 x)) : Calls Try.prog 121 #[.pointer (some ⟨b, 3, none⟩), .int .u64 33603576, .int .i64 8] w fun e w' => e = .returned (.int .u64 (x)) ∧ Below w.heap.size w w' := by
  have k4 : bits .and .u64 33570820 4 = 4 := by decide
  have k0 : bits .and .u64 33570816 4 = 0 := by decide
  have m4 : bits .and .u64 33603580 4 = 4 := by decide
  have m0 : bits .and .u64 33603576 4 = 0 := by decide
  have z : w.frozen? ⟨b, 5, none⟩ = w.frozen? ⟨b, 5, none⟩ := rfl
  go_enter Try.func121, Try.ntmps121
  go_wp2_with (go_at_call 123; refine (word_is _ b _ _ (some ⟨b, 5, none⟩) (by simp [wordAt]) (by omega) (by omega)).mono ?_; rintro e w' ⟨rfl, hb⟩; have d := (hb.cell (p := ⟨b, 5, none⟩) hlt).trans c; have f := (hb.frozen (p := ⟨b, 5, none⟩) hlt).trans z)
  go_ret
  exact ⟨ret_int (by rfl), hb⟩
set_option maxHeartbeats 4000000 in
set_option maxRecDepth 100000 in
theorem clint_load_nl (w : World) (b : Nat) (x : Int) (x0 : 0 ≤ x) (x1 : x ≤ 18446744073709551615) (hlt : b < w.heap.size) (c : w.cell? ⟨b, 5, none⟩ = some (.int .u64 x)) : Calls Try.prog 121 #[.pointer (some ⟨b, 3, none⟩), .int .u64 33603576, .int .i64 4] w fun e w' => e = .returned (.int .u64 (x % 4294967296)) ∧ Below w.heap.size w w' := by
  have k4 : bits .and .u64 33570820 4 = 4 := by decide
  have k0 : bits .and .u64 33570816 4 = 0 := by decide
  have m4 : bits .and .u64 33603580 4 = 4 := by decide
  have m0 : bits .and .u64 33603576 4 = 0 := by decide
  have z : w.frozen? ⟨b, 5, none⟩ = w.frozen? ⟨b, 5, none⟩ := rfl
  go_enter Try.func121, Try.ntmps121
  go_wp2_with (go_at_call 123; refine (word_is _ b _ _ (some ⟨b, 5, none⟩) (by simp [wordAt]) (by omega) (by omega)).mono ?_; rintro e w' ⟨rfl, hb⟩; have d := (hb.cell (p := ⟨b, 5, none⟩) hlt).trans c; have f := (hb.frozen (p := ⟨b, 5, none⟩) hlt).trans z)
  go_ret
  exact ⟨ret_int (by first | rfl | exact u64_andlo x x0 x1), hb⟩
set_option maxHeartbeats 4000000 in
set_option maxRecDepth 100000 in
theorem clint_load_nh (w : World) (b : Nat) (x : Int) (x0 : 0 ≤ x) (x1 : x ≤ 18446744073709551615) (hlt : b < w.heap.size) (c : w.cell? ⟨b, 5, none⟩ = some (.int .u64 x)) : Calls Try.prog 121 #[.pointer (some ⟨b, 3, none⟩), .int .u64 33603580, .int .i64 4] w fun e w' => e = .returned (.int .u64 (x / 4294967296)) ∧ Below w.heap.size w w' := by
  have k4 : bits .and .u64 33570820 4 = 4 := by decide
  have k0 : bits .and .u64 33570816 4 = 0 := by decide
  have m4 : bits .and .u64 33603580 4 = 4 := by decide
  have m0 : bits .and .u64 33603576 4 = 0 := by decide
  have z : w.frozen? ⟨b, 5, none⟩ = w.frozen? ⟨b, 5, none⟩ := rfl
  go_enter Try.func121, Try.ntmps121
  go_wp2_with (go_at_call 123; refine (word_is _ b _ _ (some ⟨b, 5, none⟩) (by simp [wordAt]) (by omega) (by omega)).mono ?_; rintro e w' ⟨rfl, hb⟩; have d := (hb.cell (p := ⟨b, 5, none⟩) hlt).trans c; have f := (hb.frozen (p := ⟨b, 5, none⟩) hlt).trans z)
  go_ret
  exact ⟨ret_int (by first | rfl | (rw [u64_andlo _ (by omega) (by omega)]; omega)), hb⟩
set_option maxHeartbeats 4000000 in
set_option maxRecDepth 100000 in
theorem clint_store_m (w : World) (b : Nat) (x v : Int) (x0 : 0 ≤ x) (x1 : x ≤ 4294967295) (v0 : 0 ≤ v) (v1 : v ≤ 18446744073709551615) (hlt : b < w.heap.size) (c : w.cell? ⟨b, 3, none⟩ = some (.int .u32 x)) (z : w.frozen? ⟨b, 3, none⟩ = false) : Calls Try.prog 122 #[.pointer (some ⟨b, 3, none⟩), .int .u64 33554432, .int .i64 4, .int .u64 v] w fun e w' => e = .returned (.tuple #[]) ∧ ∃ w1, Below w.heap.size w w1 ∧ w' = w1.setCell ⟨b, 3, none⟩ (.int .u32 (v % 2)) := by
  have k4 : bits .and .u64 33570820 4 = 4 := by decide
  have k0 : bits .and .u64 33570816 4 = 0 := by decide
  have m4 : bits .and .u64 33603580 4 = 4 := by decide
  have m0 : bits .and .u64 33603576 4 = 0 := by decide
  go_enter Try.func122, Try.ntmps122
  go_wp2_with (go_at_call 123; refine (word_is _ b _ _ none (by simp [wordAt]) (by omega) (by omega)).mono ?_; rintro e w' ⟨rfl, hb⟩; have d := (hb.cell (p := ⟨b, 3, none⟩) hlt).trans c; have f := (hb.frozen (p := ⟨b, 3, none⟩) hlt).trans z)
  first | go_end0 | go_ret
  refine ⟨rfl, _, hb, ?_⟩
  go_light
  exact congrArg (fun q => w'.setCell ⟨b, 3, none⟩ (Value.int .u32 q)) (by rw [u64_and1 v v0 v1]; omega)
set_option maxHeartbeats 4000000 in
set_option maxRecDepth 100000 in
theorem clint_store_c (w : World) (b : Nat) (x v : Int) (x0 : 0 ≤ x) (x1 : x ≤ 18446744073709551615) (v0 : 0 ≤ v) (v1 : v ≤ 18446744073709551615) (hlt : b < w.heap.size) (c : w.cell? ⟨b, 4, none⟩ = some (.int .u64 x)) (z : w.frozen? ⟨b, 4, none⟩ = false) : Calls Try.prog 122 #[.pointer (some ⟨b, 3, none⟩), .int .u64 33570816, .int .i64 8, .int .u64 v] w fun e w' => e = .returned (.tuple #[]) ∧ ∃ w1, Below w.heap.size w w1 ∧ w' = w1.setCell ⟨b, 4, none⟩ (.int .u64 (v)) := by
  have k4 : bits .and .u64 33570820 4 = 4 := by decide
  have k0 : bits .and .u64 33570816 4 = 0 := by decide
  have m4 : bits .and .u64 33603580 4 = 4 := by decide
  have m0 : bits .and .u64 33603576 4 = 0 := by decide
  go_enter Try.func122, Try.ntmps122
  go_wp2_with (go_at_call 123; refine (word_is _ b _ _ (some ⟨b, 4, none⟩) (by simp [wordAt]) (by omega) (by omega)).mono ?_; rintro e w' ⟨rfl, hb⟩; have d := (hb.cell (p := ⟨b, 4, none⟩) hlt).trans c; have f := (hb.frozen (p := ⟨b, 4, none⟩) hlt).trans z)
  first | go_end0 | go_ret
  refine ⟨rfl, _, hb, ?_⟩
  go_light
  exact congrArg (fun q => w'.setCell ⟨b, 4, none⟩ (Value.int .u64 q)) (by rfl)
set_option maxHeartbeats 4000000 in
set_option maxRecDepth 100000 in
theorem clint_store_cl (w : World) (b : Nat) (x v : Int) (x0 : 0 ≤ x) (x1 : x ≤ 18446744073709551615) (v0 : 0 ≤ v) (v1 : v ≤ 18446744073709551615) (hlt : b < w.heap.size) (c : w.cell? ⟨b, 4, none⟩ = some (.int .u64 x)) (z : w.frozen? ⟨b, 4, none⟩ = false) : Calls Try.prog 122 #[.pointer (some ⟨b, 3, none⟩), .int .u64 33570816, .int .i64 4, .int .u64 v] w fun e w' => e = .returned (.tuple #[]) ∧ ∃ w1, Below w.heap.size w w1 ∧ w' = w1.setCell ⟨b, 4, none⟩ (.int .u64 (lowOf x v)) := by
  have k4 : bits .and .u64 33570820 4 = 4 := by decide
  have k0 : bits .and .u64 33570816 4 = 0 := by decide
  have m4 : bits .and .u64 33603580 4 = 4 := by decide
  have m0 : bits .and .u64 33603576 4 = 0 := by decide
  go_enter Try.func122, Try.ntmps122
  go_wp2_with (go_at_call 123; refine (word_is _ b _ _ (some ⟨b, 4, none⟩) (by simp [wordAt]) (by omega) (by omega)).mono ?_; rintro e w' ⟨rfl, hb⟩; have d := (hb.cell (p := ⟨b, 4, none⟩) hlt).trans c; have f := (hb.frozen (p := ⟨b, 4, none⟩) hlt).trans z)
  first | go_end0 | go_ret
  refine ⟨rfl, _, hb, ?_⟩
  go_light
  exact congrArg (fun q => w'.setCell ⟨b, 4, none⟩ (Value.int .u64 q)) (by exact lowOf_bits x v x0 x1 v0 v1)
set_option maxHeartbeats 4000000 in
set_option maxRecDepth 100000 in
theorem clint_store_ch (w : World) (b : Nat) (x v : Int) (x0 : 0 ≤ x) (x1 : x ≤ 18446744073709551615) (v0 : 0 ≤ v) (v1 : v ≤ 18446744073709551615) (hlt : b < w.heap.size) (c : w.cell? ⟨b, 4, none⟩ = some (.int .u64 x)) (z : w.frozen? ⟨b, 4, none⟩ = false) : Calls Try.prog 122 #[.pointer (some ⟨b, 3, none⟩), .int .u64 33570820, .int .i64 4, .int .u64 v] w fun e w' => e = .returned (.tuple #[]) ∧ ∃ w1, Below w.heap.size w w1 ∧ w' = w1.setCell ⟨b, 4, none⟩ (.int .u64 (highOf x v)) := by
  have k4 : bits .and .u64 33570820 4 = 4 := by decide
  have k0 : bits .and .u64 33570816 4 = 0 := by decide
  have m4 : bits .and .u64 33603580 4 = 4 := by decide
  have m0 : bits .and .u64 33603576 4 = 0 := by decide
  go_enter Try.func122, Try.ntmps122
  go_wp2_with (go_at_call 123; refine (word_is _ b _ _ (some ⟨b, 4, none⟩) (by simp [wordAt]) (by omega) (by omega)).mono ?_; rintro e w' ⟨rfl, hb⟩; have d := (hb.cell (p := ⟨b, 4, none⟩) hlt).trans c; have f := (hb.frozen (p := ⟨b, 4, none⟩) hlt).trans z)
  first | go_end0 | go_ret
  refine ⟨rfl, _, hb, ?_⟩
  go_light
  exact congrArg (fun q => w'.setCell ⟨b, 4, none⟩ (Value.int .u64 q)) (by exact highOf_bits x v x0 x1 v0 v1)
set_option maxHeartbeats 4000000 in
set_option maxRecDepth 100000 in
theorem clint_store_n (w : World) (b : Nat) (x v : Int) (x0 : 0 ≤ x) (x1 : x ≤ 18446744073709551615) (v0 : 0 ≤ v) (v1 : v ≤ 18446744073709551615) (hlt : b < w.heap.size) (c : w.cell? ⟨b, 5, none⟩ = some (.int .u64 x)) (z : w.frozen? ⟨b, 5, none⟩ = false) : Calls Try.prog 122 #[.pointer (some ⟨b, 3, none⟩), .int .u64 33603576, .int .i64 8, .int .u64 v] w fun e w' => e = .returned (.tuple #[]) ∧ ∃ w1, Below w.heap.size w w1 ∧ w' = w1.setCell ⟨b, 5, none⟩ (.int .u64 (v)) := by
  have k4 : bits .and .u64 33570820 4 = 4 := by decide
  have k0 : bits .and .u64 33570816 4 = 0 := by decide
  have m4 : bits .and .u64 33603580 4 = 4 := by decide
  have m0 : bits .and .u64 33603576 4 = 0 := by decide
  go_enter Try.func122, Try.ntmps122
  go_wp2_with (go_at_call 123; refine (word_is _ b _ _ (some ⟨b, 5, none⟩) (by simp [wordAt]) (by omega) (by omega)).mono ?_; rintro e w' ⟨rfl, hb⟩; have d := (hb.cell (p := ⟨b, 5, none⟩) hlt).trans c; have f := (hb.frozen (p := ⟨b, 5, none⟩) hlt).trans z)
  first | go_end0 | go_ret
  refine ⟨rfl, _, hb, ?_⟩
  go_light
  exact congrArg (fun q => w'.setCell ⟨b, 5, none⟩ (Value.int .u64 q)) (by rfl)
set_option maxHeartbeats 4000000 in
set_option maxRecDepth 100000 in
theorem clint_store_nl (w : World) (b : Nat) (x v : Int) (x0 : 0 ≤ x) (x1 : x ≤ 18446744073709551615) (v0 : 0 ≤ v) (v1 : v ≤ 18446744073709551615) (hlt : b < w.heap.size) (c : w.cell? ⟨b, 5, none⟩ = some (.int .u64 x)) (z : w.frozen? ⟨b, 5, none⟩ = false) : Calls Try.prog 122 #[.pointer (some ⟨b, 3, none⟩), .int .u64 33603576, .int .i64 4, .int .u64 v] w fun e w' => e = .returned (.tuple #[]) ∧ ∃ w1, Below w.heap.size w w1 ∧ w' = w1.setCell ⟨b, 5, none⟩ (.int .u64 (lowOf x v)) := by
  have k4 : bits .and .u64 33570820 4 = 4 := by decide
  have k0 : bits .and .u64 33570816 4 = 0 := by decide
  have m4 : bits .and .u64 33603580 4 = 4 := by decide
  have m0 : bits .and .u64 33603576 4 = 0 := by decide
  go_enter Try.func122, Try.ntmps122
  go_wp2_with (go_at_call 123; refine (word_is _ b _ _ (some ⟨b, 5, none⟩) (by simp [wordAt]) (by omega) (by omega)).mono ?_; rintro e w' ⟨rfl, hb⟩; have d := (hb.cell (p := ⟨b, 5, none⟩) hlt).trans c; have f := (hb.frozen (p := ⟨b, 5, none⟩) hlt).trans z)
  first | go_end0 | go_ret
  refine ⟨rfl, _, hb, ?_⟩
  go_light
  exact congrArg (fun q => w'.setCell ⟨b, 5, none⟩ (Value.int .u64 q)) (by exact lowOf_bits x v x0 x1 v0 v1)
set_option maxHeartbeats 4000000 in
set_option maxRecDepth 100000 in
theorem clint_store_nh (w : World) (b : Nat) (x v : Int) (x0 : 0 ≤ x) (x1 : x ≤ 18446744073709551615) (v0 : 0 ≤ v) (v1 : v ≤ 18446744073709551615) (hlt : b < w.heap.size) (c : w.cell? ⟨b, 5, none⟩ = some (.int .u64 x)) (z : w.frozen? ⟨b, 5, none⟩ = false) : Calls Try.prog 122 #[.pointer (some ⟨b, 3, none⟩), .int .u64 33603580, .int .i64 4, .int .u64 v] w fun e w' => e = .returned (.tuple #[]) ∧ ∃ w1, Below w.heap.size w w1 ∧ w' = w1.setCell ⟨b, 5, none⟩ (.int .u64 (highOf x v)) := by
  have k4 : bits .and .u64 33570820 4 = 4 := by decide
  have k0 : bits .and .u64 33570816 4 = 0 := by decide
  have m4 : bits .and .u64 33603580 4 = 4 := by decide
  have m0 : bits .and .u64 33603576 4 = 0 := by decide
  go_enter Try.func122, Try.ntmps122
  go_wp2_with (go_at_call 123; refine (word_is _ b _ _ (some ⟨b, 5, none⟩) (by simp [wordAt]) (by omega) (by omega)).mono ?_; rintro e w' ⟨rfl, hb⟩; have d := (hb.cell (p := ⟨b, 5, none⟩) hlt).trans c; have f := (hb.frozen (p := ⟨b, 5, none⟩) hlt).trans z)
  first | go_end0 | go_ret
  refine ⟨rfl, _, hb, ?_⟩
  go_light
  exact congrArg (fun q => w'.setCell ⟨b, 5, none⟩ (Value.int .u64 q)) (by exact highOf_bits x v x0 x1 v0 v1)
end Go.Proofs.Ytkocfcgdjjdnhaa.BW
