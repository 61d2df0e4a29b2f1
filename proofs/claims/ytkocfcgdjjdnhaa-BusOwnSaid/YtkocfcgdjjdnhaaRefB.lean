/- The document's bus: what an access reaches, in all cases. Premise: a bus lies there. Printed by wip/gen_refb.py. -/
import Derived.Test.YtkocfcgdjjdnhaaRefA
namespace Go.Proofs.Ytkocfcgdjjdnhaa.BW
open Go.RowKit
set_option linter.unusedVariables false
set_option linter.unusedSimpArgs false
set_option maxHeartbeats 4000000 in
set_option maxRecDepth 100000 in
theorem rr_bad (w : World) (b n c : Nat) (A : Option Addr) (hn : n ≤ 65536) (c0 : w.cell? ⟨b, 0, none⟩ = some (.slice A n c)) (addr size : Int) (e1 : ¬ size = 1) (e2 : ¬ size = 2) (e4 : ¬ size = 4) (e8 : ¬ size = 8) :
    Calls Try.prog 67 #[.pointer (some ⟨b, 0, none⟩), .int .u64 addr, .int .i64 size] w fun e w' => e = .returned (.int .i64 0) ∧ w = w' := by
  have f1 : (size != 1) = true := by simpa using e1
  have f2 : (size != 2) = true := by simpa using e2
  have f4 : (size != 4) = true := by simpa using e4
  have f8 : (size != 8) = true := by simpa using e8
  go_enter Try.func67, Try.ntmps67
  go_wp2
  go_ret
  exact ⟨rfl, rfl⟩
set_option maxHeartbeats 4000000 in
set_option maxRecDepth 100000 in
theorem rr_ram1 (w : World) (b n c : Nat) (A : Option Addr) (hn : n ≤ 65536) (c0 : w.cell? ⟨b, 0, none⟩ = some (.slice A n c)) (addr : Int) (a0 : 0 ≤ addr) (a1 : addr ≤ 18446744073709551615) (hr : inRam n addr 1 = true) :
    Calls Try.prog 67 #[.pointer (some ⟨b, 0, none⟩), .int .u64 addr, .int .i64 1] w fun e w' => e = .returned (.int .i64 1) ∧ w = w' := by
  have HR := Lib.hid hr
  clear hr
  go_enter Try.func67, Try.ntmps67
  go_wp2_with (go_at_call 54; refine (r_isram_is _ b n c A hn c0 _ _ (by omega) (by omega) (by omega) true HR.out).mono ?_; rintro e w' ⟨rfl, rfl⟩)
  go_ret
  exact ⟨rfl, rfl⟩
set_option maxHeartbeats 4000000 in
set_option maxRecDepth 100000 in
theorem rr_ram2 (w : World) (b n c : Nat) (A : Option Addr) (hn : n ≤ 65536) (c0 : w.cell? ⟨b, 0, none⟩ = some (.slice A n c)) (addr : Int) (a0 : 0 ≤ addr) (a1 : addr ≤ 18446744073709551615) (hr : inRam n addr 2 = true) (hq : addr % 2 = 0) :
    Calls Try.prog 67 #[.pointer (some ⟨b, 0, none⟩), .int .u64 addr, .int .i64 2] w fun e w' => e = .returned (.int .i64 1) ∧ w = w' := by
  have HR := Lib.hid hr
  clear hr
  go_enter Try.func67, Try.ntmps67
  go_wp2_with (go_at_call 54; refine (r_isram_is _ b n c A hn c0 _ _ (by omega) (by omega) (by omega) true HR.out).mono ?_; rintro e w' ⟨rfl, rfl⟩)
  go_ret
  exact ⟨rfl, rfl⟩
set_option maxHeartbeats 4000000 in
set_option maxRecDepth 100000 in
theorem rr_odd2 (w : World) (b n c : Nat) (A : Option Addr) (hn : n ≤ 65536) (c0 : w.cell? ⟨b, 0, none⟩ = some (.slice A n c)) (addr : Int) (a0 : 0 ≤ addr) (a1 : addr ≤ 18446744073709551615) (hr : inRam n addr 2 = true) (hb : 2147483648 ≤ addr) (hq : ¬ addr % 2 = 0) :
    Calls Try.prog 67 #[.pointer (some ⟨b, 0, none⟩), .int .u64 addr, .int .i64 2] w fun e w' => e = .returned (.int .i64 0) ∧ w = w' := by
  have HR := Lib.hid hr
  clear hr
  go_enter Try.func67, Try.ntmps67
  go_wp2_with (go_at_call 54; refine (r_isram_is _ b n c A hn c0 _ _ (by omega) (by omega) (by omega) true HR.out).mono ?_; rintro e w' ⟨rfl, rfl⟩)
  go_ret
  exact ⟨rfl, rfl⟩
set_option maxHeartbeats 4000000 in
set_option maxRecDepth 100000 in
theorem rr_ram4 (w : World) (b n c : Nat) (A : Option Addr) (hn : n ≤ 65536) (c0 : w.cell? ⟨b, 0, none⟩ = some (.slice A n c)) (addr : Int) (a0 : 0 ≤ addr) (a1 : addr ≤ 18446744073709551615) (hr : inRam n addr 4 = true) (hq : addr % 4 = 0) :
    Calls Try.prog 67 #[.pointer (some ⟨b, 0, none⟩), .int .u64 addr, .int .i64 4] w fun e w' => e = .returned (.int .i64 1) ∧ w = w' := by
  have HR := Lib.hid hr
  clear hr
  go_enter Try.func67, Try.ntmps67
  go_wp2_with (go_at_call 54; refine (r_isram_is _ b n c A hn c0 _ _ (by omega) (by omega) (by omega) true HR.out).mono ?_; rintro e w' ⟨rfl, rfl⟩)
  go_ret
  exact ⟨rfl, rfl⟩
set_option maxHeartbeats 4000000 in
set_option maxRecDepth 100000 in
theorem rr_odd4 (w : World) (b n c : Nat) (A : Option Addr) (hn : n ≤ 65536) (c0 : w.cell? ⟨b, 0, none⟩ = some (.slice A n c)) (addr : Int) (a0 : 0 ≤ addr) (a1 : addr ≤ 18446744073709551615) (hr : inRam n addr 4 = true) (hb : 2147483648 ≤ addr) (hq : ¬ addr % 4 = 0) :
    Calls Try.prog 67 #[.pointer (some ⟨b, 0, none⟩), .int .u64 addr, .int .i64 4] w fun e w' => e = .returned (.int .i64 0) ∧ w = w' := by
  have HR := Lib.hid hr
  clear hr
  go_enter Try.func67, Try.ntmps67
  go_wp2_with (go_at_call 54; refine (r_isram_is _ b n c A hn c0 _ _ (by omega) (by omega) (by omega) true HR.out).mono ?_; rintro e w' ⟨rfl, rfl⟩)
  go_ret
  exact ⟨rfl, rfl⟩
set_option maxHeartbeats 4000000 in
set_option maxRecDepth 100000 in
theorem rr_ram8 (w : World) (b n c : Nat) (A : Option Addr) (hn : n ≤ 65536) (c0 : w.cell? ⟨b, 0, none⟩ = some (.slice A n c)) (addr : Int) (a0 : 0 ≤ addr) (a1 : addr ≤ 18446744073709551615) (hr : inRam n addr 8 = true) (hq : addr % 8 = 0) :
    Calls Try.prog 67 #[.pointer (some ⟨b, 0, none⟩), .int .u64 addr, .int .i64 8] w fun e w' => e = .returned (.int .i64 1) ∧ w = w' := by
  have HR := Lib.hid hr
  clear hr
  go_enter Try.func67, Try.ntmps67
  go_wp2_with (go_at_call 54; refine (r_isram_is _ b n c A hn c0 _ _ (by omega) (by omega) (by omega) true HR.out).mono ?_; rintro e w' ⟨rfl, rfl⟩)
  go_ret
  exact ⟨rfl, rfl⟩
set_option maxHeartbeats 4000000 in
set_option maxRecDepth 100000 in
theorem rr_odd8 (w : World) (b n c : Nat) (A : Option Addr) (hn : n ≤ 65536) (c0 : w.cell? ⟨b, 0, none⟩ = some (.slice A n c)) (addr : Int) (a0 : 0 ≤ addr) (a1 : addr ≤ 18446744073709551615) (hr : inRam n addr 8 = true) (hb : 2147483648 ≤ addr) (hq : ¬ addr % 8 = 0) :
    Calls Try.prog 67 #[.pointer (some ⟨b, 0, none⟩), .int .u64 addr, .int .i64 8] w fun e w' => e = .returned (.int .i64 0) ∧ w = w' := by
  have HR := Lib.hid hr
  clear hr
  go_enter Try.func67, Try.ntmps67
  go_wp2_with (go_at_call 54; refine (r_isram_is _ b n c A hn c0 _ _ (by omega) (by omega) (by omega) true HR.out).mono ?_; rintro e w' ⟨rfl, rfl⟩)
  go_ret
  exact ⟨rfl, rfl⟩
set_option maxHeartbeats 4000000 in
set_option maxRecDepth 100000 in
theorem rr_uart (w : World) (b n c : Nat) (A : Option Addr) (hn : n ≤ 65536) (c0 : w.cell? ⟨b, 0, none⟩ = some (.slice A n c)) (addr : Int) (a0 : 0 ≤ addr) (a1 : addr ≤ 18446744073709551615) (hr : inRam n addr 1 = false) (u0 : 268435456 ≤ addr) (u1 : addr < 268435464) :
    Calls Try.prog 67 #[.pointer (some ⟨b, 0, none⟩), .int .u64 addr, .int .i64 1] w fun e w' => e = .returned (.int .i64 10) ∧ w = w' := by
  have HR := Lib.hid hr
  clear hr
  go_enter Try.func67, Try.ntmps67
  go_wp2_with (go_at_call 54; refine (r_isram_is _ b n c A hn c0 _ _ (by omega) (by omega) (by omega) false HR.out).mono ?_; rintro e w' ⟨rfl, rfl⟩)
  go_ret
  exact ⟨rfl, rfl⟩
set_option maxHeartbeats 4000000 in
set_option maxRecDepth 100000 in
theorem rr_u_lo (w : World) (b n c : Nat) (A : Option Addr) (hn : n ≤ 65536) (c0 : w.cell? ⟨b, 0, none⟩ = some (.slice A n c)) (addr : Int) (a0 : 0 ≤ addr) (a1 : addr ≤ 18446744073709551615) (hr : inRam n addr 1 = false) (u0 : addr < 268435456) :
    Calls Try.prog 67 #[.pointer (some ⟨b, 0, none⟩), .int .u64 addr, .int .i64 1] w fun e w' => e = .returned (.int .i64 0) ∧ w = w' := by
  have HR := Lib.hid hr
  clear hr
  go_enter Try.func67, Try.ntmps67
  go_wp2_with (go_at_call 54; refine (r_isram_is _ b n c A hn c0 _ _ (by omega) (by omega) (by omega) false HR.out).mono ?_; rintro e w' ⟨rfl, rfl⟩)
  go_ret
  exact ⟨rfl, rfl⟩
set_option maxHeartbeats 4000000 in
set_option maxRecDepth 100000 in
theorem rr_u_hi (w : World) (b n c : Nat) (A : Option Addr) (hn : n ≤ 65536) (c0 : w.cell? ⟨b, 0, none⟩ = some (.slice A n c)) (addr : Int) (a0 : 0 ≤ addr) (a1 : addr ≤ 18446744073709551615) (hr : inRam n addr 1 = false) (u0 : 268435464 ≤ addr) :
    Calls Try.prog 67 #[.pointer (some ⟨b, 0, none⟩), .int .u64 addr, .int .i64 1] w fun e w' => e = .returned (.int .i64 0) ∧ w = w' := by
  have HR := Lib.hid hr
  clear hr
  go_enter Try.func67, Try.ntmps67
  go_wp2_with (go_at_call 54; refine (r_isram_is _ b n c A hn c0 _ _ (by omega) (by omega) (by omega) false HR.out).mono ?_; rintro e w' ⟨rfl, rfl⟩)
  go_ret
  exact ⟨rfl, rfl⟩
set_option maxHeartbeats 4000000 in
set_option maxRecDepth 100000 in
theorem rr_two (w : World) (b n c : Nat) (A : Option Addr) (hn : n ≤ 65536) (c0 : w.cell? ⟨b, 0, none⟩ = some (.slice A n c)) (addr : Int) (a0 : 0 ≤ addr) (a1 : addr ≤ 18446744073709551615) (hr : inRam n addr 2 = false) :
    Calls Try.prog 67 #[.pointer (some ⟨b, 0, none⟩), .int .u64 addr, .int .i64 2] w fun e w' => e = .returned (.int .i64 0) ∧ w = w' := by
  have HR := Lib.hid hr
  clear hr
  go_enter Try.func67, Try.ntmps67
  go_wp2_with (go_at_call 54; refine (r_isram_is _ b n c A hn c0 _ _ (by omega) (by omega) (by omega) false HR.out).mono ?_; rintro e w' ⟨rfl, rfl⟩)
  go_ret
  exact ⟨rfl, rfl⟩
set_option maxHeartbeats 4000000 in
set_option maxRecDepth 100000 in
theorem rr_four2 (w : World) (b n c : Nat) (A : Option Addr) (hn : n ≤ 65536) (c0 : w.cell? ⟨b, 0, none⟩ = some (.slice A n c)) (hr : inRam n 1048576 4 = false) :
    Calls Try.prog 67 #[.pointer (some ⟨b, 0, none⟩), .int .u64 1048576, .int .i64 4] w fun e w' => e = .returned (.int .i64 2) ∧ w = w' := by
  have HR := Lib.hid hr
  clear hr
  go_enter Try.func67, Try.ntmps67
  go_wp2_with (go_at_call 54; refine (r_isram_is _ b n c A hn c0 _ _ (by omega) (by omega) (by omega) false HR.out).mono ?_; rintro e w' ⟨rfl, rfl⟩)
  go_ret
  exact ⟨rfl, rfl⟩
set_option maxHeartbeats 4000000 in
set_option maxRecDepth 100000 in
theorem rr_four3 (w : World) (b n c : Nat) (A : Option Addr) (hn : n ≤ 65536) (c0 : w.cell? ⟨b, 0, none⟩ = some (.slice A n c)) (hr : inRam n 33554432 4 = false) :
    Calls Try.prog 67 #[.pointer (some ⟨b, 0, none⟩), .int .u64 33554432, .int .i64 4] w fun e w' => e = .returned (.int .i64 3) ∧ w = w' := by
  have HR := Lib.hid hr
  clear hr
  go_enter Try.func67, Try.ntmps67
  go_wp2_with (go_at_call 54; refine (r_isram_is _ b n c A hn c0 _ _ (by omega) (by omega) (by omega) false HR.out).mono ?_; rintro e w' ⟨rfl, rfl⟩)
  go_ret
  exact ⟨rfl, rfl⟩
set_option maxHeartbeats 4000000 in
set_option maxRecDepth 100000 in
theorem rr_four5 (w : World) (b n c : Nat) (A : Option Addr) (hn : n ≤ 65536) (c0 : w.cell? ⟨b, 0, none⟩ = some (.slice A n c)) (hr : inRam n 33570816 4 = false) :
    Calls Try.prog 67 #[.pointer (some ⟨b, 0, none⟩), .int .u64 33570816, .int .i64 4] w fun e w' => e = .returned (.int .i64 5) ∧ w = w' := by
  have HR := Lib.hid hr
  clear hr
  go_enter Try.func67, Try.ntmps67
  go_wp2_with (go_at_call 54; refine (r_isram_is _ b n c A hn c0 _ _ (by omega) (by omega) (by omega) false HR.out).mono ?_; rintro e w' ⟨rfl, rfl⟩)
  go_ret
  exact ⟨rfl, rfl⟩
set_option maxHeartbeats 4000000 in
set_option maxRecDepth 100000 in
theorem rr_four6 (w : World) (b n c : Nat) (A : Option Addr) (hn : n ≤ 65536) (c0 : w.cell? ⟨b, 0, none⟩ = some (.slice A n c)) (hr : inRam n 33570820 4 = false) :
    Calls Try.prog 67 #[.pointer (some ⟨b, 0, none⟩), .int .u64 33570820, .int .i64 4] w fun e w' => e = .returned (.int .i64 6) ∧ w = w' := by
  have HR := Lib.hid hr
  clear hr
  go_enter Try.func67, Try.ntmps67
  go_wp2_with (go_at_call 54; refine (r_isram_is _ b n c A hn c0 _ _ (by omega) (by omega) (by omega) false HR.out).mono ?_; rintro e w' ⟨rfl, rfl⟩)
  go_ret
  exact ⟨rfl, rfl⟩
set_option maxHeartbeats 4000000 in
set_option maxRecDepth 100000 in
theorem rr_four8 (w : World) (b n c : Nat) (A : Option Addr) (hn : n ≤ 65536) (c0 : w.cell? ⟨b, 0, none⟩ = some (.slice A n c)) (hr : inRam n 33603576 4 = false) :
    Calls Try.prog 67 #[.pointer (some ⟨b, 0, none⟩), .int .u64 33603576, .int .i64 4] w fun e w' => e = .returned (.int .i64 8) ∧ w = w' := by
  have HR := Lib.hid hr
  clear hr
  go_enter Try.func67, Try.ntmps67
  go_wp2_with (go_at_call 54; refine (r_isram_is _ b n c A hn c0 _ _ (by omega) (by omega) (by omega) false HR.out).mono ?_; rintro e w' ⟨rfl, rfl⟩)
  go_ret
  exact ⟨rfl, rfl⟩
set_option maxHeartbeats 4000000 in
set_option maxRecDepth 100000 in
theorem rr_four9 (w : World) (b n c : Nat) (A : Option Addr) (hn : n ≤ 65536) (c0 : w.cell? ⟨b, 0, none⟩ = some (.slice A n c)) (hr : inRam n 33603580 4 = false) :
    Calls Try.prog 67 #[.pointer (some ⟨b, 0, none⟩), .int .u64 33603580, .int .i64 4] w fun e w' => e = .returned (.int .i64 9) ∧ w = w' := by
  have HR := Lib.hid hr
  clear hr
  go_enter Try.func67, Try.ntmps67
  go_wp2_with (go_at_call 54; refine (r_isram_is _ b n c A hn c0 _ _ (by omega) (by omega) (by omega) false HR.out).mono ?_; rintro e w' ⟨rfl, rfl⟩)
  go_ret
  exact ⟨rfl, rfl⟩
set_option maxHeartbeats 4000000 in
set_option maxRecDepth 100000 in
theorem rr_four0 (w : World) (b n c : Nat) (A : Option Addr) (hn : n ≤ 65536) (c0 : w.cell? ⟨b, 0, none⟩ = some (.slice A n c)) (addr : Int) (a0 : 0 ≤ addr) (a1 : addr ≤ 18446744073709551615) (hr : inRam n addr 4 = false) (k0 : ¬ addr = 1048576) (k1 : ¬ addr = 33554432) (k2 : ¬ addr = 33570816) (k3 : ¬ addr = 33570820) (k4 : ¬ addr = 33603576) (k5 : ¬ addr = 33603580) :
    Calls Try.prog 67 #[.pointer (some ⟨b, 0, none⟩), .int .u64 addr, .int .i64 4] w fun e w' => e = .returned (.int .i64 0) ∧ w = w' := by
  have HR := Lib.hid hr
  clear hr
  go_enter Try.func67, Try.ntmps67
  go_wp2_with (go_at_call 54; refine (r_isram_is _ b n c A hn c0 _ _ (by omega) (by omega) (by omega) false HR.out).mono ?_; rintro e w' ⟨rfl, rfl⟩)
  go_ret
  exact ⟨rfl, rfl⟩
set_option maxHeartbeats 4000000 in
set_option maxRecDepth 100000 in
theorem rr_eight4 (w : World) (b n c : Nat) (A : Option Addr) (hn : n ≤ 65536) (c0 : w.cell? ⟨b, 0, none⟩ = some (.slice A n c)) (hr : inRam n 33570816 8 = false) :
    Calls Try.prog 67 #[.pointer (some ⟨b, 0, none⟩), .int .u64 33570816, .int .i64 8] w fun e w' => e = .returned (.int .i64 4) ∧ w = w' := by
  have HR := Lib.hid hr
  clear hr
  go_enter Try.func67, Try.ntmps67
  go_wp2_with (go_at_call 54; refine (r_isram_is _ b n c A hn c0 _ _ (by omega) (by omega) (by omega) false HR.out).mono ?_; rintro e w' ⟨rfl, rfl⟩)
  go_ret
  exact ⟨rfl, rfl⟩
set_option maxHeartbeats 4000000 in
set_option maxRecDepth 100000 in
theorem rr_eight7 (w : World) (b n c : Nat) (A : Option Addr) (hn : n ≤ 65536) (c0 : w.cell? ⟨b, 0, none⟩ = some (.slice A n c)) (hr : inRam n 33603576 8 = false) :
    Calls Try.prog 67 #[.pointer (some ⟨b, 0, none⟩), .int .u64 33603576, .int .i64 8] w fun e w' => e = .returned (.int .i64 7) ∧ w = w' := by
  have HR := Lib.hid hr
  clear hr
  go_enter Try.func67, Try.ntmps67
  go_wp2_with (go_at_call 54; refine (r_isram_is _ b n c A hn c0 _ _ (by omega) (by omega) (by omega) false HR.out).mono ?_; rintro e w' ⟨rfl, rfl⟩)
  go_ret
  exact ⟨rfl, rfl⟩
set_option maxHeartbeats 4000000 in
set_option maxRecDepth 100000 in
theorem rr_eight0 (w : World) (b n c : Nat) (A : Option Addr) (hn : n ≤ 65536) (c0 : w.cell? ⟨b, 0, none⟩ = some (.slice A n c)) (addr : Int) (a0 : 0 ≤ addr) (a1 : addr ≤ 18446744073709551615) (hr : inRam n addr 8 = false) (k0 : ¬ addr = 33570816) (k1 : ¬ addr = 33603576) :
    Calls Try.prog 67 #[.pointer (some ⟨b, 0, none⟩), .int .u64 addr, .int .i64 8] w fun e w' => e = .returned (.int .i64 0) ∧ w = w' := by
  have HR := Lib.hid hr
  clear hr
  go_enter Try.func67, Try.ntmps67
  go_wp2_with (go_at_call 54; refine (r_isram_is _ b n c A hn c0 _ _ (by omega) (by omega) (by omega) false HR.out).mono ?_; rintro e w' ⟨rfl, rfl⟩)
  go_ret
  exact ⟨rfl, rfl⟩
theorem inRam_base {n addr size : Int} (h : inRam n addr size = true) : 2147483648 ≤ addr := by
  unfold inRam at h; simp only [Bool.and_eq_true, decide_eq_true_eq] at h; exact h.2.1
theorem r_reach_is (w : World) (b n c : Nat) (A : Option Addr) (hn : n ≤ 65536) (c0 : w.cell? ⟨b, 0, none⟩ = some (.slice A n c)) (addr size : Int) (a0 : 0 ≤ addr) (a1 : addr ≤ 18446744073709551615) (r : Int) (hr : reach n addr size = r) :
    Calls Try.prog 67 #[.pointer (some ⟨b, 0, none⟩), .int .u64 addr, .int .i64 size] w fun e w' => e = .returned (.int .i64 r) ∧ w = w' := by
  subst hr
  by_cases e1 : size = 1
  · subst e1
    cases hi : inRam n addr 1
    · by_cases u0 : addr < 268435456
      · rw [show reach n addr 1 = 0 from by unfold reach; rw [if_neg (by simp [hi])]; repeat (first | rw [if_pos (by omega)] | rw [if_neg (by omega)])]
        exact rr_u_lo w b n c A hn c0 addr a0 a1 hi u0
      by_cases u1 : addr < 268435464
      · rw [show reach n addr 1 = 10 from by unfold reach; rw [if_neg (by simp [hi])]; repeat (first | rw [if_pos (by omega)] | rw [if_neg (by omega)])]
        exact rr_uart w b n c A hn c0 addr a0 a1 hi (by omega) u1
      · rw [show reach n addr 1 = 0 from by unfold reach; rw [if_neg (by simp [hi])]; repeat (first | rw [if_pos (by omega)] | rw [if_neg (by omega)])]
        exact rr_u_hi w b n c A hn c0 addr a0 a1 hi (by omega)
    · rw [show reach n addr 1 = 1 from by unfold reach; rw [if_pos ⟨rfl, by omega, hi⟩]]
      exact rr_ram1 w b n c A hn c0 addr a0 a1 hi
  by_cases e2 : size = 2
  · subst e2
    cases hi : inRam n addr 2
    · rw [show reach n addr 2 = 0 from by unfold reach; rw [if_neg (by simp [hi])]; repeat (first | rw [if_pos (by omega)] | rw [if_neg (by omega)])]
      exact rr_two w b n c A hn c0 addr a0 a1 hi
    · by_cases hq : addr % 2 = 0
      · rw [show reach n addr 2 = 1 from by unfold reach; rw [if_pos ⟨rfl, hq, hi⟩]]
        exact rr_ram2 w b n c A hn c0 addr a0 a1 hi hq
      · have hb := inRam_base hi
        rw [show reach n addr 2 = 0 from by unfold reach; rw [if_neg (by simp [hq])]; repeat (first | rw [if_pos (by omega)] | rw [if_neg (by omega)])]
        exact rr_odd2 w b n c A hn c0 addr a0 a1 hi hb hq
  by_cases e4 : size = 4
  · subst e4
    cases hi : inRam n addr 4
    · by_cases k0 : addr = 1048576
      · subst k0
        rw [show reach n 1048576 4 = 2 from by unfold reach; rw [if_neg (by simp [hi])]; repeat (first | rw [if_pos (by omega)] | rw [if_neg (by omega)])]
        exact rr_four2 w b n c A hn c0 hi
      by_cases k1 : addr = 33554432
      · subst k1
        rw [show reach n 33554432 4 = 3 from by unfold reach; rw [if_neg (by simp [hi])]; repeat (first | rw [if_pos (by omega)] | rw [if_neg (by omega)])]
        exact rr_four3 w b n c A hn c0 hi
      by_cases k2 : addr = 33570816
      · subst k2
        rw [show reach n 33570816 4 = 5 from by unfold reach; rw [if_neg (by simp [hi])]; repeat (first | rw [if_pos (by omega)] | rw [if_neg (by omega)])]
        exact rr_four5 w b n c A hn c0 hi
      by_cases k3 : addr = 33570820
      · subst k3
        rw [show reach n 33570820 4 = 6 from by unfold reach; rw [if_neg (by simp [hi])]; repeat (first | rw [if_pos (by omega)] | rw [if_neg (by omega)])]
        exact rr_four6 w b n c A hn c0 hi
      by_cases k4 : addr = 33603576
      · subst k4
        rw [show reach n 33603576 4 = 8 from by unfold reach; rw [if_neg (by simp [hi])]; repeat (first | rw [if_pos (by omega)] | rw [if_neg (by omega)])]
        exact rr_four8 w b n c A hn c0 hi
      by_cases k5 : addr = 33603580
      · subst k5
        rw [show reach n 33603580 4 = 9 from by unfold reach; rw [if_neg (by simp [hi])]; repeat (first | rw [if_pos (by omega)] | rw [if_neg (by omega)])]
        exact rr_four9 w b n c A hn c0 hi
      rw [show reach n addr 4 = 0 from by unfold reach; rw [if_neg (by simp [hi])]; repeat (first | rw [if_pos (by omega)] | rw [if_neg (by omega)])]
      exact rr_four0 w b n c A hn c0 addr a0 a1 hi k0 k1 k2 k3 k4 k5
    · by_cases hq : addr % 4 = 0
      · rw [show reach n addr 4 = 1 from by unfold reach; rw [if_pos ⟨rfl, hq, hi⟩]]
        exact rr_ram4 w b n c A hn c0 addr a0 a1 hi hq
      · have hb := inRam_base hi
        rw [show reach n addr 4 = 0 from by unfold reach; rw [if_neg (by simp [hq])]; repeat (first | rw [if_pos (by omega)] | rw [if_neg (by omega)])]
        exact rr_odd4 w b n c A hn c0 addr a0 a1 hi hb hq
  by_cases e8 : size = 8
  · subst e8
    cases hi : inRam n addr 8
    · by_cases k0 : addr = 33570816
      · subst k0
        rw [show reach n 33570816 8 = 4 from by unfold reach; rw [if_neg (by simp [hi])]; repeat (first | rw [if_pos (by omega)] | rw [if_neg (by omega)])]
        exact rr_eight4 w b n c A hn c0 hi
      by_cases k1 : addr = 33603576
      · subst k1
        rw [show reach n 33603576 8 = 7 from by unfold reach; rw [if_neg (by simp [hi])]; repeat (first | rw [if_pos (by omega)] | rw [if_neg (by omega)])]
        exact rr_eight7 w b n c A hn c0 hi
      rw [show reach n addr 8 = 0 from by unfold reach; rw [if_neg (by simp [hi])]; repeat (first | rw [if_pos (by omega)] | rw [if_neg (by omega)])]
      exact rr_eight0 w b n c A hn c0 addr a0 a1 hi k0 k1
    · by_cases hq : addr % 8 = 0
      · rw [show reach n addr 8 = 1 from by unfold reach; rw [if_pos ⟨rfl, hq, hi⟩]]
        exact rr_ram8 w b n c A hn c0 addr a0 a1 hi hq
      · have hb := inRam_base hi
        rw [show reach n addr 8 = 0 from by unfold reach; rw [if_neg (by simp [hq])]; repeat (first | rw [if_pos (by omega)] | rw [if_neg (by omega)])]
        exact rr_odd8 w b n c A hn c0 addr a0 a1 hi hb hq
  rw [show reach n addr size = 0 from by unfold reach; rw [if_neg (by simp [szOk, e1, e2, e4, e8])]; repeat (first | rw [if_pos (by omega)] | rw [if_neg (by omega)])]
  exact rr_bad w b n c A hn c0 addr size e1 e2 e4 e8
end Go.Proofs.Ytkocfcgdjjdnhaa.BW
