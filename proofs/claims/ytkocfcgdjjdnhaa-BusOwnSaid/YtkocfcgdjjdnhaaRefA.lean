/- The document's bus: what an access reaches. Premise: a bus lies there. -/
import Derived.Test.YtkocfcgdjjdnhaaBusP
import Derived.Deep.QuietTactic
import Derived.BigQuiet
import Derived.Deep.Light
namespace Go.Proofs.Ytkocfcgdjjdnhaa.BW
open Go.RowKit
set_option linter.unusedVariables false
set_option linter.unusedSimpArgs false
set_option maxHeartbeats 4000000 in
set_option maxRecDepth 100000 in
theorem byteAt_low (w : World) (b n c : Nat) (A : Option Addr) (hn : n ≤ 65536) (c0 : w.cell? ⟨b, 0, none⟩ = some (.slice A n c)) (addr : Int) (a0 : 0 ≤ addr) (a1 : addr ≤ 18446744073709551615) (h1 : addr < 2147483648) :
    Calls Try.prog 72 #[.pointer (some ⟨b, 0, none⟩), .int .u64 addr] w fun e w' => e = .returned (.bool false) ∧ w = w' := by
  go_enter Try.func72, Try.ntmps72
  go_wp2
  go_ret
  exact ⟨rfl, rfl⟩
set_option maxHeartbeats 4000000 in
set_option maxRecDepth 100000 in
theorem byteAt_in (w : World) (b n c : Nat) (A : Option Addr) (hn : n ≤ 65536) (c0 : w.cell? ⟨b, 0, none⟩ = some (.slice A n c)) (addr : Int) (a0 : 0 ≤ addr) (a1 : addr ≤ 18446744073709551615) (h1 : 2147483648 ≤ addr) (h2 : addr - 2147483648 < n) :
    Calls Try.prog 72 #[.pointer (some ⟨b, 0, none⟩), .int .u64 addr] w fun e w' => e = .returned (.bool true) ∧ w = w' := by
  go_enter Try.func72, Try.ntmps72
  go_wp2
  go_ret
  exact ⟨rfl, rfl⟩
set_option maxHeartbeats 4000000 in
set_option maxRecDepth 100000 in
theorem byteAt_out (w : World) (b n c : Nat) (A : Option Addr) (hn : n ≤ 65536) (c0 : w.cell? ⟨b, 0, none⟩ = some (.slice A n c)) (addr : Int) (a0 : 0 ≤ addr) (a1 : addr ≤ 18446744073709551615) (h1 : 2147483648 ≤ addr) (h2 : n ≤ addr - 2147483648) :
    Calls Try.prog 72 #[.pointer (some ⟨b, 0, none⟩), .int .u64 addr] w fun e w' => e = .returned (.bool false) ∧ w = w' := by
  have b0 : decide (addr - 2147483648 < (n : Int)) = false := by simp; omega
  go_enter Try.func72, Try.ntmps72
  go_wp2
  go_ret
  exact ⟨rfl, rfl⟩
def byteB (n addr : Int) : Bool := decide (2147483648 ≤ addr ∧ addr - 2147483648 < n)
theorem byteAt_is (w : World) (b n c : Nat) (A : Option Addr) (hn : n ≤ 65536) (c0 : w.cell? ⟨b, 0, none⟩ = some (.slice A n c)) (addr : Int) (a0 : 0 ≤ addr) (a1 : addr ≤ 18446744073709551615) (r : Bool) (hr : byteB n addr = r) :
    Calls Try.prog 72 #[.pointer (some ⟨b, 0, none⟩), .int .u64 addr] w fun e w' => e = .returned (.bool r) ∧ w = w' := by
  subst hr
  unfold byteB
  by_cases h1 : 2147483648 ≤ addr
  · by_cases h2 : addr - 2147483648 < n
    · rw [decide_eq_true ⟨h1, h2⟩]; exact byteAt_in w b n c A hn c0 addr a0 a1 h1 h2
    · rw [decide_eq_false (fun h => h2 h.2)]; exact byteAt_out w b n c A hn c0 addr a0 a1 h1 (by omega)
  · rw [decide_eq_false (fun h => h1 h.1)]; exact byteAt_low w b n c A hn c0 addr a0 a1 (by omega)
set_option maxHeartbeats 4000000 in
set_option maxRecDepth 100000 in
theorem r_isram_neg (w : World) (b n c : Nat) (A : Option Addr) (hn : n ≤ 65536) (c0 : w.cell? ⟨b, 0, none⟩ = some (.slice A n c)) (addr size : Int) (s1 : size ≤ 9223372036854775807) (h : size < 1) :
    Calls Try.prog 54 #[.pointer (some ⟨b, 0, none⟩), .int .u64 addr, .int .i64 size] w fun e w' => e = .returned (.bool false) ∧ w = w' := by
  go_enter Try.func54, Try.ntmps54
  go_wp2
  exact bodyPost_ret (results_tmp rfl _ _ _) rfl ⟨rfl, rfl⟩
set_option maxHeartbeats 4000000 in
set_option maxRecDepth 100000 in
theorem r_isram_big (w : World) (b n c : Nat) (A : Option Addr) (hn : n ≤ 65536) (c0 : w.cell? ⟨b, 0, none⟩ = some (.slice A n c)) (addr size : Int) (s1 : size ≤ 9223372036854775807) (h : 1 ≤ size) (h2 : (n : Int) < size) :
    Calls Try.prog 54 #[.pointer (some ⟨b, 0, none⟩), .int .u64 addr, .int .i64 size] w fun e w' => e = .returned (.bool false) ∧ w = w' := by
  go_enter Try.func54, Try.ntmps54
  go_wp2
  exact bodyPost_ret (results_tmp rfl _ _ _) rfl ⟨rfl, rfl⟩
set_option maxHeartbeats 4000000 in
set_option maxRecDepth 100000 in
theorem r_isram_loop (w : World) (b n c sz : Nat) (A : Option Addr) (hn : n ≤ 65536) (c0 : w.cell? ⟨b, 0, none⟩ = some (.slice A n c)) (addr : Int) (a0 : 0 ≤ addr) (a1 : addr ≤ 18446744073709551615) (h1 : 1 ≤ sz) (h2 : sz ≤ n) (r : Bool) (hr : inRam n addr sz = r) :
    Calls Try.prog 54 #[.pointer (some ⟨b, 0, none⟩), .int .u64 addr, .int .i64 sz] w fun e w' => e = .returned (.bool r) ∧ w = w' := by
  have HR := Lib.hid hr
  clear hr
  have b1 : decide ((sz : Int) < 1) = false := by simp; omega
  have b2 : decide ((n : Int) < (sz : Int)) = false := by simp; omega
  have b3 : decide (n < sz) = false := by simp; omega
  go_enter Try.func54, Try.ntmps54
  go_wp2
  go_loop [7] (fun i => ∃ k : Nat, k ≤ sz ∧ i = .int .i64 k ∧ Hid (0 < k → 2147483648 ≤ addr ∧ addr + k ≤ 2147483648 + n)) (fun i => sz - (intOf i).toNat)
  case atStart => exact ⟨0, Nat.zero_le _, rfl, fun h => absurd h (by decide)⟩
  case round =>
    obtain ⟨k, hk, rfl, hall⟩ := hrel
    by_cases hlt : k < sz
    · cases hb : byteB n (addr + k)
      · have HB := Lib.hid hb
        have hf : r = false := by
          rw [← HR.out]; unfold inRam; unfold byteB at hb
          have hb' := of_decide_eq_false hb
          have := hall.out
          simp only [Bool.and_eq_false_iff, decide_eq_false_iff_not]
          omega
        subst hf
        have hov : addr + k ≤ 18446744073709551615 ∨ 18446744073709551615 < addr + k := by omega
        rcases hov with hov | hov
        · clear hb
          go_wp2_with (go_at_call 72; refine (byteAt_is _ b n c A hn c0 _ (by omega) (by omega) false HB.out).mono ?_; rintro e w' ⟨rfl, rfl⟩)
          exact bodyPost_ret (results_tmp rfl _ _ _) rfl ⟨rfl, rfl⟩
        · exfalso
          have := hall.out
          by_cases h0 : 0 < k
          · have := this h0; omega
          · obtain rfl : k = 0 := by omega
            simp at hov; omega
      · have HB := Lib.hid hb
        have hb' := of_decide_eq_true hb
        have q0 := hb'.1
        have q1 := hb'.2
        have q2 : addr ≤ addr + k := by omega
        have q3 : addr + k ≤ 18446744073709551615 := by omega
        have HP := Lib.hid (show 0 < k + 1 → 2147483648 ≤ addr ∧ addr + ((k + 1 : Nat) : Int) ≤ 2147483648 + n from fun _ => by
          have := hall.out
          by_cases h0 : 0 < k
          · have := this h0; omega
          · obtain rfl : k = 0 := by omega
            simp at q0 q1 ⊢; omega)
        clear hb hb'
        go_wp2_with (go_at_call 72; refine (byteAt_is _ b n c A hn c0 _ (by omega) (by omega) true HB.out).mono ?_; rintro e w' ⟨rfl, rfl⟩)
        go_round
        case rel => go_light; exact ⟨k + 1, by omega, by go_num, HP.out⟩
        case measure => go_light; simp [intOf]; omega
    · obtain rfl : k = sz := by omega
      have ht : r = true := by
        rw [← HR.out]; unfold inRam
        have := hall.out (by omega)
        simp only [Bool.and_eq_true, decide_eq_true_eq]
        omega
      subst ht
      go_wp2
      go_ret
      exact ⟨rfl, rfl⟩
theorem r_isram_is (w : World) (b n c : Nat) (A : Option Addr) (hn : n ≤ 65536) (c0 : w.cell? ⟨b, 0, none⟩ = some (.slice A n c)) (addr size : Int) (a0 : 0 ≤ addr) (a1 : addr ≤ 18446744073709551615) (s1 : size ≤ 9223372036854775807) (r : Bool) (hr : inRam n addr size = r) :
    Calls Try.prog 54 #[.pointer (some ⟨b, 0, none⟩), .int .u64 addr, .int .i64 size] w fun e w' => e = .returned (.bool r) ∧ w = w' := by
  by_cases h1 : size < 1
  · have : r = false := by rw [← hr]; unfold inRam; simp; omega
    subst this; exact r_isram_neg w b n c A hn c0 addr size s1 h1
  by_cases h2 : (n : Int) < size
  · have : r = false := by rw [← hr]; unfold inRam; simp; omega
    subst this; exact r_isram_big w b n c A hn c0 addr size s1 (by omega) h2
  obtain ⟨sz, rfl⟩ : ∃ sz : Nat, size = sz := ⟨size.toNat, by omega⟩
  exact r_isram_loop w b n c sz A hn c0 addr a0 a1 (by omega) (by omega) r hr
end Go.Proofs.Ytkocfcgdjjdnhaa.BW
