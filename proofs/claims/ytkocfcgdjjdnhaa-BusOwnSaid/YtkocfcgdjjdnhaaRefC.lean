/- The document's bus: Can, Time, Off, line. Premise: a bus lies there. The document's bus: line. Premise: a bus lies there. The document's bus: power, halves. Premise: a bus lies there. -/
import Derived.Test.YtkocfcgdjjdnhaaRefB
namespace Go.Proofs.Ytkocfcgdjjdnhaa.BW
open Go.RowKit
set_option linter.unusedVariables false
set_option linter.unusedSimpArgs false
section
variable {w : World} {b : Nat} {vr vi vo : Value} {s : St}
theorem r_reach_of (h : RL w b vr vi vo s) (hs : s.Ok) (addr size : Int) (a0 : 0 ≤ addr) (a1 : addr ≤ 18446744073709551615) (r : Int) (hr : reach s.ram.length addr size = r) :
    Calls Try.prog 67 #[.pointer (some ⟨b, 0, none⟩), .int .u64 addr, .int .i64 size] w fun e w' => e = .returned (.int .i64 r) ∧ w = w' := by
  obtain ⟨A, c, rfl⟩ := h.ram.shape
  exact r_reach_is w b s.ram.length c A hs.r1 (h.cell 0 _ rfl) addr size a0 a1 r hr
set_option maxHeartbeats 4000000 in
set_option maxRecDepth 100000 in
theorem r_can_any (h : RL w b vr vi vo s) (hs : s.Ok) (addr size kind : Int) (a0 : 0 ≤ addr) (a1 : addr ≤ 18446744073709551615) (s0 : -9223372036854775808 ≤ size) (s1 : size ≤ 9223372036854775807) :
    Calls Try.prog 52 #[.pointer (some ⟨b, 0, none⟩), .int .u64 addr, .int .i64 size, .int .i64 kind] w fun e w' => e = .returned (.bool (s.can addr size kind)) ∧ w = w' := by
  obtain ⟨r, hr⟩ : ∃ r, reach s.ram.length addr size = r := ⟨_, rfl⟩
  have A := Lib.hid (r_reach_of h hs addr size a0 a1 r hr)
  have hc : s.can addr size kind = (decide (r ≠ 0) && (decide (1 ≤ kind) && decide (kind ≤ 3))) := by unfold St.can; rw [hr]
  rw [hc]
  clear h hr hc
  go_enter Try.func52, Try.ntmps52
  go_wp2_with (go_at_call 67; refine A.out.mono ?_; rintro e w' ⟨rfl, rfl⟩)
  all_goals
    go_ret
    refine ⟨ret_bool ?_, rfl⟩
    rw [Bool.eq_iff_iff]; (try simp [*]); (try omega)
set_option maxHeartbeats 4000000 in
set_option maxRecDepth 100000 in
theorem r_time_any (h : RL w b vr vi vo s) : Calls Try.prog 59 #[.pointer (some ⟨b, 0, none⟩)] w fun e w' => e = .returned (.int .u64 s.now) ∧ w = w' := by
  have c : w.cell? ⟨b, 3, none⟩ = some (.int .u64 s.now) := h.cell 3 _ rfl
  clear h
  go_enter Try.func59, Try.ntmps59
  go_wp2
  go_ret
  exact ⟨rfl, rfl⟩
set_option maxHeartbeats 4000000 in
set_option maxRecDepth 100000 in
theorem r_off_any (h : RL w b vr vi vo s) : Calls Try.prog 60 #[.pointer (some ⟨b, 0, none⟩)] w fun e w' => e = .returned (.tuple #[.int .i64 s.off, .int .i64 s.code]) ∧ ∃ n, w' = w.drewN n := by
  have c : w.cell? ⟨b, 13, none⟩ = some (.int .i64 s.off) := h.cell 13 _ rfl
  have d : w.cell? ⟨b, 14, none⟩ = some (.int .i64 s.code) := h.cell 14 _ rfl
  clear h
  go_enter Try.func60, Try.ntmps60
  go_wp2
  go_quiet (fail)
  go_wp2
  go_ret2
  exact ⟨rfl, _, rfl⟩
end
open Go.RowKit
set_option linter.unusedVariables false
set_option linter.unusedSimpArgs false
section
variable {w : World} {b : Nat} {vr vi vo : Value} {s : St}
theorem line_len (s : St) : s.line = (decide (s.ier % 2 = 1) && decide (0 < s.inp.length)) := by
  unfold St.line
  cases s.inp <;> simp
set_option maxHeartbeats 4000000 in
set_option maxRecDepth 100000 in
theorem r_line_any (h : RL w b vr vi vo s) (hs : s.Ok) : Calls Try.prog 74 #[.pointer (some ⟨b, 0, none⟩)] w fun e w' => e = .returned (.bool s.line) ∧ w = w' := by
  obtain ⟨A, c, rfl⟩ := h.inp.shape
  have c1 : w.cell? ⟨b, 6, none⟩ = some (.int .u8 s.ier) := h.cell 6 _ rfl
  have c2 : w.cell? ⟨b, 11, none⟩ = some (.slice A s.inp.length c) := h.cell 11 _ rfl
  have t : s.ier.tmod 2 = s.ier % 2 := Int.tmod_eq_emod_of_nonneg hs.ie.1
  rw [line_len, ← t]
  clear h t
  go_enter Try.func74, Try.ntmps74
  go_wp2
  all_goals
    go_ret
    refine ⟨ret_bool ?_, rfl⟩
    rw [Bool.eq_iff_iff]; (try simp [*]); (try omega)
end
open Go.RowKit
set_option linter.unusedVariables false
set_option linter.unusedSimpArgs false
section
variable {w : World} {b : Nat} {vr vi vo : Value} {s : St}
set_option maxHeartbeats 4000000 in
set_option maxRecDepth 100000 in
theorem r_halves_any (w : World) (low : Bool) (was v : Int) (h0 : 0 ≤ was) (h1 : was ≤ 18446744073709551615) (g0 : 0 ≤ v) (g1 : v ≤ 18446744073709551615) :
    Calls Try.prog 70 #[.bool low, .int .u64 was, .int .u64 v] w fun e w' => e = .returned (.int .u64 (if low = true then lowOf was v else highOf was v)) ∧ w = w' := by
  have t1 : was.tmod 4294967296 = was % 4294967296 := Int.tmod_eq_emod_of_nonneg h0
  have t2 : v.tmod 4294967296 = v % 4294967296 := Int.tmod_eq_emod_of_nonneg g0
  have t3 : was.tdiv 4294967296 = was / 4294967296 := Int.tdiv_eq_ediv_of_nonneg h0
  cases low
  all_goals
    go_enter Try.func70, Try.ntmps70
    go_wp2
    go_ret
    refine ⟨ret_int ?_, rfl⟩
    simp only [Bool.false_eq_true, if_false, if_true, lowOf, highOf]
    (try rw [t1]); (try rw [t2]); (try rw [t3])
    (try omega)
def RPowerPost (w : World) (b : Nat) (vr vi vo : Value) (s : St) (v : Int) (e : Ending) (w' : World) : Prop := e = .returned (.tuple #[]) ∧ RL w' b vr vi vo (s.power v) ∧ Turn (foot b vr vi vo) (foot b vr vi vo) w w'
set_option maxHeartbeats 4000000 in
set_option maxRecDepth 100000 in
theorem r_power_any (h : RL w b vr vi vo s) (hs : s.Ok) (v : Int) (g0 : 0 ≤ v) (g1 : v ≤ 18446744073709551615) :
    Calls Try.prog 69 #[.pointer (some ⟨b, 0, none⟩), .int .u64 v] w (RPowerPost w b vr vi vo s v) := by
  have c13 : w.cell? ⟨b, 13, none⟩ = some (.int .i64 s.off) := h.cell 13 _ rfl
  have c14 : w.cell? ⟨b, 14, none⟩ = some (.int .i64 s.code) := h.cell 14 _ rfl
  have z13 := h.frozen 13
  have z14 := h.frozen 14
  have t1 : v.tmod 65536 = v % 65536 := Int.tmod_eq_emod_of_nonneg g0
  by_cases h0 : s.off = 0
  · rw [h0] at c13
    by_cases h1 : v % 65536 = 21845
    · have b1 : (v % 65536 == 21845) = true := by simpa using h1
      have hp : RPowerPost w b vr vi vo s v (.returned (.tuple #[])) (w.setCell ⟨b, 13, none⟩ (.int .i64 1)) := by
        unfold RPowerPost St.power; rw [if_pos h0, if_pos h1]; exact ⟨rfl, h.set 13 (.int .i64 1) (s' := { s with off := 1 }) rfl, h.turn 13 _⟩
      have HP := Lib.hid hp; clear hp h1 h
      go_enter Try.func69, Try.ntmps69
      go_wp2
      first | go_end0 | go_ret
      exact HP.out
    · have b1 : (v % 65536 == 21845) = false := by simpa using h1
      by_cases h2 : v % 65536 = 13107
      · have b2 : (v % 65536 == 13107) = true := by simpa using h2
        have d0 : 0 ≤ v / 65536 := by omega
        have t2 : v.tdiv 65536 = v / 65536 := Int.tdiv_eq_ediv_of_nonneg g0
        have t3 : (v / 65536).tmod 65536 = v / 65536 % 65536 := Int.tmod_eq_emod_of_nonneg d0
        have q0 : 0 ≤ v / 65536 % 65536 := by omega
        have q1 : v / 65536 % 65536 ≤ 65535 := by omega
        have hp : RPowerPost w b vr vi vo s v (.returned (.tuple #[])) ((w.setCell ⟨b, 13, none⟩ (.int .i64 2)).setCell ⟨b, 14, none⟩ (.int .i64 (v / 65536 % 65536))) := by
          unfold RPowerPost St.power; rw [if_pos h0, if_neg h1, if_pos h2]
          have s1 := h.set 13 (.int .i64 2) (s' := { s with off := 2 }) (cs' := fun vr vi vo s => sCells vr vi vo s) rfl
          exact ⟨rfl, s1.set 14 (.int .i64 (v / 65536 % 65536)) (s' := { s with off := 2, code := v / 65536 % 65536 }) rfl, (h.turn 13 _).trans (s1.turn 14 _)⟩
        have HP := Lib.hid hp; clear hp h1 h2 h
        go_enter Try.func69, Try.ntmps69
        go_wp2
        first | go_end0 | go_ret
        exact HP.out
      · have b2 : (v % 65536 == 13107) = false := by simpa using h2
        have hp : RPowerPost w b vr vi vo s v (.returned (.tuple #[])) w := by
          unfold RPowerPost St.power; rw [if_pos h0, if_neg h1, if_neg h2]; exact ⟨rfl, h, .refl _ _⟩
        have HP := Lib.hid hp; clear hp h1 h2 h
        go_enter Try.func69, Try.ntmps69
        go_wp2
        first | go_end0 | go_ret
        exact HP.out
  · have b0 : (s.off != 0) = true := by simpa using h0
    have hp : RPowerPost w b vr vi vo s v (.returned (.tuple #[])) w := by
      unfold RPowerPost St.power; rw [if_neg h0]; exact ⟨rfl, h, .refl _ _⟩
    have HP := Lib.hid hp; clear hp h0 h
    go_enter Try.func69, Try.ntmps69
    go_wp2
    exact bodyPost_ret (results_none rfl _ _ _) rfl HP.out
end
end Go.Proofs.Ytkocfcgdjjdnhaa.BW
