/- The document's bus: Load. Premise: a bus lies there. -/
import Derived.Test.YtkocfcgdjjdnhaaRefC
import Derived.Test.YtkocfcgdjjdnhaaRefJ
namespace Go.Proofs.Ytkocfcgdjjdnhaa.BW
open Go.RowKit
set_option linter.unusedVariables false
set_option linter.unusedSimpArgs false
section
variable {w : World} {b : Nat} {vr vi vo : Value} {s : St}
def RLPost (w : World) (b : Nat) (vr vi vo : Value) (s : St) (addr size : Int) (e : Ending) (w' : World) : Prop :=
  ∃ vi', e = .returned (.tuple #[.int .u64 (s.load addr size).1.1, .bool (s.load addr size).1.2]) ∧ RL w' b vr vi' vo (s.load addr size).2 ∧ Turn (foot b vr vi vo) (foot b vr vi' vo) w w'
set_option maxHeartbeats 4000000 in
set_option maxRecDepth 100000 in
theorem r_load_0 (h : RL w b vr vi vo s) (hs : s.Ok) (addr size : Int) (a0 : 0 ≤ addr) (a1 : addr ≤ 18446744073709551615) (hr : reach s.ram.length addr size = 0) :
    Calls Try.prog 47 #[.pointer (some ⟨b, 0, none⟩), .int .u64 addr, .int .i64 size] w (RLPost w b vr vi vo s addr size) := by
  have A := Lib.hid (r_reach_of h hs addr size a0 a1 0 hr)
  have HP := Lib.hid (show RLPost w b vr vi vo s addr size (.returned (.tuple #[.int .u64 (0), .bool false])) w from ⟨vi, by rw [show s.load addr size = (((0), false), s) by unfold St.load; simp [hr]], by rw [show (s.load addr size).2 = s by unfold St.load; simp [hr]]; exact h, .refl _ _⟩)
  clear h hr hs
  go_enter Try.func47, Try.ntmps47
  go_wp2_with (go_at_call 67; refine A.out.mono ?_; rintro e w' ⟨rfl, rfl⟩)
  go_ret2
  exact HP.out
set_option maxHeartbeats 4000000 in
set_option maxRecDepth 100000 in
theorem r_load_2 (h : RL w b vr vi vo s) (hs : s.Ok) (addr size : Int) (a0 : 0 ≤ addr) (a1 : addr ≤ 18446744073709551615) (hr : reach s.ram.length addr size = 2) :
    Calls Try.prog 47 #[.pointer (some ⟨b, 0, none⟩), .int .u64 addr, .int .i64 size] w (RLPost w b vr vi vo s addr size) := by
  have A := Lib.hid (r_reach_of h hs addr size a0 a1 2 hr)
  have HP := Lib.hid (show RLPost w b vr vi vo s addr size (.returned (.tuple #[.int .u64 (0), .bool true])) w from ⟨vi, by rw [show s.load addr size = (((0), true), s) by unfold St.load; simp [hr]], by rw [show (s.load addr size).2 = s by unfold St.load; simp [hr]]; exact h, .refl _ _⟩)
  clear h hr hs
  go_enter Try.func47, Try.ntmps47
  go_wp2_with (go_at_call 67; refine A.out.mono ?_; rintro e w' ⟨rfl, rfl⟩)
  go_ret2
  exact HP.out
set_option maxHeartbeats 4000000 in
set_option maxRecDepth 100000 in
theorem r_load_3 (h : RL w b vr vi vo s) (hs : s.Ok) (addr size : Int) (a0 : 0 ≤ addr) (a1 : addr ≤ 18446744073709551615) (hr : reach s.ram.length addr size = 3) :
    Calls Try.prog 47 #[.pointer (some ⟨b, 0, none⟩), .int .u64 addr, .int .i64 size] w (RLPost w b vr vi vo s addr size) := by
  have A := Lib.hid (r_reach_of h hs addr size a0 a1 3 hr)
  have c1 : w.cell? ⟨b, 1, none⟩ = some (.int .u32 s.msip) := h.cell 1 _ rfl
  have m0 := hs.m.1
  have m1 := hs.m.2
  have HP := Lib.hid (show RLPost w b vr vi vo s addr size (.returned (.tuple #[.int .u64 (s.msip), .bool true])) w from ⟨vi, by rw [show s.load addr size = (((s.msip), true), s) by unfold St.load; simp [hr]], by rw [show (s.load addr size).2 = s by unfold St.load; simp [hr]]; exact h, .refl _ _⟩)
  clear h hr hs
  go_enter Try.func47, Try.ntmps47
  go_wp2_with (go_at_call 67; refine A.out.mono ?_; rintro e w' ⟨rfl, rfl⟩)
  go_ret2
  exact HP.out
set_option maxHeartbeats 4000000 in
set_option maxRecDepth 100000 in
theorem r_load_4 (h : RL w b vr vi vo s) (hs : s.Ok) (addr size : Int) (a0 : 0 ≤ addr) (a1 : addr ≤ 18446744073709551615) (hr : reach s.ram.length addr size = 4) :
    Calls Try.prog 47 #[.pointer (some ⟨b, 0, none⟩), .int .u64 addr, .int .i64 size] w (RLPost w b vr vi vo s addr size) := by
  have A := Lib.hid (r_reach_of h hs addr size a0 a1 4 hr)
  have c1 : w.cell? ⟨b, 2, none⟩ = some (.int .u64 s.cmp) := h.cell 2 _ rfl
  have HP := Lib.hid (show RLPost w b vr vi vo s addr size (.returned (.tuple #[.int .u64 (s.cmp), .bool true])) w from ⟨vi, by rw [show s.load addr size = (((s.cmp), true), s) by unfold St.load; simp [hr]], by rw [show (s.load addr size).2 = s by unfold St.load; simp [hr]]; exact h, .refl _ _⟩)
  clear h hr hs
  go_enter Try.func47, Try.ntmps47
  go_wp2_with (go_at_call 67; refine A.out.mono ?_; rintro e w' ⟨rfl, rfl⟩)
  go_ret2
  exact HP.out
set_option maxHeartbeats 4000000 in
set_option maxRecDepth 100000 in
theorem r_load_5 (h : RL w b vr vi vo s) (hs : s.Ok) (addr size : Int) (a0 : 0 ≤ addr) (a1 : addr ≤ 18446744073709551615) (hr : reach s.ram.length addr size = 5) :
    Calls Try.prog 47 #[.pointer (some ⟨b, 0, none⟩), .int .u64 addr, .int .i64 size] w (RLPost w b vr vi vo s addr size) := by
  have A := Lib.hid (r_reach_of h hs addr size a0 a1 5 hr)
  have c1 : w.cell? ⟨b, 2, none⟩ = some (.int .u64 s.cmp) := h.cell 2 _ rfl
  have g0 := hs.c.1
  have g1 := hs.c.2
  have t1 : s.cmp.tmod 4294967296 = s.cmp % 4294967296 := Int.tmod_eq_emod_of_nonneg hs.c.1
  have t2 : s.cmp.tdiv 4294967296 = s.cmp / 4294967296 := Int.tdiv_eq_ediv_of_nonneg hs.c.1
  have HP := Lib.hid (show RLPost w b vr vi vo s addr size (.returned (.tuple #[.int .u64 (s.cmp % 4294967296), .bool true])) w from ⟨vi, by rw [show s.load addr size = (((s.cmp % 4294967296), true), s) by unfold St.load; simp [hr]], by rw [show (s.load addr size).2 = s by unfold St.load; simp [hr]]; exact h, .refl _ _⟩)
  clear h hr hs
  go_enter Try.func47, Try.ntmps47
  go_wp2_with (go_at_call 67; refine A.out.mono ?_; rintro e w' ⟨rfl, rfl⟩)
  go_ret2
  exact HP.out
set_option maxHeartbeats 4000000 in
set_option maxRecDepth 100000 in
theorem r_load_6 (h : RL w b vr vi vo s) (hs : s.Ok) (addr size : Int) (a0 : 0 ≤ addr) (a1 : addr ≤ 18446744073709551615) (hr : reach s.ram.length addr size = 6) :
    Calls Try.prog 47 #[.pointer (some ⟨b, 0, none⟩), .int .u64 addr, .int .i64 size] w (RLPost w b vr vi vo s addr size) := by
  have A := Lib.hid (r_reach_of h hs addr size a0 a1 6 hr)
  have c1 : w.cell? ⟨b, 2, none⟩ = some (.int .u64 s.cmp) := h.cell 2 _ rfl
  have g0 := hs.c.1
  have g1 := hs.c.2
  have t1 : s.cmp.tmod 4294967296 = s.cmp % 4294967296 := Int.tmod_eq_emod_of_nonneg hs.c.1
  have t2 : s.cmp.tdiv 4294967296 = s.cmp / 4294967296 := Int.tdiv_eq_ediv_of_nonneg hs.c.1
  have HP := Lib.hid (show RLPost w b vr vi vo s addr size (.returned (.tuple #[.int .u64 (s.cmp / 4294967296), .bool true])) w from ⟨vi, by rw [show s.load addr size = (((s.cmp / 4294967296), true), s) by unfold St.load; simp [hr]], by rw [show (s.load addr size).2 = s by unfold St.load; simp [hr]]; exact h, .refl _ _⟩)
  clear h hr hs
  go_enter Try.func47, Try.ntmps47
  go_wp2_with (go_at_call 67; refine A.out.mono ?_; rintro e w' ⟨rfl, rfl⟩)
  go_ret2
  exact HP.out
set_option maxHeartbeats 4000000 in
set_option maxRecDepth 100000 in
theorem r_load_7 (h : RL w b vr vi vo s) (hs : s.Ok) (addr size : Int) (a0 : 0 ≤ addr) (a1 : addr ≤ 18446744073709551615) (hr : reach s.ram.length addr size = 7) :
    Calls Try.prog 47 #[.pointer (some ⟨b, 0, none⟩), .int .u64 addr, .int .i64 size] w (RLPost w b vr vi vo s addr size) := by
  have A := Lib.hid (r_reach_of h hs addr size a0 a1 7 hr)
  have c1 : w.cell? ⟨b, 3, none⟩ = some (.int .u64 s.now) := h.cell 3 _ rfl
  have HP := Lib.hid (show RLPost w b vr vi vo s addr size (.returned (.tuple #[.int .u64 (s.now), .bool true])) w from ⟨vi, by rw [show s.load addr size = (((s.now), true), s) by unfold St.load; simp [hr]], by rw [show (s.load addr size).2 = s by unfold St.load; simp [hr]]; exact h, .refl _ _⟩)
  clear h hr hs
  go_enter Try.func47, Try.ntmps47
  go_wp2_with (go_at_call 67; refine A.out.mono ?_; rintro e w' ⟨rfl, rfl⟩)
  go_ret2
  exact HP.out
set_option maxHeartbeats 4000000 in
set_option maxRecDepth 100000 in
theorem r_load_8 (h : RL w b vr vi vo s) (hs : s.Ok) (addr size : Int) (a0 : 0 ≤ addr) (a1 : addr ≤ 18446744073709551615) (hr : reach s.ram.length addr size = 8) :
    Calls Try.prog 47 #[.pointer (some ⟨b, 0, none⟩), .int .u64 addr, .int .i64 size] w (RLPost w b vr vi vo s addr size) := by
  have A := Lib.hid (r_reach_of h hs addr size a0 a1 8 hr)
  have c1 : w.cell? ⟨b, 3, none⟩ = some (.int .u64 s.now) := h.cell 3 _ rfl
  have g0 := hs.n.1
  have g1 := hs.n.2
  have t1 : s.now.tmod 4294967296 = s.now % 4294967296 := Int.tmod_eq_emod_of_nonneg hs.n.1
  have t2 : s.now.tdiv 4294967296 = s.now / 4294967296 := Int.tdiv_eq_ediv_of_nonneg hs.n.1
  have HP := Lib.hid (show RLPost w b vr vi vo s addr size (.returned (.tuple #[.int .u64 (s.now % 4294967296), .bool true])) w from ⟨vi, by rw [show s.load addr size = (((s.now % 4294967296), true), s) by unfold St.load; simp [hr]], by rw [show (s.load addr size).2 = s by unfold St.load; simp [hr]]; exact h, .refl _ _⟩)
  clear h hr hs
  go_enter Try.func47, Try.ntmps47
  go_wp2_with (go_at_call 67; refine A.out.mono ?_; rintro e w' ⟨rfl, rfl⟩)
  go_ret2
  exact HP.out
set_option maxHeartbeats 4000000 in
set_option maxRecDepth 100000 in
theorem r_load_9 (h : RL w b vr vi vo s) (hs : s.Ok) (addr size : Int) (a0 : 0 ≤ addr) (a1 : addr ≤ 18446744073709551615) (hr : reach s.ram.length addr size = 9) :
    Calls Try.prog 47 #[.pointer (some ⟨b, 0, none⟩), .int .u64 addr, .int .i64 size] w (RLPost w b vr vi vo s addr size) := by
  have A := Lib.hid (r_reach_of h hs addr size a0 a1 9 hr)
  have c1 : w.cell? ⟨b, 3, none⟩ = some (.int .u64 s.now) := h.cell 3 _ rfl
  have g0 := hs.n.1
  have g1 := hs.n.2
  have t1 : s.now.tmod 4294967296 = s.now % 4294967296 := Int.tmod_eq_emod_of_nonneg hs.n.1
  have t2 : s.now.tdiv 4294967296 = s.now / 4294967296 := Int.tdiv_eq_ediv_of_nonneg hs.n.1
  have HP := Lib.hid (show RLPost w b vr vi vo s addr size (.returned (.tuple #[.int .u64 (s.now / 4294967296), .bool true])) w from ⟨vi, by rw [show s.load addr size = (((s.now / 4294967296), true), s) by unfold St.load; simp [hr]], by rw [show (s.load addr size).2 = s by unfold St.load; simp [hr]]; exact h, .refl _ _⟩)
  clear h hr hs
  go_enter Try.func47, Try.ntmps47
  go_wp2_with (go_at_call 67; refine A.out.mono ?_; rintro e w' ⟨rfl, rfl⟩)
  go_ret2
  exact HP.out
theorem tells_bd {s : St} (hs : s.Ok) (reg : Int) : 0 ≤ (s.tells reg).1 ∧ (s.tells reg).1 ≤ 255 := by
  have h1 := hs.ie; have h2 := hs.lc; have h3 := hs.mc; have h4 := hs.sc
  have h6 : 0 ≤ s.inp.headD 0 ∧ s.inp.headD 0 ≤ 255 := by
    have h5 := hs.ib
    cases hi : s.inp with
    | nil => simp
    | cons x r => simpa using h5 x (by rw [hi]; simp)
  have h7 : 0 ≤ s.status ∧ s.status ≤ 99 := by
    unfold St.status b2i; split <;> split <;> split <;> omega
  clear hs
  unfold St.tells
  by_cases e0 : reg = 0
  · rw [if_pos e0]; exact h6
  rw [if_neg e0]
  by_cases e1 : reg = 1
  · rw [if_pos e1]; exact ⟨h1.1, Int.le_trans h1.2 (by decide)⟩
  rw [if_neg e1]
  by_cases e2 : reg = 2
  · rw [if_pos e2]; dsimp only; cases s.line <;> simp
  rw [if_neg e2]
  by_cases e3 : reg = 3
  · rw [if_pos e3]; exact h2
  rw [if_neg e3]
  by_cases e4 : reg = 4
  · rw [if_pos e4]; exact ⟨h3.1, Int.le_trans h3.2 (by decide)⟩
  rw [if_neg e4]
  by_cases e5 : reg = 5
  · rw [if_pos e5]; exact ⟨h7.1, Int.le_trans h7.2 (by decide)⟩
  rw [if_neg e5]
  by_cases e7 : reg = 7
  · rw [if_pos e7]; exact h4
  rw [if_neg e7]; simp

set_option maxHeartbeats 4000000 in
set_option maxRecDepth 100000 in
theorem r_load_10_0 (h : RL w b vr vi vo s) (hs : s.Ok) (hr : reach s.ram.length 268435456 1 = 10) :
    Calls Try.prog 47 #[.pointer (some ⟨b, 0, none⟩), .int .u64 268435456, .int .i64 1] w (RLPost w b vr vi vo s 268435456 1) := by
  have A := Lib.hid (r_reach_of h hs 268435456 1 (by omega) (by omega) 10 hr)
  have hload : s.load 268435456 1 = (((s.tells 0).1, true), (s.tells 0).2) := by
    unfold St.load; simp only [hr]; rfl
  have hb := tells_bd hs 0
  obtain ⟨x, hx⟩ : ∃ x, (s.tells 0).1 = x := ⟨_, rfl⟩
  have ht := r_tells_any h hs 0 (by omega) (by omega)
  unfold RTellPost at ht
  rw [hx] at ht hb hload
  have HT := Lib.hid ht
  have b0 := hb.1
  have b1 : x ≤ 9223372036854775807 := Int.le_trans hb.2 (by decide)
  have HP := Lib.hid (show ∀ w' vi', RL w' b vr vi' vo (s.tells 0).2 → Turn (foot b vr vi vo) (foot b vr vi' vo) w w' → RLPost w b vr vi vo s 268435456 1 (.returned (.tuple #[.int .u64 x, .bool true])) w' from fun w' vi' q1 q2 => ⟨vi', by rw [hload], by rw [hload]; exact q1, q2⟩)
  clear h hr hs hload hb hx ht
  go_enter Try.func47, Try.ntmps47
  go_wp2_with (first | (go_at_call 67; refine A.out.mono ?_; rintro e w' ⟨rfl, rfl⟩) | (go_at_call 68; refine HT.out.mono ?_; rintro e w' ⟨vi', rfl, q1, q2⟩; have HQ := Lib.hid (HP.out w' vi' q1 q2); clear q1 q2))
  go_ret2
  exact HQ.out
set_option maxHeartbeats 4000000 in
set_option maxRecDepth 100000 in
theorem r_load_10_1 (h : RL w b vr vi vo s) (hs : s.Ok) (hr : reach s.ram.length 268435457 1 = 10) :
    Calls Try.prog 47 #[.pointer (some ⟨b, 0, none⟩), .int .u64 268435457, .int .i64 1] w (RLPost w b vr vi vo s 268435457 1) := by
  have A := Lib.hid (r_reach_of h hs 268435457 1 (by omega) (by omega) 10 hr)
  have hload : s.load 268435457 1 = (((s.tells 1).1, true), (s.tells 1).2) := by
    unfold St.load; simp only [hr]; rfl
  have hb := tells_bd hs 1
  obtain ⟨x, hx⟩ : ∃ x, (s.tells 1).1 = x := ⟨_, rfl⟩
  have ht := r_tells_any h hs 1 (by omega) (by omega)
  unfold RTellPost at ht
  rw [hx] at ht hb hload
  have HT := Lib.hid ht
  have b0 := hb.1
  have b1 : x ≤ 9223372036854775807 := Int.le_trans hb.2 (by decide)
  have HP := Lib.hid (show ∀ w' vi', RL w' b vr vi' vo (s.tells 1).2 → Turn (foot b vr vi vo) (foot b vr vi' vo) w w' → RLPost w b vr vi vo s 268435457 1 (.returned (.tuple #[.int .u64 x, .bool true])) w' from fun w' vi' q1 q2 => ⟨vi', by rw [hload], by rw [hload]; exact q1, q2⟩)
  clear h hr hs hload hb hx ht
  go_enter Try.func47, Try.ntmps47
  go_wp2_with (first | (go_at_call 67; refine A.out.mono ?_; rintro e w' ⟨rfl, rfl⟩) | (go_at_call 68; refine HT.out.mono ?_; rintro e w' ⟨vi', rfl, q1, q2⟩; have HQ := Lib.hid (HP.out w' vi' q1 q2); clear q1 q2))
  go_ret2
  exact HQ.out
set_option maxHeartbeats 4000000 in
set_option maxRecDepth 100000 in
theorem r_load_10_2 (h : RL w b vr vi vo s) (hs : s.Ok) (hr : reach s.ram.length 268435458 1 = 10) :
    Calls Try.prog 47 #[.pointer (some ⟨b, 0, none⟩), .int .u64 268435458, .int .i64 1] w (RLPost w b vr vi vo s 268435458 1) := by
  have A := Lib.hid (r_reach_of h hs 268435458 1 (by omega) (by omega) 10 hr)
  have hload : s.load 268435458 1 = (((s.tells 2).1, true), (s.tells 2).2) := by
    unfold St.load; simp only [hr]; rfl
  have hb := tells_bd hs 2
  obtain ⟨x, hx⟩ : ∃ x, (s.tells 2).1 = x := ⟨_, rfl⟩
  have ht := r_tells_any h hs 2 (by omega) (by omega)
  unfold RTellPost at ht
  rw [hx] at ht hb hload
  have HT := Lib.hid ht
  have b0 := hb.1
  have b1 : x ≤ 9223372036854775807 := Int.le_trans hb.2 (by decide)
  have HP := Lib.hid (show ∀ w' vi', RL w' b vr vi' vo (s.tells 2).2 → Turn (foot b vr vi vo) (foot b vr vi' vo) w w' → RLPost w b vr vi vo s 268435458 1 (.returned (.tuple #[.int .u64 x, .bool true])) w' from fun w' vi' q1 q2 => ⟨vi', by rw [hload], by rw [hload]; exact q1, q2⟩)
  clear h hr hs hload hb hx ht
  go_enter Try.func47, Try.ntmps47
  go_wp2_with (first | (go_at_call 67; refine A.out.mono ?_; rintro e w' ⟨rfl, rfl⟩) | (go_at_call 68; refine HT.out.mono ?_; rintro e w' ⟨vi', rfl, q1, q2⟩; have HQ := Lib.hid (HP.out w' vi' q1 q2); clear q1 q2))
  go_ret2
  exact HQ.out
set_option maxHeartbeats 4000000 in
set_option maxRecDepth 100000 in
theorem r_load_10_3 (h : RL w b vr vi vo s) (hs : s.Ok) (hr : reach s.ram.length 268435459 1 = 10) :
    Calls Try.prog 47 #[.pointer (some ⟨b, 0, none⟩), .int .u64 268435459, .int .i64 1] w (RLPost w b vr vi vo s 268435459 1) := by
  have A := Lib.hid (r_reach_of h hs 268435459 1 (by omega) (by omega) 10 hr)
  have hload : s.load 268435459 1 = (((s.tells 3).1, true), (s.tells 3).2) := by
    unfold St.load; simp only [hr]; rfl
  have hb := tells_bd hs 3
  obtain ⟨x, hx⟩ : ∃ x, (s.tells 3).1 = x := ⟨_, rfl⟩
  have ht := r_tells_any h hs 3 (by omega) (by omega)
  unfold RTellPost at ht
  rw [hx] at ht hb hload
  have HT := Lib.hid ht
  have b0 := hb.1
  have b1 : x ≤ 9223372036854775807 := Int.le_trans hb.2 (by decide)
  have HP := Lib.hid (show ∀ w' vi', RL w' b vr vi' vo (s.tells 3).2 → Turn (foot b vr vi vo) (foot b vr vi' vo) w w' → RLPost w b vr vi vo s 268435459 1 (.returned (.tuple #[.int .u64 x, .bool true])) w' from fun w' vi' q1 q2 => ⟨vi', by rw [hload], by rw [hload]; exact q1, q2⟩)
  clear h hr hs hload hb hx ht
  go_enter Try.func47, Try.ntmps47
  go_wp2_with (first | (go_at_call 67; refine A.out.mono ?_; rintro e w' ⟨rfl, rfl⟩) | (go_at_call 68; refine HT.out.mono ?_; rintro e w' ⟨vi', rfl, q1, q2⟩; have HQ := Lib.hid (HP.out w' vi' q1 q2); clear q1 q2))
  go_ret2
  exact HQ.out
set_option maxHeartbeats 4000000 in
set_option maxRecDepth 100000 in
theorem r_load_10_4 (h : RL w b vr vi vo s) (hs : s.Ok) (hr : reach s.ram.length 268435460 1 = 10) :
    Calls Try.prog 47 #[.pointer (some ⟨b, 0, none⟩), .int .u64 268435460, .int .i64 1] w (RLPost w b vr vi vo s 268435460 1) := by
  have A := Lib.hid (r_reach_of h hs 268435460 1 (by omega) (by omega) 10 hr)
  have hload : s.load 268435460 1 = (((s.tells 4).1, true), (s.tells 4).2) := by
    unfold St.load; simp only [hr]; rfl
  have hb := tells_bd hs 4
  obtain ⟨x, hx⟩ : ∃ x, (s.tells 4).1 = x := ⟨_, rfl⟩
  have ht := r_tells_any h hs 4 (by omega) (by omega)
  unfold RTellPost at ht
  rw [hx] at ht hb hload
  have HT := Lib.hid ht
  have b0 := hb.1
  have b1 : x ≤ 9223372036854775807 := Int.le_trans hb.2 (by decide)
  have HP := Lib.hid (show ∀ w' vi', RL w' b vr vi' vo (s.tells 4).2 → Turn (foot b vr vi vo) (foot b vr vi' vo) w w' → RLPost w b vr vi vo s 268435460 1 (.returned (.tuple #[.int .u64 x, .bool true])) w' from fun w' vi' q1 q2 => ⟨vi', by rw [hload], by rw [hload]; exact q1, q2⟩)
  clear h hr hs hload hb hx ht
  go_enter Try.func47, Try.ntmps47
  go_wp2_with (first | (go_at_call 67; refine A.out.mono ?_; rintro e w' ⟨rfl, rfl⟩) | (go_at_call 68; refine HT.out.mono ?_; rintro e w' ⟨vi', rfl, q1, q2⟩; have HQ := Lib.hid (HP.out w' vi' q1 q2); clear q1 q2))
  go_ret2
  exact HQ.out
set_option maxHeartbeats 4000000 in
set_option maxRecDepth 100000 in
theorem r_load_10_5 (h : RL w b vr vi vo s) (hs : s.Ok) (hr : reach s.ram.length 268435461 1 = 10) :
    Calls Try.prog 47 #[.pointer (some ⟨b, 0, none⟩), .int .u64 268435461, .int .i64 1] w (RLPost w b vr vi vo s 268435461 1) := by
  have A := Lib.hid (r_reach_of h hs 268435461 1 (by omega) (by omega) 10 hr)
  have hload : s.load 268435461 1 = (((s.tells 5).1, true), (s.tells 5).2) := by
    unfold St.load; simp only [hr]; rfl
  have hb := tells_bd hs 5
  obtain ⟨x, hx⟩ : ∃ x, (s.tells 5).1 = x := ⟨_, rfl⟩
  have ht := r_tells_any h hs 5 (by omega) (by omega)
  unfold RTellPost at ht
  rw [hx] at ht hb hload
  have HT := Lib.hid ht
  have b0 := hb.1
  have b1 : x ≤ 9223372036854775807 := Int.le_trans hb.2 (by decide)
  have HP := Lib.hid (show ∀ w' vi', RL w' b vr vi' vo (s.tells 5).2 → Turn (foot b vr vi vo) (foot b vr vi' vo) w w' → RLPost w b vr vi vo s 268435461 1 (.returned (.tuple #[.int .u64 x, .bool true])) w' from fun w' vi' q1 q2 => ⟨vi', by rw [hload], by rw [hload]; exact q1, q2⟩)
  clear h hr hs hload hb hx ht
  go_enter Try.func47, Try.ntmps47
  go_wp2_with (first | (go_at_call 67; refine A.out.mono ?_; rintro e w' ⟨rfl, rfl⟩) | (go_at_call 68; refine HT.out.mono ?_; rintro e w' ⟨vi', rfl, q1, q2⟩; have HQ := Lib.hid (HP.out w' vi' q1 q2); clear q1 q2))
  go_ret2
  exact HQ.out
set_option maxHeartbeats 4000000 in
set_option maxRecDepth 100000 in
theorem r_load_10_6 (h : RL w b vr vi vo s) (hs : s.Ok) (hr : reach s.ram.length 268435462 1 = 10) :
    Calls Try.prog 47 #[.pointer (some ⟨b, 0, none⟩), .int .u64 268435462, .int .i64 1] w (RLPost w b vr vi vo s 268435462 1) := by
  have A := Lib.hid (r_reach_of h hs 268435462 1 (by omega) (by omega) 10 hr)
  have hload : s.load 268435462 1 = (((s.tells 6).1, true), (s.tells 6).2) := by
    unfold St.load; simp only [hr]; rfl
  have hb := tells_bd hs 6
  obtain ⟨x, hx⟩ : ∃ x, (s.tells 6).1 = x := ⟨_, rfl⟩
  have ht := r_tells_any h hs 6 (by omega) (by omega)
  unfold RTellPost at ht
  rw [hx] at ht hb hload
  have HT := Lib.hid ht
  have b0 := hb.1
  have b1 : x ≤ 9223372036854775807 := Int.le_trans hb.2 (by decide)
  have HP := Lib.hid (show ∀ w' vi', RL w' b vr vi' vo (s.tells 6).2 → Turn (foot b vr vi vo) (foot b vr vi' vo) w w' → RLPost w b vr vi vo s 268435462 1 (.returned (.tuple #[.int .u64 x, .bool true])) w' from fun w' vi' q1 q2 => ⟨vi', by rw [hload], by rw [hload]; exact q1, q2⟩)
  clear h hr hs hload hb hx ht
  go_enter Try.func47, Try.ntmps47
  go_wp2_with (first | (go_at_call 67; refine A.out.mono ?_; rintro e w' ⟨rfl, rfl⟩) | (go_at_call 68; refine HT.out.mono ?_; rintro e w' ⟨vi', rfl, q1, q2⟩; have HQ := Lib.hid (HP.out w' vi' q1 q2); clear q1 q2))
  go_ret2
  exact HQ.out
set_option maxHeartbeats 4000000 in
set_option maxRecDepth 100000 in
theorem r_load_10_7 (h : RL w b vr vi vo s) (hs : s.Ok) (hr : reach s.ram.length 268435463 1 = 10) :
    Calls Try.prog 47 #[.pointer (some ⟨b, 0, none⟩), .int .u64 268435463, .int .i64 1] w (RLPost w b vr vi vo s 268435463 1) := by
  have A := Lib.hid (r_reach_of h hs 268435463 1 (by omega) (by omega) 10 hr)
  have hload : s.load 268435463 1 = (((s.tells 7).1, true), (s.tells 7).2) := by
    unfold St.load; simp only [hr]; rfl
  have hb := tells_bd hs 7
  obtain ⟨x, hx⟩ : ∃ x, (s.tells 7).1 = x := ⟨_, rfl⟩
  have ht := r_tells_any h hs 7 (by omega) (by omega)
  unfold RTellPost at ht
  rw [hx] at ht hb hload
  have HT := Lib.hid ht
  have b0 := hb.1
  have b1 : x ≤ 9223372036854775807 := Int.le_trans hb.2 (by decide)
  have HP := Lib.hid (show ∀ w' vi', RL w' b vr vi' vo (s.tells 7).2 → Turn (foot b vr vi vo) (foot b vr vi' vo) w w' → RLPost w b vr vi vo s 268435463 1 (.returned (.tuple #[.int .u64 x, .bool true])) w' from fun w' vi' q1 q2 => ⟨vi', by rw [hload], by rw [hload]; exact q1, q2⟩)
  clear h hr hs hload hb hx ht
  go_enter Try.func47, Try.ntmps47
  go_wp2_with (first | (go_at_call 67; refine A.out.mono ?_; rintro e w' ⟨rfl, rfl⟩) | (go_at_call 68; refine HT.out.mono ?_; rintro e w' ⟨vi', rfl, q1, q2⟩; have HQ := Lib.hid (HP.out w' vi' q1 q2); clear q1 q2))
  go_ret2
  exact HQ.out
theorem r_load_10 (h : RL w b vr vi vo s) (hs : s.Ok) (reg : Int) (r0 : 0 ≤ reg) (r1 : reg < 8) (hr : reach s.ram.length (268435456 + reg) 1 = 10) :
    Calls Try.prog 47 #[.pointer (some ⟨b, 0, none⟩), .int .u64 (268435456 + reg), .int .i64 1] w (RLPost w b vr vi vo s (268435456 + reg) 1) := by
  rcases (show reg = 0 ∨ reg = 1 ∨ reg = 2 ∨ reg = 3 ∨ reg = 4 ∨ reg = 5 ∨ reg = 6 ∨ reg = 7 by omega) with rfl | rfl | rfl | rfl | rfl | rfl | rfl | rfl
  · exact r_load_10_0 h hs hr
  · exact r_load_10_1 h hs hr
  · exact r_load_10_2 h hs hr
  · exact r_load_10_3 h hs hr
  · exact r_load_10_4 h hs hr
  · exact r_load_10_5 h hs hr
  · exact r_load_10_6 h hs hr
  · exact r_load_10_7 h hs hr
set_option maxHeartbeats 4000000 in
set_option maxRecDepth 100000 in
theorem r_load_1 (h : RL w b vr vi vo s) (hs : s.Ok) (a sz : Nat) (hs8 : sz ≤ 8) (hin : a + sz ≤ s.ram.length) (hr : reach s.ram.length (2147483648 + (a : Int)) sz = 1) :
    Calls Try.prog 47 #[.pointer (some ⟨b, 0, none⟩), .int .u64 (2147483648 + (a : Int)), .int .i64 sz] w (RLPost w b vr vi vo s (2147483648 + (a : Int)) sz) := by
  have hr1 := hs.r1
  have A := Lib.hid (r_reach_of h hs (2147483648 + (a : Int)) sz (by omega) (by omega) 1 hr)
  have hload : s.load (2147483648 + (a : Int)) sz = ((leVal ((s.ram.drop a).take sz), true), s) := by
    unfold St.load; simp only [hr, if_true, show (2147483648 + (a : Int) - 2147483648).toNat = a by omega, Int.toNat_natCast]
  have HP := Lib.hid (show RLPost w b vr vi vo s (2147483648 + (a : Int)) sz (.returned (.tuple #[.int .u64 (leVal ((s.ram.drop a).take sz)), .bool true])) w from ⟨vi, by rw [hload], by rw [hload]; exact h, .refl _ _⟩)
  obtain ⟨g, cap, rfl, hgb, hgl, hc1, hc2⟩ := h.ramAt hs
  have hpl : ((s.ram.drop a).take sz).length = sz := by simp; omega
  have hp : Byts ((s.ram.drop a).take sz) := fun n hn => hs.rb n (List.mem_of_mem_drop (List.mem_of_mem_take hn))
  have c0 : w.cell? ⟨b, 0, none⟩ = some (.slice (some ⟨g, 0, none⟩) s.ram.length cap) := h.cell 0 _ rfl
  have HC := Lib.hid (show ∀ i x, ((s.ram.drop a).take sz)[i]? = some x → w.cell? ⟨g, a + i, none⟩ = some (.int .u8 x) from by
    intro i x hx; rw [List.getElem?_take] at hx; split at hx
    · rw [List.getElem?_drop] at hx; exact h.ram.cell rfl (a + i) x hx
    · exact absurd hx (by simp))
  generalize (s.ram.drop a).take sz = p at *
  generalize s.ram.length = n at *
  have HL := Lib.hid hpl
  clear h hr hs hload hpl
  go_enter Try.func47, Try.ntmps47
  go_wp2_with (go_at_call 67; refine A.out.mono ?_; rintro e w' ⟨rfl, rfl⟩)
  go_loop [9, 10] (fun v i => ∃ k : Nat, k ≤ sz ∧ i = .int .i64 ((k : Int) - 1) ∧ v = .int .u64 (leVal (p.drop k))) (fun _ i => (intOf i + 1).toNat)
  case atStart => exact ⟨sz, Nat.le_refl _, rfl, by rw [← HL.out, List.drop_length]; rfl⟩
  case round =>
    obtain ⟨k, hk, rfl, rfl⟩ := hrel
    by_cases hlt : 0 < k
    · obtain ⟨j, rfl⟩ : ∃ j, k = j + 1 := ⟨k - 1, by omega⟩
      obtain ⟨x, hx⟩ : ∃ x, p[j]? = some x := ⟨_, List.getElem?_eq_getElem (show j < p.length by rw [HL.out]; omega)⟩
      have hcell := HC.out j x hx
      have hb := hp x (List.mem_of_getElem? hx)
      have x0 := hb.1
      have x1 := hb.2
      have hv := leVal_small (p.drop (j + 1)) (fun n hn => hp n (List.mem_of_mem_drop hn)) (sz - (j + 1)) (by omega) (by rw [List.length_drop, HL.out])
      have v0 := hv.1
      have v1 := hv.2
      have HD := Lib.hid (leVal_drop p j x hx)
      clear hb hv hx
      go_wp2
      go_round
      case rel => go_light; exact ⟨j, by omega, rfl, by rw [HD.out, Int.mul_comm, Int.add_comm]⟩
      case measure => simp [intOf]
    · obtain rfl : k = 0 := by omega
      go_wp2
      go_ret2
      exact HP.out
theorem r_load_any (h : RL w b vr vi vo s) (hs : s.Ok) (addr size : Int) (a0 : 0 ≤ addr) (a1 : addr ≤ 18446744073709551615) :
    Calls Try.prog 47 #[.pointer (some ⟨b, 0, none⟩), .int .u64 addr, .int .i64 size] w (RLPost w b vr vi vo s addr size) := by
  cases h1 : inRamA s.ram.length addr size
  · have hr := reach_low h1
    by_cases q : size = 1 ∧ 268435456 ≤ addr ∧ addr < 268435464
    · rw [if_pos q] at hr
      obtain ⟨rfl, q1, q2⟩ := q
      obtain ⟨reg, rfl⟩ : ∃ reg, addr = 268435456 + reg := ⟨addr - 268435456, by omega⟩
      exact r_load_10 h hs reg (by omega) (by omega) hr
    rw [if_neg q] at hr
    have hc : reach s.ram.length addr size = 0 ∨ reach s.ram.length addr size = 2 ∨ reach s.ram.length addr size = 3 ∨ reach s.ram.length addr size = 4 ∨ reach s.ram.length addr size = 5 ∨ reach s.ram.length addr size = 6 ∨ reach s.ram.length addr size = 7 ∨ reach s.ram.length addr size = 8 ∨ reach s.ram.length addr size = 9 := by
      rw [hr]; repeat' split
      all_goals simp
    rcases hc with e | e | e | e | e | e | e | e | e
    · exact r_load_0 h hs addr size a0 a1 e
    · exact r_load_2 h hs addr size a0 a1 e
    · exact r_load_3 h hs addr size a0 a1 e
    · exact r_load_4 h hs addr size a0 a1 e
    · exact r_load_5 h hs addr size a0 a1 e
    · exact r_load_6 h hs addr size a0 a1 e
    · exact r_load_7 h hs addr size a0 a1 e
    · exact r_load_8 h hs addr size a0 a1 e
    · exact r_load_9 h hs addr size a0 a1 e
  · have hr := reach_ram h1
    obtain ⟨a, sz, rfl, rfl, g1, g2, g3⟩ := ram_nat h1
    exact r_load_1 h hs a sz (by simp [szOk] at g1; omega) g3 hr
end
end Go.Proofs.Ytkocfcgdjjdnhaa.BW
