/- The document's bus: Store. Premise: a bus lies there. -/
import Derived.Test.YtkocfcgdjjdnhaaRefC
import Derived.Test.YtkocfcgdjjdnhaaRefK
namespace Go.Proofs.Ytkocfcgdjjdnhaa.BW
open Go.RowKit
set_option linter.unusedVariables false
set_option linter.unusedSimpArgs false
section
variable {w : World} {b : Nat} {vr vi vo : Value} {s : St}
def RSPost (w : World) (b : Nat) (vr vi vo : Value) (s : St) (addr size v : Int) (e : Ending) (w' : World) : Prop :=
  ∃ vi' vo', e = .returned (.bool (s.store addr size v).1) ∧ RL w' b vr vi' vo' (s.store addr size v).2 ∧ Turn (foot b vr vi vo) (foot b vr vi' vo') w w'
set_option maxHeartbeats 4000000 in
set_option maxRecDepth 100000 in
theorem r_store_0 (h : RL w b vr vi vo s) (hs : s.Ok) (addr size v : Int) (a0 : 0 ≤ addr) (a1 : addr ≤ 18446744073709551615) (g0 : 0 ≤ v) (g1 : v ≤ 18446744073709551615) (hr : reach s.ram.length addr size = 0) :
    Calls Try.prog 48 #[.pointer (some ⟨b, 0, none⟩), .int .u64 addr, .int .i64 size, .int .u64 v] w (RSPost w b vr vi vo s addr size v) := by
  have A := Lib.hid (r_reach_of h hs addr size a0 a1 0 hr)
  have HP := Lib.hid (show RSPost w b vr vi vo s addr size v (.returned (.bool false)) w from ⟨vi, vo, by rw [show s.store addr size v = (false, s) by unfold St.store; simp only [hr]; rfl], by rw [show s.store addr size v = (false, s) by unfold St.store; simp only [hr]; rfl]; exact h, .refl _ _⟩)
  clear h hr hs
  go_enter Try.func48, Try.ntmps48
  go_wp2_with (first | (go_at_call 67; refine A.out.mono ?_; rintro e w' ⟨rfl, rfl⟩))
  go_ret
  exact HP.out
set_option maxHeartbeats 4000000 in
set_option maxRecDepth 100000 in
theorem r_store_3 (h : RL w b vr vi vo s) (hs : s.Ok) (addr size v : Int) (a0 : 0 ≤ addr) (a1 : addr ≤ 18446744073709551615) (g0 : 0 ≤ v) (g1 : v ≤ 18446744073709551615) (hr : reach s.ram.length addr size = 3) :
    Calls Try.prog 48 #[.pointer (some ⟨b, 0, none⟩), .int .u64 addr, .int .i64 size, .int .u64 v] w (RSPost w b vr vi vo s addr size v) := by
  have A := Lib.hid (r_reach_of h hs addr size a0 a1 3 hr)
  have c1 : w.cell? ⟨b, 1, none⟩ = some (.int .u32 s.msip) := h.cell 1 _ rfl
  have z1 := h.frozen 1
  have t1 : v.tmod 2 = v % 2 := Int.tmod_eq_emod_of_nonneg g0
  have m0 : 0 ≤ v % 2 := by omega
  have m1 : v % 2 ≤ 1 := by omega
  have HP := Lib.hid (show RSPost w b vr vi vo s addr size v (.returned (.bool true)) (w.setCell ⟨b, 1, none⟩ (.int .u32 (v % 2))) from ⟨vi, vo, by rw [show s.store addr size v = (true, { s with msip := v % 2 }) by unfold St.store; simp only [hr]; rfl], by rw [show s.store addr size v = (true, { s with msip := v % 2 }) by unfold St.store; simp only [hr]; rfl]; exact h.set 1 (.int .u32 (v % 2)) (s' := { s with msip := v % 2 }) rfl, h.turn 1 _⟩)
  clear h hr hs
  go_enter Try.func48, Try.ntmps48
  go_wp2_with (first | (go_at_call 67; refine A.out.mono ?_; rintro e w' ⟨rfl, rfl⟩))
  go_ret
  exact HP.out
set_option maxHeartbeats 4000000 in
set_option maxRecDepth 100000 in
theorem r_store_4 (h : RL w b vr vi vo s) (hs : s.Ok) (addr size v : Int) (a0 : 0 ≤ addr) (a1 : addr ≤ 18446744073709551615) (g0 : 0 ≤ v) (g1 : v ≤ 18446744073709551615) (hr : reach s.ram.length addr size = 4) :
    Calls Try.prog 48 #[.pointer (some ⟨b, 0, none⟩), .int .u64 addr, .int .i64 size, .int .u64 v] w (RSPost w b vr vi vo s addr size v) := by
  have A := Lib.hid (r_reach_of h hs addr size a0 a1 4 hr)
  have c1 : w.cell? ⟨b, 2, none⟩ = some (.int .u64 s.cmp) := h.cell 2 _ rfl
  have z1 := h.frozen 2
  have HP := Lib.hid (show RSPost w b vr vi vo s addr size v (.returned (.bool true)) (w.setCell ⟨b, 2, none⟩ (.int .u64 (v))) from ⟨vi, vo, by rw [show s.store addr size v = (true, { s with cmp := v }) by unfold St.store; simp only [hr]; rfl], by rw [show s.store addr size v = (true, { s with cmp := v }) by unfold St.store; simp only [hr]; rfl]; exact h.set 2 (.int .u64 (v)) (s' := { s with cmp := v }) rfl, h.turn 2 _⟩)
  clear h hr hs
  go_enter Try.func48, Try.ntmps48
  go_wp2_with (first | (go_at_call 67; refine A.out.mono ?_; rintro e w' ⟨rfl, rfl⟩))
  go_ret
  exact HP.out
set_option maxHeartbeats 4000000 in
set_option maxRecDepth 100000 in
theorem r_store_5 (h : RL w b vr vi vo s) (hs : s.Ok) (addr size v : Int) (a0 : 0 ≤ addr) (a1 : addr ≤ 18446744073709551615) (g0 : 0 ≤ v) (g1 : v ≤ 18446744073709551615) (hr : reach s.ram.length addr size = 5) :
    Calls Try.prog 48 #[.pointer (some ⟨b, 0, none⟩), .int .u64 addr, .int .i64 size, .int .u64 v] w (RSPost w b vr vi vo s addr size v) := by
  have A := Lib.hid (r_reach_of h hs addr size a0 a1 5 hr)
  have c1 : w.cell? ⟨b, 2, none⟩ = some (.int .u64 s.cmp) := h.cell 2 _ rfl
  have z1 := h.frozen 2
  have m0 := hs.c.1
  have m1 := hs.c.2
  have HH := Lib.hid (r_halves_any w true s.cmp v m0 m1 g0 g1)
  have HP := Lib.hid (show RSPost w b vr vi vo s addr size v (.returned (.bool true)) (w.setCell ⟨b, 2, none⟩ (.int .u64 (lowOf s.cmp v))) from ⟨vi, vo, by rw [show s.store addr size v = (true, { s with cmp := lowOf s.cmp v }) by unfold St.store; simp only [hr]; rfl], by rw [show s.store addr size v = (true, { s with cmp := lowOf s.cmp v }) by unfold St.store; simp only [hr]; rfl]; exact h.set 2 (.int .u64 (lowOf s.cmp v)) (s' := { s with cmp := lowOf s.cmp v }) rfl, h.turn 2 _⟩)
  simp only [Bool.false_eq_true, if_true, if_false] at HH
  generalize lowOf s.cmp v = x at HH HP
  clear h hr hs
  go_enter Try.func48, Try.ntmps48
  go_wp2_with (first | (go_at_call 67; refine A.out.mono ?_; rintro e w' ⟨rfl, rfl⟩) | (go_at_call 70; refine HH.out.mono ?_; rintro e w' ⟨rfl, rfl⟩))
  go_ret
  exact HP.out
set_option maxHeartbeats 4000000 in
set_option maxRecDepth 100000 in
theorem r_store_6 (h : RL w b vr vi vo s) (hs : s.Ok) (addr size v : Int) (a0 : 0 ≤ addr) (a1 : addr ≤ 18446744073709551615) (g0 : 0 ≤ v) (g1 : v ≤ 18446744073709551615) (hr : reach s.ram.length addr size = 6) :
    Calls Try.prog 48 #[.pointer (some ⟨b, 0, none⟩), .int .u64 addr, .int .i64 size, .int .u64 v] w (RSPost w b vr vi vo s addr size v) := by
  have A := Lib.hid (r_reach_of h hs addr size a0 a1 6 hr)
  have c1 : w.cell? ⟨b, 2, none⟩ = some (.int .u64 s.cmp) := h.cell 2 _ rfl
  have z1 := h.frozen 2
  have m0 := hs.c.1
  have m1 := hs.c.2
  have HH := Lib.hid (r_halves_any w false s.cmp v m0 m1 g0 g1)
  have HP := Lib.hid (show RSPost w b vr vi vo s addr size v (.returned (.bool true)) (w.setCell ⟨b, 2, none⟩ (.int .u64 (highOf s.cmp v))) from ⟨vi, vo, by rw [show s.store addr size v = (true, { s with cmp := highOf s.cmp v }) by unfold St.store; simp only [hr]; rfl], by rw [show s.store addr size v = (true, { s with cmp := highOf s.cmp v }) by unfold St.store; simp only [hr]; rfl]; exact h.set 2 (.int .u64 (highOf s.cmp v)) (s' := { s with cmp := highOf s.cmp v }) rfl, h.turn 2 _⟩)
  simp only [Bool.false_eq_true, if_true, if_false] at HH
  generalize highOf s.cmp v = x at HH HP
  clear h hr hs
  go_enter Try.func48, Try.ntmps48
  go_wp2_with (first | (go_at_call 67; refine A.out.mono ?_; rintro e w' ⟨rfl, rfl⟩) | (go_at_call 70; refine HH.out.mono ?_; rintro e w' ⟨rfl, rfl⟩))
  go_ret
  exact HP.out
set_option maxHeartbeats 4000000 in
set_option maxRecDepth 100000 in
theorem r_store_7 (h : RL w b vr vi vo s) (hs : s.Ok) (addr size v : Int) (a0 : 0 ≤ addr) (a1 : addr ≤ 18446744073709551615) (g0 : 0 ≤ v) (g1 : v ≤ 18446744073709551615) (hr : reach s.ram.length addr size = 7) :
    Calls Try.prog 48 #[.pointer (some ⟨b, 0, none⟩), .int .u64 addr, .int .i64 size, .int .u64 v] w (RSPost w b vr vi vo s addr size v) := by
  have A := Lib.hid (r_reach_of h hs addr size a0 a1 7 hr)
  have c1 : w.cell? ⟨b, 3, none⟩ = some (.int .u64 s.now) := h.cell 3 _ rfl
  have z1 := h.frozen 3
  have HP := Lib.hid (show RSPost w b vr vi vo s addr size v (.returned (.bool true)) (w.setCell ⟨b, 3, none⟩ (.int .u64 (v))) from ⟨vi, vo, by rw [show s.store addr size v = (true, { s with now := v }) by unfold St.store; simp only [hr]; rfl], by rw [show s.store addr size v = (true, { s with now := v }) by unfold St.store; simp only [hr]; rfl]; exact h.set 3 (.int .u64 (v)) (s' := { s with now := v }) rfl, h.turn 3 _⟩)
  clear h hr hs
  go_enter Try.func48, Try.ntmps48
  go_wp2_with (first | (go_at_call 67; refine A.out.mono ?_; rintro e w' ⟨rfl, rfl⟩))
  go_ret
  exact HP.out
set_option maxHeartbeats 4000000 in
set_option maxRecDepth 100000 in
theorem r_store_8 (h : RL w b vr vi vo s) (hs : s.Ok) (addr size v : Int) (a0 : 0 ≤ addr) (a1 : addr ≤ 18446744073709551615) (g0 : 0 ≤ v) (g1 : v ≤ 18446744073709551615) (hr : reach s.ram.length addr size = 8) :
    Calls Try.prog 48 #[.pointer (some ⟨b, 0, none⟩), .int .u64 addr, .int .i64 size, .int .u64 v] w (RSPost w b vr vi vo s addr size v) := by
  have A := Lib.hid (r_reach_of h hs addr size a0 a1 8 hr)
  have c1 : w.cell? ⟨b, 3, none⟩ = some (.int .u64 s.now) := h.cell 3 _ rfl
  have z1 := h.frozen 3
  have m0 := hs.n.1
  have m1 := hs.n.2
  have HH := Lib.hid (r_halves_any w true s.now v m0 m1 g0 g1)
  have HP := Lib.hid (show RSPost w b vr vi vo s addr size v (.returned (.bool true)) (w.setCell ⟨b, 3, none⟩ (.int .u64 (lowOf s.now v))) from ⟨vi, vo, by rw [show s.store addr size v = (true, { s with now := lowOf s.now v }) by unfold St.store; simp only [hr]; rfl], by rw [show s.store addr size v = (true, { s with now := lowOf s.now v }) by unfold St.store; simp only [hr]; rfl]; exact h.set 3 (.int .u64 (lowOf s.now v)) (s' := { s with now := lowOf s.now v }) rfl, h.turn 3 _⟩)
  simp only [Bool.false_eq_true, if_true, if_false] at HH
  generalize lowOf s.now v = x at HH HP
  clear h hr hs
  go_enter Try.func48, Try.ntmps48
  go_wp2_with (first | (go_at_call 67; refine A.out.mono ?_; rintro e w' ⟨rfl, rfl⟩) | (go_at_call 70; refine HH.out.mono ?_; rintro e w' ⟨rfl, rfl⟩))
  go_ret
  exact HP.out
set_option maxHeartbeats 4000000 in
set_option maxRecDepth 100000 in
theorem r_store_9 (h : RL w b vr vi vo s) (hs : s.Ok) (addr size v : Int) (a0 : 0 ≤ addr) (a1 : addr ≤ 18446744073709551615) (g0 : 0 ≤ v) (g1 : v ≤ 18446744073709551615) (hr : reach s.ram.length addr size = 9) :
    Calls Try.prog 48 #[.pointer (some ⟨b, 0, none⟩), .int .u64 addr, .int .i64 size, .int .u64 v] w (RSPost w b vr vi vo s addr size v) := by
  have A := Lib.hid (r_reach_of h hs addr size a0 a1 9 hr)
  have c1 : w.cell? ⟨b, 3, none⟩ = some (.int .u64 s.now) := h.cell 3 _ rfl
  have z1 := h.frozen 3
  have m0 := hs.n.1
  have m1 := hs.n.2
  have HH := Lib.hid (r_halves_any w false s.now v m0 m1 g0 g1)
  have HP := Lib.hid (show RSPost w b vr vi vo s addr size v (.returned (.bool true)) (w.setCell ⟨b, 3, none⟩ (.int .u64 (highOf s.now v))) from ⟨vi, vo, by rw [show s.store addr size v = (true, { s with now := highOf s.now v }) by unfold St.store; simp only [hr]; rfl], by rw [show s.store addr size v = (true, { s with now := highOf s.now v }) by unfold St.store; simp only [hr]; rfl]; exact h.set 3 (.int .u64 (highOf s.now v)) (s' := { s with now := highOf s.now v }) rfl, h.turn 3 _⟩)
  simp only [Bool.false_eq_true, if_true, if_false] at HH
  generalize highOf s.now v = x at HH HP
  clear h hr hs
  go_enter Try.func48, Try.ntmps48
  go_wp2_with (first | (go_at_call 67; refine A.out.mono ?_; rintro e w' ⟨rfl, rfl⟩) | (go_at_call 70; refine HH.out.mono ?_; rintro e w' ⟨rfl, rfl⟩))
  go_ret
  exact HP.out
set_option maxHeartbeats 4000000 in
set_option maxRecDepth 100000 in
theorem r_store_2 (h : RL w b vr vi vo s) (hs : s.Ok) (addr size v : Int) (a0 : 0 ≤ addr) (a1 : addr ≤ 18446744073709551615) (g0 : 0 ≤ v) (g1 : v ≤ 18446744073709551615) (hr : reach s.ram.length addr size = 2) :
    Calls Try.prog 48 #[.pointer (some ⟨b, 0, none⟩), .int .u64 addr, .int .i64 size, .int .u64 v] w (RSPost w b vr vi vo s addr size v) := by
  have A := Lib.hid (r_reach_of h hs addr size a0 a1 2 hr)
  have HW := Lib.hid (r_power_any h hs v g0 g1)
  have HP := Lib.hid (show ∀ w', RL w' b vr vi vo (s.power v) → Turn (foot b vr vi vo) (foot b vr vi vo) w w' → RSPost w b vr vi vo s addr size v (.returned (.bool true)) w' from fun w' q1 q2 => ⟨vi, vo, by rw [show s.store addr size v = (true, s.power v) by unfold St.store; simp only [hr]; rfl], by rw [show s.store addr size v = (true, s.power v) by unfold St.store; simp only [hr]; rfl]; exact q1, q2⟩)
  clear h hr hs
  go_enter Try.func48, Try.ntmps48
  go_wp2_with (first | (go_at_call 67; refine A.out.mono ?_; rintro e w' ⟨rfl, rfl⟩) | (go_at_call 69; refine HW.out.mono ?_; rintro e w' ⟨rfl, q1, q2⟩; have HQ := Lib.hid (HP.out w' q1 q2); clear q1 q2))
  go_ret
  exact HQ.out
set_option maxHeartbeats 4000000 in
set_option maxRecDepth 100000 in
theorem r_store_10_0 (h : RL w b vr vi vo s) (hs : s.Ok) (v : Int) (g0 : 0 ≤ v) (g1 : v ≤ 18446744073709551615) (hr : reach s.ram.length 268435456 1 = 10) :
    Calls Try.prog 48 #[.pointer (some ⟨b, 0, none⟩), .int .u64 268435456, .int .i64 1, .int .u64 v] w (RSPost w b vr vi vo s 268435456 1 v) := by
  have A := Lib.hid (r_reach_of h hs 268435456 1 (by omega) (by omega) 10 hr)
  have hst : s.store 268435456 1 v = (true, s.takes 0 v) := by unfold St.store; simp only [hr]; rfl
  have t1 : v.tmod 256 = v % 256 := Int.tmod_eq_emod_of_nonneg g0
  have m0 : 0 ≤ v % 256 := by omega
  have m1 : v % 256 ≤ 255 := by omega
  have ht := r_takes_any h hs 0 (v % 256) m0 m1 (by omega) (by omega)
  unfold RTakesPost at ht
  rw [takes_mod] at ht
  have HT := Lib.hid ht
  have HP := Lib.hid (show ∀ w' vi' vo', RL w' b vr vi' vo' (s.takes 0 v) → Turn (foot b vr vi vo) (foot b vr vi' vo') w w' → RSPost w b vr vi vo s 268435456 1 v (.returned (.bool true)) w' from fun w' vi' vo' q1 q2 => ⟨vi', vo', by rw [hst], by rw [hst]; exact q1, q2⟩)
  clear h hr hs hst ht
  go_enter Try.func48, Try.ntmps48
  go_wp2_with (first | (go_at_call 67; refine A.out.mono ?_; rintro e w' ⟨rfl, rfl⟩) | (go_at_call 71; refine HT.out.mono ?_; rintro e w' ⟨vi', vo', rfl, q1, q2⟩; have HQ := Lib.hid (HP.out w' vi' vo' q1 q2); clear q1 q2))
  go_ret
  exact HQ.out
set_option maxHeartbeats 4000000 in
set_option maxRecDepth 100000 in
theorem r_store_10_1 (h : RL w b vr vi vo s) (hs : s.Ok) (v : Int) (g0 : 0 ≤ v) (g1 : v ≤ 18446744073709551615) (hr : reach s.ram.length 268435457 1 = 10) :
    Calls Try.prog 48 #[.pointer (some ⟨b, 0, none⟩), .int .u64 268435457, .int .i64 1, .int .u64 v] w (RSPost w b vr vi vo s 268435457 1 v) := by
  have A := Lib.hid (r_reach_of h hs 268435457 1 (by omega) (by omega) 10 hr)
  have hst : s.store 268435457 1 v = (true, s.takes 1 v) := by unfold St.store; simp only [hr]; rfl
  have t1 : v.tmod 256 = v % 256 := Int.tmod_eq_emod_of_nonneg g0
  have m0 : 0 ≤ v % 256 := by omega
  have m1 : v % 256 ≤ 255 := by omega
  have ht := r_takes_any h hs 1 (v % 256) m0 m1 (by omega) (by omega)
  unfold RTakesPost at ht
  rw [takes_mod] at ht
  have HT := Lib.hid ht
  have HP := Lib.hid (show ∀ w' vi' vo', RL w' b vr vi' vo' (s.takes 1 v) → Turn (foot b vr vi vo) (foot b vr vi' vo') w w' → RSPost w b vr vi vo s 268435457 1 v (.returned (.bool true)) w' from fun w' vi' vo' q1 q2 => ⟨vi', vo', by rw [hst], by rw [hst]; exact q1, q2⟩)
  clear h hr hs hst ht
  go_enter Try.func48, Try.ntmps48
  go_wp2_with (first | (go_at_call 67; refine A.out.mono ?_; rintro e w' ⟨rfl, rfl⟩) | (go_at_call 71; refine HT.out.mono ?_; rintro e w' ⟨vi', vo', rfl, q1, q2⟩; have HQ := Lib.hid (HP.out w' vi' vo' q1 q2); clear q1 q2))
  go_ret
  exact HQ.out
set_option maxHeartbeats 4000000 in
set_option maxRecDepth 100000 in
theorem r_store_10_2 (h : RL w b vr vi vo s) (hs : s.Ok) (v : Int) (g0 : 0 ≤ v) (g1 : v ≤ 18446744073709551615) (hr : reach s.ram.length 268435458 1 = 10) :
    Calls Try.prog 48 #[.pointer (some ⟨b, 0, none⟩), .int .u64 268435458, .int .i64 1, .int .u64 v] w (RSPost w b vr vi vo s 268435458 1 v) := by
  have A := Lib.hid (r_reach_of h hs 268435458 1 (by omega) (by omega) 10 hr)
  have hst : s.store 268435458 1 v = (true, s.takes 2 v) := by unfold St.store; simp only [hr]; rfl
  have t1 : v.tmod 256 = v % 256 := Int.tmod_eq_emod_of_nonneg g0
  have m0 : 0 ≤ v % 256 := by omega
  have m1 : v % 256 ≤ 255 := by omega
  have ht := r_takes_any h hs 2 (v % 256) m0 m1 (by omega) (by omega)
  unfold RTakesPost at ht
  rw [takes_mod] at ht
  have HT := Lib.hid ht
  have HP := Lib.hid (show ∀ w' vi' vo', RL w' b vr vi' vo' (s.takes 2 v) → Turn (foot b vr vi vo) (foot b vr vi' vo') w w' → RSPost w b vr vi vo s 268435458 1 v (.returned (.bool true)) w' from fun w' vi' vo' q1 q2 => ⟨vi', vo', by rw [hst], by rw [hst]; exact q1, q2⟩)
  clear h hr hs hst ht
  go_enter Try.func48, Try.ntmps48
  go_wp2_with (first | (go_at_call 67; refine A.out.mono ?_; rintro e w' ⟨rfl, rfl⟩) | (go_at_call 71; refine HT.out.mono ?_; rintro e w' ⟨vi', vo', rfl, q1, q2⟩; have HQ := Lib.hid (HP.out w' vi' vo' q1 q2); clear q1 q2))
  go_ret
  exact HQ.out
set_option maxHeartbeats 4000000 in
set_option maxRecDepth 100000 in
theorem r_store_10_3 (h : RL w b vr vi vo s) (hs : s.Ok) (v : Int) (g0 : 0 ≤ v) (g1 : v ≤ 18446744073709551615) (hr : reach s.ram.length 268435459 1 = 10) :
    Calls Try.prog 48 #[.pointer (some ⟨b, 0, none⟩), .int .u64 268435459, .int .i64 1, .int .u64 v] w (RSPost w b vr vi vo s 268435459 1 v) := by
  have A := Lib.hid (r_reach_of h hs 268435459 1 (by omega) (by omega) 10 hr)
  have hst : s.store 268435459 1 v = (true, s.takes 3 v) := by unfold St.store; simp only [hr]; rfl
  have t1 : v.tmod 256 = v % 256 := Int.tmod_eq_emod_of_nonneg g0
  have m0 : 0 ≤ v % 256 := by omega
  have m1 : v % 256 ≤ 255 := by omega
  have ht := r_takes_any h hs 3 (v % 256) m0 m1 (by omega) (by omega)
  unfold RTakesPost at ht
  rw [takes_mod] at ht
  have HT := Lib.hid ht
  have HP := Lib.hid (show ∀ w' vi' vo', RL w' b vr vi' vo' (s.takes 3 v) → Turn (foot b vr vi vo) (foot b vr vi' vo') w w' → RSPost w b vr vi vo s 268435459 1 v (.returned (.bool true)) w' from fun w' vi' vo' q1 q2 => ⟨vi', vo', by rw [hst], by rw [hst]; exact q1, q2⟩)
  clear h hr hs hst ht
  go_enter Try.func48, Try.ntmps48
  go_wp2_with (first | (go_at_call 67; refine A.out.mono ?_; rintro e w' ⟨rfl, rfl⟩) | (go_at_call 71; refine HT.out.mono ?_; rintro e w' ⟨vi', vo', rfl, q1, q2⟩; have HQ := Lib.hid (HP.out w' vi' vo' q1 q2); clear q1 q2))
  go_ret
  exact HQ.out
set_option maxHeartbeats 4000000 in
set_option maxRecDepth 100000 in
theorem r_store_10_4 (h : RL w b vr vi vo s) (hs : s.Ok) (v : Int) (g0 : 0 ≤ v) (g1 : v ≤ 18446744073709551615) (hr : reach s.ram.length 268435460 1 = 10) :
    Calls Try.prog 48 #[.pointer (some ⟨b, 0, none⟩), .int .u64 268435460, .int .i64 1, .int .u64 v] w (RSPost w b vr vi vo s 268435460 1 v) := by
  have A := Lib.hid (r_reach_of h hs 268435460 1 (by omega) (by omega) 10 hr)
  have hst : s.store 268435460 1 v = (true, s.takes 4 v) := by unfold St.store; simp only [hr]; rfl
  have t1 : v.tmod 256 = v % 256 := Int.tmod_eq_emod_of_nonneg g0
  have m0 : 0 ≤ v % 256 := by omega
  have m1 : v % 256 ≤ 255 := by omega
  have ht := r_takes_any h hs 4 (v % 256) m0 m1 (by omega) (by omega)
  unfold RTakesPost at ht
  rw [takes_mod] at ht
  have HT := Lib.hid ht
  have HP := Lib.hid (show ∀ w' vi' vo', RL w' b vr vi' vo' (s.takes 4 v) → Turn (foot b vr vi vo) (foot b vr vi' vo') w w' → RSPost w b vr vi vo s 268435460 1 v (.returned (.bool true)) w' from fun w' vi' vo' q1 q2 => ⟨vi', vo', by rw [hst], by rw [hst]; exact q1, q2⟩)
  clear h hr hs hst ht
  go_enter Try.func48, Try.ntmps48
  go_wp2_with (first | (go_at_call 67; refine A.out.mono ?_; rintro e w' ⟨rfl, rfl⟩) | (go_at_call 71; refine HT.out.mono ?_; rintro e w' ⟨vi', vo', rfl, q1, q2⟩; have HQ := Lib.hid (HP.out w' vi' vo' q1 q2); clear q1 q2))
  go_ret
  exact HQ.out
set_option maxHeartbeats 4000000 in
set_option maxRecDepth 100000 in
theorem r_store_10_5 (h : RL w b vr vi vo s) (hs : s.Ok) (v : Int) (g0 : 0 ≤ v) (g1 : v ≤ 18446744073709551615) (hr : reach s.ram.length 268435461 1 = 10) :
    Calls Try.prog 48 #[.pointer (some ⟨b, 0, none⟩), .int .u64 268435461, .int .i64 1, .int .u64 v] w (RSPost w b vr vi vo s 268435461 1 v) := by
  have A := Lib.hid (r_reach_of h hs 268435461 1 (by omega) (by omega) 10 hr)
  have hst : s.store 268435461 1 v = (true, s.takes 5 v) := by unfold St.store; simp only [hr]; rfl
  have t1 : v.tmod 256 = v % 256 := Int.tmod_eq_emod_of_nonneg g0
  have m0 : 0 ≤ v % 256 := by omega
  have m1 : v % 256 ≤ 255 := by omega
  have ht := r_takes_any h hs 5 (v % 256) m0 m1 (by omega) (by omega)
  unfold RTakesPost at ht
  rw [takes_mod] at ht
  have HT := Lib.hid ht
  have HP := Lib.hid (show ∀ w' vi' vo', RL w' b vr vi' vo' (s.takes 5 v) → Turn (foot b vr vi vo) (foot b vr vi' vo') w w' → RSPost w b vr vi vo s 268435461 1 v (.returned (.bool true)) w' from fun w' vi' vo' q1 q2 => ⟨vi', vo', by rw [hst], by rw [hst]; exact q1, q2⟩)
  clear h hr hs hst ht
  go_enter Try.func48, Try.ntmps48
  go_wp2_with (first | (go_at_call 67; refine A.out.mono ?_; rintro e w' ⟨rfl, rfl⟩) | (go_at_call 71; refine HT.out.mono ?_; rintro e w' ⟨vi', vo', rfl, q1, q2⟩; have HQ := Lib.hid (HP.out w' vi' vo' q1 q2); clear q1 q2))
  go_ret
  exact HQ.out
set_option maxHeartbeats 4000000 in
set_option maxRecDepth 100000 in
theorem r_store_10_6 (h : RL w b vr vi vo s) (hs : s.Ok) (v : Int) (g0 : 0 ≤ v) (g1 : v ≤ 18446744073709551615) (hr : reach s.ram.length 268435462 1 = 10) :
    Calls Try.prog 48 #[.pointer (some ⟨b, 0, none⟩), .int .u64 268435462, .int .i64 1, .int .u64 v] w (RSPost w b vr vi vo s 268435462 1 v) := by
  have A := Lib.hid (r_reach_of h hs 268435462 1 (by omega) (by omega) 10 hr)
  have hst : s.store 268435462 1 v = (true, s.takes 6 v) := by unfold St.store; simp only [hr]; rfl
  have t1 : v.tmod 256 = v % 256 := Int.tmod_eq_emod_of_nonneg g0
  have m0 : 0 ≤ v % 256 := by omega
  have m1 : v % 256 ≤ 255 := by omega
  have ht := r_takes_any h hs 6 (v % 256) m0 m1 (by omega) (by omega)
  unfold RTakesPost at ht
  rw [takes_mod] at ht
  have HT := Lib.hid ht
  have HP := Lib.hid (show ∀ w' vi' vo', RL w' b vr vi' vo' (s.takes 6 v) → Turn (foot b vr vi vo) (foot b vr vi' vo') w w' → RSPost w b vr vi vo s 268435462 1 v (.returned (.bool true)) w' from fun w' vi' vo' q1 q2 => ⟨vi', vo', by rw [hst], by rw [hst]; exact q1, q2⟩)
  clear h hr hs hst ht
  go_enter Try.func48, Try.ntmps48
  go_wp2_with (first | (go_at_call 67; refine A.out.mono ?_; rintro e w' ⟨rfl, rfl⟩) | (go_at_call 71; refine HT.out.mono ?_; rintro e w' ⟨vi', vo', rfl, q1, q2⟩; have HQ := Lib.hid (HP.out w' vi' vo' q1 q2); clear q1 q2))
  go_ret
  exact HQ.out
set_option maxHeartbeats 4000000 in
set_option maxRecDepth 100000 in
theorem r_store_10_7 (h : RL w b vr vi vo s) (hs : s.Ok) (v : Int) (g0 : 0 ≤ v) (g1 : v ≤ 18446744073709551615) (hr : reach s.ram.length 268435463 1 = 10) :
    Calls Try.prog 48 #[.pointer (some ⟨b, 0, none⟩), .int .u64 268435463, .int .i64 1, .int .u64 v] w (RSPost w b vr vi vo s 268435463 1 v) := by
  have A := Lib.hid (r_reach_of h hs 268435463 1 (by omega) (by omega) 10 hr)
  have hst : s.store 268435463 1 v = (true, s.takes 7 v) := by unfold St.store; simp only [hr]; rfl
  have t1 : v.tmod 256 = v % 256 := Int.tmod_eq_emod_of_nonneg g0
  have m0 : 0 ≤ v % 256 := by omega
  have m1 : v % 256 ≤ 255 := by omega
  have ht := r_takes_any h hs 7 (v % 256) m0 m1 (by omega) (by omega)
  unfold RTakesPost at ht
  rw [takes_mod] at ht
  have HT := Lib.hid ht
  have HP := Lib.hid (show ∀ w' vi' vo', RL w' b vr vi' vo' (s.takes 7 v) → Turn (foot b vr vi vo) (foot b vr vi' vo') w w' → RSPost w b vr vi vo s 268435463 1 v (.returned (.bool true)) w' from fun w' vi' vo' q1 q2 => ⟨vi', vo', by rw [hst], by rw [hst]; exact q1, q2⟩)
  clear h hr hs hst ht
  go_enter Try.func48, Try.ntmps48
  go_wp2_with (first | (go_at_call 67; refine A.out.mono ?_; rintro e w' ⟨rfl, rfl⟩) | (go_at_call 71; refine HT.out.mono ?_; rintro e w' ⟨vi', vo', rfl, q1, q2⟩; have HQ := Lib.hid (HP.out w' vi' vo' q1 q2); clear q1 q2))
  go_ret
  exact HQ.out
theorem r_store_10 (h : RL w b vr vi vo s) (hs : s.Ok) (reg v : Int) (g0 : 0 ≤ v) (g1 : v ≤ 18446744073709551615) (r0 : 0 ≤ reg) (r1 : reg < 8) (hr : reach s.ram.length (268435456 + reg) 1 = 10) :
    Calls Try.prog 48 #[.pointer (some ⟨b, 0, none⟩), .int .u64 (268435456 + reg), .int .i64 1, .int .u64 v] w (RSPost w b vr vi vo s (268435456 + reg) 1 v) := by
  rcases (show reg = 0 ∨ reg = 1 ∨ reg = 2 ∨ reg = 3 ∨ reg = 4 ∨ reg = 5 ∨ reg = 6 ∨ reg = 7 by omega) with rfl | rfl | rfl | rfl | rfl | rfl | rfl | rfl
  · exact r_store_10_0 h hs v g0 g1 hr
  · exact r_store_10_1 h hs v g0 g1 hr
  · exact r_store_10_2 h hs v g0 g1 hr
  · exact r_store_10_3 h hs v g0 g1 hr
  · exact r_store_10_4 h hs v g0 g1 hr
  · exact r_store_10_5 h hs v g0 g1 hr
  · exact r_store_10_6 h hs v g0 g1 hr
  · exact r_store_10_7 h hs v g0 g1 hr
end
end Go.Proofs.Ytkocfcgdjjdnhaa.BW
