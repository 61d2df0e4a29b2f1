/- The program's bus: where an access is. Premise: a bus lies there. -/
import Derived.Test.YtkocfcgdjjdnhaaBusK
namespace Go.Proofs.Ytkocfcgdjjdnhaa.BW
open Go.RowKit
set_option linter.unusedVariables false
set_option linter.unusedSimpArgs false
theorem m_ram_here (a : Addr) (w : World) : (method 248 104 (.pointer (some a)) "anvil/bus.here").run Try.prog w = .ok (114, .pointer (some a)) w := by kernel_rfl
theorem m_ram_load (a : Addr) (w : World) : (method 248 104 (.pointer (some a)) "anvil/bus.load").run Try.prog w = .ok (115, .pointer (some a)) w := by kernel_rfl
theorem m_ram_store (a : Addr) (w : World) : (method 248 104 (.pointer (some a)) "anvil/bus.store").run Try.prog w = .ok (116, .pointer (some a)) w := by kernel_rfl
theorem m_fin_here (a : Addr) (w : World) : (method 248 115 (.pointer (some a)) "anvil/bus.here").run Try.prog w = .ok (117, .pointer (some a)) w := by kernel_rfl
theorem m_fin_load (a : Addr) (w : World) : (method 248 115 (.pointer (some a)) "anvil/bus.load").run Try.prog w = .ok (118, .pointer (some a)) w := by kernel_rfl
theorem m_fin_store (a : Addr) (w : World) : (method 248 115 (.pointer (some a)) "anvil/bus.store").run Try.prog w = .ok (119, .pointer (some a)) w := by kernel_rfl
theorem m_clint_here (a : Addr) (w : World) : (method 248 116 (.pointer (some a)) "anvil/bus.here").run Try.prog w = .ok (120, .pointer (some a)) w := by kernel_rfl
theorem m_clint_load (a : Addr) (w : World) : (method 248 116 (.pointer (some a)) "anvil/bus.load").run Try.prog w = .ok (121, .pointer (some a)) w := by kernel_rfl
theorem m_clint_store (a : Addr) (w : World) : (method 248 116 (.pointer (some a)) "anvil/bus.store").run Try.prog w = .ok (122, .pointer (some a)) w := by kernel_rfl
theorem m_uart_here (a : Addr) (w : World) : (method 248 102 (.pointer (some a)) "anvil/bus.here").run Try.prog w = .ok (109, .pointer (some a)) w := by kernel_rfl
theorem m_uart_load (a : Addr) (w : World) : (method 248 102 (.pointer (some a)) "anvil/bus.load").run Try.prog w = .ok (110, .pointer (some a)) w := by kernel_rfl
theorem m_uart_store (a : Addr) (w : World) : (method 248 102 (.pointer (some a)) "anvil/bus.store").run Try.prog w = .ok (111, .pointer (some a)) w := by kernel_rfl
def inFin (addr size : Int) : Bool := decide (size = 4 ∧ addr = 1048576)
def inClint (addr size : Int) : Bool := decide (addr = 33554432 ∧ size = 4) || (wordAt 0 addr size).isSome
def inUart (addr size : Int) : Bool := decide (size = 1 ∧ 268435456 ≤ addr ∧ addr < 268435464)
def inRamA (n addr size : Int) : Bool := decide (szOk size = true ∧ addr % size = 0 ∧ inRam n addr size = true)
theorem wordAt_some (b addr size) : (wordAt b addr size).isSome = (wordAt 0 addr size).isSome := by
  unfold wordAt; split <;> (try split) <;> rfl
section
variable {w : World} {b : Nat} {vr vi vo : Value} {s : St}
theorem ram_is (w : World) (b : Nat) (n cap g : Nat) (hn : n ≤ 65536) (addr size : Int) (r : Bool) (hr : inRamA n addr size = r) (c0 : w.cell? ⟨b, 0, none⟩ = some (.slice (some ⟨g, 0, none⟩) n cap)) (a0 : 0 ≤ addr) (a1 : addr ≤ 18446744073709551615) (s0 : -9223372036854775808 ≤ size) (s1 : size ≤ 9223372036854775807) :
    Calls Try.prog 114 #[.pointer (some ⟨b, 0, none⟩), .int .u64 addr, .int .i64 size] w fun e w' => e = .returned (.bool r) ∧ w = w' := by
  subst hr; exact ram_here_any w b n cap g hn addr size c0 a0 a1 s0 s1
theorem fin_is (w : World) (b : Nat) (addr size : Int) (r : Bool) (hr : inFin addr size = r) : Calls Try.prog 117 #[.pointer (some ⟨b, 1, none⟩), .int .u64 addr, .int .i64 size] w fun e w' => e = .returned (.bool r) ∧ w = w' := by
  subst hr; exact fin_here_any w b addr size
theorem clint_is (w : World) (b : Nat) (addr size : Int) (r : Bool) (hr : inClint addr size = r) (a0 : 0 ≤ addr) (a1 : addr ≤ 18446744073709551615) : Calls Try.prog 120 #[.pointer (some ⟨b, 3, none⟩), .int .u64 addr, .int .i64 size] w fun e w' => e = .returned (.bool r) ∧ Below w.heap.size w w' := by
  subst hr
  have := clint_here_any w b addr size a0 a1
  unfold inClint; rw [← wordAt_some b]; exact this
theorem uart_is (w : World) (b : Nat) (addr size : Int) (r : Bool) (hr : inUart addr size = r) (a0 : 0 ≤ addr) (a1 : addr ≤ 18446744073709551615) : Calls Try.prog 109 #[.pointer (some ⟨b, 6, none⟩), .int .u64 addr, .int .i64 size] w fun e w' => e = .returned (.bool r) ∧ w = w' := by
  subst hr; exact uart_here_any w b addr size a0 a1
set_option maxHeartbeats 4000000 in
set_option maxRecDepth 100000 in
theorem at_ram (h : PL w b vr vi vo s) (hs : s.Ok) (addr size : Int) (a0 : 0 ≤ addr) (a1 : addr ≤ 18446744073709551615) (s0 : -9223372036854775808 ≤ size) (s1 : size ≤ 9223372036854775807) (h1 : inRamA s.ram.length addr size = true) :
    Calls Try.prog 46 #[.pointer (some ⟨b, 0, none⟩), .int .u64 addr, .int .i64 size] w fun e w' => e = .returned (.iface 104 (.pointer (some ⟨b, 0, none⟩))) ∧ Below w.heap.size w w' := by
  obtain ⟨g, cap, rfl, hgb, hgl, hc1, hc2⟩ := h.ramAt hs
  have c0 : w.cell? ⟨b, 0, none⟩ = some (.slice (some ⟨g, 0, none⟩) s.ram.length cap) := h.cell 0 _ rfl
  have hlt : b < w.heap.size := h.lt b (by simp [foot])
  have hn := hs.r1
  have c0d : ∀ o, ((w.alloc o).drew).cell? ⟨b, 0, none⟩ = some (.slice (some ⟨g, 0, none⟩) s.ram.length cap) := fun o => (World.cell?_alloc_lt (w := w) (a := ⟨b, 0, none⟩) (o := o) hlt).trans c0
  have C0 := Lib.hid c0d
  clear c0d
  have k0 := m_ram_here ⟨b, 0, none⟩
  have G1 := Lib.hid h1
  clear h h1
  go_enter Try.func46, Try.ntmps46
  go_wp2_with (go_at_call 66; refine (devices_any _ b).mono ?_; rintro e w' ⟨rfl, rfl⟩)
  refine wp_loop_rounds 5 ?_
  rw [rounds_succ]
  go_wp2_with (go_at_call 114; refine (ram_is _ b s.ram.length cap g hn addr size _ G1.out (C0.out _) a0 a1 s0 s1).mono ?_; rintro e w' ⟨rfl, rfl⟩)
  go_ret
  exact ⟨rfl, ((Below.refl _ w).alloc (Nat.le_refl _) _).drew⟩
set_option maxHeartbeats 4000000 in
set_option maxRecDepth 100000 in
theorem at_fin (h : PL w b vr vi vo s) (hs : s.Ok) (addr size : Int) (a0 : 0 ≤ addr) (a1 : addr ≤ 18446744073709551615) (s0 : -9223372036854775808 ≤ size) (s1 : size ≤ 9223372036854775807) (h1 : inRamA s.ram.length addr size = false) (h2 : inFin addr size = true) :
    Calls Try.prog 46 #[.pointer (some ⟨b, 0, none⟩), .int .u64 addr, .int .i64 size] w fun e w' => e = .returned (.iface 115 (.pointer (some ⟨b, 1, none⟩))) ∧ Below w.heap.size w w' := by
  obtain ⟨g, cap, rfl, hgb, hgl, hc1, hc2⟩ := h.ramAt hs
  have c0 : w.cell? ⟨b, 0, none⟩ = some (.slice (some ⟨g, 0, none⟩) s.ram.length cap) := h.cell 0 _ rfl
  have hlt : b < w.heap.size := h.lt b (by simp [foot])
  have hn := hs.r1
  have c0d : ∀ o, ((w.alloc o).drew).cell? ⟨b, 0, none⟩ = some (.slice (some ⟨g, 0, none⟩) s.ram.length cap) := fun o => (World.cell?_alloc_lt (w := w) (a := ⟨b, 0, none⟩) (o := o) hlt).trans c0
  have C0 := Lib.hid c0d
  clear c0d
  have k0 := m_ram_here ⟨b, 0, none⟩
  have k1 := m_fin_here ⟨b, 1, none⟩
  have G1 := Lib.hid h1
  have G2 := Lib.hid h2
  clear h h1 h2
  go_enter Try.func46, Try.ntmps46
  go_wp2_with (go_at_call 66; refine (devices_any _ b).mono ?_; rintro e w' ⟨rfl, rfl⟩)
  refine wp_loop_rounds 5 ?_
  rw [rounds_succ]
  go_wp2_with (go_at_call 114; refine (ram_is _ b s.ram.length cap g hn addr size _ G1.out (C0.out _) a0 a1 s0 s1).mono ?_; rintro e w' ⟨rfl, rfl⟩)
  rw [rounds_succ]
  go_wp2_with (go_at_call 117; refine (fin_is _ b addr size _ G2.out).mono ?_; rintro e w' ⟨rfl, rfl⟩)
  go_ret
  exact ⟨rfl, ((Below.refl _ w).alloc (Nat.le_refl _) _).drew⟩
set_option maxHeartbeats 4000000 in
set_option maxRecDepth 100000 in
theorem at_clint (h : PL w b vr vi vo s) (hs : s.Ok) (addr size : Int) (a0 : 0 ≤ addr) (a1 : addr ≤ 18446744073709551615) (s0 : -9223372036854775808 ≤ size) (s1 : size ≤ 9223372036854775807) (h1 : inRamA s.ram.length addr size = false) (h2 : inFin addr size = false) (h3 : inClint addr size = true) :
    Calls Try.prog 46 #[.pointer (some ⟨b, 0, none⟩), .int .u64 addr, .int .i64 size] w fun e w' => e = .returned (.iface 116 (.pointer (some ⟨b, 3, none⟩))) ∧ Below w.heap.size w w' := by
  obtain ⟨g, cap, rfl, hgb, hgl, hc1, hc2⟩ := h.ramAt hs
  have c0 : w.cell? ⟨b, 0, none⟩ = some (.slice (some ⟨g, 0, none⟩) s.ram.length cap) := h.cell 0 _ rfl
  have hlt : b < w.heap.size := h.lt b (by simp [foot])
  have hn := hs.r1
  have c0d : ∀ o, ((w.alloc o).drew).cell? ⟨b, 0, none⟩ = some (.slice (some ⟨g, 0, none⟩) s.ram.length cap) := fun o => (World.cell?_alloc_lt (w := w) (a := ⟨b, 0, none⟩) (o := o) hlt).trans c0
  have C0 := Lib.hid c0d
  clear c0d
  have k0 := m_ram_here ⟨b, 0, none⟩
  have k1 := m_fin_here ⟨b, 1, none⟩
  have k2 := m_clint_here ⟨b, 3, none⟩
  have G1 := Lib.hid h1
  have G2 := Lib.hid h2
  have G3 := Lib.hid h3
  clear h h1 h2 h3
  go_enter Try.func46, Try.ntmps46
  go_wp2_with (go_at_call 66; refine (devices_any _ b).mono ?_; rintro e w' ⟨rfl, rfl⟩)
  refine wp_loop_rounds 5 ?_
  rw [rounds_succ]
  go_wp2_with (go_at_call 114; refine (ram_is _ b s.ram.length cap g hn addr size _ G1.out (C0.out _) a0 a1 s0 s1).mono ?_; rintro e w' ⟨rfl, rfl⟩)
  rw [rounds_succ]
  go_wp2_with (go_at_call 117; refine (fin_is _ b addr size _ G2.out).mono ?_; rintro e w' ⟨rfl, rfl⟩)
  rw [rounds_succ]
  go_wp2_with (go_at_call 120; refine (clint_is _ b addr size _ G3.out a0 a1).mono ?_; rintro e w2 ⟨rfl, hb⟩; have e3 : w2.cell? ⟨w.heap.size, 3, none⟩ = some (.iface 102 (.pointer (some ⟨b, 6, none⟩))) := (hb.cell (p := ⟨w.heap.size, 3, none⟩) (by simp)).trans (by simp); have HBB := Lib.hid hb; clear hb)
  go_ret
  exact ⟨rfl, (((Below.refl _ w).alloc (Nat.le_refl _) _).drew).trans (HBB.out.mono (by simp))⟩
set_option maxHeartbeats 4000000 in
set_option maxRecDepth 100000 in
theorem at_uart (h : PL w b vr vi vo s) (hs : s.Ok) (addr size : Int) (a0 : 0 ≤ addr) (a1 : addr ≤ 18446744073709551615) (s0 : -9223372036854775808 ≤ size) (s1 : size ≤ 9223372036854775807) (h1 : inRamA s.ram.length addr size = false) (h2 : inFin addr size = false) (h3 : inClint addr size = false) (h4 : inUart addr size = true) :
    Calls Try.prog 46 #[.pointer (some ⟨b, 0, none⟩), .int .u64 addr, .int .i64 size] w fun e w' => e = .returned (.iface 102 (.pointer (some ⟨b, 6, none⟩))) ∧ Below w.heap.size w w' := by
  obtain ⟨g, cap, rfl, hgb, hgl, hc1, hc2⟩ := h.ramAt hs
  have c0 : w.cell? ⟨b, 0, none⟩ = some (.slice (some ⟨g, 0, none⟩) s.ram.length cap) := h.cell 0 _ rfl
  have hlt : b < w.heap.size := h.lt b (by simp [foot])
  have hn := hs.r1
  have c0d : ∀ o, ((w.alloc o).drew).cell? ⟨b, 0, none⟩ = some (.slice (some ⟨g, 0, none⟩) s.ram.length cap) := fun o => (World.cell?_alloc_lt (w := w) (a := ⟨b, 0, none⟩) (o := o) hlt).trans c0
  have C0 := Lib.hid c0d
  clear c0d
  have k0 := m_ram_here ⟨b, 0, none⟩
  have k1 := m_fin_here ⟨b, 1, none⟩
  have k2 := m_clint_here ⟨b, 3, none⟩
  have k3 := m_uart_here ⟨b, 6, none⟩
  have G1 := Lib.hid h1
  have G2 := Lib.hid h2
  have G3 := Lib.hid h3
  have G4 := Lib.hid h4
  clear h h1 h2 h3 h4
  go_enter Try.func46, Try.ntmps46
  go_wp2_with (go_at_call 66; refine (devices_any _ b).mono ?_; rintro e w' ⟨rfl, rfl⟩)
  refine wp_loop_rounds 5 ?_
  rw [rounds_succ]
  go_wp2_with (go_at_call 114; refine (ram_is _ b s.ram.length cap g hn addr size _ G1.out (C0.out _) a0 a1 s0 s1).mono ?_; rintro e w' ⟨rfl, rfl⟩)
  rw [rounds_succ]
  go_wp2_with (go_at_call 117; refine (fin_is _ b addr size _ G2.out).mono ?_; rintro e w' ⟨rfl, rfl⟩)
  rw [rounds_succ]
  go_wp2_with (go_at_call 120; refine (clint_is _ b addr size _ G3.out a0 a1).mono ?_; rintro e w2 ⟨rfl, hb⟩; have e3 : w2.cell? ⟨w.heap.size, 3, none⟩ = some (.iface 102 (.pointer (some ⟨b, 6, none⟩))) := (hb.cell (p := ⟨w.heap.size, 3, none⟩) (by simp)).trans (by simp); have HBB := Lib.hid hb; clear hb)
  rw [rounds_succ]
  go_wp2_with (go_at_call 109; refine (uart_is _ b addr size _ G4.out a0 a1).mono ?_; rintro e w' ⟨rfl, rfl⟩)
  go_ret
  exact ⟨rfl, (((Below.refl _ w).alloc (Nat.le_refl _) _).drew).trans (HBB.out.mono (by simp))⟩
set_option maxHeartbeats 4000000 in
set_option maxRecDepth 100000 in
theorem at_none (h : PL w b vr vi vo s) (hs : s.Ok) (addr size : Int) (a0 : 0 ≤ addr) (a1 : addr ≤ 18446744073709551615) (s0 : -9223372036854775808 ≤ size) (s1 : size ≤ 9223372036854775807) (h1 : inRamA s.ram.length addr size = false) (h2 : inFin addr size = false) (h3 : inClint addr size = false) (h4 : inUart addr size = false) :
    Calls Try.prog 46 #[.pointer (some ⟨b, 0, none⟩), .int .u64 addr, .int .i64 size] w fun e w' => e = .returned (.nilIface) ∧ Below w.heap.size w w' := by
  obtain ⟨g, cap, rfl, hgb, hgl, hc1, hc2⟩ := h.ramAt hs
  have c0 : w.cell? ⟨b, 0, none⟩ = some (.slice (some ⟨g, 0, none⟩) s.ram.length cap) := h.cell 0 _ rfl
  have hlt : b < w.heap.size := h.lt b (by simp [foot])
  have hn := hs.r1
  have c0d : ∀ o, ((w.alloc o).drew).cell? ⟨b, 0, none⟩ = some (.slice (some ⟨g, 0, none⟩) s.ram.length cap) := fun o => (World.cell?_alloc_lt (w := w) (a := ⟨b, 0, none⟩) (o := o) hlt).trans c0
  have C0 := Lib.hid c0d
  clear c0d
  have k0 := m_ram_here ⟨b, 0, none⟩
  have k1 := m_fin_here ⟨b, 1, none⟩
  have k2 := m_clint_here ⟨b, 3, none⟩
  have k3 := m_uart_here ⟨b, 6, none⟩
  have G1 := Lib.hid h1
  have G2 := Lib.hid h2
  have G3 := Lib.hid h3
  have G4 := Lib.hid h4
  clear h h1 h2 h3 h4
  go_enter Try.func46, Try.ntmps46
  go_wp2_with (go_at_call 66; refine (devices_any _ b).mono ?_; rintro e w' ⟨rfl, rfl⟩)
  refine wp_loop_rounds 5 ?_
  rw [rounds_succ]
  go_wp2_with (go_at_call 114; refine (ram_is _ b s.ram.length cap g hn addr size _ G1.out (C0.out _) a0 a1 s0 s1).mono ?_; rintro e w' ⟨rfl, rfl⟩)
  rw [rounds_succ]
  go_wp2_with (go_at_call 117; refine (fin_is _ b addr size _ G2.out).mono ?_; rintro e w' ⟨rfl, rfl⟩)
  rw [rounds_succ]
  go_wp2_with (go_at_call 120; refine (clint_is _ b addr size _ G3.out a0 a1).mono ?_; rintro e w2 ⟨rfl, hb⟩; have e3 : w2.cell? ⟨w.heap.size, 3, none⟩ = some (.iface 102 (.pointer (some ⟨b, 6, none⟩))) := (hb.cell (p := ⟨w.heap.size, 3, none⟩) (by simp)).trans (by simp); have HBB := Lib.hid hb; clear hb)
  rw [rounds_succ]
  go_wp2_with (go_at_call 109; refine (uart_is _ b addr size _ G4.out a0 a1).mono ?_; rintro e w' ⟨rfl, rfl⟩)
  rw [rounds_succ]
  go_wp2
  go_ret
  exact ⟨rfl, (((Below.refl _ w).alloc (Nat.le_refl _) _).drew).trans (HBB.out.mono (by simp))⟩
end
end Go.Proofs.Ytkocfcgdjjdnhaa.BW
