/- The program's bus: Load. Premise: a bus lies there. -/
import Derived.Test.YtkocfcgdjjdnhaaBusM
namespace Go.Proofs.Ytkocfcgdjjdnhaa.BW
open Go.RowKit
set_option linter.unusedVariables false
set_option linter.unusedSimpArgs false
theorem eql_ram (v : Value) (w : World) : (binOp .eql 93 (.iface 104 v) .nilIface).run Try.prog w = .ok (.bool false) w := by kernel_rfl
theorem eql_fin (v : Value) (w : World) : (binOp .eql 93 (.iface 115 v) .nilIface).run Try.prog w = .ok (.bool false) w := by kernel_rfl
theorem eql_clint (v : Value) (w : World) : (binOp .eql 93 (.iface 116 v) .nilIface).run Try.prog w = .ok (.bool false) w := by kernel_rfl
theorem eql_uart (v : Value) (w : World) : (binOp .eql 93 (.iface 102 v) .nilIface).run Try.prog w = .ok (.bool false) w := by kernel_rfl
theorem eql_none (w : World) : (binOp .eql 93 .nilIface .nilIface).run Try.prog w = .ok (.bool true) w := by kernel_rfl
section
variable {w : World} {b : Nat} {vr vi vo : Value} {s : St}
/-- What Load leaves. -/
def LPost (w : World) (b : Nat) (vr vi vo : Value) (s : St) (addr size : Int) (e : Ending) (w' : World) : Prop :=
  ∃ vi', e = .returned (.tuple #[.int .u64 (s.load addr size).1.1, .bool (s.load addr size).1.2]) ∧ PL w' b vr vi' vo (s.load addr size).2 ∧ Turn (foot b vr vi vo) (foot b vr vi' vo) w w'
theorem inRamA_false {n addr size : Int} (h : addr < 2147483648) : inRamA n addr size = false := by
  unfold inRamA inRam; simp; omega
set_option maxHeartbeats 4000000 in
set_option maxRecDepth 100000 in
theorem load_none (h : PL w b vr vi vo s) (hs : s.Ok) (addr size : Int) (a0 : 0 ≤ addr) (a1 : addr ≤ 18446744073709551615) (s0 : -9223372036854775808 ≤ size) (s1 : size ≤ 9223372036854775807) (h1 : inRamA s.ram.length addr size = false) (h2 : inFin addr size = false) (h3 : inClint addr size = false) (h4 : inUart addr size = false) (hv : s.load addr size = ((0, false), s)) :
    Calls Try.prog 29 #[.pointer (some ⟨b, 0, none⟩), .int .u64 addr, .int .i64 size] w (LPost w b vr vi vo s addr size) := by
  have q := eql_none
  have A := Lib.hid (at_none h hs addr size a0 a1 s0 s1 h1 h2 h3 h4)
  have H := Lib.hid h
  have HV := Lib.hid hv
  clear h h1 h2 h3 h4 hv
  go_enter Try.func29, Try.ntmps29
  go_wp2_with (go_at_call 46; refine A.out.mono ?_; rintro e w2 ⟨rfl, hb⟩)
  have hp : LPost w b vr vi vo s addr size (.returned (.tuple #[.int .u64 0, .bool false])) w2 := by
    unfold LPost; rw [HV.out]; exact ⟨vi, rfl, H.out.keep0 (.of_below hb), .of_kept (.of_below hb)⟩
  go_ret2
  exact hp
set_option maxHeartbeats 4000000 in
set_option maxRecDepth 100000 in
theorem load_fin (h : PL w b vr vi vo s) (hs : s.Ok) (hv : s.load 1048576 4 = ((0, true), s)) :
    Calls Try.prog 29 #[.pointer (some ⟨b, 0, none⟩), .int .u64 1048576, .int .i64 4] w (LPost w b vr vi vo s 1048576 4) := by
  have q := eql_fin
  have m := m_fin_load ⟨b, 1, none⟩
  have A := Lib.hid (at_fin h hs 1048576 4 (by decide) (by decide) (by decide) (by decide) (inRamA_false (by decide)) (by decide))
  have H := Lib.hid h
  have HV := Lib.hid hv
  clear h hv
  go_enter Try.func29, Try.ntmps29
  go_wp2_with (first | (go_at_call 46; refine A.out.mono ?_; rintro e w2 ⟨rfl, hb⟩) | (go_at_call 118; refine (fin_load_any _ b _ _).mono ?_; rintro e w' ⟨rfl, rfl⟩))
  have hp : LPost w b vr vi vo s 1048576 4 (.returned (.tuple #[.int .u64 0, .bool true])) w2 := by
    unfold LPost; rw [HV.out]; exact ⟨vi, rfl, H.out.keep0 (.of_below hb), .of_kept (.of_below hb)⟩
  go_ret2
  exact hp
set_option maxHeartbeats 4000000 in
set_option maxRecDepth 100000 in
theorem load_m (h : PL w b vr vi vo s) (hs : s.Ok) (hv : s.load 33554432 4 = ((s.msip, true), s)) :
    Calls Try.prog 29 #[.pointer (some ⟨b, 0, none⟩), .int .u64 33554432, .int .i64 4] w (LPost w b vr vi vo s 33554432 4) := by
  have q := eql_clint
  have m := m_clint_load ⟨b, 3, none⟩
  have A := Lib.hid (at_clint h hs 33554432 4 (by decide) (by decide) (by decide) (by decide) (inRamA_false (by decide)) (by decide) (by decide))
  have H := Lib.hid h
  have HV := Lib.hid hv
  have hlt : b < w.heap.size := h.lt b (by simp [foot])
  clear h hv
  go_enter Try.func29, Try.ntmps29
  go_wp2_with (first | (go_at_call 46; refine A.out.mono ?_; rintro e w2 ⟨rfl, hb⟩; have HB := Lib.hid hb; clear hb) | (go_at_call 121; refine (clint_load_m _ b (s.msip) hs.m.1 (by have := hs.m.2; omega) (Nat.lt_of_lt_of_le hlt HB.out.size) ((H.out.keep0 (.of_below HB.out)).cell 3 _ rfl)).mono ?_; rintro e w3 ⟨rfl, hb3⟩))
  have hk := (Kept.of_below (F := []) HB.out).trans (.of_below (F := []) hb3) (by simp)
  have hp : LPost w b vr vi vo s 33554432 4 (.returned (.tuple #[.int .u64 (s.msip), .bool true])) w3 := by
    unfold LPost; rw [HV.out]; exact ⟨vi, rfl, H.out.keep0 hk, .of_kept (hk.mono (by simp))⟩
  go_ret2
  exact hp
set_option maxHeartbeats 4000000 in
set_option maxRecDepth 100000 in
theorem load_c (h : PL w b vr vi vo s) (hs : s.Ok) (hv : s.load 33570816 8 = ((s.cmp, true), s)) :
    Calls Try.prog 29 #[.pointer (some ⟨b, 0, none⟩), .int .u64 33570816, .int .i64 8] w (LPost w b vr vi vo s 33570816 8) := by
  have q := eql_clint
  have m := m_clint_load ⟨b, 3, none⟩
  have A := Lib.hid (at_clint h hs 33570816 8 (by decide) (by decide) (by decide) (by decide) (inRamA_false (by decide)) (by decide) (by decide))
  have H := Lib.hid h
  have HV := Lib.hid hv
  have hlt : b < w.heap.size := h.lt b (by simp [foot])
  clear h hv
  go_enter Try.func29, Try.ntmps29
  go_wp2_with (first | (go_at_call 46; refine A.out.mono ?_; rintro e w2 ⟨rfl, hb⟩; have HB := Lib.hid hb; clear hb) | (go_at_call 121; refine (clint_load_c _ b (s.cmp) hs.c.1 hs.c.2 (Nat.lt_of_lt_of_le hlt HB.out.size) ((H.out.keep0 (.of_below HB.out)).cell 4 _ rfl)).mono ?_; rintro e w3 ⟨rfl, hb3⟩))
  have hk := (Kept.of_below (F := []) HB.out).trans (.of_below (F := []) hb3) (by simp)
  have hp : LPost w b vr vi vo s 33570816 8 (.returned (.tuple #[.int .u64 (s.cmp), .bool true])) w3 := by
    unfold LPost; rw [HV.out]; exact ⟨vi, rfl, H.out.keep0 hk, .of_kept (hk.mono (by simp))⟩
  go_ret2
  exact hp
set_option maxHeartbeats 4000000 in
set_option maxRecDepth 100000 in
theorem load_cl (h : PL w b vr vi vo s) (hs : s.Ok) (hv : s.load 33570816 4 = ((s.cmp % 4294967296, true), s)) :
    Calls Try.prog 29 #[.pointer (some ⟨b, 0, none⟩), .int .u64 33570816, .int .i64 4] w (LPost w b vr vi vo s 33570816 4) := by
  have q := eql_clint
  have m := m_clint_load ⟨b, 3, none⟩
  have A := Lib.hid (at_clint h hs 33570816 4 (by decide) (by decide) (by decide) (by decide) (inRamA_false (by decide)) (by decide) (by decide))
  have H := Lib.hid h
  have HV := Lib.hid hv
  have hlt : b < w.heap.size := h.lt b (by simp [foot])
  clear h hv
  go_enter Try.func29, Try.ntmps29
  go_wp2_with (first | (go_at_call 46; refine A.out.mono ?_; rintro e w2 ⟨rfl, hb⟩; have HB := Lib.hid hb; clear hb) | (go_at_call 121; refine (clint_load_cl _ b (s.cmp) hs.c.1 hs.c.2 (Nat.lt_of_lt_of_le hlt HB.out.size) ((H.out.keep0 (.of_below HB.out)).cell 4 _ rfl)).mono ?_; rintro e w3 ⟨rfl, hb3⟩))
  have hk := (Kept.of_below (F := []) HB.out).trans (.of_below (F := []) hb3) (by simp)
  have hp : LPost w b vr vi vo s 33570816 4 (.returned (.tuple #[.int .u64 (s.cmp % 4294967296), .bool true])) w3 := by
    unfold LPost; rw [HV.out]; exact ⟨vi, rfl, H.out.keep0 hk, .of_kept (hk.mono (by simp))⟩
  go_ret2
  exact hp
set_option maxHeartbeats 4000000 in
set_option maxRecDepth 100000 in
theorem load_ch (h : PL w b vr vi vo s) (hs : s.Ok) (hv : s.load 33570820 4 = ((s.cmp / 4294967296, true), s)) :
    Calls Try.prog 29 #[.pointer (some ⟨b, 0, none⟩), .int .u64 33570820, .int .i64 4] w (LPost w b vr vi vo s 33570820 4) := by
  have q := eql_clint
  have m := m_clint_load ⟨b, 3, none⟩
  have A := Lib.hid (at_clint h hs 33570820 4 (by decide) (by decide) (by decide) (by decide) (inRamA_false (by decide)) (by decide) (by decide))
  have H := Lib.hid h
  have HV := Lib.hid hv
  have hlt : b < w.heap.size := h.lt b (by simp [foot])
  clear h hv
  go_enter Try.func29, Try.ntmps29
  go_wp2_with (first | (go_at_call 46; refine A.out.mono ?_; rintro e w2 ⟨rfl, hb⟩; have HB := Lib.hid hb; clear hb) | (go_at_call 121; refine (clint_load_ch _ b (s.cmp) hs.c.1 hs.c.2 (Nat.lt_of_lt_of_le hlt HB.out.size) ((H.out.keep0 (.of_below HB.out)).cell 4 _ rfl)).mono ?_; rintro e w3 ⟨rfl, hb3⟩))
  have hk := (Kept.of_below (F := []) HB.out).trans (.of_below (F := []) hb3) (by simp)
  have hp : LPost w b vr vi vo s 33570820 4 (.returned (.tuple #[.int .u64 (s.cmp / 4294967296), .bool true])) w3 := by
    unfold LPost; rw [HV.out]; exact ⟨vi, rfl, H.out.keep0 hk, .of_kept (hk.mono (by simp))⟩
  go_ret2
  exact hp
set_option maxHeartbeats 4000000 in
set_option maxRecDepth 100000 in
theorem load_n (h : PL w b vr vi vo s) (hs : s.Ok) (hv : s.load 33603576 8 = ((s.now, true), s)) :
    Calls Try.prog 29 #[.pointer (some ⟨b, 0, none⟩), .int .u64 33603576, .int .i64 8] w (LPost w b vr vi vo s 33603576 8) := by
  have q := eql_clint
  have m := m_clint_load ⟨b, 3, none⟩
  have A := Lib.hid (at_clint h hs 33603576 8 (by decide) (by decide) (by decide) (by decide) (inRamA_false (by decide)) (by decide) (by decide))
  have H := Lib.hid h
  have HV := Lib.hid hv
  have hlt : b < w.heap.size := h.lt b (by simp [foot])
  clear h hv
  go_enter Try.func29, Try.ntmps29
  go_wp2_with (first | (go_at_call 46; refine A.out.mono ?_; rintro e w2 ⟨rfl, hb⟩; have HB := Lib.hid hb; clear hb) | (go_at_call 121; refine (clint_load_n _ b (s.now) hs.n.1 hs.n.2 (Nat.lt_of_lt_of_le hlt HB.out.size) ((H.out.keep0 (.of_below HB.out)).cell 5 _ rfl)).mono ?_; rintro e w3 ⟨rfl, hb3⟩))
  have hk := (Kept.of_below (F := []) HB.out).trans (.of_below (F := []) hb3) (by simp)
  have hp : LPost w b vr vi vo s 33603576 8 (.returned (.tuple #[.int .u64 (s.now), .bool true])) w3 := by
    unfold LPost; rw [HV.out]; exact ⟨vi, rfl, H.out.keep0 hk, .of_kept (hk.mono (by simp))⟩
  go_ret2
  exact hp
set_option maxHeartbeats 4000000 in
set_option maxRecDepth 100000 in
theorem load_nl (h : PL w b vr vi vo s) (hs : s.Ok) (hv : s.load 33603576 4 = ((s.now % 4294967296, true), s)) :
    Calls Try.prog 29 #[.pointer (some ⟨b, 0, none⟩), .int .u64 33603576, .int .i64 4] w (LPost w b vr vi vo s 33603576 4) := by
  have q := eql_clint
  have m := m_clint_load ⟨b, 3, none⟩
  have A := Lib.hid (at_clint h hs 33603576 4 (by decide) (by decide) (by decide) (by decide) (inRamA_false (by decide)) (by decide) (by decide))
  have H := Lib.hid h
  have HV := Lib.hid hv
  have hlt : b < w.heap.size := h.lt b (by simp [foot])
  clear h hv
  go_enter Try.func29, Try.ntmps29
  go_wp2_with (first | (go_at_call 46; refine A.out.mono ?_; rintro e w2 ⟨rfl, hb⟩; have HB := Lib.hid hb; clear hb) | (go_at_call 121; refine (clint_load_nl _ b (s.now) hs.n.1 hs.n.2 (Nat.lt_of_lt_of_le hlt HB.out.size) ((H.out.keep0 (.of_below HB.out)).cell 5 _ rfl)).mono ?_; rintro e w3 ⟨rfl, hb3⟩))
  have hk := (Kept.of_below (F := []) HB.out).trans (.of_below (F := []) hb3) (by simp)
  have hp : LPost w b vr vi vo s 33603576 4 (.returned (.tuple #[.int .u64 (s.now % 4294967296), .bool true])) w3 := by
    unfold LPost; rw [HV.out]; exact ⟨vi, rfl, H.out.keep0 hk, .of_kept (hk.mono (by simp))⟩
  go_ret2
  exact hp
set_option maxHeartbeats 4000000 in
set_option maxRecDepth 100000 in
theorem load_nh (h : PL w b vr vi vo s) (hs : s.Ok) (hv : s.load 33603580 4 = ((s.now / 4294967296, true), s)) :
    Calls Try.prog 29 #[.pointer (some ⟨b, 0, none⟩), .int .u64 33603580, .int .i64 4] w (LPost w b vr vi vo s 33603580 4) := by
  have q := eql_clint
  have m := m_clint_load ⟨b, 3, none⟩
  have A := Lib.hid (at_clint h hs 33603580 4 (by decide) (by decide) (by decide) (by decide) (inRamA_false (by decide)) (by decide) (by decide))
  have H := Lib.hid h
  have HV := Lib.hid hv
  have hlt : b < w.heap.size := h.lt b (by simp [foot])
  clear h hv
  go_enter Try.func29, Try.ntmps29
  go_wp2_with (first | (go_at_call 46; refine A.out.mono ?_; rintro e w2 ⟨rfl, hb⟩; have HB := Lib.hid hb; clear hb) | (go_at_call 121; refine (clint_load_nh _ b (s.now) hs.n.1 hs.n.2 (Nat.lt_of_lt_of_le hlt HB.out.size) ((H.out.keep0 (.of_below HB.out)).cell 5 _ rfl)).mono ?_; rintro e w3 ⟨rfl, hb3⟩))
  have hk := (Kept.of_below (F := []) HB.out).trans (.of_below (F := []) hb3) (by simp)
  have hp : LPost w b vr vi vo s 33603580 4 (.returned (.tuple #[.int .u64 (s.now / 4294967296), .bool true])) w3 := by
    unfold LPost; rw [HV.out]; exact ⟨vi, rfl, H.out.keep0 hk, .of_kept (hk.mono (by simp))⟩
  go_ret2
  exact hp
set_option maxHeartbeats 4000000 in
set_option maxRecDepth 100000 in
theorem load_uart (h : PL w b vr vi vo s) (hs : s.Ok) (reg : Int) (r0 : 0 ≤ reg) (r1 : reg < 8) (hv : s.load (268435456 + reg) 1 = (((s.tells reg).1, true), (s.tells reg).2)) :
    Calls Try.prog 29 #[.pointer (some ⟨b, 0, none⟩), .int .u64 (268435456 + reg), .int .i64 1] w (LPost w b vr vi vo s (268435456 + reg) 1) := by
  have q := eql_uart
  have m := m_uart_load ⟨b, 6, none⟩
  have A := Lib.hid (at_uart h hs (268435456 + reg) 1 (by omega) (by omega) (by decide) (by decide) (inRamA_false (by omega)) (by simp [inFin]) (by simp [inClint, wordAt]) (by simp [inUart]; omega))
  have H := Lib.hid h
  have HV := Lib.hid hv
  clear h hv
  go_enter Try.func29, Try.ntmps29
  go_wp2_with (first | (go_at_call 46; refine A.out.mono ?_; rintro e w2 ⟨rfl, hb⟩; have HB := Lib.hid hb; clear hb) | (go_at_call 110; refine (uart_load_any (H.out.keep0 (.of_below HB.out)) hs reg _ r0 r1).mono ?_; rintro e w3 ⟨vi', rfl, h3, ht⟩; have H3 := Lib.hid h3; have HT := Lib.hid ht; clear h3 ht))
  have hp : LPost w b vr vi vo s (268435456 + reg) 1 (.returned (.tuple #[.int .u64 (s.tells reg).1, .bool true])) w3 := by
    unfold LPost; rw [HV.out]; exact ⟨vi', rfl, H3.out, (Turn.of_kept ((Kept.of_below (F := foot b vr vi vo) HB.out))).trans HT.out⟩
  go_ret2
  exact hp
set_option maxHeartbeats 4000000 in
set_option maxRecDepth 100000 in
theorem load_ram (h : PL w b vr vi vo s) (hs : s.Ok) (a sz : Nat) (hsz : szOk sz = true) (hal : (2147483648 + (a : Int)) % sz = 0) (hin : a + sz ≤ s.ram.length) (hv : s.load (2147483648 + (a : Int)) sz = ((leVal ((s.ram.drop a).take sz), true), s)) :
    Calls Try.prog 29 #[.pointer (some ⟨b, 0, none⟩), .int .u64 (2147483648 + (a : Int)), .int .i64 sz] w (LPost w b vr vi vo s (2147483648 + (a : Int)) sz) := by
  have q := eql_ram
  have m := m_ram_load ⟨b, 0, none⟩
  have hsz' : sz = 1 ∨ sz = 2 ∨ sz = 4 ∨ sz = 8 := by simp [szOk] at hsz; omega
  have hr1 := hs.r1
  have A := Lib.hid (at_ram h hs (2147483648 + (a : Int)) sz (by omega) (by omega) (by omega) (by omega) (by unfold inRamA inRam; simp [hsz, hal]; omega))
  obtain ⟨g, cap, rfl, hgb, hgl, hc1, hc2⟩ := h.ramAt hs
  have hpl : ((s.ram.drop a).take sz).length = sz := by simp; omega
  have hpb : Byts ((s.ram.drop a).take sz) := fun n hn => hs.rb n (List.mem_of_mem_drop (List.mem_of_mem_take hn))
  have H := Lib.hid h
  have HV := Lib.hid hv
  have HPL := Lib.hid hpl
  have hs8 : sz ≤ 8 := by omega
  clear h hv hsz hal hsz' hpl
  go_enter Try.func29, Try.ntmps29
  go_wp2_with (first | (go_at_call 46; refine A.out.mono ?_; rintro e w2 ⟨rfl, hb⟩; have HB := Lib.hid hb; clear hb) | (go_at_call 115; refine (ram_load_any _ b g s.ram.length cap a sz ((s.ram.drop a).take sz) hpb HPL.out hs8 hr1 hin ((H.out.keep0 (.of_below HB.out)).cell 0 _ rfl) ?_).mono ?_; (intro i x hx; rw [List.getElem?_take] at hx; split at hx; (· rw [List.getElem?_drop] at hx; exact (H.out.keep0 (.of_below HB.out)).ram.cell rfl (a + i) x hx); (· cases hx)); rintro e w3 ⟨rfl, rfl⟩))
  have hk := (Kept.of_below (F := []) HB.out)
  have hp : LPost w b (.slice (some ⟨g, 0, none⟩) s.ram.length cap) vi vo s (2147483648 + (a : Int)) sz (.returned (.tuple #[.int .u64 (leVal ((s.ram.drop a).take sz)), .bool true])) w3 := by
    unfold LPost; rw [HV.out]; exact ⟨vi, rfl, H.out.keep0 hk, .of_kept (hk.mono (by simp))⟩
  go_ret2
  exact hp
end
end Go.Proofs.Ytkocfcgdjjdnhaa.BW
