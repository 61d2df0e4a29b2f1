/- The program's bus: what an access reaches, in all cases; Load and Store. Premise: a bus lies there. -/
import Derived.Test.YtkocfcgdjjdnhaaBusO
namespace Go.Proofs.Ytkocfcgdjjdnhaa.BW
open Go.RowKit
set_option linter.unusedVariables false
set_option linter.unusedSimpArgs false
theorem clint_cases {addr size : Int} (h : inClint addr size = true) : (addr = 33554432 ∧ size = 4) ∨ (addr = 33570816 ∧ size = 4) ∨ (addr = 33570816 ∧ size = 8) ∨ (addr = 33570820 ∧ size = 4) ∨ (addr = 33603576 ∧ size = 4) ∨ (addr = 33603576 ∧ size = 8) ∨ (addr = 33603580 ∧ size = 4) := by
  unfold inClint wordAt at h
  split at h
  · next h1 => omega
  · split at h
    · next h1 => omega
    · simp at h; omega
theorem clint_of {addr size : Int} (h : (addr = 33554432 ∧ size = 4) ∨ (addr = 33570816 ∧ size = 4) ∨ (addr = 33570816 ∧ size = 8) ∨ (addr = 33570820 ∧ size = 4) ∨ (addr = 33603576 ∧ size = 4) ∨ (addr = 33603576 ∧ size = 8) ∨ (addr = 33603580 ∧ size = 4)) : inClint addr size = true := by
  rcases h with ⟨rfl, rfl⟩ | ⟨rfl, rfl⟩ | ⟨rfl, rfl⟩ | ⟨rfl, rfl⟩ | ⟨rfl, rfl⟩ | ⟨rfl, rfl⟩ | ⟨rfl, rfl⟩ <;> decide
theorem reach_ram {n addr size : Int} (h : inRamA n addr size = true) : reach n addr size = 1 := by
  unfold inRamA at h; unfold reach; rw [if_pos (by simpa using h)]
theorem reach_low {n addr size : Int} (h : inRamA n addr size = false) : reach n addr size = if size = 1 ∧ 268435456 ≤ addr ∧ addr < 268435464 then 10
  else if size = 4 ∧ addr = 1048576 then 2
  else if size = 4 ∧ addr = 33554432 then 3
  else if size = 4 ∧ addr = 33570816 then 5
  else if size = 4 ∧ addr = 33570820 then 6
  else if size = 8 ∧ addr = 33570816 then 4
  else if size = 4 ∧ addr = 33603576 then 8
  else if size = 4 ∧ addr = 33603580 then 9
  else if size = 8 ∧ addr = 33603576 then 7
  else 0 := by
  unfold inRamA at h; unfold reach; rw [if_neg (by simpa using h)]
theorem reach_none {n addr size : Int} (h1 : inRamA n addr size = false) (h2 : inFin addr size = false) (h3 : inClint addr size = false) (h4 : inUart addr size = false) : reach n addr size = 0 := by
  have h5 : ¬ ((addr = 33554432 ∧ size = 4) ∨ (addr = 33570816 ∧ size = 4) ∨ (addr = 33570816 ∧ size = 8) ∨ (addr = 33570820 ∧ size = 4) ∨ (addr = 33603576 ∧ size = 4) ∨ (addr = 33603576 ∧ size = 8) ∨ (addr = 33603580 ∧ size = 4)) := fun h => by rw [clint_of h] at h3; cases h3
  unfold inFin at h2; unfold inUart at h4
  have h2' : ¬ (size = 4 ∧ addr = 1048576) := by simpa using h2
  have h4' : ¬ (size = 1 ∧ 268435456 ≤ addr ∧ addr < 268435464) := of_decide_eq_false h4
  rw [reach_low h1, if_neg h4', if_neg h2', if_neg (by omega), if_neg (by omega), if_neg (by omega), if_neg (by omega), if_neg (by omega), if_neg (by omega), if_neg (by omega)]
theorem szOk_cases {sz : Int} (h : szOk sz = true) : sz = 1 ∨ sz = 2 ∨ sz = 4 ∨ sz = 8 := by simpa [szOk] using h
/-- Where RAM is, in whole numbers. -/
theorem ram_nat {n : Nat} {addr size : Int} (h : inRamA n addr size = true) : ∃ a sz : Nat, addr = 2147483648 + (a : Int) ∧ size = sz ∧ szOk sz = true ∧ (2147483648 + (a : Int)) % sz = 0 ∧ a + sz ≤ n := by
  unfold inRamA inRam at h
  simp only [decide_eq_true_eq, Bool.and_eq_true] at h
  obtain ⟨h1, h2, h3, h4, h5⟩ := h
  refine ⟨(addr - 2147483648).toNat, size.toNat, by omega, by omega, ?_, ?_, by omega⟩
  · rw [show ((size.toNat : Nat) : Int) = size by omega]; exact h1
  · rw [show (2147483648 + ((addr - 2147483648).toNat : Int)) = addr by omega, show ((size.toNat : Nat) : Int) = size by omega]; exact h2
section
variable {w : World} {b : Nat} {vr vi vo : Value} {s : St}
theorem load_any (h : PL w b vr vi vo s) (hs : s.Ok) (addr size : Int) (a0 : 0 ≤ addr) (a1 : addr ≤ 18446744073709551615) (s0 : -9223372036854775808 ≤ size) (s1 : size ≤ 9223372036854775807) :
    Calls Try.prog 29 #[.pointer (some ⟨b, 0, none⟩), .int .u64 addr, .int .i64 size] w (LPost w b vr vi vo s addr size) := by
  cases h1 : inRamA s.ram.length addr size
  · cases h4 : inUart addr size
    · cases h2 : inFin addr size
      · cases h3 : inClint addr size
        · exact load_none h hs addr size a0 a1 s0 s1 h1 h2 h3 h4 (by unfold St.load; simp only [reach_none h1 h2 h3 h4]; rfl)
        · have hr := reach_low h1
          rcases clint_cases h3 with ⟨rfl, rfl⟩ | ⟨rfl, rfl⟩ | ⟨rfl, rfl⟩ | ⟨rfl, rfl⟩ | ⟨rfl, rfl⟩ | ⟨rfl, rfl⟩ | ⟨rfl, rfl⟩ <;> simp at hr
          · exact load_m h hs (by unfold St.load; simp only [hr]; rfl)
          · exact load_cl h hs (by unfold St.load; simp only [hr]; rfl)
          · exact load_c h hs (by unfold St.load; simp only [hr]; rfl)
          · exact load_ch h hs (by unfold St.load; simp only [hr]; rfl)
          · exact load_nl h hs (by unfold St.load; simp only [hr]; rfl)
          · exact load_n h hs (by unfold St.load; simp only [hr]; rfl)
          · exact load_nh h hs (by unfold St.load; simp only [hr]; rfl)
      · have hr := reach_low h1
        have h2' : size = 4 ∧ addr = 1048576 := by simpa [inFin] using h2
        obtain ⟨rfl, rfl⟩ := h2'
        simp at hr
        exact load_fin h hs (by unfold St.load; simp only [hr]; rfl)
    · have hr := reach_low h1
      have h4' : size = 1 ∧ 268435456 ≤ addr ∧ addr < 268435464 := of_decide_eq_true h4
      rw [if_pos h4'] at hr
      obtain ⟨rfl, g1, g2⟩ := h4'
      obtain ⟨reg, rfl⟩ : ∃ reg, addr = 268435456 + reg := ⟨addr - 268435456, by omega⟩
      exact load_uart h hs reg (by omega) (by omega) (by unfold St.load; simp only [hr, show 268435456 + reg - 268435456 = reg by omega]; rfl)
  · obtain ⟨a, sz, rfl, rfl, g1, g2, g3⟩ := ram_nat h1
    exact load_ram h hs a sz g1 g2 g3 (by unfold St.load; simp only [reach_ram h1, if_true, show (2147483648 + (a : Int) - 2147483648).toNat = a by omega, Int.toNat_natCast])
theorem store_any (h : PL w b vr vi vo s) (hs : s.Ok) (addr size v : Int) (a0 : 0 ≤ addr) (a1 : addr ≤ 18446744073709551615) (s0 : -9223372036854775808 ≤ size) (s1 : size ≤ 9223372036854775807) (v0 : 0 ≤ v) (v1 : v ≤ 18446744073709551615) :
    Calls Try.prog 30 #[.pointer (some ⟨b, 0, none⟩), .int .u64 addr, .int .i64 size, .int .u64 v] w (SPost w b vr vi vo s addr size v) := by
  cases h1 : inRamA s.ram.length addr size
  · cases h4 : inUart addr size
    · cases h2 : inFin addr size
      · cases h3 : inClint addr size
        · exact store_none h hs addr size v a0 a1 s0 s1 h1 h2 h3 h4 (by unfold St.store; simp only [reach_none h1 h2 h3 h4]; rfl)
        · have hr := reach_low h1
          rcases clint_cases h3 with ⟨rfl, rfl⟩ | ⟨rfl, rfl⟩ | ⟨rfl, rfl⟩ | ⟨rfl, rfl⟩ | ⟨rfl, rfl⟩ | ⟨rfl, rfl⟩ | ⟨rfl, rfl⟩ <;> simp at hr
          · exact store_m h hs v v0 v1 (by unfold St.store; simp only [hr]; rfl)
          · exact store_cl h hs v v0 v1 (by unfold St.store; simp only [hr]; rfl)
          · exact store_c h hs v v0 v1 (by unfold St.store; simp only [hr]; rfl)
          · exact store_ch h hs v v0 v1 (by unfold St.store; simp only [hr]; rfl)
          · exact store_nl h hs v v0 v1 (by unfold St.store; simp only [hr]; rfl)
          · exact store_n h hs v v0 v1 (by unfold St.store; simp only [hr]; rfl)
          · exact store_nh h hs v v0 v1 (by unfold St.store; simp only [hr]; rfl)
      · have hr := reach_low h1
        have h2' : size = 4 ∧ addr = 1048576 := by simpa [inFin] using h2
        obtain ⟨rfl, rfl⟩ := h2'
        simp at hr
        exact store_fin h hs v v0 v1 (by unfold St.store; simp only [hr]; rfl)
    · have hr := reach_low h1
      have h4' : size = 1 ∧ 268435456 ≤ addr ∧ addr < 268435464 := of_decide_eq_true h4
      rw [if_pos h4'] at hr
      obtain ⟨rfl, g1, g2⟩ := h4'
      obtain ⟨reg, rfl⟩ : ∃ reg, addr = 268435456 + reg := ⟨addr - 268435456, by omega⟩
      exact store_uart h hs reg v v0 v1 (by omega) (by omega) (by unfold St.store; simp only [hr, show 268435456 + reg - 268435456 = reg by omega]; rfl)
  · obtain ⟨a, sz, rfl, rfl, g1, g2, g3⟩ := ram_nat h1
    exact store_ram h hs a sz v v0 v1 g1 g2 g3 (by unfold St.store; simp only [reach_ram h1, if_true, show (2147483648 + (a : Int) - 2147483648).toNat = a by omega, Int.toNat_natCast])
theorem neq_of (T : TypeId) (hT : T = 104 ∨ T = 115 ∨ T = 116 ∨ T = 102) (v : Value) (w : World) : (binOp .neq 93 (.iface T v) .nilIface).run Try.prog w = .ok (.bool true) w := by
  rcases hT with rfl | rfl | rfl | rfl <;> kernel_rfl
theorem neq_none (w : World) : (binOp .neq 93 .nilIface .nilIface).run Try.prog w = .ok (.bool false) w := by kernel_rfl
/-- at: is something there? -/
theorem at_gen (h : PL w b vr vi vo s) (hs : s.Ok) (addr size : Int) (a0 : 0 ≤ addr) (a1 : addr ≤ 18446744073709551615) (s0 : -9223372036854775808 ≤ size) (s1 : size ≤ 9223372036854775807) :
    Calls Try.prog 46 #[.pointer (some ⟨b, 0, none⟩), .int .u64 addr, .int .i64 size] w fun e w' => ∃ V, e = .returned V ∧ (∀ w, (binOp .neq 93 V .nilIface).run Try.prog w = .ok (.bool (decide (reach s.ram.length addr size ≠ 0))) w) ∧ (∀ (x : Operand) w, (eqGuard .neq 93 x (.const .nilIface) V .nilIface).run Try.prog w = .ok () w) ∧ Below w.heap.size w w' := by
  cases h1 : inRamA s.ram.length addr size
  · cases h2 : inFin addr size
    · cases h3 : inClint addr size
      · cases h4 : inUart addr size
        · exact (at_none h hs addr size a0 a1 s0 s1 h1 h2 h3 h4).mono fun e w' ⟨he, hb⟩ => ⟨_, he, fun w => by rw [reach_none h1 h2 h3 h4]; exact neq_none w, fun x w => by simp [eqGuard], hb⟩
        · have hr := reach_low h1
          rw [if_pos (of_decide_eq_true h4)] at hr
          exact (at_uart h hs addr size a0 a1 s0 s1 h1 h2 h3 h4).mono fun e w' ⟨he, hb⟩ => ⟨_, he, fun w => by rw [hr]; exact neq_of 102 (by simp) _ w, fun x w => rfl, hb⟩
      · have hr := reach_low h1
        have hn : reach s.ram.length addr size ≠ 0 := by
          rcases clint_cases h3 with ⟨rfl, rfl⟩ | ⟨rfl, rfl⟩ | ⟨rfl, rfl⟩ | ⟨rfl, rfl⟩ | ⟨rfl, rfl⟩ | ⟨rfl, rfl⟩ | ⟨rfl, rfl⟩ <;> simp at hr <;> rw [hr] <;> decide
        exact (at_clint h hs addr size a0 a1 s0 s1 h1 h2 h3).mono fun e w' ⟨he, hb⟩ => ⟨_, he, fun w => by rw [decide_eq_true hn]; exact neq_of 116 (by simp) _ w, fun x w => rfl, hb⟩
    · have hr := reach_low h1
      have h2' : size = 4 ∧ addr = 1048576 := by simpa [inFin] using h2
      obtain ⟨rfl, rfl⟩ := h2'
      simp at hr
      exact (at_fin h hs 1048576 4 a0 a1 s0 s1 h1 h2).mono fun e w' ⟨he, hb⟩ => ⟨_, he, fun w => by rw [hr]; exact neq_of 115 (by simp) _ w, fun x w => rfl, hb⟩
  · exact (at_ram h hs addr size a0 a1 s0 s1 h1).mono fun e w' ⟨he, hb⟩ => ⟨_, he, fun w => by rw [reach_ram h1]; exact neq_of 104 (by simp) _ w, fun x w => rfl, hb⟩
set_option maxHeartbeats 4000000 in
set_option maxRecDepth 100000 in
theorem can_any (h : PL w b vr vi vo s) (hs : s.Ok) (addr size kind : Int) (a0 : 0 ≤ addr) (a1 : addr ≤ 18446744073709551615) (s0 : -9223372036854775808 ≤ size) (s1 : size ≤ 9223372036854775807) :
    Calls Try.prog 51 #[.pointer (some ⟨b, 0, none⟩), .int .u64 addr, .int .i64 size, .int .i64 kind] w fun e w' => e = .returned (.bool (s.can addr size kind)) ∧ Below w.heap.size w w' := by
  by_cases hk : 1 ≤ kind ∧ kind ≤ 3
  · obtain ⟨r, hr⟩ : ∃ r, r = decide (reach s.ram.length addr size ≠ 0) := ⟨_, rfl⟩
    have A := at_gen h hs addr size a0 a1 s0 s1
    rw [← hr] at A
    have HV := Lib.hid (show s.can addr size kind = r by unfold St.can; rw [← hr]; simp [hk.1, hk.2])
    have HA := Lib.hid A
    clear h A hr
    rcases (show kind = 1 ∨ kind = 2 ∨ kind = 3 by omega) with rfl | rfl | rfl
    all_goals
      clear hk
      go_enter Try.func51, Try.ntmps51
      go_wp2_with (go_at_call 46; refine HA.out.mono ?_; rintro e w2 ⟨V, rfl, hq, hg, hb⟩; have HB := Lib.hid hb; clear hb)
      go_ret
      exact ⟨ret_bool HV.out.symm, HB.out⟩
  · have HV := Lib.hid (show s.can addr size kind = false by unfold St.can; simp; omega)
    have k1 : (kind == 1) = false := by simp; omega
    have k2 : (kind == 2) = false := by simp; omega
    have k3 : (kind == 3) = false := by simp; omega
    clear h hk
    go_enter Try.func51, Try.ntmps51
    go_wp2
    go_ret
    exact ⟨ret_bool HV.out.symm, Below.refl _ _⟩
set_option maxHeartbeats 4000000 in
set_option maxRecDepth 100000 in
theorem isram_any (h : PL w b vr vi vo s) (hs : s.Ok) (addr size : Int) (a0 : 0 ≤ addr) (a1 : addr ≤ 18446744073709551615) (s0 : -9223372036854775808 ≤ size) (s1 : size ≤ 9223372036854775807) :
    Calls Try.prog 53 #[.pointer (some ⟨b, 0, none⟩), .int .u64 addr, .int .i64 size] w fun e w' => e = .returned (.bool (inRam s.ram.length addr size)) ∧ w = w' := by
  obtain ⟨g, cap, rfl, hgb, hgl, hc1, hc2⟩ := h.ramAt hs
  have c0 : w.cell? ⟨b, 0, none⟩ = some (.slice (some ⟨g, 0, none⟩) s.ram.length cap) := h.cell 0 _ rfl
  have hr1 := hs.r1
  clear h
  by_cases hz : 1 ≤ size
  · go_enter Try.func53, Try.ntmps53
    go_wp2_with (go_at_call 43; refine (holds_any _ b s.ram.length cap g hr1 addr size c0 a0 a1 hz s1).mono ?_; rintro e w' ⟨rfl, rfl⟩)
    go_ret
    exact ⟨rfl, rfl⟩
  · have hz' : size < 1 := by omega
    have HV := Lib.hid (show inRam s.ram.length addr size = false by unfold inRam; simp; omega)
    clear hz
    go_enter Try.func53, Try.ntmps53
    go_wp2
    go_ret
    exact ⟨ret_bool HV.out.symm, rfl⟩
end
end Go.Proofs.Ytkocfcgdjjdnhaa.BW
