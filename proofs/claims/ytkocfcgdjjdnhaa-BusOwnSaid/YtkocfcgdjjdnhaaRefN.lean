/- The document's bus: Store to RAM, Poke. Premise: a bus lies there. -/
import Derived.Test.YtkocfcgdjjdnhaaRefM
import Derived.Test.YtkocfcgdjjdnhaaBusR
namespace Go.Proofs.Ytkocfcgdjjdnhaa.BW
open Go.RowKit
set_option linter.unusedVariables false
set_option linter.unusedSimpArgs false
section
variable {w : World} {b : Nat} {vr vi vo : Value} {s : St}
set_option maxHeartbeats 4000000 in
set_option maxRecDepth 100000 in
theorem r_store_1 (h : RL w b vr vi vo s) (hs : s.Ok) (a sz : Nat) (v : Int) (v0 : 0 ≤ v) (v1 : v ≤ 18446744073709551615) (hs8 : sz ≤ 8) (ha : a + sz ≤ s.ram.length) (hr : reach s.ram.length (2147483648 + (a : Int)) sz = 1) :
    Calls Try.prog 48 #[.pointer (some ⟨b, 0, none⟩), .int .u64 (2147483648 + (a : Int)), .int .i64 sz, .int .u64 v] w (RSPost w b vr vi vo s (2147483648 + (a : Int)) sz v) := by
  have hr1 := hs.r1
  have A := Lib.hid (r_reach_of h hs (2147483648 + (a : Int)) sz (by omega) (by omega) 1 hr)
  have hst : s.store (2147483648 + (a : Int)) sz v = (true, { s with ram := lay s.ram a (leOf v sz) }) := by
    unfold St.store; simp only [hr, if_true, show (2147483648 + (a : Int) - 2147483648).toNat = a by omega, Int.toNat_natCast]
  obtain ⟨g, cap, rfl, hgb, hgl, hc1, hc2⟩ := h.ramAt hs
  have c0 : w.cell? ⟨b, 0, none⟩ = some (.slice (some ⟨g, 0, none⟩) s.ram.length cap) := h.cell 0 _ rfl
  have hlt : b < w.heap.size := h.lt b (by simp [foot])
  have HB := Lib.hid h.ram
  have HP := Lib.hid (show ∀ w', Bs w' (.slice (some ⟨g, 0, none⟩) s.ram.length cap) (lay s.ram a (leOf v sz)) → Kept [g] w w' → RSPost w b (.slice (some ⟨g, 0, none⟩) s.ram.length cap) vi vo s (2147483648 + (a : Int)) sz v (.returned (.bool true)) w' from fun w' q1 q2 => by
    have := h.setRam q1 q2 (lay_length _ _ _ (by rw [leOf_length]; omega))
    exact ⟨vi, vo, by rw [hst], by rw [hst]; exact this.1, this.2⟩)
  generalize s.ram = l at *
  clear h hr hs hst
  go_enter Try.func48, Try.ntmps48
  go_wp2_with (go_at_call 67; refine A.out.mono ?_; rintro e w' ⟨rfl, rfl⟩)
  go_loopw [3, 11] (fun x i wr => ∃ k : Nat, k ≤ sz ∧ i = .int .i64 k ∧ x = .int .u64 (v / 256 ^ k) ∧ Hid (Bs wr (.slice (some ⟨g, 0, none⟩) l.length cap) (lay l a (leOf v k))) ∧ Hid (Kept [g] w wr)) (fun _ i _ => sz - (intOf i).toNat)
  case atStart => exact ⟨0, Nat.zero_le _, rfl, by simp, by show Bs _ _ _; rw [leOf, lay_nil]; exact HB.out, Kept.refl _ _⟩
  case round =>
    obtain ⟨k, hk, rfl, rfl, hb, hkp⟩ := hrel
    by_cases hlt2 : k < sz
    · have d0 : wr.cell? ⟨b, 0, none⟩ = some (.slice (some ⟨g, 0, none⟩) l.length cap) := (hkp.out.cell (p := ⟨b, 0, none⟩) hlt (by simpa using hgb.symm)).trans c0
      have hll : (lay l a (leOf v k)).length = l.length := lay_length _ _ _ (by rw [leOf_length]; omega)
      obtain ⟨x, hx⟩ : ∃ x, (lay l a (leOf v k))[a + k]? = some x := ⟨_, List.getElem?_eq_getElem (by rw [hll]; omega)⟩
      have d1 : wr.cell? ⟨g, a + k, none⟩ = some (.int .u8 x) := hb.out.cell rfl (a + k) x hx
      have d2 : wr.frozen? ⟨g, a + k, none⟩ = false := hb.out.frozen rfl (a + k)
      have HLL := Lib.hid hll; clear hll hx
      obtain ⟨y, hy⟩ : ∃ y, v / 256 ^ k = y := ⟨_, rfl⟩
      have y0 : 0 ≤ y := by rw [← hy]; exact Int.ediv_nonneg v0 (by exact Int.le_of_lt (Int.pow_pos (by decide)))
      have y1 : y ≤ 18446744073709551615 := by rw [← hy]; exact Int.le_trans (Int.ediv_le_self _ v0) v1
      have t1 : y.tmod 256 = y % 256 := Int.tmod_eq_emod_of_nonneg y0
      have t2 : y.tdiv 256 = y / 256 := Int.tdiv_eq_ediv_of_nonneg y0
      have HY := Lib.hid hy
      rw [hy]
      clear hy
      go_wp2
      first | go_region | skip
      go_wp2
      go_roundw
      case rel =>
        go_light
        refine ⟨k + 1, by omega, by go_num, ?_, ?_, ?_⟩
        · rw [← HY.out, Int.pow_succ, Int.ediv_ediv_of_nonneg (Int.le_of_lt (Int.pow_pos (by decide)))]
        · have h1 := hb.out.set rfl (a + k) (y % 256) (by rw [HLL.out]; omega)
          have h2 := lay_snoc l a (leOf v k) (y % 256) (by rw [leOf_length]; omega)
          rw [leOf_length, ← HY.out, ← leOf_snoc, HY.out] at h2
          rw [h2] at h1
          exact h1
        · exact (hkp.out.setCell (fun _ => by simp) _)
      case measure => simp [intOf]; omega
    · obtain rfl : k = sz := by omega
      go_wp2
      go_ret
      exact HP.out _ hb.out hkp.out
theorem r_store_any (h : RL w b vr vi vo s) (hs : s.Ok) (addr size v : Int) (a0 : 0 ≤ addr) (a1 : addr ≤ 18446744073709551615) (g0 : 0 ≤ v) (g1 : v ≤ 18446744073709551615) :
    Calls Try.prog 48 #[.pointer (some ⟨b, 0, none⟩), .int .u64 addr, .int .i64 size, .int .u64 v] w (RSPost w b vr vi vo s addr size v) := by
  cases h1 : inRamA s.ram.length addr size
  · have hr := reach_low h1
    by_cases q : size = 1 ∧ 268435456 ≤ addr ∧ addr < 268435464
    · rw [if_pos q] at hr
      obtain ⟨rfl, q1, q2⟩ := q
      obtain ⟨reg, rfl⟩ : ∃ reg, addr = 268435456 + reg := ⟨addr - 268435456, by omega⟩
      exact r_store_10 h hs reg v g0 g1 (by omega) (by omega) hr
    rw [if_neg q] at hr
    have hc : reach s.ram.length addr size = 0 ∨ reach s.ram.length addr size = 2 ∨ reach s.ram.length addr size = 3 ∨ reach s.ram.length addr size = 4 ∨ reach s.ram.length addr size = 5 ∨ reach s.ram.length addr size = 6 ∨ reach s.ram.length addr size = 7 ∨ reach s.ram.length addr size = 8 ∨ reach s.ram.length addr size = 9 := by
      rw [hr]; repeat' split
      all_goals simp
    rcases hc with e | e | e | e | e | e | e | e | e
    · exact r_store_0 h hs addr size v a0 a1 g0 g1 e
    · exact r_store_2 h hs addr size v a0 a1 g0 g1 e
    · exact r_store_3 h hs addr size v a0 a1 g0 g1 e
    · exact r_store_4 h hs addr size v a0 a1 g0 g1 e
    · exact r_store_5 h hs addr size v a0 a1 g0 g1 e
    · exact r_store_6 h hs addr size v a0 a1 g0 g1 e
    · exact r_store_7 h hs addr size v a0 a1 g0 g1 e
    · exact r_store_8 h hs addr size v a0 a1 g0 g1 e
    · exact r_store_9 h hs addr size v a0 a1 g0 g1 e
  · have hr := reach_ram h1
    obtain ⟨a, sz, rfl, rfl, q1, q2, q3⟩ := ram_nat h1
    exact r_store_1 h hs a sz v g0 g1 (by simp [szOk] at q1; omega) q3 hr
end
end Go.Proofs.Ytkocfcgdjjdnhaa.BW
