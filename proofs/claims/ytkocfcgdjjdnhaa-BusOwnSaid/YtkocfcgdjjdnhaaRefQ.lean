/- The document's bus: Peek. Premise: a bus lies there. -/
import Derived.Test.YtkocfcgdjjdnhaaRefO
namespace Go.Proofs.Ytkocfcgdjjdnhaa.BW
open Go.RowKit
set_option linter.unusedVariables false
set_option linter.unusedSimpArgs false
section
variable {w : World} {b : Nat} {vr vi vo : Value} {s : St}
set_option maxHeartbeats 4000000 in
set_option maxRecDepth 100000 in
theorem r_peek_neg (addr n : Int) (hn : n < 0) :
    Calls Try.prog 55 #[.pointer (some ⟨b, 0, none⟩), .int .u64 addr, .int .i64 n] w (PeekPost w [] 1) := by
  have HP := Lib.hid (show PeekPost w [] 1 (.returned (.tuple #[.slice none 0 0, .int .i64 1])) w from ⟨none, 0, rfl, Bs.nil _, by simp [Value.ownBlock], Kept.refl _ _⟩)
  go_enter Try.func55, Try.ntmps55
  go_wp2
  go_ret2
  exact HP.out
set_option maxHeartbeats 4000000 in
set_option maxRecDepth 100000 in
theorem r_peek_zero (addr : Int) :
    Calls Try.prog 55 #[.pointer (some ⟨b, 0, none⟩), .int .u64 addr, .int .i64 0] w (PeekPost w [] 0) := by
  have HP := Lib.hid (show PeekPost w [] 0 (.returned (.tuple #[.slice none 0 0, .int .i64 0])) w from ⟨none, 0, rfl, Bs.nil _, by simp [Value.ownBlock], Kept.refl _ _⟩)
  go_enter Try.func55, Try.ntmps55
  go_wp2
  go_ret2
  exact HP.out
set_option maxHeartbeats 4000000 in
set_option maxRecDepth 100000 in
theorem r_peek_out (h : RL w b vr vi vo s) (hs : s.Ok) (addr n : Int) (a0 : 0 ≤ addr) (a1 : addr ≤ 18446744073709551615) (s1 : n ≤ 9223372036854775807) (hn : 0 < n) (hi : inRam s.ram.length addr n = false) :
    Calls Try.prog 55 #[.pointer (some ⟨b, 0, none⟩), .int .u64 addr, .int .i64 n] w (PeekPost w [] 30) := by
  have HI := Lib.hid (r_isram_of h hs addr n a0 a1 s1 false hi)
  have HP := Lib.hid (show PeekPost w [] 30 (.returned (.tuple #[.slice none 0 0, .int .i64 30])) w from ⟨none, 0, rfl, Bs.nil _, by simp [Value.ownBlock], Kept.refl _ _⟩)
  have hne : (n == 0) = false := by simp; omega
  clear h hi
  go_enter Try.func55, Try.ntmps55
  go_wp2_with (go_at_call 54; refine HI.out.mono ?_; rintro e w' ⟨rfl, rfl⟩)
  go_ret2
  exact HP.out
set_option maxHeartbeats 4000000 in
set_option maxRecDepth 100000 in
theorem r_peek_yes (h : RL w b vr vi vo s) (hs : s.Ok) (a n : Nat) (hn : 1 ≤ n) (hin : a + n ≤ s.ram.length) :
    Calls Try.prog 55 #[.pointer (some ⟨b, 0, none⟩), .int .u64 (2147483648 + (a : Int)), .int .i64 n] w (PeekPost w ((s.ram.drop a).take n) 0) := by
  have hr1 := hs.r1
  have HI := Lib.hid (r_isram_of h hs (2147483648 + (a : Int)) n (by omega) (by omega) (by omega) true (by unfold inRam; simp; omega))
  obtain ⟨g, cap, rfl, hgb, hgl, hc1, hc2⟩ := h.ramAt hs
  have hpl : ((s.ram.drop a).take n).length = n := by simp; omega
  have hlt : b < w.heap.size := h.lt b (by simp [foot])
  have c0 : w.cell? ⟨b, 0, none⟩ = some (.slice (some ⟨g, 0, none⟩) s.ram.length cap) := h.cell 0 _ rfl
  have HC := Lib.hid (show ∀ i x, ((s.ram.drop a).take n)[i]? = some x → w.cell? ⟨g, a + i, none⟩ = some (.int .u8 x) from by
    intro i x hx; rw [List.getElem?_take] at hx; split at hx
    · rw [List.getElem?_drop] at hx; exact h.ram.cell rfl (a + i) x hx
    · exact absurd hx (by simp))
  have HPB := Lib.hid (show Byts ((s.ram.drop a).take n) from fun n hn => hs.rb n (List.mem_of_mem_drop (List.mem_of_mem_take hn)))
  generalize (s.ram.drop a).take n = p at *
  generalize s.ram.length = m at *
  have HL := Lib.hid hpl
  have HT := Lib.hid (show p.take n = p by rw [← hpl, List.take_length])
  have HH := Lib.hid h
  have hne : ((n : Int) == 0) = false := by simp; omega
  clear h hs hpl
  go_enter Try.func55, Try.ntmps55
  go_wp2_with (go_at_call 54; refine HI.out.mono ?_; rintro e w' ⟨rfl, rfl⟩)
  go_loopw [9, 10] (fun v i wr => ∃ (k : Nat) (A : Option Addr) (c : Nat), k ≤ n ∧ i = .int .i64 k ∧ v = .slice A k c ∧ Hid (Bs wr (.slice A k c) (p.take k)) ∧ Hid (Kept [] w wr) ∧ Hid (∀ g, (Value.slice A k c).ownBlock = some g → w.heap.size ≤ g)) (fun _ i _ => n - (intOf i).toNat)
  case atStart => exact ⟨0, none, 0, Nat.zero_le _, rfl, rfl, by show Bs _ _ _; rw [List.take_zero]; exact Bs.nil _, Kept.refl _ _, by show ∀ g, _; simp [Value.ownBlock]⟩
  case round =>
    obtain ⟨k, A, c, hk, rfl, rfl, hb, hkp, hfr⟩ := hrel
    by_cases hlt2 : k < n
    · have d0 : wr.cell? ⟨b, 0, none⟩ = some (.slice (some ⟨g, 0, none⟩) m cap) := (hkp.out.cell (p := ⟨b, 0, none⟩) hlt (by simp)).trans c0
      obtain ⟨y, hy⟩ : ∃ y, p[k]? = some y := ⟨_, List.getElem?_eq_getElem (by rw [HL.out]; omega)⟩
      have e0 := HC.out k y hy
      have d3 : wr.cell? ⟨g, a + k, none⟩ = some (.int .u8 y) := (hkp.out.cell (p := ⟨g, a + k, none⟩) hgl (by simp)).trans e0
      have y0 := (HPB.out y (List.mem_of_getElem? hy)).1
      have y1 := (HPB.out y (List.mem_of_getElem? hy)).2
      have HY := Lib.hid (take_snoc p k y hy)
      have HQ := Lib.hid (show (p.take k).length + [y].length ≤ 140737488355328 by simp; omega)
      have HKL := Lib.hid (show (p.take (k + 1)).length = k + 1 by rw [List.length_take, HL.out]; omega)
      clear hy e0
      go_wp2_with (at_builtin; refine wpList_append_bs rfl _ _ rfl _ _ (p.take k) [y] rfl rfl (hb.out.keep ((Kept.refl [] wr).alloc _) (by simp)) (.inr ⟨1, wr.heap.size, 0, rfl, one_cell rfl _⟩) HQ.out ?_; intro v' w2 hg; have hg2 : Grew (wr.alloc (.cells #[.int .u8 y] 5)) w2 (.slice A k c) v' (p.take (k + 1)) := (HY.out ▸ hg); obtain ⟨A', c', hv'⟩ := hg2.bs.shape; rw [HKL.out] at hv'; subst hv'; have HG := Lib.hid hg2; clear hg hg2)
      go_roundw
      case rel =>
        go_light
        have hkw : Kept [] w w2 := ((hkp.out.alloc _).trans HG.out.kept (fun x hx hl => by
          have := hfr.out x (by simpa using hx); omega))
        exact ⟨k + 1, _, _, by omega, by go_num, rfl, HG.out.bs, hkw, fun g' hg' => (HG.out.blk g' hg').elim (fun e => hfr.out g' e) (fun e => by have := hkp.out.size; simp at e; omega)⟩
      case measure => simp [intOf]; omega
    · obtain rfl : k = n := by omega
      go_wp2
      go_ret2
      have hb2 := hb.out
      rw [HT.out] at hb2
      have hfr2 := hfr.out
      rw [← HL.out] at hb2 hfr2
      refine ⟨A, c, ?_, hb2, hfr2, hkp.out⟩
      rw [HL.out]; rfl
theorem r_peek_any (h : RL w b vr vi vo s) (hs : s.Ok) (addr n : Int) (a0 : 0 ≤ addr) (a1 : addr ≤ 18446744073709551615) (s1 : n ≤ 9223372036854775807) :
    Calls Try.prog 55 #[.pointer (some ⟨b, 0, none⟩), .int .u64 addr, .int .i64 n] w (PeekPost w (s.peek addr n).1 (s.peek addr n).2) := by
  unfold St.peek
  by_cases h1 : n < 0
  · rw [if_pos h1]; exact r_peek_neg addr n h1
  · rw [if_neg h1]
    by_cases h2 : n = 0
    · subst h2; rw [if_pos rfl]; exact r_peek_zero addr
    · rw [if_neg h2]
      cases hi : inRam s.ram.length addr n
      · exact r_peek_out h hs addr n a0 a1 s1 (by omega) hi
      · obtain ⟨a, sz, rfl, rfl, q2, q3⟩ := inRam_nat hi
        rw [if_pos rfl, show (2147483648 + (a : Int) - 2147483648).toNat = a by omega, Int.toNat_natCast]
        exact r_peek_yes h hs a sz q2 q3
end
end Go.Proofs.Ytkocfcgdjjdnhaa.BW
