/- The program's bus: what it may be made of. No condition. -/
import Derived.Test.YtkocfcgdjjdnhaaBusL
import Derived.Deep.RegionHeld3
import Derived.Laws.Tables
import Derived.Laws.MakeOwn
namespace Go.Proofs.Ytkocfcgdjjdnhaa.BW
open Go.RowKit Go.MuLone
set_option linter.unusedVariables false
set_option linter.unusedSimpArgs false
def fitsB (n : Int) : Bool := decide (8 ≤ n) && (decide (n ≤ 65536) && decide (n % 8 = 0))
set_option maxHeartbeats 4000000 in
set_option maxRecDepth 100000 in
theorem fits_any (w : World) (n : Int) (n0 : -9223372036854775808 ≤ n) (n1 : n ≤ 9223372036854775807) : Calls Try.prog 38 #[.int .i64 n] w fun e w' => e = .returned (.bool (fitsB n)) ∧ w = w' := by
  by_cases h1 : 8 ≤ n
  · by_cases h2 : n ≤ 65536
    · go_enter Try.func38, Try.ntmps38
      go_wp2
      go_ret
      exact ⟨ret_bool (by unfold fitsB; rw [Bool.eq_iff_iff]; simp; omega), rfl⟩
    · have h2' : 65536 < n := by omega
      have HV := Lib.hid (show fitsB n = false by unfold fitsB; simp [h1]; omega)
      clear h2
      go_enter Try.func38, Try.ntmps38
      go_wp2
      go_ret
      exact ⟨ret_bool HV.out.symm, rfl⟩
  · have h1' : n < 8 := by omega
    have HV := Lib.hid (show fitsB n = false by unfold fitsB; simp [h1])
    clear h1
    go_enter Try.func38, Try.ntmps38
    go_wp2
    go_ret
    exact ⟨ret_bool HV.out.symm, rfl⟩
/-- A state as it may come in: numbers of their kinds. -/
structure St.In (s : St) : Prop where
  rl : s.ram.length ≤ 140737488351232
  il : s.inp.length ≤ 140737488351232
  ol : s.out.length ≤ 140737488351232
  rb : Byts s.ram
  ib : Byts s.inp
  ob : Byts s.out
  m : 0 ≤ s.msip ∧ s.msip ≤ 4294967295
  c : 0 ≤ s.cmp ∧ s.cmp ≤ 18446744073709551615
  n : 0 ≤ s.now ∧ s.now ≤ 18446744073709551615
  ie : 0 ≤ s.ier ∧ s.ier ≤ 255
  lc : 0 ≤ s.lcr ∧ s.lcr ≤ 255
  mc : 0 ≤ s.mcr ∧ s.mcr ≤ 255
  sc : 0 ≤ s.scr ∧ s.scr ≤ 255
  of : -9223372036854775808 ≤ s.off ∧ s.off ≤ 9223372036854775807
  co : -9223372036854775808 ≤ s.code ∧ s.code ≤ 9223372036854775807
theorem St.In.ok {s : St} (h : s.In) (hc : s.canBe = true) : s.Ok := by
  have h1 := h.m; have h2 := h.ie; have h3 := h.mc
  unfold St.canBe at hc
  simp only [Bool.and_eq_true, Bool.or_eq_true, decide_eq_true_eq] at hc
  obtain ⟨⟨⟨⟨⟨⟨⟨⟨c1, c2⟩, c3⟩, c4⟩, c5⟩, c6⟩, c7⟩, c8⟩, c9⟩ := hc
  exact ⟨c1, c2, c3, h.rb, c7, h.ib, c8, h.ob, ⟨h1.1, c4⟩, h.c, h.n, ⟨h2.1, c5⟩, h.lc, ⟨h3.1, c6⟩, h.sc, by omega, by omega⟩
set_option maxHeartbeats 8000000 in
set_option maxRecDepth 100000 in
theorem can_in (w : World) (s : St) (hs : s.In) (A B C : Option Addr) (n m k c d e : Nat) (hn : n = s.ram.length) (hm : m = s.inp.length) (hk : k = s.out.length) :
    Calls Try.prog 64 #[.agg (sCells (.slice A n c) (.slice B m d) (.slice C k e) s)] w fun e w' => e = .returned (.bool s.canBe) ∧ Below w.heap.size w w' := by
  have hnl : n ≤ 140737488351232 := by rw [hn]; exact hs.rl
  have hml : m ≤ 140737488351232 := by rw [hm]; exact hs.il
  have hkl : k ≤ 140737488351232 := by rw [hk]; exact hs.ol
  have HC := Lib.hid (show s.canBe = (fitsB n && (decide (s.msip ≤ 1) && (decide (s.ier ≤ 15) && (decide (s.mcr ≤ 31) && (decide (m ≤ 64) && (decide (k ≤ 4096) && ((decide (s.off = 0 ∨ s.off = 1) && decide (s.code = 0)) || (decide (s.off = 2) && (decide (0 ≤ s.code) && decide (s.code ≤ 65535)))))))))) by
    rw [hn, hm, hk]; unfold St.canBe fitsB
    rw [Bool.eq_iff_iff]; simp only [Bool.and_eq_true, Bool.or_eq_true, decide_eq_true_eq]; omega)
  have m0 := hs.m.1
  have m1 := hs.m.2
  have i0 := hs.ie.1
  have i1 := hs.ie.2
  have r0 := hs.mc.1
  have r1 := hs.mc.2
  have o0 := hs.of.1
  have o1 := hs.of.2
  have q0 := hs.co.1
  have q1 := hs.co.2
  obtain ⟨ram, inp, out, msip, cmp, now, ier, lcr, mcr, scr, over, ext, soft, off, code⟩ := s
  simp only at m0 m1 i0 i1 r0 r1 o0 o1 q0 q1
  clear hs hn hm hk
  unfold sCells
  cases hf : fitsB n
  · have HF := Lib.hid hf
    clear hf
    go_enter Try.func64, Try.ntmps64
    go_wp2_with (go_at_call 38; refine (fits_any _ _ (by omega) (by omega)).mono ?_; rw [HF.out]; rintro e w' ⟨rfl, rfl⟩)
    go_ret
    exact ⟨ret_bool (by rw [HC.out, HF.out]; rfl), (Below.refl _ _).alloc (Nat.le_refl _) _⟩
  · have HF := Lib.hid hf
    clear hf
    go_enter Try.func64, Try.ntmps64
    go_wp2_with (go_at_call 38; refine (fits_any _ _ (by omega) (by omega)).mono ?_; rw [HF.out]; rintro e w' ⟨rfl, rfl⟩)
    all_goals
      go_ret
      refine ⟨ret_bool ?_, (Below.refl _ _).alloc (Nat.le_refl _) _⟩
      rw [HC.out, HF.out]
      go_light
      clear HC HF
      rw [Bool.eq_iff_iff]
      simp only [Bool.true_and, Bool.and_eq_true, Bool.or_eq_true, decide_eq_true_eq, beq_iff_eq, beq_eq_false_iff_ne, ne_eq, Bool.false_eq_true, false_iff, true_iff, iff_true, iff_false] at *
      omega
end Go.Proofs.Ytkocfcgdjjdnhaa.BW
