/- The document's bus: State, From, Peek. Premise: a bus lies there. -/
import Derived.Test.YtkocfcgdjjdnhaaRefG
import Derived.Test.YtkocfcgdjjdnhaaRefO
namespace Go.Proofs.Ytkocfcgdjjdnhaa.BW
open Go.RowKit
set_option linter.unusedVariables false
set_option linter.unusedSimpArgs false
section
variable {w : World} {b : Nat} {vr vi vo : Value} {s : St}
theorem NewSt.shapes {w w' : World} {s : St} {v1 v2 v3 : Value} (h : NewSt w s v1 v2 v3 w') : ∃ A c B d C e, v1 = .slice A s.ram.length c ∧ v2 = .slice B s.inp.length d ∧ v3 = .slice C s.out.length e := by
  obtain ⟨A, c, h1⟩ := h.1.shape
  obtain ⟨B, d, h2⟩ := h.2.1.shape
  obtain ⟨C, e, h3⟩ := h.2.2.1.shape
  exact ⟨A, c, B, d, C, e, h1, h2, h3⟩
theorem NewSt.store {w w1 w2 : World} {s : St} {v1 v2 v3 : Value} {r : Nat} (cs : Array Value) (h : NewSt w1 s v1 v2 v3 w2) (hk : Kept [] w w1) (hr : r < w1.heap.size) (hr0 : w.heap.size ≤ r) : NewSt w s v1 v2 v3 (w2.setRow r cs) := by
  obtain ⟨b1, b2, b3, n1, n2, n3, d1, d2, d3, k⟩ := h
  have ks : Kept [r] w2 (w2.setRow r cs) := (Kept.refl [r] w2).setRow (by simp) cs
  have hz := hk.size
  refine ⟨b1.keep ks (fun g hg => by have := n1 g hg; simp; omega), b2.keep ks (fun g hg => by have := n2 g hg; simp; omega), b3.keep ks (fun g hg => by have := n3 g hg; simp; omega), fun g hg => by have := n1 g hg; omega, fun g hg => by have := n2 g hg; omega, fun g hg => by have := n3 g hg; omega, d1, d2, d3, (hk.trans k (by simp)).trans ks (fun x hx hl => by simp at hx; omega)⟩
set_option maxHeartbeats 8000000 in
set_option maxRecDepth 100000 in
theorem r_state_any (h : RL w b vr vi vo s) (hs : s.Ok) : Calls Try.prog 21 #[.pointer (some ⟨b, 0, none⟩)] w (CopiedPost w s) := by
  have kA : Kept [] w (w.alloc (.cells zRow 26)) := (Kept.refl [] w).alloc _
  have hA := h.keep0 kA
  have HROW := Lib.hid hA.blk
  have HC := Lib.hid (copied_rd _ s _ _ _ (by have := hs.r1; omega) (by have := hs.i1; omega) (by have := hs.o1; omega) hA.ram.rd hA.inp.rd hA.out.rd)
  have HZ := Lib.hid (heap_alloc_new w (.cells zRow 26))
  have HK := Lib.hid kA
  clear h hA kA
  go_enter Try.func21, Try.ntmps21
  go_wp2_with (first
    | (refine wpList_load_row rfl 26 (.tmp 5) rfl b rfl 66 _ (0, 0) _ HROW.out Try.underlying26 rfl (by kernel_rfl) ?_)
    | (go_at_call 36; refine HC.out.mono ?_; rintro e w2 ⟨v1, v2, v3, rfl, hN⟩; obtain ⟨A, c, B, d, C, e, rfl, rfl, rfl⟩ := hN.shapes; have HR2 := Lib.hid (hN.2.2.2.2.2.2.2.2.2.row HZ.out (by simp)); have HN := Lib.hid hN; clear hN)
    | (refine wpList_store_row rfl 26 (.tmp 2) (.tmp 7) rfl w.heap.size _ rfl rfl 26 _ HR2.out (by kernel_rfl) rfl (sCells_one _ _ _ _ _ _ _ _ _ _) ?_))
  exact bodyPost_ret (results_cell_row rfl _ _ w.heap.size 26 _ (0, 0) _ rfl (setRow_heap _ _ _ _ 26 (0, 0) HR2.out) Try.underlying26 rfl (by kernel_rfl)) rfl ⟨_, _, _, rfl, HN.out.store _ HK.out (by simp) (Nat.le_refl _)⟩
/-- What the document's From leaves of a state that can be. -/
def RFromPost (w : World) (s : St) (e : Ending) (w' : World) : Prop :=
  ∃ b vr vi vo, e = .returned (.tuple #[.pointer (some ⟨b, 0, none⟩), .int .i64 0]) ∧ RL w' b vr vi vo s ∧ (∀ x ∈ foot b vr vi vo, w.heap.size ≤ x) ∧ Kept [] w w'
theorem RL.of_new {w w1 w2 : World} {s : St} {v1 v2 v3 : Value} (h : NewSt w1 s v1 v2 v3 w2) (hk : Kept [] w w1) :
    RL (w2.alloc (.cells (sCells v1 v2 v3 s) 66)) w2.heap.size v1 v2 v3 s ∧ (∀ x ∈ foot w2.heap.size v1 v2 v3, w.heap.size ≤ x) ∧ Kept [] w (w2.alloc (.cells (sCells v1 v2 v3 s) 66)) := by
  obtain ⟨b1, b2, b3, n1, n2, n3, d1, d2, d3, k⟩ := h
  have ka : Kept [] w2 (w2.alloc (.cells (sCells v1 v2 v3 s) 66)) := (Kept.refl [] w2).alloc _
  have l1 := b1.lt
  have l2 := b2.lt
  have l3 := b3.lt
  have hz := hk.size
  have hz2 := k.size
  refine ⟨⟨heap_alloc_new _ _, b1.keep ka (by simp), b2.keep ka (by simp), b3.keep ka (by simp), ?_⟩, ?_, (hk.trans k (by simp)).trans ka (by simp)⟩
  · rw [foot_nodup]
    exact ⟨fun g hg => by have := l1 g hg; omega, fun g hg => by have := l2 g hg; omega, fun g hg => by have := l3 g hg; omega, d1, d2, d3⟩
  · intro x hx
    simp only [foot, List.mem_cons, List.mem_append, Option.mem_toList] at hx
    rcases hx with rfl | hx | hx | hx
    · omega
    · have := n1 x hx; omega
    · have := n2 x hx; omega
    · have := n3 x hx; omega
set_option maxHeartbeats 8000000 in
set_option maxRecDepth 100000 in
theorem r_from_no (w : World) (s : St) (hs : s.In) (A B C : Option Addr) (n m k c d e : Nat) (h1 : Rd w (.slice A n c) s.ram) (h2 : Rd w (.slice B m d) s.inp) (h3 : Rd w (.slice C k e) s.out) (hc : s.canBe = false) :
    Calls Try.prog 42 #[.agg (sCells (.slice A n c) (.slice B m d) (.slice C k e) s)] w fun e w' => e = .returned (.tuple #[.pointer none, .int .i64 31]) ∧ Below w.heap.size w w' := by
  have kA : Kept [] w (w.alloc (.cells (sCells (.slice A n c) (.slice B m d) (.slice C k e) s) 26)) := (Kept.refl [] w).alloc _
  have HROW := Lib.hid (heap_alloc_new w (.cells (sCells (.slice A n c) (.slice B m d) (.slice C k e) s) 26))
  have HC := Lib.hid (r_canbe_rd _ s hs _ _ _ (h1.keep kA (by simp)) (h2.keep kA (by simp)) (h3.keep kA (by simp)))
  rw [hc] at HC
  clear h1 h2 h3 hs hc kA
  go_enter Try.func42, Try.ntmps42
  go_wp2_with (first | (refine wpList_load_row rfl 26 (.tmp 1) rfl w.heap.size rfl 26 _ (0, 0) _ HROW.out Try.underlying26 rfl (by kernel_rfl) ?_) | (go_at_call 23; refine HC.out.mono ?_; rintro e w2 ⟨rfl, hb⟩; have HB := Lib.hid hb; clear hb))
  go_ret2
  exact ⟨rfl, below_one HB.out⟩
set_option maxHeartbeats 8000000 in
set_option maxRecDepth 100000 in
theorem r_from_yes (w : World) (s : St) (hs : s.In) (A B C : Option Addr) (n m k c d e : Nat) (h1 : Rd w (.slice A n c) s.ram) (h2 : Rd w (.slice B m d) s.inp) (h3 : Rd w (.slice C k e) s.out) (hc : s.canBe = true) :
    Calls Try.prog 42 #[.agg (sCells (.slice A n c) (.slice B m d) (.slice C k e) s)] w (RFromPost w s) := by
  have kA : Kept [] w (w.alloc (.cells (sCells (.slice A n c) (.slice B m d) (.slice C k e) s) 26)) := (Kept.refl [] w).alloc _
  have HROW := Lib.hid (heap_alloc_new w (.cells (sCells (.slice A n c) (.slice B m d) (.slice C k e) s) 26))
  have HC := Lib.hid (r_canbe_rd _ s hs _ _ _ (h1.keep kA (by simp)) (h2.keep kA (by simp)) (h3.keep kA (by simp)))
  rw [hc] at HC
  have HS := Lib.hid hs
  have HR1 := Lib.hid h1
  have HR2 := Lib.hid h2
  have HR3 := Lib.hid h3
  have HK := Lib.hid kA
  clear h1 h2 h3 hs hc kA
  go_enter Try.func42, Try.ntmps42
  go_wp2_with (first
    | ((with_reducible refine gate_n (N := 5) rfl ?_); refine wpList_load_row rfl 26 (.tmp 1) rfl w.heap.size rfl 26 _ (0, 0) _ HROW.out Try.underlying26 rfl (by kernel_rfl) ?_)
    | (go_at_call 23; refine HC.out.mono ?_; rintro e w2 ⟨rfl, hb⟩; have HB := Lib.hid (HK.out.trans (Kept.of_below (F := []) hb) (by simp)); have HROW2 := Lib.hid ((Kept.of_below (F := []) hb).row HROW.out (by simp)); clear hb)
    | ((with_reducible refine gate_n (N := 9) rfl ?_); refine wpList_load_row rfl 26 (.tmp 1) rfl w.heap.size rfl 26 _ (0, 0) _ HROW2.out Try.underlying26 rfl (by kernel_rfl) ?_)
    | (go_at_call 36; refine (copied_rd w2 s _ _ _ HS.out.rl HS.out.il HS.out.ol (HR1.out.keep HB.out (by simp)) (HR2.out.keep HB.out (by simp)) (HR3.out.keep HB.out (by simp))).mono ?_; rintro e w3 ⟨v1, v2, v3, rfl, hN⟩; obtain ⟨A1, c1, B1, d1, C1, e1, rfl, rfl, rfl⟩ := hN.shapes; have HN := Lib.hid (RL.of_new hN HB.out); clear hN; unfold sCells at HN ⊢))
  go_ret2
  exact ⟨_, _, _, _, rfl, HN.out.1, HN.out.2.1, HN.out.2.2⟩
end
end Go.Proofs.Ytkocfcgdjjdnhaa.BW
