/- The document's words on states: CanBe, Same of one state, Copied. Premise: the states can be read. The document's words on states: Copied. Premise: the state can be read. -/
import Derived.Test.YtkocfcgdjjdnhaaBusU
import Derived.Laws.BytesArg
import Derived.Test.YtkocfcgdjjdnhaaBusT
namespace Go.Proofs.Ytkocfcgdjjdnhaa.BW
open Go.RowKit
set_option linter.unusedVariables false
set_option linter.unusedSimpArgs false
set_option maxHeartbeats 8000000 in
set_option maxRecDepth 100000 in
theorem r_canbe_in (w : World) (s : St) (hs : s.In) (A B C : Option Addr) (n m k c d e : Nat) (hn : n = s.ram.length) (hm : m = s.inp.length) (hk : k = s.out.length) :
    Calls Try.prog 23 #[.agg (sCells (.slice A n c) (.slice B m d) (.slice C k e) s)] w fun e w' => e = .returned (.bool s.canBe) ∧ Below w.heap.size w w' := by
  have hnl : n ≤ 140737488351232 := by rw [hn]; exact hs.rl
  have hml : m ≤ 140737488351232 := by rw [hm]; exact hs.il
  have hkl : k ≤ 140737488351232 := by rw [hk]; exact hs.ol
  have HC := Lib.hid (show s.canBe = (fitsB n && (decide (s.msip ≤ 1) && (decide (s.ier ≤ 15) && (decide (s.mcr ≤ 31) && (decide (m ≤ 64) && (decide (k ≤ 4096) && ((decide (s.off = 0 ∨ s.off = 1) && decide (s.code = 0)) || (decide (s.off = 2) && (decide (0 ≤ s.code) && decide (s.code ≤ 65535)))))))))) by
    rw [hn, hm, hk]; unfold St.canBe fitsB
    rw [Bool.eq_iff_iff]; simp only [Bool.and_eq_true, Bool.or_eq_true, decide_eq_true_eq]; omega)
  have m0 := hs.m.1
  have m1 := hs.m.2
  have i0 := hs.ie.1
  have i1 := hs.ie.2
  have r0 := hs.mc.1
  have r1 := hs.mc.2
  have o0 := hs.of.1
  have o1 := hs.of.2
  have q0 := hs.co.1
  have q1 := hs.co.2
  have ht : (n : Int).tmod 8 = (n : Int) % 8 := Int.tmod_eq_emod_of_nonneg (by omega)
  have HT := Lib.hid ht
  obtain ⟨ram, inp, out, msip, cmp, now, ier, lcr, mcr, scr, over, ext, soft, off, code⟩ := s
  simp only at m0 m1 i0 i1 r0 r1 o0 o1 q0 q1
  clear hs hn hm hk ht
  unfold sCells
  go_enter Try.func23, Try.ntmps23
  go_wp2
  all_goals
    go_ret
    refine ⟨ret_bool ?_, ?_⟩
    · rw [HC.out]
      have ht := HT.out
      go_light
      clear HC HT
      unfold fitsB
      rw [Bool.eq_iff_iff]
      simp only [Bool.true_and, Bool.and_eq_true, Bool.or_eq_true, decide_eq_true_eq, decide_eq_false_iff_not, beq_iff_eq, bne_iff_ne, beq_eq_false_iff_ne, ne_eq, Bool.false_eq_true, false_iff, true_iff, iff_true, iff_false, Bool.not_eq_true', Bool.or_eq_false_iff, Bool.and_eq_false_iff] at *
      omega
    · go_light; (repeat first | exact Below.refl _ _ | refine Below.drew ?_ | refine Below.setCell ?_ (by simp) _ | refine Below.alloc ?_ (by simp; try omega) _)
/-- A slice of bytes as a string. -/
theorem run_str (w : World) (v : Value) (l : List Int) (h : Rd w v l) : (convert 22 9 v).run Try.prog w = .ok (.string (strOfNums l)) w := by
  rcases h with ⟨rfl, rfl⟩ | ⟨c, g, o, rfl, hc⟩
  · exact run_convert_bytes_nil w 22 5 Try.underlying22 Try.underlying5 0 0 9 Try.underlying9
  · exact run_convert_bytes_arg w 22 5 Try.underlying22 Try.underlying5 g o l.length c l rfl (fun i hi => hc i _ (by simp [List.getD, hi])) 9 Try.underlying9
set_option maxHeartbeats 8000000 in
set_option maxRecDepth 100000 in
/-- Of one state Same tells that it is the same. -/
theorem r_same_of (w : World) (s : St) (A B C A' B' C' : Option Addr) (n m k c d e n' m' k' c' d' e' : Nat) (h1 : Rd w (.slice A n c) s.ram) (h2 : Rd w (.slice B m d) s.inp) (h3 : Rd w (.slice C k e) s.out) (g1 : Rd w (.slice A' n' c') s.ram) (g2 : Rd w (.slice B' m' d') s.inp) (g3 : Rd w (.slice C' k' e') s.out) :
    Calls Try.prog 19 #[.agg (sCells (.slice A n c) (.slice B m d) (.slice C k e) s), .agg (sCells (.slice A' n' c') (.slice B' m' d') (.slice C' k' e') s)] w fun e w' => e = .returned (.bool true) ∧ Below w.heap.size w w' := by
  have hk : Kept [] w ((w.alloc (.cells (sCells (.slice A n c) (.slice B m d) (.slice C k e) s) 26)).alloc (.cells (sCells (.slice A' n' c') (.slice B' m' d') (.slice C' k' e') s) 26)) := ((Kept.refl [] w).alloc _).alloc _
  have q1 := run_str _ _ _ (h1.keep hk (by simp))
  have q2 := run_str _ _ _ (h2.keep hk (by simp))
  have q3 := run_str _ _ _ (h3.keep hk (by simp))
  have r1 := run_str _ _ _ (g1.keep hk (by simp))
  have r2 := run_str _ _ _ (g2.keep hk (by simp))
  have r3 := run_str _ _ _ (g3.keep hk (by simp))
  generalize strOfNums s.ram = x1 at q1 r1
  generalize strOfNums s.inp = x2 at q2 r2
  generalize strOfNums s.out = x3 at q3 r3
  obtain ⟨ram, inp, out, msip, cmp, now, ier, lcr, mcr, scr, over, ext, soft, off, code⟩ := s
  clear hk h1 h2 h3 g1 g2 g3
  unfold sCells at *
  go_enter Try.func19, Try.ntmps19
  go_wp2
  go_ret
  refine ⟨ret_bool ?_, ?_⟩
  · simp
  · go_light; (repeat first | exact Below.refl _ _ | refine Below.drew ?_ | refine Below.setCell ?_ (by simp) _ | refine Below.alloc ?_ (by simp; try omega) _)
open Go.RowKit
set_option linter.unusedVariables false
set_option linter.unusedSimpArgs false
theorem gate_n {P : Program} {ops : Array Oper} {rest : List Oper} {o : Oper} {a : Act} {Q : Exit → Act → World → Prop} {w : World} {N : Nat} (_ : o.dst = some N) (h : wpList P ops Q (o :: rest) a w) : wpList P ops Q (o :: rest) a w := h
/-- A state whose three lists are new memory. -/
def NewSt (w : World) (s : St) (v1 v2 v3 : Value) (w' : World) : Prop :=
  Bs w' v1 s.ram ∧ Bs w' v2 s.inp ∧ Bs w' v3 s.out ∧ (∀ g, v1.ownBlock = some g → w.heap.size ≤ g) ∧ (∀ g, v2.ownBlock = some g → w.heap.size ≤ g) ∧ (∀ g, v3.ownBlock = some g → w.heap.size ≤ g) ∧
    (∀ g, v1.ownBlock = some g → v2.ownBlock ≠ some g) ∧ (∀ g, v1.ownBlock = some g → v3.ownBlock ≠ some g) ∧ (∀ g, v2.ownBlock = some g → v3.ownBlock ≠ some g) ∧ Kept [] w w'
def CopiedPost (w : World) (s : St) (e : Ending) (w' : World) : Prop := ∃ v1 v2 v3, e = .returned (.agg (sCells v1 v2 v3 s)) ∧ NewSt w s v1 v2 v3 w'
/-- Three boxes: the state that came (p), the answer's (r), the copy (t). -/
structure Cp (w W : World) (p r t : Nat) (src cs : Array Value) : Prop where
  rowP : W.heap[p]? = some (.cells src 26 (0, 0))
  rowR : W.heap[r]? = some (.cells zRow 26 (0, 0))
  rowT : W.heap[t]? = some (.cells cs 26 (0, 0))
  kept : Kept [] w W
  p0 : w.heap.size ≤ p
  r0 : w.heap.size ≤ r
  t0 : w.heap.size ≤ t
  pt : p ≠ t
  rt : r ≠ t
theorem Cp.step {w W w2 : World} {p r t : Nat} {src cs cs' : Array Value} {v' : Value} {l : List Int} (h : Cp w W p r t src cs) (g : Grew W w2 (.slice none 0 0) v' ([] ++ l)) (j : Nat) (hc : cs.setIfInBounds j v' = cs') :
    Cp w (w2.setCell ⟨t, j, none⟩ v') p r t src cs' ∧ Bs (w2.setCell ⟨t, j, none⟩ v') v' l ∧ (∀ x, v'.ownBlock = some x → W.heap.size ≤ x) ∧ Kept [t] W (w2.setCell ⟨t, j, none⟩ v') := by
  have gk : Kept [] W w2 := g.kept
  have hn : ∀ x, v'.ownBlock = some x → W.heap.size ≤ x := fun x hx => (g.blk x hx).elim (fun e => by simp [Value.ownBlock] at e) id
  have htl : t < W.heap.size := (Array.getElem?_eq_some_iff.1 h.rowT).1
  have ks : Kept [t] w2 (w2.setCell ⟨t, j, none⟩ v') := (Kept.refl [t] w2).setCell (by simp) _
  have kk : Kept [t] W (w2.setCell ⟨t, j, none⟩ v') := (gk.mono (by simp)).trans ks (by simp)
  refine ⟨⟨ks.row (gk.row h.rowP (by simp)) (by simpa using h.pt), ks.row (gk.row h.rowR (by simp)) (by simpa using h.rt), row_set (gk.row h.rowT (by simp)) j v' hc, h.kept.trans kk (fun x hx hl => by have := h.t0; simp at hx; omega), h.p0, h.r0, h.t0, h.pt, h.rt⟩, ?_, hn, kk⟩
  have := g.bs.keep ks (fun x hx => by have := hn x hx; simp; omega)
  simpa using this
/-- What the next copy meets. -/
theorem Cp.facts {w W w2 : World} {p r t : Nat} {src cs : Array Value} {v' : Value} {l : List Int} (h : Cp w W p r t src cs) (g : Grew W w2 (.slice none 0 0) v' ([] ++ l)) (y11 y12 x : Value) (j : Nat) (h11 : src[11]? = some y11) (h12 : src[12]? = some y12) (hx : cs[j]? = some x) :
    w2.cell? ⟨p, 11, none⟩ = some y11 ∧ w2.cell? ⟨p, 12, none⟩ = some y12 ∧ w2.cell? ⟨t, j, none⟩ = some x ∧ w2.frozen? ⟨t, j, none⟩ = false := by
  have gk : Kept [] W w2 := g.kept
  have h1 := gk.row h.rowP (by simp)
  have h2 := gk.row h.rowT (by simp)
  exact ⟨row_cell h1 11 _ h11, row_cell h1 12 _ h12, row_cell h2 j _ hx, frozen_of_row _ _ _ _ _ h2⟩
theorem Cp.start (w : World) (src : Array Value) : Cp w ((((w.alloc (.cells src 26)).alloc (.cells zRow 26)).alloc (.cells zRow 26)).setRow (w.heap.size + 2) src) w.heap.size (w.heap.size + 1) (w.heap.size + 2) src src := by
  have k1 : Kept [] (w.alloc (.cells src 26)) ((w.alloc (.cells src 26)).alloc (.cells zRow 26)) := (Kept.refl [] _).alloc _
  have k2 : Kept [] ((w.alloc (.cells src 26)).alloc (.cells zRow 26)) (((w.alloc (.cells src 26)).alloc (.cells zRow 26)).alloc (.cells zRow 26)) := (Kept.refl [] _).alloc _
  have ks : Kept [w.heap.size + 2] (((w.alloc (.cells src 26)).alloc (.cells zRow 26)).alloc (.cells zRow 26)) ((((w.alloc (.cells src 26)).alloc (.cells zRow 26)).alloc (.cells zRow 26)).setRow (w.heap.size + 2) src) := (Kept.refl [w.heap.size + 2] _).setRow (by simp) src
  have r0 := k2.row (k1.row (heap_alloc_new w (.cells src 26)) (by simp)) (by simp)
  have r1 : (((w.alloc (.cells src 26)).alloc (.cells zRow 26)).alloc (.cells zRow 26)).heap[w.heap.size + 1]? = some (.cells zRow 26 (0, 0)) := k2.row (heap_alloc2_new w _ _) (by simp)
  have r2 : (((w.alloc (.cells src 26)).alloc (.cells zRow 26)).alloc (.cells zRow 26)).heap[w.heap.size + 2]? = some (.cells zRow 26 (0, 0)) := by
    have := heap_alloc_new ((w.alloc (.cells src 26)).alloc (.cells zRow 26)) (.cells zRow 26)
    simpa using this
  refine ⟨ks.row r0 (by simp), ks.row r1 (by simp), setRow_heap _ _ _ _ 26 (0, 0) r2, ?_, Nat.le_refl _, by omega, by omega, by omega, by omega⟩
  exact ((((Kept.refl [] w).alloc _).alloc _).alloc _).trans ks (fun x hx hl => by simp at hx; omega)
theorem NewSt.of {w W0 W1 W2 W3 : World} {p r t : Nat} {src cs0 cs1 cs2 cs3 : Array Value} {s : St} {v1 v2 v3 : Value} (C0 : Cp w W0 p r t src cs0) (C1 : Cp w W1 p r t src cs1) (C2 : Cp w W2 p r t src cs2) (C3 : Cp w W3 p r t src cs3) (b1 : Bs W1 v1 s.ram) (b2 : Bs W2 v2 s.inp) (b3 : Bs W3 v3 s.out)
    (n1 : ∀ x, v1.ownBlock = some x → W0.heap.size ≤ x) (n2 : ∀ x, v2.ownBlock = some x → W1.heap.size ≤ x) (n3 : ∀ x, v3.ownBlock = some x → W2.heap.size ≤ x) (k2 : Kept [t] W1 W2) (k3 : Kept [t] W2 W3) (cs : Array Value) :
    NewSt w s v1 v2 v3 (W3.setRow r cs) := by
  have ks : Kept [r] W3 (W3.setRow r cs) := (Kept.refl [r] W3).setRow (by simp) cs
  have hr : r < W0.heap.size := (Array.getElem?_eq_some_iff.1 C0.rowR).1
  have ht : t < W0.heap.size := (Array.getElem?_eq_some_iff.1 C0.rowT).1
  have s0 := C0.kept.size
  have hz1 : ∀ x, v1.ownBlock = some x → x < W1.heap.size := fun x hx => b1.lt x hx
  have hz2 : ∀ x, v2.ownBlock = some x → x < W2.heap.size := fun x hx => b2.lt x hx
  have hr1 : r < W1.heap.size := (Array.getElem?_eq_some_iff.1 C1.rowR).1
  have ht1 : t < W1.heap.size := (Array.getElem?_eq_some_iff.1 C1.rowT).1
  have s1 := C1.kept.size
  have s2 := k2.size
  refine ⟨?_, ?_, ?_, fun g hg => by have := n1 g hg; omega, fun g hg => by have := n2 g hg; omega, fun g hg => by have := n3 g hg; omega, fun g hg hi => by have := hz1 g hg; have := n2 g hi; omega, fun g hg hi => by have := hz1 g hg; have := n3 g hi; omega, fun g hg hi => by have := hz2 g hg; have := n3 g hi; omega, C3.kept.trans ks (fun x hx hl => by have := C0.r0; simp at hx; omega)⟩
  · exact ((b1.keep k2 (fun g hg => by have := n1 g hg; simp; omega)).keep k3 (fun g hg => by have := n1 g hg; simp; omega)).keep ks (fun g hg => by have := n1 g hg; simp; omega)
  · exact (b2.keep k3 (fun g hg => by have := n2 g hg; simp; omega)).keep ks (fun g hg => by have := n2 g hg; simp; omega)
  · exact b3.keep ks (fun g hg => by have := n3 g hg; simp; omega)
set_option maxHeartbeats 8000000 in
set_option maxRecDepth 100000 in
theorem copied_any (w : World) (s : St) (A B C : Option Addr) (n m k c d e : Nat) (l1 : s.ram.length ≤ 140737488351232) (l2 : s.inp.length ≤ 140737488351232) (l3 : s.out.length ≤ 140737488351232) (h1 : Rd w (.slice A n c) s.ram) (h2 : Rd w (.slice B m d) s.inp) (h3 : Rd w (.slice C k e) s.out) :
    Calls Try.prog 36 #[.agg (sCells (.slice A n c) (.slice B m d) (.slice C k e) s)] w (CopiedPost w s) := by
  have C0 := Cp.start w (sCells (.slice A n c) (.slice B m d) (.slice C k e) s)
  have HC0 := Lib.hid C0
  have HR1 := Lib.hid (h1.keep C0.kept (by simp))
  have HI := Lib.hid h2
  have HO := Lib.hid h3
  have q1 : ([] : List Int).length + s.ram.length ≤ 140737488355328 := by simp; omega
  have q2 : ([] : List Int).length + s.inp.length ≤ 140737488355328 := by simp; omega
  have q3 : ([] : List Int).length + s.out.length ≤ 140737488355328 := by simp; omega
  have Q1 := Lib.hid q1
  have Q2 := Lib.hid q2
  have Q3 := Lib.hid q3
  have hrowS : ((w.alloc (.cells (sCells (.slice A n c) (.slice B m d) (.slice C k e) s) 26)).alloc (.cells zRow 26)).heap[w.heap.size]? = some (.cells (sCells (.slice A n c) (.slice B m d) (.slice C k e) s) 26 (0, 0)) := heap_alloc2_old w _ _
  have hrowZ : (((w.alloc (.cells (sCells (.slice A n c) (.slice B m d) (.slice C k e) s) 26)).alloc (.cells zRow 26)).alloc (.cells zRow 26)).heap[w.heap.size + 2]? = some (.cells zRow 26 (0, 0)) := by
    have := heap_alloc_new ((w.alloc (.cells (sCells (.slice A n c) (.slice B m d) (.slice C k e) s) 26)).alloc (.cells zRow 26)) (.cells zRow 26)
    simpa using this
  have HRS := Lib.hid hrowS
  have HRZ := Lib.hid hrowZ
  have f0 := row_cell C0.rowP 0 (.slice A n c) rfl
  clear C0 h1 h2 h3 q1 q2 q3 hrowS hrowZ l1 l2 l3
  go_enter Try.func36, Try.ntmps36
  go_wp2_with (first
    | ((with_reducible refine gate_n (N := 4) rfl ?_); refine wpList_load_row rfl 26 (.tmp 1) rfl w.heap.size rfl 26 _ (0, 0) _ HRS.out Try.underlying26 rfl (by kernel_rfl) ?_)
    | (refine wpList_store_row rfl 26 (.tmp 3) (.tmp 4) rfl (w.heap.size + 2) _ rfl rfl 26 _ HRZ.out (by kernel_rfl) rfl (sCells_one _ _ _ _ _ _ _ _ _ _) ?_)
    | ((with_reducible refine gate_n (N := 7) rfl ?_); at_builtin; refine wpList_append_bs rfl _ _ rfl _ _ [] s.ram rfl rfl (Bs.nil _) HR1.out Q1.out ?_; intro v1 w2 hg; obtain ⟨A1, c1, rfl⟩ := hg.bs.shape; have C1 := Lib.hid (HC0.out.step hg 0 rfl); obtain ⟨e11, e12, e0, z0⟩ := HC0.out.facts hg (.slice B m d) (.slice C k e) (.slice A n c) 0 rfl rfl rfl; clear hg)
    | ((with_reducible refine gate_n (N := 11) rfl ?_); at_builtin; refine wpList_append_bs rfl _ _ rfl _ _ [] s.inp rfl rfl (Bs.nil _) (HI.out.keep C1.out.1.kept (by simp)) Q2.out ?_; intro v2 w3 hg; obtain ⟨A2, c2, rfl⟩ := hg.bs.shape; have C2 := Lib.hid (C1.out.1.step hg 11 rfl); obtain ⟨g11, g12, g0, y0⟩ := C1.out.1.facts hg (.slice B m d) (.slice C k e) (.slice B m d) 11 rfl rfl rfl; clear hg)
    | ((with_reducible refine gate_n (N := 15) rfl ?_); at_builtin; refine wpList_append_bs rfl _ _ rfl _ _ [] s.out rfl rfl (Bs.nil _) (HO.out.keep C2.out.1.kept (by simp)) Q3.out ?_; intro v3 w4 hg; obtain ⟨A3, c3, rfl⟩ := hg.bs.shape; have C3 := Lib.hid (C2.out.1.step hg 12 rfl); obtain ⟨h11, h12, h0, x0⟩ := C2.out.1.facts hg (.slice B m d) (.slice C k e) (.slice C k e) 12 rfl rfl rfl; clear hg)
    | ((with_reducible refine gate_n (N := 17) rfl ?_); refine wpList_load_row rfl 26 (.tmp 3) rfl (w.heap.size + 2) rfl 26 _ (0, 0) _ C3.out.1.rowT Try.underlying26 rfl (by kernel_rfl) ?_)
    | (refine wpList_store_row rfl 26 (.tmp 2) (.tmp 17) rfl (w.heap.size + 1) _ rfl rfl 26 _ C3.out.1.rowR (by kernel_rfl) rfl (sCells_one _ _ _ _ _ _ _ _ _ _) ?_))
  exact bodyPost_ret (results_cell_row rfl _ _ (w.heap.size + 1) 26 _ (0, 0) _ rfl (setRow_heap _ _ _ _ 26 (0, 0) C3.out.1.rowR) Try.underlying26 rfl (by kernel_rfl)) rfl ⟨_, _, _, rfl, NewSt.of HC0.out C1.out.1 C2.out.1 C3.out.1 C1.out.2.1 C2.out.2.1 C3.out.2.1 C1.out.2.2.1 C2.out.2.2.1 C3.out.2.2.1 C2.out.2.2.2 C3.out.2.2.2 _⟩
end Go.Proofs.Ytkocfcgdjjdnhaa.BW
