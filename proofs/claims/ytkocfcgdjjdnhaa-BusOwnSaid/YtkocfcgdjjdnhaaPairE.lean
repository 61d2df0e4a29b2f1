/- The statements' word 'begin': both buses of one state. Premise: the state can be read. -/
import Derived.Test.YtkocfcgdjjdnhaaPairD
namespace Go.Proofs.Ytkocfcgdjjdnhaa.BW
open Go.RowKit
set_option linter.unusedVariables false
set_option linter.unusedSimpArgs false
section
variable {P : Program}
theorem results_cell_tmp2 {fn : Func} {p : Tmp} {ty : TypeId} {a b : Tmp} (h : fn.results = #[.cell p ty, .tmp a, .tmp b]) (tmps : Array Value) (w : World) (g : Nat) (t : TypeId) (cs : Array Value) (fr : Nat × Nat) (d : TypeDesc)
    (hp : tmps.getD p undef = .pointer (some ⟨g, 0, none⟩)) (hg : w.heap[g]? = some (.cells cs t fr))
    (hu : P.underlying ty = some d) (hd : (match d with | .struct _ | .array _ _ => true | _ => false) = true) (hi : (P.info? ty).map (·.size) = some cs.size) :
    (results fn tmps).run P w = .ok (.tuple #[.agg cs, tmps.getD a undef, tmps.getD b undef]) w := by
  have hp' : tmps[p]?.getD undef = .pointer (some ⟨g, 0, none⟩) := by simpa using hp
  simp [results, h, hp', asAddr, run_loadVar_row w g t ty cs fr d hg hu hd hi]
end
/-- The copy of a state, put into a box of its own. -/
structure Cpd (W w3 : World) (s : St) (v1 v2 v3 : Value) (M : Nat) : Prop where
  b1 : Bs w3 v1 s.ram
  b2 : Bs w3 v2 s.inp
  b3 : Bs w3 v3 s.out
  row : w3.heap[M]? = some (.cells (sCells v1 v2 v3 s) 26 (0, 0))
  kept : Kept [] W w3
theorem Cpd.of {W w2 : World} {s : St} {v1 v2 v3 : Value} (h : NewSt W s v1 v2 v3 w2) :
    (w2.alloc (.cells zRow 26)).heap[w2.heap.size]? = some (.cells zRow 26 (0, 0)) ∧ Cpd W ((w2.alloc (.cells zRow 26)).setRow w2.heap.size (sCells v1 v2 v3 s)) s v1 v2 v3 w2.heap.size := by
  obtain ⟨b1, b2, b3, n1, n2, n3, d1, d2, d3, k⟩ := h
  have ka : Kept [] w2 (w2.alloc (.cells zRow 26)) := (Kept.refl [] w2).alloc _
  have kw : Kept [w2.heap.size] (w2.alloc (.cells zRow 26)) ((w2.alloc (.cells zRow 26)).setRow w2.heap.size (sCells v1 v2 v3 s)) := (Kept.refl [w2.heap.size] _).setRow (by simp) _
  have hr : (w2.alloc (.cells zRow 26)).heap[w2.heap.size]? = some (.cells zRow 26 (0, 0)) := heap_alloc_new _ _
  have hz := k.size
  refine ⟨hr, (b1.keep ka (by simp)).keep kw (fun g hg => by have := b1.lt g hg; simp; omega), (b2.keep ka (by simp)).keep kw (fun g hg => by have := b2.lt g hg; simp; omega), (b3.keep ka (by simp)).keep kw (fun g hg => by have := b3.lt g hg; simp; omega), setRow_heap _ _ _ _ 26 (0, 0) hr, (k.trans ka (by simp)).trans kw (fun x hx hl => by simp at hx; omega)⟩
abbrev zPair : Array Value := #[.pointer none, .pointer none]
def BegYes (w : World) (s : St) (e : Ending) (w' : World) : Prop := ∃ pb rb, e = .returned (.tuple #[.agg (pairCells pb rb), .bool true, .bool true]) ∧ DuoE w [] w' pb rb s s
def BegNo (w : World) (e : Ending) (w' : World) : Prop := e = .returned (.tuple #[.agg zPair, .bool true, .bool false]) ∧ Kept [] w w'
theorem BegYes.of {w w4 w5 w6 : World} {s : St} {pb rb N : Nat} {vr vi vo ur ui uo : Value} {cs : Array Value} (h4 : PL w4 pb vr vi vo s) (h5 : RL w5 rb ur ui uo s) (f4 : ∀ x ∈ foot pb vr vi vo, N < x) (f5 : ∀ x ∈ foot rb ur ui uo, w4.heap.size ≤ x) (hN : w.heap.size ≤ N) (k4 : Kept [] w w4) (k5 : Kept [] w4 w5) (k6 : Kept [] w5 w6) :
    BegYes w s (.returned (.tuple #[.agg (pairCells pb rb), .bool true, .bool true])) (w6.setRow N cs) := by
  have ks : Kept [N] w6 (w6.setRow N cs) := (Kept.refl [N] w6).setRow (by simp) cs
  have l4 := h4.lt
  have hNl : N < w4.heap.size := by have := f4 pb (foot_self _ _ _ _); have := l4 pb (foot_self _ _ _ _); omega
  have n4 : ∀ x ∈ foot pb vr vi vo, x ∉ [N] := fun x hx hm => by have := f4 x hx; simp at hm; omega
  have n5 : ∀ x ∈ foot rb ur ui uo, x ∉ [N] := fun x hx hm => by have := f5 x hx; simp at hm; omega
  refine ⟨pb, rb, rfl, vr, vi, vo, ur, ui, uo, ((h4.keep0 k5).keep0 k6).keep ks n4, (h5.keep0 k6).keep ks n5, fun x hx => ⟨by have := f4 x hx; omega, by simp⟩, fun x hx => ⟨by have := f5 x hx; have := k4.size; omega, by simp⟩, fun x hx hm => by have := l4 x hx; have := f5 x hm; omega, ((k4.trans k5 (by simp)).trans k6 (by simp)).trans ks (fun x hx hl => by simp at hx; omega), by simp⟩
section
variable {w : World}
theorem from_no_rd (s : St) (hs : s.In) (v1 v2 v3 : Value) (h1 : Rd w v1 s.ram) (h2 : Rd w v2 s.inp) (h3 : Rd w v3 s.out) (hc : s.canBe = false) :
    Calls Try.prog 41 #[.agg (sCells v1 v2 v3 s)] w fun e w' => e = .returned (.tuple #[.pointer none, .int .i64 31]) ∧ Below w.heap.size w w' := by
  obtain ⟨A, c, rfl⟩ := h1.shape
  obtain ⟨B, d, rfl⟩ := h2.shape
  obtain ⟨C, e, rfl⟩ := h3.shape
  exact from_no w s hs A B C _ _ _ c d e rfl rfl rfl hc
set_option maxHeartbeats 8000000 in
set_option maxRecDepth 100000 in
theorem begin_no (w : World) (s : St) (hs : s.In) (A B C : Option Addr) (n m k c d e : Nat) (h1 : Rd w (.slice A n c) s.ram) (h2 : Rd w (.slice B m d) s.inp) (h3 : Rd w (.slice C k e) s.out) (hc : s.canBe = false) :
    Calls Try.prog 22 #[.agg (sCells (.slice A n c) (.slice B m d) (.slice C k e) s)] w (BegNo w) := by
  have k1 : Kept [] w ((w.alloc (.cells (sCells (.slice A n c) (.slice B m d) (.slice C k e) s) 26)).alloc (.cells zPair 37)) := ((Kept.refl [] w).alloc _).alloc _
  have HK1 := Lib.hid k1
  have HR0 := Lib.hid (heap_alloc2_old w (.cells (sCells (.slice A n c) (.slice B m d) (.slice C k e) s) 26) (.cells zPair 37))
  have HR1 := Lib.hid (heap_alloc2_new w (.cells (sCells (.slice A n c) (.slice B m d) (.slice C k e) s) 26) (.cells zPair 37))
  have HC := Lib.hid (copied_rd _ s _ _ _ hs.rl hs.il hs.ol (h1.keep k1 (by simp)) (h2.keep k1 (by simp)) (h3.keep k1 (by simp)))
  have HH1 := Lib.hid h1
  have HH2 := Lib.hid h2
  have HH3 := Lib.hid h3
  have HS := Lib.hid hs
  have HCB := Lib.hid hc
  clear k1 h1 h2 h3 hs hc
  go_enter Try.func22, Try.ntmps22
  go_wp2_with (first
    | ((with_reducible refine gate_n (N := 11) rfl ?_); refine wpList_load_row rfl 26 (.tmp 1) rfl w.heap.size rfl 26 _ (0, 0) _ HR0.out Try.underlying26 rfl (by kernel_rfl) ?_)
    | (go_at_call 36; refine HC.out.mono ?_; rintro e w2 ⟨v1, v2, v3, rfl, hN⟩; obtain ⟨A1, c1, B1, d1, C1, e1, rfl, rfl, rfl⟩ := hN.shapes; obtain ⟨hz, hcp⟩ := Cpd.of hN; have HZ := Lib.hid hz; have HCP := Lib.hid hcp; clear hz hcp hN)
    | (refine wpList_store_row rfl 26 (.tmp 5) (.tmp 12) rfl w2.heap.size _ rfl rfl 26 _ HZ.out (by kernel_rfl) rfl (sCells_one _ _ _ _ _ _ _ _ _ _) ?_)
    | ((with_reducible refine gate_n (N := 14) rfl ?_); refine wpList_load_row rfl 26 (.tmp 5) rfl w2.heap.size rfl 26 _ (0, 0) _ HCP.out.row Try.underlying26 rfl (by kernel_rfl) ?_)
    | (go_at_call 41; refine (from_no_rd s HS.out _ _ _ HCP.out.b1.rd HCP.out.b2.rd HCP.out.b3.rd HCB.out).mono ?_; rintro e w4 ⟨rfl, hb⟩; have HK4 := Lib.hid (HCP.out.kept.trans (Kept.of_below (F := []) hb) (by simp)); have HM4 := Lib.hid ((Kept.of_below (F := []) hb).row HCP.out.row (by simp)); have HB4 := Lib.hid (Kept.of_below (F := []) hb); have HR04 := Lib.hid (HK4.out.row HR0.out (by simp)); clear hb)
    | ((with_reducible refine gate_n (N := 19) rfl ?_); refine wpList_load_row rfl 26 (.tmp 1) rfl w.heap.size rfl 26 _ (0, 0) _ HR04.out Try.underlying26 rfl (by kernel_rfl) ?_)
    | (go_at_call 42; refine (r_from_no w4 s HS.out A B C n m k c d e (HH1.out.keep (HK1.out.trans HK4.out (by simp)) (by simp)) (HH2.out.keep (HK1.out.trans HK4.out (by simp)) (by simp)) (HH3.out.keep (HK1.out.trans HK4.out (by simp)) (by simp)) HCB.out).mono ?_; rintro e w5 ⟨rfl, hb⟩; have HK5 := Lib.hid (Kept.of_below (F := []) hb); have HM5 := Lib.hid (HK5.out.row HM4.out (by simp)); have HR05 := Lib.hid (HK5.out.row HR04.out (by simp)); have HW5 := Lib.hid ((HK1.out.trans HK4.out (by simp)).trans HK5.out (by simp)); have HR15 := Lib.hid ((HK4.out.trans HK5.out (by simp)).row HR1.out (by simp)); clear hb)
    | ((with_reducible refine gate_n (N := 23) rfl ?_); refine wpList_load_row rfl 26 (.tmp 1) rfl w.heap.size rfl 26 _ (0, 0) _ HR05.out Try.underlying26 rfl (by kernel_rfl) ?_)
    | ((with_reducible refine gate_n (N := 24) rfl ?_); refine wpList_load_row rfl 26 (.tmp 5) rfl w2.heap.size rfl 26 _ (0, 0) _ HM5.out Try.underlying26 rfl (by kernel_rfl) ?_)
    | (go_at_call 19; refine (r_same_rd w5 s _ _ _ _ _ _ (HH1.out.keep HW5.out (by simp)) (HH2.out.keep HW5.out (by simp)) (HH3.out.keep HW5.out (by simp)) ((HCP.out.b1.keep HB4.out (by simp)).keep HK5.out (by simp)).rd ((HCP.out.b2.keep HB4.out (by simp)).keep HK5.out (by simp)).rd ((HCP.out.b3.keep HB4.out (by simp)).keep HK5.out (by simp)).rd).mono ?_; rintro e w6 ⟨rfl, hb⟩; have HK6 := Lib.hid (HW5.out.trans (Kept.of_below (F := []) hb) (by simp)); have HR16 := Lib.hid ((Kept.of_below (F := []) hb).row HR15.out (by simp)); clear hb)
    | (refine wpList_store_row rfl 37 (.tmp 2) (.tmp 43) rfl (w.heap.size + 1) _ rfl rfl 37 _ HR16.out (by kernel_rfl) rfl (by simp [Value.oneCell']) ?_))
  refine bodyPost_ret (results_cell_tmp2 rfl _ _ (w.heap.size + 1) 37 _ (0, 0) _ rfl (setRow_heap _ _ _ _ 37 (0, 0) HR16.out) Try.underlying37 rfl (by kernel_rfl)) rfl ⟨rfl, ?_⟩
  exact HK6.out.trans ((Kept.refl [w.heap.size + 1] _).setRow (by simp) _) (fun x hx hl => by simp at hx; omega)
set_option maxHeartbeats 8000000 in
set_option maxRecDepth 100000 in
theorem begin_yes (w : World) (s : St) (hs : s.In) (A B C : Option Addr) (n m k c d e : Nat) (h1 : Rd w (.slice A n c) s.ram) (h2 : Rd w (.slice B m d) s.inp) (h3 : Rd w (.slice C k e) s.out) (hc : s.canBe = true) :
    Calls Try.prog 22 #[.agg (sCells (.slice A n c) (.slice B m d) (.slice C k e) s)] w (BegYes w s) := by
  have k1 : Kept [] w ((w.alloc (.cells (sCells (.slice A n c) (.slice B m d) (.slice C k e) s) 26)).alloc (.cells zPair 37)) := ((Kept.refl [] w).alloc _).alloc _
  have HZ1 := Lib.hid (show ((w.alloc (.cells (sCells (.slice A n c) (.slice B m d) (.slice C k e) s) 26)).alloc (.cells zPair 37)).heap.size = w.heap.size + 2 by simp)
  have HK1 := Lib.hid k1
  have HR0 := Lib.hid (heap_alloc2_old w (.cells (sCells (.slice A n c) (.slice B m d) (.slice C k e) s) 26) (.cells zPair 37))
  have HR1 := Lib.hid (heap_alloc2_new w (.cells (sCells (.slice A n c) (.slice B m d) (.slice C k e) s) 26) (.cells zPair 37))
  have HC := Lib.hid (copied_rd _ s _ _ _ hs.rl hs.il hs.ol (h1.keep k1 (by simp)) (h2.keep k1 (by simp)) (h3.keep k1 (by simp)))
  have HH1 := Lib.hid h1
  have HH2 := Lib.hid h2
  have HH3 := Lib.hid h3
  have HS := Lib.hid hs
  have HCB := Lib.hid hc
  clear k1 h1 h2 h3 hs hc
  go_enter Try.func22, Try.ntmps22
  go_wp2_with (first
    | ((with_reducible refine gate_n (N := 11) rfl ?_); refine wpList_load_row rfl 26 (.tmp 1) rfl w.heap.size rfl 26 _ (0, 0) _ HR0.out Try.underlying26 rfl (by kernel_rfl) ?_)
    | (go_at_call 36; refine HC.out.mono ?_; rintro e w2 ⟨v1, v2, v3, rfl, hN⟩; obtain ⟨A1, c1, B1, d1, C1, e1, rfl, rfl, rfl⟩ := hN.shapes; obtain ⟨hz, hcp⟩ := Cpd.of hN; have HZ := Lib.hid hz; have HCP := Lib.hid hcp; clear hz hcp hN)
    | (refine wpList_store_row rfl 26 (.tmp 5) (.tmp 12) rfl w2.heap.size _ rfl rfl 26 _ HZ.out (by kernel_rfl) rfl (sCells_one _ _ _ _ _ _ _ _ _ _) ?_)
    | ((with_reducible refine gate_n (N := 14) rfl ?_); refine wpList_load_row rfl 26 (.tmp 5) rfl w2.heap.size rfl 26 _ (0, 0) _ HCP.out.row Try.underlying26 rfl (by kernel_rfl) ?_)
    | (go_at_call 41; refine (from_rd _ s HS.out _ _ _ HCP.out.b1.rd HCP.out.b2.rd HCP.out.b3.rd HCP.out.b1.ltHeap HCP.out.b2.ltHeap HCP.out.b3.ltHeap HCB.out).mono ?_; rintro e w4 ⟨pb, vr, vi, vo, rfl, hp, hf, hb⟩; have HP := Lib.hid hp; have HF4 := Lib.hid (show ∀ x ∈ foot pb vr vi vo, w.heap.size + 1 < x from fun x hx => Nat.lt_of_lt_of_le (by have := HCP.out.kept.size; have := HZ1.out; omega) (hf x hx)); have HK4 := Lib.hid (HCP.out.kept.trans hb (by simp)); have HM4 := Lib.hid (hb.row HCP.out.row (by simp)); have HB4 := Lib.hid hb; have HR04 := Lib.hid (HK4.out.row HR0.out (by simp)); clear hb hp hf)
    | ((with_reducible refine gate_n (N := 19) rfl ?_); refine wpList_load_row rfl 26 (.tmp 1) rfl w.heap.size rfl 26 _ (0, 0) _ HR04.out Try.underlying26 rfl (by kernel_rfl) ?_)
    | (go_at_call 42; refine (r_from_yes w4 s HS.out A B C n m k c d e (HH1.out.keep (HK1.out.trans HK4.out (by simp)) (by simp)) (HH2.out.keep (HK1.out.trans HK4.out (by simp)) (by simp)) (HH3.out.keep (HK1.out.trans HK4.out (by simp)) (by simp)) HCB.out).mono ?_; rintro e w5 ⟨rb, ur, ui, uo, rfl, hr, hf, hb⟩; have HR := Lib.hid hr; have HF5 := Lib.hid hf; have HK5 := Lib.hid hb; have HM5 := Lib.hid (HK5.out.row HM4.out (by simp)); have HR05 := Lib.hid (HK5.out.row HR04.out (by simp)); have HW5 := Lib.hid ((HK1.out.trans HK4.out (by simp)).trans HK5.out (by simp)); have HR15 := Lib.hid ((HK4.out.trans HK5.out (by simp)).row HR1.out (by simp)); clear hb hr hf)
    | ((with_reducible refine gate_n (N := 23) rfl ?_); refine wpList_load_row rfl 26 (.tmp 1) rfl w.heap.size rfl 26 _ (0, 0) _ HR05.out Try.underlying26 rfl (by kernel_rfl) ?_)
    | ((with_reducible refine gate_n (N := 24) rfl ?_); refine wpList_load_row rfl 26 (.tmp 5) rfl w2.heap.size rfl 26 _ (0, 0) _ HM5.out Try.underlying26 rfl (by kernel_rfl) ?_)
    | (go_at_call 19; refine (r_same_rd w5 s _ _ _ _ _ _ (HH1.out.keep HW5.out (by simp)) (HH2.out.keep HW5.out (by simp)) (HH3.out.keep HW5.out (by simp)) ((HCP.out.b1.keep HB4.out (by simp)).keep HK5.out (by simp)).rd ((HCP.out.b2.keep HB4.out (by simp)).keep HK5.out (by simp)).rd ((HCP.out.b3.keep HB4.out (by simp)).keep HK5.out (by simp)).rd).mono ?_; rintro e w6 ⟨rfl, hb⟩; have HK6 := Lib.hid (Kept.of_below (F := []) hb); have HR16 := Lib.hid ((Kept.of_below (F := []) hb).row HR15.out (by simp)); clear hb)
    | (refine wpList_store_row rfl 37 (.tmp 2) (.tmp 43) rfl (w.heap.size + 1) _ rfl rfl 37 _ HR16.out (by kernel_rfl) rfl (by simp [Value.oneCell']) ?_))
  refine bodyPost_ret (results_cell_tmp2 rfl _ _ (w.heap.size + 1) 37 _ (0, 0) _ rfl (setRow_heap _ _ _ _ 37 (0, 0) HR16.out) Try.underlying37 rfl (by kernel_rfl)) rfl ?_
  exact BegYes.of HP.out HR.out HF4.out HF5.out (by omega) (HK1.out.trans HK4.out (by simp)) HK5.out HK6.out
end
end Go.Proofs.Ytkocfcgdjjdnhaa.BW
