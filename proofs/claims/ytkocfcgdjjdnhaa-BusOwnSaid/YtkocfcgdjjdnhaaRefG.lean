/- The statements' word 'made': the program's bus of a state that can be. Premise: the state can be read. -/
import Derived.Test.YtkocfcgdjjdnhaaRefE
import Derived.Test.YtkocfcgdjjdnhaaBusW
namespace Go.Proofs.Ytkocfcgdjjdnhaa.BW
open Go.RowKit
set_option linter.unusedVariables false
set_option linter.unusedSimpArgs false
theorem copied_rd (w : World) (s : St) (v1 v2 v3 : Value) (l1 : s.ram.length ≤ 140737488351232) (l2 : s.inp.length ≤ 140737488351232) (l3 : s.out.length ≤ 140737488351232) (h1 : Rd w v1 s.ram) (h2 : Rd w v2 s.inp) (h3 : Rd w v3 s.out) :
    Calls Try.prog 36 #[.agg (sCells v1 v2 v3 s)] w (CopiedPost w s) := by
  obtain ⟨A, c, rfl⟩ := h1.shape
  obtain ⟨B, d, rfl⟩ := h2.shape
  obtain ⟨C, e, rfl⟩ := h3.shape
  exact copied_any w s A B C _ _ _ c d e l1 l2 l3 h1 h2 h3
theorem r_canbe_rd (w : World) (s : St) (hs : s.In) (v1 v2 v3 : Value) (h1 : Rd w v1 s.ram) (h2 : Rd w v2 s.inp) (h3 : Rd w v3 s.out) :
    Calls Try.prog 23 #[.agg (sCells v1 v2 v3 s)] w fun e w' => e = .returned (.bool s.canBe) ∧ Below w.heap.size w w' := by
  obtain ⟨A, c, rfl⟩ := h1.shape
  obtain ⟨B, d, rfl⟩ := h2.shape
  obtain ⟨C, e, rfl⟩ := h3.shape
  exact r_canbe_in w s hs A B C _ _ _ c d e rfl rfl rfl
theorem r_same_rd (w : World) (s : St) (v1 v2 v3 u1 u2 u3 : Value) (h1 : Rd w v1 s.ram) (h2 : Rd w v2 s.inp) (h3 : Rd w v3 s.out) (g1 : Rd w u1 s.ram) (g2 : Rd w u2 s.inp) (g3 : Rd w u3 s.out) :
    Calls Try.prog 19 #[.agg (sCells v1 v2 v3 s), .agg (sCells u1 u2 u3 s)] w fun e w' => e = .returned (.bool true) ∧ Below w.heap.size w w' := by
  obtain ⟨A, c, rfl⟩ := h1.shape
  obtain ⟨B, d, rfl⟩ := h2.shape
  obtain ⟨C, e, rfl⟩ := h3.shape
  obtain ⟨A', c', rfl⟩ := g1.shape
  obtain ⟨B', d', rfl⟩ := g2.shape
  obtain ⟨C', e', rfl⟩ := g3.shape
  exact r_same_of w s A B C A' B' C' _ _ _ c d e _ _ _ c' d' e' h1 h2 h3 g1 g2 g3
/-- Where its lists lie. -/
def LtHeap (w : World) (v : Value) : Prop := ∀ g o n c, v = .slice (some ⟨g, o, none⟩) n c → g < w.heap.size
theorem Bs.ltHeap {w : World} {v : Value} {l : List Int} (h : Bs w v l) : LtHeap w v := by
  intro g o n c e
  rcases h.at with ⟨rfl, _⟩ | ⟨g', cap, cur, rfl, hg, _⟩
  · simp at e
  · simp only [Value.slice.injEq, Option.some.injEq, Addr.mk.injEq] at e
    obtain ⟨⟨rfl, _⟩, _⟩ := e
    exact (Array.getElem?_eq_some_iff.1 hg).1
theorem Rd.ltHeap {w : World} {v : Value} {l : List Int} (h : Rd w v l) (h0 : l ≠ []) : LtHeap w v := by
  intro g o n c e
  rcases h with ⟨_, rfl⟩ | ⟨c', g', o', rfl, hc⟩
  · exact absurd rfl h0
  · simp only [Value.slice.injEq, Option.some.injEq, Addr.mk.injEq] at e
    obtain ⟨⟨rfl, _⟩, _⟩ := e
    match l, h0 with
    | x :: r, _ => exact World.block_lt_of_cell? w _ (hc 0 x rfl)
theorem from_rd (w : World) (s : St) (hs : s.In) (v1 v2 v3 : Value) (h1 : Rd w v1 s.ram) (h2 : Rd w v2 s.inp) (h3 : Rd w v3 s.out) (b1 : LtHeap w v1) (b2 : LtHeap w v2) (b3 : LtHeap w v3) (hc : s.canBe = true) :
    Calls Try.prog 41 #[.agg (sCells v1 v2 v3 s)] w (FromPost w s) := by
  obtain ⟨A, c, rfl⟩ := h1.shape
  obtain ⟨B, d, rfl⟩ := h2.shape
  obtain ⟨C, e, rfl⟩ := h3.shape
  exact from_yes w s hs A B C _ _ _ c d e rfl rfl rfl h1 h2 h3 (fun g o e => b1 g o _ _ (by rw [e])) (fun g o e => b2 g o _ _ (by rw [e])) (fun g o e => b3 g o _ _ (by rw [e])) hc
/-- The fifteen cells of a state, one by one. -/
theorem cells15 {W : World} {p : Nat} {v1 v2 v3 : Value} {s : St} (h : W.heap[p]? = some (.cells (sCells v1 v2 v3 s) 26 (0, 0))) : W.cell? ⟨p, 0, none⟩ = some (v1) ∧ W.cell? ⟨p, 1, none⟩ = some (.int .u32 s.msip) ∧ W.cell? ⟨p, 2, none⟩ = some (.int .u64 s.cmp) ∧ W.cell? ⟨p, 3, none⟩ = some (.int .u64 s.now) ∧ W.cell? ⟨p, 4, none⟩ = some (.bool s.ext) ∧ W.cell? ⟨p, 5, none⟩ = some (.bool s.soft) ∧ W.cell? ⟨p, 6, none⟩ = some (.int .u8 s.ier) ∧ W.cell? ⟨p, 7, none⟩ = some (.int .u8 s.lcr) ∧ W.cell? ⟨p, 8, none⟩ = some (.int .u8 s.mcr) ∧ W.cell? ⟨p, 9, none⟩ = some (.int .u8 s.scr) ∧ W.cell? ⟨p, 10, none⟩ = some (.bool s.over) ∧ W.cell? ⟨p, 11, none⟩ = some (v2) ∧ W.cell? ⟨p, 12, none⟩ = some (v3) ∧ W.cell? ⟨p, 13, none⟩ = some (.int .i64 s.off) ∧ W.cell? ⟨p, 14, none⟩ = some (.int .i64 s.code) :=
  ⟨row_cell h 0 _ rfl, row_cell h 1 _ rfl, row_cell h 2 _ rfl, row_cell h 3 _ rfl, row_cell h 4 _ rfl, row_cell h 5 _ rfl, row_cell h 6 _ rfl, row_cell h 7 _ rfl, row_cell h 8 _ rfl, row_cell h 9 _ rfl, row_cell h 10 _ rfl, row_cell h 11 _ rfl, row_cell h 12 _ rfl, row_cell h 13 _ rfl, row_cell h 14 _ rfl⟩
/-- What made leaves of a state that can be. -/
def MadePost (w : World) (s : St) (e : Ending) (w' : World) : Prop :=
  ∃ b vr vi vo, e = .returned (.tuple #[.pointer (some ⟨b, 0, none⟩), .bool true]) ∧ PL w' b vr vi vo s ∧ (∀ x ∈ foot b vr vi vo, w.heap.size ≤ x) ∧ Kept [] w w'
theorem state_in {W : World} {b p : Nat} {vr vi vo : Value} {s x : St} {y1 y2 y3 : Value} (h : PL W b vr vi vo s) (hs : s.Ok) (hp : W.heap[p]? = some (.cells (sCells y1 y2 y3 x) 26 (0, 0))) (hpb : p ≠ b) :
    Calls Try.prog 20 #[.pointer (some ⟨b, 0, none⟩)] W fun e w2 => ∃ v1 v2 v3, e = .returned (.agg (sCells v1 v2 v3 s)) ∧ (w2.cell? ⟨p, 0, none⟩ = some (y1) ∧ w2.cell? ⟨p, 1, none⟩ = some (.int .u32 x.msip) ∧ w2.cell? ⟨p, 2, none⟩ = some (.int .u64 x.cmp) ∧ w2.cell? ⟨p, 3, none⟩ = some (.int .u64 x.now) ∧ w2.cell? ⟨p, 4, none⟩ = some (.bool x.ext) ∧ w2.cell? ⟨p, 5, none⟩ = some (.bool x.soft) ∧ w2.cell? ⟨p, 6, none⟩ = some (.int .u8 x.ier) ∧ w2.cell? ⟨p, 7, none⟩ = some (.int .u8 x.lcr) ∧ w2.cell? ⟨p, 8, none⟩ = some (.int .u8 x.mcr) ∧ w2.cell? ⟨p, 9, none⟩ = some (.int .u8 x.scr) ∧ w2.cell? ⟨p, 10, none⟩ = some (.bool x.over) ∧ w2.cell? ⟨p, 11, none⟩ = some (y2) ∧ w2.cell? ⟨p, 12, none⟩ = some (y3) ∧ w2.cell? ⟨p, 13, none⟩ = some (.int .i64 x.off) ∧ w2.cell? ⟨p, 14, none⟩ = some (.int .i64 x.code)) ∧ Hid (Bs w2 v1 s.ram ∧ Bs w2 v2 s.inp ∧ Bs w2 v3 s.out ∧ PL w2 b vr vi vo s ∧ Kept [b] W w2 ∧ w2.heap[p]? = some (.cells (sCells y1 y2 y3 x) 26 (0, 0))) :=
  (state_any h hs).mono fun e w2 ⟨v1, v2, v3, he, h1, h2, h3, _, _, _, _, _, _, hl, hk⟩ => ⟨v1, v2, v3, he, cells15 (hk.row hp (by simpa using hpb)), h1, h2, h3, hl, hk, hk.row hp (by simpa using hpb)⟩
set_option maxHeartbeats 8000000 in
set_option maxRecDepth 100000 in
theorem made_any (w : World) (s : St) (hs : s.In) (A B C : Option Addr) (n m k c d e : Nat) (h1 : Rd w (.slice A n c) s.ram) (h2 : Rd w (.slice B m d) s.inp) (h3 : Rd w (.slice C k e) s.out) (hc : s.canBe = true) :
    Calls Try.prog 24 #[.agg (sCells (.slice A n c) (.slice B m d) (.slice C k e) s)] w (MadePost w s) := by
  have kA : Kept [] w (w.alloc (.cells (sCells (.slice A n c) (.slice B m d) (.slice C k e) s) 26)) := (Kept.refl [] w).alloc _
  have hrow : (w.alloc (.cells (sCells (.slice A n c) (.slice B m d) (.slice C k e) s) 26)).heap[w.heap.size]? = some (.cells (sCells (.slice A n c) (.slice B m d) (.slice C k e) s) 26 (0, 0)) := heap_alloc_new w _
  have HK := Lib.hid kA
  have HROW := Lib.hid hrow
  have HC := Lib.hid (copied_rd (w.alloc (.cells (sCells (.slice A n c) (.slice B m d) (.slice C k e) s) 26)) s _ _ _ hs.rl hs.il hs.ol (h1.keep kA (by simp)) (h2.keep kA (by simp)) (h3.keep kA (by simp)))
  have HR1 := Lib.hid h1
  have HR2 := Lib.hid h2
  have HR3 := Lib.hid h3
  have HS := Lib.hid hs
  have HB := Lib.hid hc
  clear h1 h2 h3 hs hc kA hrow
  go_enter Try.func24, Try.ntmps24
  go_wp2_with (first
    | (refine wpList_load_row rfl 26 (.tmp 1) rfl w.heap.size rfl 26 _ (0, 0) _ HROW.out Try.underlying26 rfl (by kernel_rfl) ?_)
    | (go_at_call 36; refine HC.out.mono ?_; rintro e w2 ⟨v1, v2, v3, rfl, hN⟩; have HN := Lib.hid hN; clear hN)
    | (go_at_call 41; refine (from_rd _ s HS.out v1 v2 v3 HN.out.1.rd HN.out.2.1.rd HN.out.2.2.1.rd HN.out.1.ltHeap HN.out.2.1.ltHeap HN.out.2.2.1.ltHeap HB.out).mono ?_; rintro e w3 ⟨b, vr, vi, vo, rfl, hp, hf, hk⟩; have HP := Lib.hid hp; have HF := Lib.hid hf; have HK3 := Lib.hid hk; clear hp hf hk))
  have hsz : w.heap.size < w2.heap.size := by
    have := HN.out.2.2.2.2.2.2.2.2.2.size; simp at this; omega
  have hpb : w.heap.size ≠ b := by
    have := HF.out b (by simp [foot]); omega
  have hrow2 := HK3.out.row (HN.out.2.2.2.2.2.2.2.2.2.row HROW.out (by simp)) (by simp)
  have k03 : Kept [] w w3 := (HK.out.trans HN.out.2.2.2.2.2.2.2.2.2 (by simp)).trans HK3.out (by simp)
  have hl0 := cells15 (W := w3.drew) (row_drew hrow2)
  have HST := Lib.hid (state_in (HP.out.keep0 (Kept.refl [] w3).drew) (HS.out.ok HB.out) (row_drew hrow2) hpb)
  have hkk : ∀ w4, Kept [b] w3.drew w4 → Kept [] w w4 := fun w4 q1 => k03.drew.trans q1 (fun x hx hl => by have := HF.out b (by simp [foot]); simp at hx; omega)
  have HKK := Lib.hid hkk
  have hfin : ∀ w4 w5, Kept [b] w3.drew w4 → PL w4 b vr vi vo s → Below w4.heap.size w4 w5 → MadePost w s (.returned (.tuple #[.pointer (some ⟨b, 0, none⟩), .bool true])) w5 := by
    intro w4 w5 q1 q2 q3
    have k45 : Kept [] w4 w5 := (Kept.of_below q3)
    refine ⟨b, vr, vi, vo, rfl, q2.keep0 k45, fun x hx => ?_, (hkk w4 q1).trans k45 (by simp)⟩
    have := HF.out x hx; omega
  have HFIN := Lib.hid hfin
  clear hrow2 k03 hfin hkk hsz hpb
  clear HC HN HK HROW HK3
  go_region_held3 (fun w' => w'.cell? ⟨w.heap.size, 0, none⟩ = some (.slice A n c) ∧ w'.cell? ⟨w.heap.size, 1, none⟩ = some (.int .u32 s.msip) ∧ w'.cell? ⟨w.heap.size, 2, none⟩ = some (.int .u64 s.cmp) ∧ w'.cell? ⟨w.heap.size, 3, none⟩ = some (.int .u64 s.now) ∧ w'.cell? ⟨w.heap.size, 4, none⟩ = some (.bool s.ext) ∧ w'.cell? ⟨w.heap.size, 5, none⟩ = some (.bool s.soft) ∧ w'.cell? ⟨w.heap.size, 6, none⟩ = some (.int .u8 s.ier) ∧ w'.cell? ⟨w.heap.size, 7, none⟩ = some (.int .u8 s.lcr) ∧ w'.cell? ⟨w.heap.size, 8, none⟩ = some (.int .u8 s.mcr) ∧ w'.cell? ⟨w.heap.size, 9, none⟩ = some (.int .u8 s.scr) ∧ w'.cell? ⟨w.heap.size, 10, none⟩ = some (.bool s.over) ∧ w'.cell? ⟨w.heap.size, 11, none⟩ = some (.slice B m d) ∧ w'.cell? ⟨w.heap.size, 12, none⟩ = some (.slice C k e) ∧ w'.cell? ⟨w.heap.size, 13, none⟩ = some (.int .i64 s.off) ∧ w'.cell? ⟨w.heap.size, 14, none⟩ = some (.int .i64 s.code)) (first | (with_reducible assumption) | go_keep)
    (first
      | (go_at_call 20; (with_reducible refine HST.out.mono ?_); rintro e w4 ⟨u1, u2, u3, rfl, hl4, HX⟩)
      | (go_at_call 19; refine (r_same_rd _ s _ _ _ _ _ _ HX.out.1.rd HX.out.2.1.rd HX.out.2.2.1.rd (HR1.out.keep (HKK.out _ HX.out.2.2.2.2.1) (by simp)) (HR2.out.keep (HKK.out _ HX.out.2.2.2.2.1) (by simp)) (HR3.out.keep (HKK.out _ HX.out.2.2.2.2.1) (by simp))).mono ?_; rintro e w5 ⟨rfl, hb5⟩; have hl5 := cells15 ((Kept.of_below (F := []) hb5).row HX.out.2.2.2.2.2 (by simp)); have HY := Lib.hid hb5; clear hb5))
  go_wp2
  all_goals
    go_ret2
    exact HFIN.out _ _ HX.out.2.2.2.2.1 HX.out.2.2.2.1 HY.out
end Go.Proofs.Ytkocfcgdjjdnhaa.BW
