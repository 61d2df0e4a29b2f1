/- The program's bus: State. Premise: a bus lies there. -/
import Derived.Test.YtkocfcgdjjdnhaaBusL
import Derived.Deep.RegionHeld3
import Derived.Laws.Tables
namespace Go.Proofs.Ytkocfcgdjjdnhaa.BW
open Go.RowKit
set_option linter.unusedVariables false
set_option linter.unusedSimpArgs false
section
variable {w : World} {b : Nat} {vr vi vo : Value} {s : St}
/-- What own leaves beside a bus. -/
structure OwnBy (W : World) (b : Nat) (vr vi vo : Value) (s : St) (l : List Int) (v' : Value) (w2 : World) : Prop where
  bs : Bs w2 v' l
  new : ∀ g, v'.ownBlock = some g → W.heap.size ≤ g
  kept : Kept [] W w2
  lies : PL w2 b vr vi vo s
theorem own_by {W : World} {v : Value} {l : List Int} (h : PL W b vr vi vo s) (hr : Rd W v l) (hl : l.length ≤ 140737488351232) :
    Calls Try.prog 39 #[v] W fun e w2 => ∃ A c, e = .returned (.slice A l.length c) ∧ w2.cell? ⟨b, 0, none⟩ = some vr ∧ w2.cell? ⟨b, 15, none⟩ = some (.bool s.ext) ∧ w2.cell? ⟨b, 16, none⟩ = some (.bool s.soft) ∧ W.heap.size ≤ w2.heap.size ∧ Hid (OwnBy W b vr vi vo s l (.slice A l.length c) w2) :=
  (own_any W v l hr hl).mono fun e w2 ⟨v', he, hb, hn, hk⟩ => by
    obtain ⟨A, c, rfl⟩ := hb.shape
    have h2 := h.keep0 hk
    exact ⟨A, c, he, h2.cell 0 _ rfl, h2.cell 15 _ rfl, h2.cell 16 _ rfl, hk.size, ⟨hb, hn, hk, h2⟩⟩
/-- A state of nothing. -/
abbrev zRow : Array Value := #[.slice none 0 0, .int .u32 0, .int .u64 0, .int .u64 0, .bool false, .bool false, .int .u8 0, .int .u8 0, .int .u8 0, .int .u8 0, .bool false, .slice none 0 0, .slice none 0 0, .int .i64 0, .int .i64 0]
theorem zrow_facts {W : World} {g : Nat} (h : W.heap[g]? = some (.cells zRow 26 (0, 0))) : W.cell? ⟨g, 0, none⟩ = some (.slice none 0 0) ∧ W.cell? ⟨g, 1, none⟩ = some (.int .u32 0) ∧ W.cell? ⟨g, 2, none⟩ = some (.int .u64 0) ∧ W.cell? ⟨g, 3, none⟩ = some (.int .u64 0) ∧ W.cell? ⟨g, 4, none⟩ = some (.bool false) ∧ W.cell? ⟨g, 5, none⟩ = some (.bool false) ∧ W.cell? ⟨g, 6, none⟩ = some (.int .u8 0) ∧ W.cell? ⟨g, 7, none⟩ = some (.int .u8 0) ∧ W.cell? ⟨g, 8, none⟩ = some (.int .u8 0) ∧ W.cell? ⟨g, 9, none⟩ = some (.int .u8 0) ∧ W.cell? ⟨g, 10, none⟩ = some (.bool false) ∧ W.cell? ⟨g, 11, none⟩ = some (.slice none 0 0) ∧ W.cell? ⟨g, 12, none⟩ = some (.slice none 0 0) ∧ W.cell? ⟨g, 13, none⟩ = some (.int .i64 0) ∧ W.cell? ⟨g, 14, none⟩ = some (.int .i64 0) ∧ (∀ j, W.frozen? ⟨g, j, none⟩ = false) :=
  ⟨row_cell h 0 _ rfl, row_cell h 1 _ rfl, row_cell h 2 _ rfl, row_cell h 3 _ rfl, row_cell h 4 _ rfl, row_cell h 5 _ rfl, row_cell h 6 _ rfl, row_cell h 7 _ rfl, row_cell h 8 _ rfl, row_cell h 9 _ rfl, row_cell h 10 _ rfl, row_cell h 11 _ rfl, row_cell h 12 _ rfl, row_cell h 13 _ rfl, row_cell h 14 _ rfl, fun j => frozen_of_row W g j _ _ h⟩
/-- What State leaves. -/
def StatePost (w : World) (b : Nat) (vr vi vo : Value) (s : St) (e : Ending) (w' : World) : Prop :=
  ∃ v1 v2 v3, e = .returned (.agg (sCells v1 v2 v3 s)) ∧ Bs w' v1 s.ram ∧ Bs w' v2 s.inp ∧ Bs w' v3 s.out ∧ (∀ g, v1.ownBlock = some g → w.heap.size ≤ g) ∧ (∀ g, v2.ownBlock = some g → w.heap.size ≤ g) ∧ (∀ g, v3.ownBlock = some g → w.heap.size ≤ g) ∧
    (∀ g, v1.ownBlock = some g → v2.ownBlock ≠ some g) ∧ (∀ g, v1.ownBlock = some g → v3.ownBlock ≠ some g) ∧ (∀ g, v2.ownBlock = some g → v3.ownBlock ≠ some g) ∧ PL w' b vr vi vo s ∧ Kept [b] w w'
/-- Behind the first statement of State. -/
structure StF (w W : World) (b rb sb : Nat) (vr vi vo : Value) (s : St) (v1 : Value) : Prop where
  rowR : W.heap[rb]? = some (.cells zRow 26 (0, 0))
  rowS : W.heap[sb]? = some (.cells #[v1, .int .u32 0, .int .u64 0, .int .u64 0, .bool s.ext, .bool s.soft, .int .u8 0, .int .u8 0, .int .u8 0, .int .u8 0, .bool false, .slice none 0 0, .slice none 0 0, .int .i64 0, .int .i64 0] 26 (0, 0))
  lies : PL W b vr vi vo s
  kept : Kept [] w W
  bs : Bs W v1 s.ram
  new : ∀ g, v1.ownBlock = some g → w.heap.size ≤ g ∧ g ≠ rb ∧ g ≠ sb
  r : w.heap.size ≤ rb
  s : w.heap.size ≤ sb
  ne : rb ≠ sb
theorem sCells_one (A B C : Option Addr) (n m k c d e : Nat) (s : St) : (sCells (.slice A n c) (.slice B m d) (.slice C k e) s).all (·.oneCell') = true := by simp [sCells, Value.oneCell']
/-- Behind the three first statements of State. -/
structure StG (w W : World) (b rb sb : Nat) (vr vi vo : Value) (s : St) (v1 : Value) : Prop where
  rowR : W.heap[rb]? = some (.cells zRow 26 (0, 0))
  rowS : W.heap[sb]? = some (.cells #[v1, .int .u32 s.msip, .int .u64 s.cmp, .int .u64 s.now, .bool s.ext, .bool s.soft, .int .u8 0, .int .u8 0, .int .u8 0, .int .u8 0, .bool false, .slice none 0 0, .slice none 0 0, .int .i64 s.off, .int .i64 s.code] 26 (0, 0))
  lies : PL W b vr vi vo s
  kept : Kept [] w W
  bs : Bs W v1 s.ram
  new : ∀ g, v1.ownBlock = some g → w.heap.size ≤ g ∧ g ≠ rb ∧ g ≠ sb
  r : w.heap.size ≤ rb
  s' : w.heap.size ≤ sb
  ne : rb ≠ sb
  nf : sb ∉ foot b vr vi vo
  rlt : rb < W.heap.size
theorem StG.of {w W : World} {v1 : Value} {rb sb : Nat} (F : StF w W b rb sb vr vi vo s v1) (hF : ∀ x ∈ foot b vr vi vo, x < w.heap.size) :
    StG w ((((((W.setCell ⟨sb, 13, none⟩ (.int .i64 s.off)).setCell ⟨sb, 14, none⟩ (.int .i64 s.code)).setCell ⟨sb, 1, none⟩ (.int .u32 s.msip)).setCell ⟨sb, 2, none⟩ (.int .u64 s.cmp)).setCell ⟨sb, 3, none⟩ (.int .u64 s.now)).drew.drew) b rb sb vr vi vo s v1 := by
  have r1 := row_set F.rowS 13 (.int .i64 s.off) (cs' := #[v1, .int .u32 0, .int .u64 0, .int .u64 0, .bool s.ext, .bool s.soft, .int .u8 0, .int .u8 0, .int .u8 0, .int .u8 0, .bool false, .slice none 0 0, .slice none 0 0, .int .i64 s.off, .int .i64 0]) rfl
  have r2 := row_set r1 14 (.int .i64 s.code) (cs' := #[v1, .int .u32 0, .int .u64 0, .int .u64 0, .bool s.ext, .bool s.soft, .int .u8 0, .int .u8 0, .int .u8 0, .int .u8 0, .bool false, .slice none 0 0, .slice none 0 0, .int .i64 s.off, .int .i64 s.code]) rfl
  have r3 := row_set r2 1 (.int .u32 s.msip) (cs' := #[v1, .int .u32 s.msip, .int .u64 0, .int .u64 0, .bool s.ext, .bool s.soft, .int .u8 0, .int .u8 0, .int .u8 0, .int .u8 0, .bool false, .slice none 0 0, .slice none 0 0, .int .i64 s.off, .int .i64 s.code]) rfl
  have r4 := row_set r3 2 (.int .u64 s.cmp) (cs' := #[v1, .int .u32 s.msip, .int .u64 s.cmp, .int .u64 0, .bool s.ext, .bool s.soft, .int .u8 0, .int .u8 0, .int .u8 0, .int .u8 0, .bool false, .slice none 0 0, .slice none 0 0, .int .i64 s.off, .int .i64 s.code]) rfl
  have r5 := row_set r4 3 (.int .u64 s.now) (cs' := #[v1, .int .u32 s.msip, .int .u64 s.cmp, .int .u64 s.now, .bool s.ext, .bool s.soft, .int .u8 0, .int .u8 0, .int .u8 0, .int .u8 0, .bool false, .slice none 0 0, .slice none 0 0, .int .i64 s.off, .int .i64 s.code]) rfl
  have ka : Kept [sb] W ((((((W.setCell ⟨sb, 13, none⟩ (.int .i64 s.off)).setCell ⟨sb, 14, none⟩ (.int .i64 s.code)).setCell ⟨sb, 1, none⟩ (.int .u32 s.msip)).setCell ⟨sb, 2, none⟩ (.int .u64 s.cmp)).setCell ⟨sb, 3, none⟩ (.int .u64 s.now)).drew.drew) := Kept.drew (Kept.drew (Kept.setCell (Kept.setCell (Kept.setCell (Kept.setCell (Kept.setCell (Kept.refl [sb] W) (by simp) _) (by simp) _) (by simp) _) (by simp) _) (by simp) _))
  have hsn : ∀ x ∈ foot b vr vi vo, x ∉ [sb] := fun x hx hm => by have := hF x hx; have := F.s; simp at hm; omega
  have rb' := ka.row F.rowR (by simpa using F.ne)
  exact ⟨rb', row_drew (row_drew r5), F.lies.keep ka hsn, F.kept.trans ka (fun x hx hl => by simp at hx; have := F.s; omega), F.bs.keep ka (fun g hg => by simpa using (F.new g hg).2.2), F.new, F.r, F.s, F.ne, fun hm => hsn sb hm (by simp), (Array.getElem?_eq_some_iff.1 rb').1⟩
/-- What stands behind tell. -/
theorem StG.told {w W w6 : World} {v1 vi' vo' : Value} {rb sb : Nat} (G : StG w W b rb sb vr vi vo s v1)
    (h1 : w6.heap[sb]? = some (.cells #[v1, .int .u32 s.msip, .int .u64 s.cmp, .int .u64 s.now, .bool s.ext, .bool s.soft, .int .u8 s.ier, .int .u8 s.lcr, .int .u8 s.mcr, .int .u8 s.scr, .bool s.over, vi', vo', .int .i64 s.off, .int .i64 s.code] 26 (0, 0)))
    (h2 : Bs w6 vi' s.inp) (h3 : Bs w6 vo' s.out) (h4 : ∀ g, vi'.ownBlock = some g → W.heap.size ≤ g) (h5 : ∀ g, vo'.ownBlock = some g → W.heap.size ≤ g) (h6 : ∀ g, vi'.ownBlock = some g → vo'.ownBlock ≠ some g) (h7 : PL w6 b vr vi vo s) (h8 : Kept [b, sb] W w6) (hF : ∀ x ∈ foot b vr vi vo, x < w.heap.size) (hblt : b < w.heap.size) :
    w6.heap[sb]? = some (.cells (sCells v1 vi' vo' s) 26 (0, 0)) ∧ w6.heap[rb]? = some (.cells zRow 26 (0, 0)) ∧ (w6.setRow rb (sCells v1 vi' vo' s)).heap[rb]? = some (.cells (sCells v1 vi' vo' s) 26 (0, 0)) ∧ StatePost w b vr vi vo s (.returned (.agg (sCells v1 vi' vo' s))) (w6.setRow rb (sCells v1 vi' vo' s)) := by
  have ks : Kept [rb] w6 (w6.setRow rb (sCells v1 vi' vo' s)) := (Kept.refl [rb] w6).setRow (by simp) _
  have hrb : rb ∉ [b, sb] := by have := G.r; have := G.ne; simp; omega
  have hbrb : b ≠ rb := by have := G.r; omega
  have n1 := fun g hg => G.new g hg
  have f1 : ∀ g, v1.ownBlock = some g → g < W.heap.size := fun g hg => G.bs.lt g hg
  have hrl := G.rlt
  have hw := G.kept.size
  have rb6 := h8.row G.rowR hrb
  have nfr : ∀ x ∈ foot b vr vi vo, x ∉ [rb] := fun x hx hm => by have := hF x hx; have := G.r; simp at hm; omega
  refine ⟨h1, rb6, setRow_heap w6 rb _ _ 26 (0, 0) rb6, v1, vi', vo', rfl, ?_, ?_, ?_, fun g hg => (n1 g hg).1, fun g hg => by have := h4 g hg; omega, fun g hg => by have := h5 g hg; omega, fun g hg hi => by have := f1 g hg; have := h4 g hi; omega, fun g hg hi => by have := f1 g hg; have := h5 g hi; omega, h6, h7.keep ks nfr, ?_⟩
  · exact (G.bs.keep h8 (fun g hg => by have := n1 g hg; simp; omega)).keep ks (fun g hg => by have := n1 g hg; simp; omega)
  · exact h2.keep ks (fun g hg => by have := h4 g hg; simp; omega)
  · exact h3.keep ks (fun g hg => by have := h5 g hg; simp; omega)
  · exact ((G.kept.mono (G := [b]) (by simp)).trans h8 (fun x hx hl => by have := G.s'; simp at hx ⊢; omega)).trans ks (fun x hx hl => by have := G.r; simp at hx; omega)
theorem StF.ofB {w w2 : World} {v1 : Value} {Z : Array Value} (O : OwnBy ((w.alloc (.cells zRow 26)).drew) b vr vi vo s s.ram v1 w2) (hZ : Z = #[v1, .int .u32 0, .int .u64 0, .int .u64 0, .bool s.ext, .bool s.soft, .int .u8 0, .int .u8 0, .int .u8 0, .int .u8 0, .bool false, .slice none 0 0, .slice none 0 0, .int .i64 0, .int .i64 0]) :
    StF w (w2.alloc (.cells Z 26)) b w.heap.size w2.heap.size vr vi vo s v1 := by
  have hr0 : ((w.alloc (.cells zRow 26)).drew).heap[w.heap.size]? = some (.cells zRow 26 (0, 0)) := row_drew (heap_alloc_new w _)
  have hs0 : w.heap.size + 1 ≤ w2.heap.size := by have := O.kept.size; simpa using this
  have ka : Kept [] w2 (w2.alloc (.cells Z 26)) := (Kept.refl [] w2).alloc _
  have hn : ∀ g, v1.ownBlock = some g → w.heap.size + 1 ≤ g ∧ g < w2.heap.size := fun g hg => ⟨by have := O.new g hg; simpa using this, O.bs.lt g hg⟩
  refine ⟨ka.row (O.kept.row hr0 (by simp)) (by simp), by rw [heap_alloc_new, hZ], O.lies.keep0 ka, ((((Kept.refl [] w).alloc _).drew).trans O.kept (by simp)).trans ka (by simp), O.bs.keep ka (by simp), fun g hg => ?_, Nat.le_refl _, by omega, by omega⟩
  have := hn g hg; omega
set_option maxHeartbeats 4000000 in
theorem StF.ofA {w w2 : World} {v1 : Value} (O : OwnBy (((w.alloc (.cells zRow 26)).alloc (.cells zRow 26)).drew) b vr vi vo s s.ram v1 w2) (hF : ∀ x ∈ foot b vr vi vo, x < w.heap.size) :
    StF w (((((((((((((((w2.setCell ⟨w.heap.size + 1, 0, none⟩ (v1)).setCell ⟨w.heap.size + 1, 1, none⟩ (.int .u32 0)).setCell ⟨w.heap.size + 1, 2, none⟩ (.int .u64 0)).setCell ⟨w.heap.size + 1, 3, none⟩ (.int .u64 0)).setCell ⟨w.heap.size + 1, 4, none⟩ (.bool s.ext)).setCell ⟨w.heap.size + 1, 5, none⟩ (.bool s.soft)).setCell ⟨w.heap.size + 1, 6, none⟩ (.int .u8 0)).setCell ⟨w.heap.size + 1, 7, none⟩ (.int .u8 0)).setCell ⟨w.heap.size + 1, 8, none⟩ (.int .u8 0)).setCell ⟨w.heap.size + 1, 9, none⟩ (.int .u8 0)).setCell ⟨w.heap.size + 1, 10, none⟩ (.bool false)).setCell ⟨w.heap.size + 1, 11, none⟩ (.slice none 0 0)).setCell ⟨w.heap.size + 1, 12, none⟩ (.slice none 0 0)).setCell ⟨w.heap.size + 1, 13, none⟩ (.int .i64 0)).setCell ⟨w.heap.size + 1, 14, none⟩ (.int .i64 0)) b w.heap.size (w.heap.size + 1) vr vi vo s v1 := by
  have hr0 : (((w.alloc (.cells zRow 26)).alloc (.cells zRow 26)).drew).heap[w.heap.size]? = some (.cells zRow 26 (0, 0)) := row_drew (heap_alloc2_old w _ _)
  have hr1 : (((w.alloc (.cells zRow 26)).alloc (.cells zRow 26)).drew).heap[w.heap.size + 1]? = some (.cells zRow 26 (0, 0)) := row_drew (heap_alloc2_new w _ _)
  have h0 := O.kept.row hr1 (by simp)
  have ka := (Kept.setCell (Kept.setCell (Kept.setCell (Kept.setCell (Kept.setCell (Kept.setCell (Kept.setCell (Kept.setCell (Kept.setCell (Kept.setCell (Kept.setCell (Kept.setCell (Kept.setCell (Kept.setCell (Kept.setCell (Kept.refl [w.heap.size + 1] w2) (p := ⟨w.heap.size + 1, 0, none⟩) (by simp) (v1)) (p := ⟨w.heap.size + 1, 1, none⟩) (by simp) (.int .u32 0)) (p := ⟨w.heap.size + 1, 2, none⟩) (by simp) (.int .u64 0)) (p := ⟨w.heap.size + 1, 3, none⟩) (by simp) (.int .u64 0)) (p := ⟨w.heap.size + 1, 4, none⟩) (by simp) (.bool s.ext)) (p := ⟨w.heap.size + 1, 5, none⟩) (by simp) (.bool s.soft)) (p := ⟨w.heap.size + 1, 6, none⟩) (by simp) (.int .u8 0)) (p := ⟨w.heap.size + 1, 7, none⟩) (by simp) (.int .u8 0)) (p := ⟨w.heap.size + 1, 8, none⟩) (by simp) (.int .u8 0)) (p := ⟨w.heap.size + 1, 9, none⟩) (by simp) (.int .u8 0)) (p := ⟨w.heap.size + 1, 10, none⟩) (by simp) (.bool false)) (p := ⟨w.heap.size + 1, 11, none⟩) (by simp) (.slice none 0 0)) (p := ⟨w.heap.size + 1, 12, none⟩) (by simp) (.slice none 0 0)) (p := ⟨w.heap.size + 1, 13, none⟩) (by simp) (.int .i64 0)) (p := ⟨w.heap.size + 1, 14, none⟩) (by simp) (.int .i64 0))
  have q0 : (w2.setCell ⟨w.heap.size + 1, 0, none⟩ (v1)).heap[w.heap.size + 1]? = some (.cells #[v1, .int .u32 0, .int .u64 0, .int .u64 0, .bool false, .bool false, .int .u8 0, .int .u8 0, .int .u8 0, .int .u8 0, .bool false, .slice none 0 0, .slice none 0 0, .int .i64 0, .int .i64 0] 26 (0, 0)) := row_set h0 0 _ rfl
  have q1 : ((w2.setCell ⟨w.heap.size + 1, 0, none⟩ (v1)).setCell ⟨w.heap.size + 1, 1, none⟩ (.int .u32 0)).heap[w.heap.size + 1]? = some (.cells #[v1, .int .u32 0, .int .u64 0, .int .u64 0, .bool false, .bool false, .int .u8 0, .int .u8 0, .int .u8 0, .int .u8 0, .bool false, .slice none 0 0, .slice none 0 0, .int .i64 0, .int .i64 0] 26 (0, 0)) := row_set q0 1 _ rfl
  have q2 : (((w2.setCell ⟨w.heap.size + 1, 0, none⟩ (v1)).setCell ⟨w.heap.size + 1, 1, none⟩ (.int .u32 0)).setCell ⟨w.heap.size + 1, 2, none⟩ (.int .u64 0)).heap[w.heap.size + 1]? = some (.cells #[v1, .int .u32 0, .int .u64 0, .int .u64 0, .bool false, .bool false, .int .u8 0, .int .u8 0, .int .u8 0, .int .u8 0, .bool false, .slice none 0 0, .slice none 0 0, .int .i64 0, .int .i64 0] 26 (0, 0)) := row_set q1 2 _ rfl
  have q3 : ((((w2.setCell ⟨w.heap.size + 1, 0, none⟩ (v1)).setCell ⟨w.heap.size + 1, 1, none⟩ (.int .u32 0)).setCell ⟨w.heap.size + 1, 2, none⟩ (.int .u64 0)).setCell ⟨w.heap.size + 1, 3, none⟩ (.int .u64 0)).heap[w.heap.size + 1]? = some (.cells #[v1, .int .u32 0, .int .u64 0, .int .u64 0, .bool false, .bool false, .int .u8 0, .int .u8 0, .int .u8 0, .int .u8 0, .bool false, .slice none 0 0, .slice none 0 0, .int .i64 0, .int .i64 0] 26 (0, 0)) := row_set q2 3 _ rfl
  have q4 : (((((w2.setCell ⟨w.heap.size + 1, 0, none⟩ (v1)).setCell ⟨w.heap.size + 1, 1, none⟩ (.int .u32 0)).setCell ⟨w.heap.size + 1, 2, none⟩ (.int .u64 0)).setCell ⟨w.heap.size + 1, 3, none⟩ (.int .u64 0)).setCell ⟨w.heap.size + 1, 4, none⟩ (.bool s.ext)).heap[w.heap.size + 1]? = some (.cells #[v1, .int .u32 0, .int .u64 0, .int .u64 0, .bool s.ext, .bool false, .int .u8 0, .int .u8 0, .int .u8 0, .int .u8 0, .bool false, .slice none 0 0, .slice none 0 0, .int .i64 0, .int .i64 0] 26 (0, 0)) := row_set q3 4 _ rfl
  have q5 : ((((((w2.setCell ⟨w.heap.size + 1, 0, none⟩ (v1)).setCell ⟨w.heap.size + 1, 1, none⟩ (.int .u32 0)).setCell ⟨w.heap.size + 1, 2, none⟩ (.int .u64 0)).setCell ⟨w.heap.size + 1, 3, none⟩ (.int .u64 0)).setCell ⟨w.heap.size + 1, 4, none⟩ (.bool s.ext)).setCell ⟨w.heap.size + 1, 5, none⟩ (.bool s.soft)).heap[w.heap.size + 1]? = some (.cells #[v1, .int .u32 0, .int .u64 0, .int .u64 0, .bool s.ext, .bool s.soft, .int .u8 0, .int .u8 0, .int .u8 0, .int .u8 0, .bool false, .slice none 0 0, .slice none 0 0, .int .i64 0, .int .i64 0] 26 (0, 0)) := row_set q4 5 _ rfl
  have q6 : (((((((w2.setCell ⟨w.heap.size + 1, 0, none⟩ (v1)).setCell ⟨w.heap.size + 1, 1, none⟩ (.int .u32 0)).setCell ⟨w.heap.size + 1, 2, none⟩ (.int .u64 0)).setCell ⟨w.heap.size + 1, 3, none⟩ (.int .u64 0)).setCell ⟨w.heap.size + 1, 4, none⟩ (.bool s.ext)).setCell ⟨w.heap.size + 1, 5, none⟩ (.bool s.soft)).setCell ⟨w.heap.size + 1, 6, none⟩ (.int .u8 0)).heap[w.heap.size + 1]? = some (.cells #[v1, .int .u32 0, .int .u64 0, .int .u64 0, .bool s.ext, .bool s.soft, .int .u8 0, .int .u8 0, .int .u8 0, .int .u8 0, .bool false, .slice none 0 0, .slice none 0 0, .int .i64 0, .int .i64 0] 26 (0, 0)) := row_set q5 6 _ rfl
  have q7 : ((((((((w2.setCell ⟨w.heap.size + 1, 0, none⟩ (v1)).setCell ⟨w.heap.size + 1, 1, none⟩ (.int .u32 0)).setCell ⟨w.heap.size + 1, 2, none⟩ (.int .u64 0)).setCell ⟨w.heap.size + 1, 3, none⟩ (.int .u64 0)).setCell ⟨w.heap.size + 1, 4, none⟩ (.bool s.ext)).setCell ⟨w.heap.size + 1, 5, none⟩ (.bool s.soft)).setCell ⟨w.heap.size + 1, 6, none⟩ (.int .u8 0)).setCell ⟨w.heap.size + 1, 7, none⟩ (.int .u8 0)).heap[w.heap.size + 1]? = some (.cells #[v1, .int .u32 0, .int .u64 0, .int .u64 0, .bool s.ext, .bool s.soft, .int .u8 0, .int .u8 0, .int .u8 0, .int .u8 0, .bool false, .slice none 0 0, .slice none 0 0, .int .i64 0, .int .i64 0] 26 (0, 0)) := row_set q6 7 _ rfl
  have q8 : (((((((((w2.setCell ⟨w.heap.size + 1, 0, none⟩ (v1)).setCell ⟨w.heap.size + 1, 1, none⟩ (.int .u32 0)).setCell ⟨w.heap.size + 1, 2, none⟩ (.int .u64 0)).setCell ⟨w.heap.size + 1, 3, none⟩ (.int .u64 0)).setCell ⟨w.heap.size + 1, 4, none⟩ (.bool s.ext)).setCell ⟨w.heap.size + 1, 5, none⟩ (.bool s.soft)).setCell ⟨w.heap.size + 1, 6, none⟩ (.int .u8 0)).setCell ⟨w.heap.size + 1, 7, none⟩ (.int .u8 0)).setCell ⟨w.heap.size + 1, 8, none⟩ (.int .u8 0)).heap[w.heap.size + 1]? = some (.cells #[v1, .int .u32 0, .int .u64 0, .int .u64 0, .bool s.ext, .bool s.soft, .int .u8 0, .int .u8 0, .int .u8 0, .int .u8 0, .bool false, .slice none 0 0, .slice none 0 0, .int .i64 0, .int .i64 0] 26 (0, 0)) := row_set q7 8 _ rfl
  have q9 : ((((((((((w2.setCell ⟨w.heap.size + 1, 0, none⟩ (v1)).setCell ⟨w.heap.size + 1, 1, none⟩ (.int .u32 0)).setCell ⟨w.heap.size + 1, 2, none⟩ (.int .u64 0)).setCell ⟨w.heap.size + 1, 3, none⟩ (.int .u64 0)).setCell ⟨w.heap.size + 1, 4, none⟩ (.bool s.ext)).setCell ⟨w.heap.size + 1, 5, none⟩ (.bool s.soft)).setCell ⟨w.heap.size + 1, 6, none⟩ (.int .u8 0)).setCell ⟨w.heap.size + 1, 7, none⟩ (.int .u8 0)).setCell ⟨w.heap.size + 1, 8, none⟩ (.int .u8 0)).setCell ⟨w.heap.size + 1, 9, none⟩ (.int .u8 0)).heap[w.heap.size + 1]? = some (.cells #[v1, .int .u32 0, .int .u64 0, .int .u64 0, .bool s.ext, .bool s.soft, .int .u8 0, .int .u8 0, .int .u8 0, .int .u8 0, .bool false, .slice none 0 0, .slice none 0 0, .int .i64 0, .int .i64 0] 26 (0, 0)) := row_set q8 9 _ rfl
  have q10 : (((((((((((w2.setCell ⟨w.heap.size + 1, 0, none⟩ (v1)).setCell ⟨w.heap.size + 1, 1, none⟩ (.int .u32 0)).setCell ⟨w.heap.size + 1, 2, none⟩ (.int .u64 0)).setCell ⟨w.heap.size + 1, 3, none⟩ (.int .u64 0)).setCell ⟨w.heap.size + 1, 4, none⟩ (.bool s.ext)).setCell ⟨w.heap.size + 1, 5, none⟩ (.bool s.soft)).setCell ⟨w.heap.size + 1, 6, none⟩ (.int .u8 0)).setCell ⟨w.heap.size + 1, 7, none⟩ (.int .u8 0)).setCell ⟨w.heap.size + 1, 8, none⟩ (.int .u8 0)).setCell ⟨w.heap.size + 1, 9, none⟩ (.int .u8 0)).setCell ⟨w.heap.size + 1, 10, none⟩ (.bool false)).heap[w.heap.size + 1]? = some (.cells #[v1, .int .u32 0, .int .u64 0, .int .u64 0, .bool s.ext, .bool s.soft, .int .u8 0, .int .u8 0, .int .u8 0, .int .u8 0, .bool false, .slice none 0 0, .slice none 0 0, .int .i64 0, .int .i64 0] 26 (0, 0)) := row_set q9 10 _ rfl
  have q11 : ((((((((((((w2.setCell ⟨w.heap.size + 1, 0, none⟩ (v1)).setCell ⟨w.heap.size + 1, 1, none⟩ (.int .u32 0)).setCell ⟨w.heap.size + 1, 2, none⟩ (.int .u64 0)).setCell ⟨w.heap.size + 1, 3, none⟩ (.int .u64 0)).setCell ⟨w.heap.size + 1, 4, none⟩ (.bool s.ext)).setCell ⟨w.heap.size + 1, 5, none⟩ (.bool s.soft)).setCell ⟨w.heap.size + 1, 6, none⟩ (.int .u8 0)).setCell ⟨w.heap.size + 1, 7, none⟩ (.int .u8 0)).setCell ⟨w.heap.size + 1, 8, none⟩ (.int .u8 0)).setCell ⟨w.heap.size + 1, 9, none⟩ (.int .u8 0)).setCell ⟨w.heap.size + 1, 10, none⟩ (.bool false)).setCell ⟨w.heap.size + 1, 11, none⟩ (.slice none 0 0)).heap[w.heap.size + 1]? = some (.cells #[v1, .int .u32 0, .int .u64 0, .int .u64 0, .bool s.ext, .bool s.soft, .int .u8 0, .int .u8 0, .int .u8 0, .int .u8 0, .bool false, .slice none 0 0, .slice none 0 0, .int .i64 0, .int .i64 0] 26 (0, 0)) := row_set q10 11 _ rfl
  have q12 : (((((((((((((w2.setCell ⟨w.heap.size + 1, 0, none⟩ (v1)).setCell ⟨w.heap.size + 1, 1, none⟩ (.int .u32 0)).setCell ⟨w.heap.size + 1, 2, none⟩ (.int .u64 0)).setCell ⟨w.heap.size + 1, 3, none⟩ (.int .u64 0)).setCell ⟨w.heap.size + 1, 4, none⟩ (.bool s.ext)).setCell ⟨w.heap.size + 1, 5, none⟩ (.bool s.soft)).setCell ⟨w.heap.size + 1, 6, none⟩ (.int .u8 0)).setCell ⟨w.heap.size + 1, 7, none⟩ (.int .u8 0)).setCell ⟨w.heap.size + 1, 8, none⟩ (.int .u8 0)).setCell ⟨w.heap.size + 1, 9, none⟩ (.int .u8 0)).setCell ⟨w.heap.size + 1, 10, none⟩ (.bool false)).setCell ⟨w.heap.size + 1, 11, none⟩ (.slice none 0 0)).setCell ⟨w.heap.size + 1, 12, none⟩ (.slice none 0 0)).heap[w.heap.size + 1]? = some (.cells #[v1, .int .u32 0, .int .u64 0, .int .u64 0, .bool s.ext, .bool s.soft, .int .u8 0, .int .u8 0, .int .u8 0, .int .u8 0, .bool false, .slice none 0 0, .slice none 0 0, .int .i64 0, .int .i64 0] 26 (0, 0)) := row_set q11 12 _ rfl
  have q13 : ((((((((((((((w2.setCell ⟨w.heap.size + 1, 0, none⟩ (v1)).setCell ⟨w.heap.size + 1, 1, none⟩ (.int .u32 0)).setCell ⟨w.heap.size + 1, 2, none⟩ (.int .u64 0)).setCell ⟨w.heap.size + 1, 3, none⟩ (.int .u64 0)).setCell ⟨w.heap.size + 1, 4, none⟩ (.bool s.ext)).setCell ⟨w.heap.size + 1, 5, none⟩ (.bool s.soft)).setCell ⟨w.heap.size + 1, 6, none⟩ (.int .u8 0)).setCell ⟨w.heap.size + 1, 7, none⟩ (.int .u8 0)).setCell ⟨w.heap.size + 1, 8, none⟩ (.int .u8 0)).setCell ⟨w.heap.size + 1, 9, none⟩ (.int .u8 0)).setCell ⟨w.heap.size + 1, 10, none⟩ (.bool false)).setCell ⟨w.heap.size + 1, 11, none⟩ (.slice none 0 0)).setCell ⟨w.heap.size + 1, 12, none⟩ (.slice none 0 0)).setCell ⟨w.heap.size + 1, 13, none⟩ (.int .i64 0)).heap[w.heap.size + 1]? = some (.cells #[v1, .int .u32 0, .int .u64 0, .int .u64 0, .bool s.ext, .bool s.soft, .int .u8 0, .int .u8 0, .int .u8 0, .int .u8 0, .bool false, .slice none 0 0, .slice none 0 0, .int .i64 0, .int .i64 0] 26 (0, 0)) := row_set q12 13 _ rfl
  have q14 : (((((((((((((((w2.setCell ⟨w.heap.size + 1, 0, none⟩ (v1)).setCell ⟨w.heap.size + 1, 1, none⟩ (.int .u32 0)).setCell ⟨w.heap.size + 1, 2, none⟩ (.int .u64 0)).setCell ⟨w.heap.size + 1, 3, none⟩ (.int .u64 0)).setCell ⟨w.heap.size + 1, 4, none⟩ (.bool s.ext)).setCell ⟨w.heap.size + 1, 5, none⟩ (.bool s.soft)).setCell ⟨w.heap.size + 1, 6, none⟩ (.int .u8 0)).setCell ⟨w.heap.size + 1, 7, none⟩ (.int .u8 0)).setCell ⟨w.heap.size + 1, 8, none⟩ (.int .u8 0)).setCell ⟨w.heap.size + 1, 9, none⟩ (.int .u8 0)).setCell ⟨w.heap.size + 1, 10, none⟩ (.bool false)).setCell ⟨w.heap.size + 1, 11, none⟩ (.slice none 0 0)).setCell ⟨w.heap.size + 1, 12, none⟩ (.slice none 0 0)).setCell ⟨w.heap.size + 1, 13, none⟩ (.int .i64 0)).setCell ⟨w.heap.size + 1, 14, none⟩ (.int .i64 0)).heap[w.heap.size + 1]? = some (.cells #[v1, .int .u32 0, .int .u64 0, .int .u64 0, .bool s.ext, .bool s.soft, .int .u8 0, .int .u8 0, .int .u8 0, .int .u8 0, .bool false, .slice none 0 0, .slice none 0 0, .int .i64 0, .int .i64 0] 26 (0, 0)) := row_set q13 14 _ rfl
  have hn : ∀ g, v1.ownBlock = some g → w.heap.size + 2 ≤ g := fun g hg => by have := O.new g hg; simpa using this
  refine ⟨ka.row (O.kept.row hr0 (by simp)) (by simp), q14, O.lies.keep ka (fun x hx => by have := hF x hx; simp; omega), ?_, O.bs.keep ka (fun g hg => by have := hn g hg; simp; omega), fun g hg => by have := hn g hg; omega, Nat.le_refl _, by omega, by omega⟩
  exact (((((Kept.refl [] w).alloc _).alloc _).drew).trans O.kept (by simp)).trans ka (fun x hx hl => by simp at hx; omega)
set_option maxHeartbeats 8000000 in
set_option maxRecDepth 100000 in
theorem state_any (h : PL w b vr vi vo s) (hs : s.Ok) : Calls Try.prog 20 #[.pointer (some ⟨b, 0, none⟩)] w (StatePost w b vr vi vo s) := by
  have hlt : b < w.heap.size := h.lt b (by simp [foot])
  have hn1 : ¬ w.heap.size + 1 = b := by omega
  have hn2 : ¬ b = w.heap.size + 1 := by omega
  have hn3 : ¬ w.heap.size = b := by omega
  have hn4 : ¬ b = w.heap.size := by omega
  have hrl : s.ram.length ≤ 140737488351232 := by have := hs.r1; omega
  have hkA : Kept [] w (((w.alloc (.cells zRow 26)).alloc (.cells zRow 26)).drew) := (((Kept.refl [] w).alloc _).alloc _).drew
  have hA : PL (((w.alloc (.cells zRow 26)).alloc (.cells zRow 26)).drew) b vr vi vo s := h.keep0 hkA
  have hr0 : (((w.alloc (.cells zRow 26)).alloc (.cells zRow 26)).drew).heap[w.heap.size]? = some (.cells zRow 26 (0, 0)) := row_drew (heap_alloc2_old w _ _)
  have hr1 : (((w.alloc (.cells zRow 26)).alloc (.cells zRow 26)).drew).heap[w.heap.size + 1]? = some (.cells zRow 26 (0, 0)) := row_drew (heap_alloc2_new w _ _)
  have hB : PL ((w.alloc (.cells zRow 26)).drew) b vr vi vo s := h.keep0 ((Kept.refl [] w).alloc _).drew
  have HB := Lib.hid hB
  have HR0 := Lib.hid hr0
  have HR1 := Lib.hid hr1
  have c0 : w.cell? ⟨b, 0, none⟩ = some vr := h.cell 0 _ rfl
  have c15 : w.cell? ⟨b, 15, none⟩ = some (.bool s.ext) := h.cell 15 _ rfl
  have c16 : w.cell? ⟨b, 16, none⟩ = some (.bool s.soft) := h.cell 16 _ rfl
  have HA := Lib.hid hA
  have HFT := Lib.hid h.lt
  have HKA := Lib.hid hkA
  clear h hA hB hkA hr0 hr1
  go_enter Try.func20, Try.ntmps20
  go_wp2
  go_region_held3 (fun w' => w'.cell? ⟨b, 0, none⟩ = some vr ∧ w'.cell? ⟨b, 15, none⟩ = some (.bool s.ext) ∧ w'.cell? ⟨b, 16, none⟩ = some (.bool s.soft)) (first | (refine ⟨?_, ?_, ?_⟩ <;> with_reducible assumption) | go_keep)
    (first
      | (go_at_call 39; (with_reducible refine (own_by HA.out HA.out.ram.rd hrl).mono ?_); rintro e w2 ⟨A2, c2, rfl, e0, e15, e16, hsz, HO2⟩; have HQ1 := Lib.hid (HO2.out.kept.row HR1.out (by simp)); obtain ⟨y0, y1, y2, y3, y4, y5, y6, y7, y8, y9, y10, y11, y12, y13, y14, zz⟩ := zrow_facts HQ1.out)
      | (go_at_call 39; (with_reducible refine (own_by HB.out HB.out.ram.rd hrl).mono ?_); rintro e w2 ⟨A2, c2, rfl, e0, e15, e16, hsz, HO2⟩))
  · go_wp2
    have hF := StF.ofB HO2.out rfl
    generalize hW : w2.alloc (.cells #[.slice A2 s.ram.length c2, .int .u32 0, .int .u64 0, .int .u64 0, .bool s.ext, .bool s.soft, .int .u8 0, .int .u8 0, .int .u8 0, .int .u8 0, .bool false, .slice none 0 0, .slice none 0 0, .int .i64 0, .int .i64 0] 26) = W at hF ⊢
    clear hW
    generalize w2.heap.size = sb at hF ⊢
    clear HO2
    clear e0 e15 e16 c0 c15 c16 HA HB HR0 HR1 HKA hsz
    have HF := Lib.hid hF
    have hsb1 : ¬ b = sb := fun e => by have := hF.s; omega
    have hsb2 : ¬ sb = b := fun e => by have := hF.s; omega
    have c1 : W.cell? ⟨b, 1, none⟩ = some (.int .i64 s.off) := hF.lies.cell 1 _ rfl
    have c2' : W.cell? ⟨b, 2, none⟩ = some (.int .i64 s.code) := hF.lies.cell 2 _ rfl
    have c3 : W.cell? ⟨b, 3, none⟩ = some (.int .u32 s.msip) := hF.lies.cell 3 _ rfl
    have c4 : W.cell? ⟨b, 4, none⟩ = some (.int .u64 s.cmp) := hF.lies.cell 4 _ rfl
    have c5 : W.cell? ⟨b, 5, none⟩ = some (.int .u64 s.now) := hF.lies.cell 5 _ rfl
    have x1 := row_cell hF.rowS 1 (.int .u32 0) rfl
    have x2 := row_cell hF.rowS 2 (.int .u64 0) rfl
    have x3 := row_cell hF.rowS 3 (.int .u64 0) rfl
    have x13 := row_cell hF.rowS 13 (.int .i64 0) rfl
    have x14 := row_cell hF.rowS 14 (.int .i64 0) rfl
    have zz : ∀ j, W.frozen? ⟨sb, j, none⟩ = false := fun j => frozen_of_row W sb j _ _ hF.rowS
    clear hF
    go_region_held3 (fun w' => w'.cell? ⟨b, 1, none⟩ = some (.int .i64 s.off) ∧ w'.cell? ⟨b, 2, none⟩ = some (.int .i64 s.code)) (go_keep) (fail)
    go_wp2
    go_region_held3 (fun w' => w'.cell? ⟨b, 3, none⟩ = some (.int .u32 s.msip) ∧ w'.cell? ⟨b, 4, none⟩ = some (.int .u64 s.cmp) ∧ w'.cell? ⟨b, 5, none⟩ = some (.int .u64 s.now)) (go_keep) (fail)
    have hW5 : StG w ((((((W.setCell ⟨sb, 13, none⟩ (.int .i64 s.off)).setCell ⟨sb, 14, none⟩ (.int .i64 s.code)).setCell ⟨sb, 1, none⟩ (.int .u32 s.msip)).setCell ⟨sb, 2, none⟩ (.int .u64 s.cmp)).setCell ⟨sb, 3, none⟩ (.int .u64 s.now)).drew.drew) b w.heap.size sb vr vi vo s (.slice A2 s.ram.length c2) := StG.of HF.out HFT.out
    have HG := Lib.hid hW5
    clear hW5
    go_wp2_with (first | (go_at_call 40; refine (tell_any HG.out.lies hs sb _ _ _ _ _ _ _ _ _ _ _ _ _ _ _ HG.out.rowS HG.out.nf).mono ?_; rintro e w6 ⟨vi', vo', rfl, ht1, ht2, ht3, ht4, ht5, ht6, ht7, ht8⟩; obtain ⟨A3, c3', rfl⟩ := ht2.shape; obtain ⟨A4, c4', rfl⟩ := ht3.shape; have HS6 := Lib.hid (StG.told HG.out ht1 ht2 ht3 ht4 ht5 ht6 ht7 ht8 HFT.out hlt); clear ht1 ht2 ht3 ht4 ht5 ht6 ht7 ht8) | (refine wpList_load_row rfl 26 (.tmp 3) rfl sb rfl 26 _ (0, 0) _ HS6.out.1 Try.underlying26 rfl (by kernel_rfl) ?_) | (refine wpList_store_row rfl 26 (.tmp 2) (.tmp 53) rfl w.heap.size _ rfl rfl 26 _ HS6.out.2.1 (by kernel_rfl) rfl (sCells_one _ _ _ _ _ _ _ _ _ _) ?_))
    exact bodyPost_ret (results_cell_row rfl _ _ w.heap.size 26 _ (0, 0) _ rfl HS6.out.2.2.1 Try.underlying26 rfl (by kernel_rfl)) rfl HS6.out.2.2.2
  · go_wp2
    have hF := StF.ofA HO2.out HFT.out
    generalize hW : (((((((((((((((w2.setCell ⟨w.heap.size + 1, 0, none⟩ (.slice A2 s.ram.length c2)).setCell ⟨w.heap.size + 1, 1, none⟩ (.int .u32 0)).setCell ⟨w.heap.size + 1, 2, none⟩ (.int .u64 0)).setCell ⟨w.heap.size + 1, 3, none⟩ (.int .u64 0)).setCell ⟨w.heap.size + 1, 4, none⟩ (.bool s.ext)).setCell ⟨w.heap.size + 1, 5, none⟩ (.bool s.soft)).setCell ⟨w.heap.size + 1, 6, none⟩ (.int .u8 0)).setCell ⟨w.heap.size + 1, 7, none⟩ (.int .u8 0)).setCell ⟨w.heap.size + 1, 8, none⟩ (.int .u8 0)).setCell ⟨w.heap.size + 1, 9, none⟩ (.int .u8 0)).setCell ⟨w.heap.size + 1, 10, none⟩ (.bool false)).setCell ⟨w.heap.size + 1, 11, none⟩ (.slice none 0 0)).setCell ⟨w.heap.size + 1, 12, none⟩ (.slice none 0 0)).setCell ⟨w.heap.size + 1, 13, none⟩ (.int .i64 0)).setCell ⟨w.heap.size + 1, 14, none⟩ (.int .i64 0)) = W at hF ⊢
    clear hW
    generalize w.heap.size + 1 = sb at hF ⊢
    clear HO2 HQ1 y0 y1 y2 y3 y4 y5 y6 y7 y8 y9 y10 y11 y12 y13 y14 zz
    clear e0 e15 e16 c0 c15 c16 HA HB HR0 HR1 HKA hsz
    have HF := Lib.hid hF
    have hsb1 : ¬ b = sb := fun e => by have := hF.s; omega
    have hsb2 : ¬ sb = b := fun e => by have := hF.s; omega
    have c1 : W.cell? ⟨b, 1, none⟩ = some (.int .i64 s.off) := hF.lies.cell 1 _ rfl
    have c2' : W.cell? ⟨b, 2, none⟩ = some (.int .i64 s.code) := hF.lies.cell 2 _ rfl
    have c3 : W.cell? ⟨b, 3, none⟩ = some (.int .u32 s.msip) := hF.lies.cell 3 _ rfl
    have c4 : W.cell? ⟨b, 4, none⟩ = some (.int .u64 s.cmp) := hF.lies.cell 4 _ rfl
    have c5 : W.cell? ⟨b, 5, none⟩ = some (.int .u64 s.now) := hF.lies.cell 5 _ rfl
    have x1 := row_cell hF.rowS 1 (.int .u32 0) rfl
    have x2 := row_cell hF.rowS 2 (.int .u64 0) rfl
    have x3 := row_cell hF.rowS 3 (.int .u64 0) rfl
    have x13 := row_cell hF.rowS 13 (.int .i64 0) rfl
    have x14 := row_cell hF.rowS 14 (.int .i64 0) rfl
    have zz : ∀ j, W.frozen? ⟨sb, j, none⟩ = false := fun j => frozen_of_row W sb j _ _ hF.rowS
    clear hF
    go_region_held3 (fun w' => w'.cell? ⟨b, 1, none⟩ = some (.int .i64 s.off) ∧ w'.cell? ⟨b, 2, none⟩ = some (.int .i64 s.code)) (go_keep) (fail)
    go_wp2
    go_region_held3 (fun w' => w'.cell? ⟨b, 3, none⟩ = some (.int .u32 s.msip) ∧ w'.cell? ⟨b, 4, none⟩ = some (.int .u64 s.cmp) ∧ w'.cell? ⟨b, 5, none⟩ = some (.int .u64 s.now)) (go_keep) (fail)
    have hW5 : StG w ((((((W.setCell ⟨sb, 13, none⟩ (.int .i64 s.off)).setCell ⟨sb, 14, none⟩ (.int .i64 s.code)).setCell ⟨sb, 1, none⟩ (.int .u32 s.msip)).setCell ⟨sb, 2, none⟩ (.int .u64 s.cmp)).setCell ⟨sb, 3, none⟩ (.int .u64 s.now)).drew.drew) b w.heap.size sb vr vi vo s (.slice A2 s.ram.length c2) := StG.of HF.out HFT.out
    have HG := Lib.hid hW5
    clear hW5
    go_wp2_with (first | (go_at_call 40; refine (tell_any HG.out.lies hs sb _ _ _ _ _ _ _ _ _ _ _ _ _ _ _ HG.out.rowS HG.out.nf).mono ?_; rintro e w6 ⟨vi', vo', rfl, ht1, ht2, ht3, ht4, ht5, ht6, ht7, ht8⟩; obtain ⟨A3, c3', rfl⟩ := ht2.shape; obtain ⟨A4, c4', rfl⟩ := ht3.shape; have HS6 := Lib.hid (StG.told HG.out ht1 ht2 ht3 ht4 ht5 ht6 ht7 ht8 HFT.out hlt); clear ht1 ht2 ht3 ht4 ht5 ht6 ht7 ht8) | (refine wpList_load_row rfl 26 (.tmp 3) rfl sb rfl 26 _ (0, 0) _ HS6.out.1 Try.underlying26 rfl (by kernel_rfl) ?_) | (refine wpList_store_row rfl 26 (.tmp 2) (.tmp 53) rfl w.heap.size _ rfl rfl 26 _ HS6.out.2.1 (by kernel_rfl) rfl (sCells_one _ _ _ _ _ _ _ _ _ _) ?_))
    exact bodyPost_ret (results_cell_row rfl _ _ w.heap.size 26 _ (0, 0) _ rfl HS6.out.2.2.1 Try.underlying26 rfl (by kernel_rfl)) rfl HS6.out.2.2.2
end
end Go.Proofs.Ytkocfcgdjjdnhaa.BW
