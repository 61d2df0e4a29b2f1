/- The statements' word 'plays': a story played in both buses. Premise: the story can be read. -/
import Derived.Test.YtkocfcgdjjdnhaaPairE
import Derived.Deep.MidRow
namespace Go.Proofs.Ytkocfcgdjjdnhaa.BW
open Go.RowKit
set_option linter.unusedVariables false
set_option linter.unusedSimpArgs false
/-- The calls of a story, as they lie in memory. -/
def OpsAt (w : World) (vops : Value) (ops : List OpV) : Prop :=
  ops.length ≤ 140737488351232 ∧ ((vops = .slice none 0 0 ∧ ops = []) ∨ ∃ g off cap, vops = .slice (some ⟨g, off, none⟩) ops.length cap ∧ ∀ (i : Nat) (o : OpV), ops[i]? = some o → w.rangeAt g (off + i * 9) o.cells.toList ∧ o.At w)
section
variable {w0 w w' : World} {X : List Nat} {pb rb : Nat} {s t : St}
theorem OpV.At.keep {o : OpV} (h : o.At w) (hk : Kept [] w w') : o.At w' := ⟨h.kd, h.ad, h.nn, h.vv, h.rb.keep hk, h.bb, h.bl, h.rw.keep hk, h.lb, h.ll⟩
theorem rangeAt_keep {g off : Nat} {cs : List Value} (h : w.rangeAt g off cs) (hk : Kept [] w w') : w'.rangeAt g off cs := by
  intro j v hv
  have h1 := h j v hv
  exact (hk.cell (World.block_lt_of_cell? w _ h1) (by simp)).trans h1
theorem OpsAt.keep {vops : Value} {ops : List OpV} (h : OpsAt w vops ops) (hk : Kept [] w w') : OpsAt w' vops ops := by
  refine ⟨h.1, h.2.imp id ?_⟩
  rintro ⟨g, off, cap, e, h⟩
  exact ⟨g, off, cap, e, fun i o hi => ⟨rangeAt_keep (h i o hi).1 hk, (h i o hi).2.keep hk⟩⟩
abbrev zOp : Array Value := #[.int .i64 0, .int .u64 0, .int .i64 0, .int .u64 0, .slice none 0 0, .bool false, .bool false, .bool false, .slice none 0 0]
theorem OpV.At.one {o : OpV} (h : o.At w) : o.cells.all (·.oneCell') = true := by
  obtain ⟨A, c, h1⟩ := h.rb.shape
  obtain ⟨B, d, h2⟩ := h.rw.shape
  unfold OpV.cells
  rw [h1, h2]
  simp [Value.oneCell']
/-- A call's own box, laid beside the buses. -/
theorem DuoE.opbox (D : DuoE w0 X w pb rb s t) (cs : Array Value) :
    (w.alloc (.cells zOp 54)).heap[w.heap.size]? = some (.cells zOp 54 (0, 0)) ∧ DuoE w0 (w.heap.size :: X) ((w.alloc (.cells zOp 54)).setRow w.heap.size cs) pb rb s t ∧ ((w.alloc (.cells zOp 54)).setRow w.heap.size cs).heap[w.heap.size]? = some (.cells cs 54 (0, 0)) ∧ SameX X w ((w.alloc (.cells zOp 54)).setRow w.heap.size cs) := by
  have hr : (w.alloc (.cells zOp 54)).heap[w.heap.size]? = some (.cells zOp 54 (0, 0)) := heap_alloc_new w _
  have kw : Kept [w.heap.size] (w.alloc (.cells zOp 54)) ((w.alloc (.cells zOp 54)).setRow w.heap.size cs) := (Kept.refl [w.heap.size] _).setRow (by simp) cs
  refine ⟨hr, (D.push (.cells zOp 54)).write (by simp) D.kept.size kw, setRow_heap _ _ _ _ 54 (0, 0) hr, ?_⟩
  intro x hx
  have hl := D.xl x hx
  have ka : Kept [] w (w.alloc (.cells zOp 54)) := (Kept.refl [] w).alloc _
  rw [kw.block x (by simp; omega) (by simp; omega), ka.block x hl (by simp)]
/-- The pair's box, laid and written. -/
theorem DuoE.pairbox (D : DuoE w0 X w pb rb s t) :
    (w.alloc (.cells zPair 37)).heap[w.heap.size]? = some (.cells zPair 37 (0, 0)) ∧ DuoE w0 (w.heap.size :: X) ((w.alloc (.cells zPair 37)).setRow w.heap.size (pairCells pb rb)) pb rb s t ∧ ((w.alloc (.cells zPair 37)).setRow w.heap.size (pairCells pb rb)).heap[w.heap.size]? = some (.cells (pairCells pb rb) 37 (0, 0)) := by
  have hr : (w.alloc (.cells zPair 37)).heap[w.heap.size]? = some (.cells zPair 37 (0, 0)) := heap_alloc_new w _
  have kw : Kept [w.heap.size] (w.alloc (.cells zPair 37)) ((w.alloc (.cells zPair 37)).setRow w.heap.size (pairCells pb rb)) := (Kept.refl [w.heap.size] _).setRow (by simp) _
  exact ⟨hr, (D.push (.cells zPair 37)).write (by simp) D.kept.size kw, setRow_heap _ _ _ _ 37 (0, 0) hr⟩
/-- A story's cells. -/
def yCells (v1 v2 v3 : Value) (s : St) (vops : Value) : Array Value := #[v1, .int .u32 s.msip, .int .u64 s.cmp, .int .u64 s.now, .bool s.ext, .bool s.soft, .int .u8 s.ier, .int .u8 s.lcr, .int .u8 s.mcr, .int .u8 s.scr, .bool s.over, v2, v3, .int .i64 s.off, .int .i64 s.code, vops]
/-- What stands while a story is played: the buses of one state, the pair's box at M. -/
def Playing (w1 : World) (M : Nat) (pb rb : Nat) (wr : World) : Prop := ∃ s, s.Ok ∧ DuoE w1 [M] wr pb rb s s ∧ wr.heap[M]? = some (.cells (pairCells pb rb) 37 (0, 0))
def TruePost (w : World) (e : Ending) (w' : World) : Prop := e = .returned (.bool true) ∧ Kept [] w w'
set_option maxHeartbeats 8000000 in
set_option maxRecDepth 100000 in
theorem plays_no (w : World) (s : St) (hs : s.In) (v1 v2 v3 vops : Value) (h1 : Rd w v1 s.ram) (h2 : Rd w v2 s.inp) (h3 : Rd w v3 s.out) (lo hi : Int) (hc : s.canBe = false) :
    Calls Try.prog 33 #[.agg (yCells v1 v2 v3 s vops), .int .i64 lo, .int .i64 hi] w (TruePost w) := by
  obtain ⟨A, c, rfl⟩ := h1.shape
  obtain ⟨B, d, rfl⟩ := h2.shape
  obtain ⟨C, e, rfl⟩ := h3.shape
  have kA : Kept [] w (w.alloc (.cells (yCells (.slice A s.ram.length c) (.slice B s.inp.length d) (.slice C s.out.length e) s vops) 43)) := (Kept.refl [] w).alloc _
  have HB := Lib.hid (begin_no _ s hs A B C _ _ _ c d e (h1.keep kA (by simp)) (h2.keep kA (by simp)) (h3.keep kA (by simp)) hc)
  have HK := Lib.hid kA
  clear h1 h2 h3 hs hc kA
  unfold yCells at *
  unfold sCells at HB
  go_enter Try.func33, Try.ntmps33
  go_wp2_with (go_at_call 22; refine HB.out.mono ?_; rintro e w2 ⟨rfl, hk⟩; have HK2 := Lib.hid (HK.out.trans hk (by simp)); clear hk)
  go_ret
  exact ⟨rfl, by first | exact HK2.out.alloc _ | skip⟩
end
end Go.Proofs.Ytkocfcgdjjdnhaa.BW
