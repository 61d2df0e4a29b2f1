/- Words for a bus in memory: slices of bytes with a block of their own, what a call leaves as it was. No condition. -/
import Derived.Test.YtkocfcgdjjdnhaaProg
import Derived.WalkKit
import Derived.Below
import Derived.Laws.OwnMore
import Derived.Laws.AppendOwn
import Derived.Laws.Tables
import Derived.Deep.Draws
namespace Go.Proofs.Ytkocfcgdjjdnhaa.BW
open Go.RowKit
set_option linter.unusedVariables false
set_option linter.unusedSimpArgs false
/-- Of what was there when the call began nothing has turned but the blocks of F. -/
structure Kept (F : List Nat) (w w' : World) : Prop where
  os : w'.os = w.os
  tape : w'.tape = w.tape
  output : w'.output = w.output
  size : w.heap.size ≤ w'.heap.size
  block : ∀ k, k < w.heap.size → k ∉ F → w'.heap[k]? = w.heap[k]?
section
variable {F G : List Nat} {a b w w' : World}
theorem Kept.refl (F : List Nat) (w : World) : Kept F w w := ⟨rfl, rfl, rfl, Nat.le_refl _, fun _ _ _ => rfl⟩
theorem Kept.trans (h : Kept F a w) (k : Kept G w w') (hG : ∀ x ∈ G, x < a.heap.size → x ∈ F) : Kept F a w' :=
  ⟨k.os.trans h.os, k.tape.trans h.tape, k.output.trans h.output, Nat.le_trans h.size k.size, fun x hx hF => (k.block x (Nat.lt_of_lt_of_le hx h.size) (fun hg => hF (hG x hg hx))).trans (h.block x hx hF)⟩
theorem Kept.mono (h : Kept F a w) (hF : ∀ x ∈ F, x ∈ G) : Kept G a w := ⟨h.os, h.tape, h.output, h.size, fun x hx hG => h.block x hx fun hf => hG (hF x hf)⟩
theorem Kept.of_below (h : Below a.heap.size a w) : Kept F a w := ⟨h.os, h.tape, h.output, h.size, fun x hx _ => h.block x hx⟩
theorem Kept.below (h : Kept F a w) {B : Nat} (hB : B ≤ a.heap.size) (hF : ∀ x ∈ F, B ≤ x) : Below B a w := ⟨h.os, h.tape, h.output, h.size, fun x hx => h.block x (by omega) fun hf => by have := hF x hf; omega⟩
theorem Kept.drew (h : Kept F a w) : Kept F a w.drew := ⟨h.os, h.tape, h.output, h.size, h.block⟩
theorem drewN_heap (w : World) (n : Nat) : (w.drewN n).heap = w.heap := rfl
theorem Kept.drewN (h : Kept F a w) (n : Nat) : Kept F a (w.drewN n) := ⟨h.os, h.tape, h.output, h.size, h.block⟩
theorem Kept.alloc (h : Kept F a w) (o : Obj) : Kept F a (w.alloc o) :=
  h.trans (G := []) ⟨rfl, rfl, rfl, by simp, fun k hk _ => Below.heap_alloc _ _ _ hk⟩ (by simp)
theorem Kept.setCell (h : Kept F a w) {p : Addr} (hp : p.block < a.heap.size → p.block ∈ F) (u : Value) : Kept F a (w.setCell p u) :=
  h.trans (G := [p.block]) ⟨rfl, rfl, rfl, by simp [World.setCell], fun k hk hn => Below.heap_setCell _ _ _ _ (by simpa using hn)⟩ (by intro x hx; simp at hx; subst hx; exact hp)
theorem Kept.setRow (h : Kept F a w) {g : Nat} (hp : g < a.heap.size → g ∈ F) (cs : Array Value) : Kept F a (w.setRow g cs) :=
  h.trans (G := [g]) ⟨rfl, rfl, rfl, by simp, fun k hk hn => setRow_other _ _ _ _ (by simpa using hn)⟩ (by intro x hx; simp at hx; subst hx; exact hp)
theorem Kept.grown (h : Kept F a w) {row : Option Nat} (hg : w.grownBy w' row) (hr : ∀ k, row = some k → k < a.heap.size → k ∈ F) : Kept F a w' :=
  h.trans (G := row.toList) ⟨hg.os, hg.tape, hg.output, hg.size, fun k hk hn => hg.block k hk (by intro e; subst e; simp at hn)⟩ (by intro x hx hl; simp at hx; exact hr x hx hl)
theorem Kept.row (h : Kept F a w) {g : Nat} {o : Obj} (hg : a.heap[g]? = some o) (hF : g ∉ F) : w.heap[g]? = some o := by
  rw [h.block g (Array.getElem?_eq_some_iff.1 hg).1 hF]; exact hg
theorem Kept.cell (h : Kept F a w) {p : Addr} (hp : p.block < a.heap.size) (hF : p.block ∉ F) : w.cell? p = a.cell? p := World.cell?_of_block (h.block _ hp hF)
theorem Kept.frozen (h : Kept F a w) {p : Addr} (hp : p.block < a.heap.size) (hF : p.block ∉ F) : w.frozen? p = a.frozen? p := World.frozen?_of_block (h.block _ hp hF)
end
/-- Numbers as the cells of bytes. -/
def u8s (l : List Int) : List Value := l.map (Value.int .u8)
theorem u8s_length (l : List Int) : (u8s l).length = l.length := by simp [u8s]
theorem u8s_get (l : List Int) (i : Nat) : (u8s l)[i]? = l[i]?.map (Value.int .u8) := by simp [u8s]
def Byts (l : List Int) : Prop := ∀ n ∈ l, 0 ≤ n ∧ n ≤ 255
/-- A slice of bytes with a block of its own (or nil). -/
def Bs (w : World) (v : Value) (l : List Int) : Prop := w.ownsRow 0 5 1 v l.length (u8s l)
section
variable {F G : List Nat} {w w' : World} {v : Value} {l : List Int}
theorem Bs.nil (w : World) : Bs w (.slice none 0 0) [] := World.ownsRow_nil w 0 5 1
theorem Bs.lt (h : Bs w v l) : ∀ k, v.ownBlock = some k → k < w.heap.size := fun k hk => (World.ownsRow.lt h k hk).2
theorem Bs.keep (h : Bs w v l) (hk : Kept F w w') (hF : ∀ g, v.ownBlock = some g → g ∉ F) : Bs w' v l := by
  refine ⟨h.1, h.2.imp id ?_⟩
  rintro ⟨g, cap, cur, rfl, hb, hg, r⟩
  exact ⟨g, cap, cur, rfl, hb, hk.row hg (hF g rfl), r⟩
/-- Where it lies. -/
theorem Bs.at (h : Bs w v l) : (v = .slice none 0 0 ∧ l = []) ∨ ∃ g cap cur, v = .slice (some ⟨g, 0, none⟩) l.length cap ∧ w.heap[g]? = some (.cells cur 5 (0, 0)) ∧ l.length ≤ cap ∧ cap ≤ maxLen ∧ cur.size = cap ∧ cur.toList.take l.length = u8s l := by
  rcases h.2 with ⟨h1, h2⟩ | ⟨g, cap, cur, h1, _, h2, h3, h4, h5, h6⟩
  · exact .inl ⟨h1, List.length_eq_zero_iff.mp h2⟩
  · exact .inr ⟨g, cap, cur, h1, h2, h3, h4, by simpa using h5, by simpa using h6⟩
theorem Bs.len (h : Bs w v l) : l.length ≤ maxLen := by
  rcases h.at with ⟨_, rfl⟩ | ⟨g, cap, cur, _, _, h3, h4, _⟩
  · simp
  · omega
theorem Bs.cell (h : Bs w v l) {g c n : Nat} (hv : v = .slice (some ⟨g, 0, none⟩) n c) (i : Nat) (x : Int) (hx : l[i]? = some x) : w.cell? ⟨g, i, none⟩ = some (.int .u8 x) := by
  rcases h.at with ⟨rfl, _⟩ | ⟨g', cap, cur, rfl, hg, h3, h4, h5, h6⟩
  · simp at hv
  · simp only [Value.slice.injEq, Option.some.injEq, Addr.mk.injEq] at hv
    obtain ⟨⟨rfl, _⟩, _⟩ := hv
    rw [cell_of_row w g' i cur 5 (0, 0) hg]
    have hi : i < l.length := (List.getElem?_eq_some_iff.mp hx).1
    have h7 : (cur.toList.take l.length)[i]? = (u8s l)[i]? := by rw [h6]
    rw [List.getElem?_take_of_lt hi, u8s_get, hx] at h7
    simpa using h7
theorem Bs.frozen (h : Bs w v l) {g c n : Nat} (hv : v = .slice (some ⟨g, 0, none⟩) n c) (i : Nat) : w.frozen? ⟨g, i, none⟩ = false := by
  rcases h.at with ⟨rfl, _⟩ | ⟨g', cap, cur, rfl, hg, h3, h4, h5, h6⟩
  · simp at hv
  · simp only [Value.slice.injEq, Option.some.injEq, Addr.mk.injEq] at hv
    obtain ⟨⟨rfl, _⟩, _⟩ := hv
    exact frozen_of_row w g' i cur 5 hg
/-- One byte written. -/
theorem Bs.set (h : Bs w v l) {g c n : Nat} (hv : v = .slice (some ⟨g, 0, none⟩) n c) (i : Nat) (x : Int) (hi : i < l.length) : Bs (w.setCell ⟨g, i, none⟩ (.int .u8 x)) v (l.set i x) := by
  rcases h.at with ⟨rfl, _⟩ | ⟨g', cap, cur, rfl, hg, h3, h4, h5, h6⟩
  · simp at hv
  · simp only [Value.slice.injEq, Option.some.injEq, Addr.mk.injEq] at hv
    obtain ⟨⟨rfl, _⟩, _⟩ := hv
    refine ⟨by simp [u8s], .inr ⟨g', cap, cur.setIfInBounds i (.int .u8 x), by simp, Nat.zero_le _, ?_, by simpa using h3, h4, by simpa using h5, ?_⟩⟩
    · rw [heap_setCell_same w g' i cur 5 _ hg]
    · simp only [Array.toList_setIfInBounds, Nat.mul_one, List.length_set, u8s, List.map_set]
      rw [List.take_set, h6]; rfl
end
end Go.Proofs.Ytkocfcgdjjdnhaa.BW
