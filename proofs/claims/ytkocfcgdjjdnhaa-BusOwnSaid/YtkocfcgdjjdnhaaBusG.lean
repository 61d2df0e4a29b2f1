/- The console of the program's bus: reading, telling, taking. Premise: a bus lies there. -/
import Derived.Test.YtkocfcgdjjdnhaaBusF
import Derived.RegionTactic
import Derived.Deep.RegionLaw
import Derived.Deep.RegionWith
import Derived.Deep.RegionHeld3
import Derived.Deep.Light
namespace Go.Proofs.Ytkocfcgdjjdnhaa.BW
open Go.RowKit Go.MuLone
set_option linter.unusedVariables false
set_option linter.unusedSimpArgs false
section
variable {T : TypeId} {cs : Value → Value → Value → St → Array Value} {w w1 : World} {b : Nat} {vr vi vo vi' vo' : Value} {s : St} {l' : List Int}
theorem foot_nodup (b : Nat) (vr vi vo : Value) : (foot b vr vi vo).Nodup ↔ (∀ g, vr.ownBlock = some g → g ≠ b) ∧ (∀ g, vi.ownBlock = some g → g ≠ b) ∧ (∀ g, vo.ownBlock = some g → g ≠ b) ∧ (∀ g, vr.ownBlock = some g → vi.ownBlock ≠ some g) ∧ (∀ g, vr.ownBlock = some g → vo.ownBlock ≠ some g) ∧ (∀ g, vi.ownBlock = some g → vo.ownBlock ≠ some g) := by
  unfold foot
  cases vr.ownBlock <;> cases vi.ownBlock <;> cases vo.ownBlock <;> simp [List.nodup_cons] <;> constructor <;> (intro h; simp_all [eq_comm])
/-- The queue that came in replaced. -/
theorem Lies.setInp (h : Lies T cs w b vr vi vo s) (hk : Kept vi.ownBlock.toList w w1) (hb : Bs w1 vi' l') (hn : ∀ g, vi'.ownBlock = some g → vi.ownBlock = some g ∨ w.heap.size ≤ g) (j : Nat) (hc : (cs vr vi vo s).setIfInBounds j vi' = cs vr vi' vo { s with inp := l' }) :
    Lies T cs (w1.setCell ⟨b, j, none⟩ vi') b vr vi' vo { s with inp := l' } ∧ Turn (foot b vr vi vo) (foot b vr vi' vo) w (w1.setCell ⟨b, j, none⟩ vi') := by
  have hnd := (foot_nodup b vr vi vo).1 h.nod
  obtain ⟨d1, d2, d3, d4, d5, d6⟩ := hnd
  have hlt := h.lt
  have hbi : b ∉ vi.ownBlock.toList := by cases e : vi.ownBlock <;> simp; exact (d2 _ e).symm
  have hri : ∀ g, vr.ownBlock = some g → g ∉ vi.ownBlock.toList := fun g hg hm => d4 g hg (by simpa using hm)
  have hoi : ∀ g, vo.ownBlock = some g → g ∉ vi.ownBlock.toList := fun g hg hm => d6 g (by simpa using hm) hg
  have hblt : b < w.heap.size := hlt b (by simp [foot])
  have hne : ∀ g, vi'.ownBlock = some g → g ≠ b := fun g hg => by
    rcases hn g hg with h1 | h1
    · exact d2 g h1
    · omega
  have kb : Kept [b] w1 (w1.setCell ⟨b, j, none⟩ vi') := (Kept.refl _ w1).setCell (by simp) _
  have hrow := hk.row h.blk hbi
  refine ⟨⟨?_, ?_, ?_, ?_, ?_⟩, ⟨?_, ?_⟩⟩
  · rw [heap_setCell_same w1 b j _ T vi' hrow, hc]
  · exact (h.ram.keep hk hri).keep kb fun g hg => by simpa using d1 g hg
  · exact hb.keep kb fun g hg => by simpa using hne g hg
  · exact (h.out.keep hk hoi).keep kb fun g hg => by simpa using d3 g hg
  · rw [foot_nodup]
    refine ⟨d1, hne, d3, fun g hg hi => ?_, d5, fun g hi hg => ?_⟩
    · rcases hn g hi with h1 | h1
      · exact d4 g hg h1
      · have := h.ram.lt g hg; omega
    · rcases hn g hi with h1 | h1
      · exact d6 g h1 hg
      · have := h.out.lt g hg; omega
  · exact (hk.mono (fun x hx => by simp only [foot, List.mem_cons, List.mem_append]; exact .inr (.inr (.inl hx)))).setCell (by simp [foot]) _
  · intro x hx
    simp only [foot, List.mem_cons, List.mem_append, Option.mem_toList] at hx ⊢
    rcases hx with rfl | hx | hx | hx
    · exact .inl (.inl rfl)
    · exact .inl (.inr (.inl hx))
    · rcases hn x hx with h1 | h1
      · exact .inl (.inr (.inr (.inl h1)))
      · exact .inr h1
    · exact .inl (.inr (.inr (.inr hx)))
/-- What was sent replaced. -/
theorem Lies.setOut (h : Lies T cs w b vr vi vo s) (hk : Kept vo.ownBlock.toList w w1) (hb : Bs w1 vo' l') (hn : ∀ g, vo'.ownBlock = some g → vo.ownBlock = some g ∨ w.heap.size ≤ g) (j : Nat) (hc : (cs vr vi vo s).setIfInBounds j vo' = cs vr vi vo' { s with out := l' }) :
    Lies T cs (w1.setCell ⟨b, j, none⟩ vo') b vr vi vo' { s with out := l' } ∧ Turn (foot b vr vi vo) (foot b vr vi vo') w (w1.setCell ⟨b, j, none⟩ vo') := by
  have hnd := (foot_nodup b vr vi vo).1 h.nod
  obtain ⟨d1, d2, d3, d4, d5, d6⟩ := hnd
  have hlt := h.lt
  have hbi : b ∉ vo.ownBlock.toList := by cases e : vo.ownBlock <;> simp; exact (d3 _ e).symm
  have hri : ∀ g, vr.ownBlock = some g → g ∉ vo.ownBlock.toList := fun g hg hm => d5 g hg (by simpa using hm)
  have hoi : ∀ g, vi.ownBlock = some g → g ∉ vo.ownBlock.toList := fun g hg hm => d6 g hg (by simpa using hm)
  have hblt : b < w.heap.size := hlt b (by simp [foot])
  have hne : ∀ g, vo'.ownBlock = some g → g ≠ b := fun g hg => by
    rcases hn g hg with h1 | h1
    · exact d3 g h1
    · omega
  have kb : Kept [b] w1 (w1.setCell ⟨b, j, none⟩ vo') := (Kept.refl _ w1).setCell (by simp) _
  have hrow := hk.row h.blk hbi
  refine ⟨⟨?_, ?_, ?_, ?_, ?_⟩, ⟨?_, ?_⟩⟩
  · rw [heap_setCell_same w1 b j _ T vo' hrow, hc]
  · exact (h.ram.keep hk hri).keep kb fun g hg => by simpa using d1 g hg
  · exact (h.inp.keep hk hoi).keep kb fun g hg => by simpa using d2 g hg
  · exact hb.keep kb fun g hg => by simpa using hne g hg
  · rw [foot_nodup]
    refine ⟨d1, d2, hne, d4, fun g hg hi => ?_, fun g hg hi => ?_⟩
    · rcases hn g hi with h1 | h1
      · exact d5 g hg h1
      · have := h.ram.lt g hg; omega
    · rcases hn g hi with h1 | h1
      · exact d6 g hg h1
      · have := h.inp.lt g hg; omega
  · exact (hk.mono (fun x hx => by simp only [foot, List.mem_cons, List.mem_append]; exact .inr (.inr (.inr hx)))).setCell (by simp [foot]) _
  · intro x hx
    simp only [foot, List.mem_cons, List.mem_append, Option.mem_toList] at hx ⊢
    rcases hx with rfl | hx | hx | hx
    · exact .inl (.inl rfl)
    · exact .inl (.inr (.inl hx))
    · exact .inl (.inr (.inr (.inl hx)))
    · rcases hn x hx with h1 | h1
      · exact .inl (.inr (.inr (.inr h1)))
      · exact .inr h1
theorem Lies.turn (h : Lies T cs w b vr vi vo s) (j : Nat) (v : Value) : Turn (foot b vr vi vo) (foot b vr vi vo) w (w.setCell ⟨b, j, none⟩ v) := .of_kept ((Kept.refl _ w).setCell (by simp [foot]) v)
end
end Go.Proofs.Ytkocfcgdjjdnhaa.BW
