/- Four slices of bytes in a row just laid: each with a block of its own. No condition. -/
import Derived.Test.YtdjppkffmeccoaaGroupsA
namespace Go.Proofs.Ytdjppkffmeccoaa.BW
open Go.RowKit
set_option linter.unusedVariables false
set_option linter.unusedSimpArgs false
section
variable {w1 w w' : World} {X : List Nat}
def pick4 {α : Type} (a b c d : α) (j : Nat) : α := match j with | 0 => a | 1 => b | 2 => c | _ => d
theorem allFour (P : Nat → Prop) (h0 : P 0) (h1 : P 1) (h2 : P 2) (h3 : P 3) : ∀ j, j < 4 → P j := by
  intro j hj
  rcases (by omega : j = 0 ∨ j = 1 ∨ j = 2 ∨ j = 3) with rfl | rfl | rfl | rfl
  · exact h0
  · exact h1
  · exact h2
  · exact h3
theorem Gr.ofFour {p q o r : Value} {lp lq lo lr : List Int} (hk : Kept [] w1 w) (hx : ∀ x ∈ X, x < w.heap.size) (bp : Bs w p lp) (bq : Bs w q lq) (bo : Bs w o lo) (br : Bs w r lr)
    (gp : ∀ b, p.ownBlock = some b → w1.heap.size ≤ b ∧ b ∉ X) (gq : ∀ b, q.ownBlock = some b → w1.heap.size ≤ b ∧ b ∉ X) (go : ∀ b, o.ownBlock = some b → w1.heap.size ≤ b ∧ b ∉ X) (gr : ∀ b, r.ownBlock = some b → w1.heap.size ≤ b ∧ b ∉ X)
    (d1 : ∀ b, p.ownBlock = some b → q.ownBlock ≠ some b ∧ o.ownBlock ≠ some b ∧ r.ownBlock ≠ some b) (d2 : ∀ b, q.ownBlock = some b → o.ownBlock ≠ some b ∧ r.ownBlock ≠ some b) (d3 : ∀ b, o.ownBlock = some b → r.ownBlock ≠ some b) :
    Gr w1 X (.slice (some ⟨w.heap.size, 0, none⟩) 4 4) 4 (fun j => (pick4 p q o r j).ownBlock.toList) (pick4 p q o r) (pick4 lp lq lo lr) (w.alloc (.cells #[p, q, o, r] 22)) := by
  have ka : Kept [] w (w.alloc (.cells #[p, q, o, r] 22)) := (Kept.refl [] w).alloc _
  have hz := hk.size
  have hB := allFour (fun j => Bs w (pick4 p q o r j) (pick4 lp lq lo lr j)) bp bq bo br
  have hG := allFour (fun j => ∀ b, (pick4 p q o r j).ownBlock = some b → w1.heap.size ≤ b ∧ b ∉ X) gp gq go gr
  have hlt : ∀ j, j < 4 → ∀ b, (pick4 p q o r j).ownBlock = some b → b < w.heap.size := fun j hj b hb => (hB j hj).lt b hb
  have hD : ∀ i, i < 4 → ∀ j, j < 4 → i ≠ j → ∀ b, (pick4 p q o r i).ownBlock = some b → (pick4 p q o r j).ownBlock ≠ some b := by
    refine allFour _ ?_ ?_ ?_ ?_
    · refine allFour _ (fun h => absurd rfl h) (fun _ b hb => (d1 b hb).1) (fun _ b hb => (d1 b hb).2.1) (fun _ b hb => (d1 b hb).2.2)
    · refine allFour _ (fun _ b hb hq => (d1 b hq).1 hb) (fun h => absurd rfl h) (fun _ b hb => (d2 b hb).1) (fun _ b hb => (d2 b hb).2)
    · refine allFour _ (fun _ b hb hq => (d1 b hq).2.1 hb) (fun _ b hb hq => (d2 b hq).1 hb) (fun h => absurd rfl h) (fun _ b hb => d3 b hb)
    · refine allFour _ (fun _ b hb hq => (d1 b hq).2.2 hb) (fun _ b hb hq => (d2 b hq).2 hb) (fun _ b hb hq => d3 b hq hb) (fun h => absurd rfl h)
  refine ⟨hk.trans ka (by simp), fun x hm => Nat.lt_of_lt_of_le (hx x hm) ka.size, ?_, ?_, ?_, fun j hj => (hB j hj).keep ka (by simp), ?_, ?_⟩
  · intro j hj x hm
    have hm' : (pick4 p q o r j).ownBlock = some x := by simpa using hm
    exact ⟨(hG j hj x hm').1, Nat.lt_of_lt_of_le (hlt j hj x hm') ka.size, (hG j hj x hm').2⟩
  · intro i j hi hj hij x hm hm2
    exact hD i hi j hj hij x (by simpa using hm) (by simpa using hm2)
  · intro j hj b hb
    simpa using hb
  · refine ⟨rfl, .inr ⟨w.heap.size, 4, #[p, q, o, r], rfl, Nat.zero_le _, heap_alloc_new w _, Nat.le_refl _, by unfold maxLen; omega, rfl, rfl⟩⟩
  · intro b hb
    have e : w.heap.size = b := by simpa [Value.ownBlock] using hb
    subst e
    refine ⟨hz, by simp, fun hm => by have := hx _ hm; omega, fun j hj hm => ?_⟩
    have := hlt j hj _ (by simpa using hm)
    omega
end
end Go.Proofs.Ytdjppkffmeccoaa.BW
