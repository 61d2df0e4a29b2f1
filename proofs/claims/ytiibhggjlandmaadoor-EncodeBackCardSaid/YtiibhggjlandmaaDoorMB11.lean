/- Texts of this claim, put together by a program: TriesB. -/
import Derived.Test.YtiibhggjlandmaaDoorMBxTries
/- Small laws for encode.tries' last cases. -/
namespace Go.Proofs.YtiibhggjlandmaaDoor.TR
open Go.RowKit Go.Proofs.YtiibhggjlandmaaDoorW.PrintWords
theorem parts_at {W : World} {gp : Nat} (ps : List Int) (T : TypeId) (h : W.heap[gp]? = some (.cells (ps.map (Value.int .u32)).toArray T (0, 0))) : ∀ j, j < ps.length → W.cell? ⟨gp, j, none⟩ = some (.int .u32 (ps.getD j 0)) := by
  intro j hj
  rw [cell_of_row W gp j _ T (0, 0) h, List.getElem?_toArray, List.getElem?_map, List.getElem?_eq_getElem hj, List.getD_eq_getElem?_getD, List.getElem?_eq_getElem hj]
  rfl
theorem hdN (w : World) (k : Nat) : (w.drewN k).heap = w.heap := rfl
theorem hd1 (w : World) : w.drew.heap = w.heap := rfl
end Go.Proofs.YtiibhggjlandmaaDoor.TR
