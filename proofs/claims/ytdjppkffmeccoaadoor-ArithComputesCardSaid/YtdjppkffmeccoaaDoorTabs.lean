/- The table of operations that 'rows' makes, whole; and the call that makes it. -/
import Derived.Test.YtdjppkffmeccoaaDoorProg
import Derived.Below
import Derived.Tactics
import Derived.WalkKit
import Derived.KernelRfl
import Derived.RowKit3
import Derived.OwnWalk
import Derived.Outline
import Derived.Laws.ResultCell
import Derived.Laws.Tables
import Derived.Laws.Rows
import Derived.Deep.WholeRow
namespace Go.Proofs.YtdjppkffmeccoaaDoor
open Go.RowKit
set_option maxRecDepth 100000
def rowsV : Array Value := #[.nilFunc, .nilFunc, .nilFunc, .nilFunc, .nilFunc, .nilFunc, .nilFunc, .nilFunc, .nilFunc, .nilFunc, .nilFunc, .nilFunc, .nilFunc, .nilFunc, .nilFunc, .nilFunc, .nilFunc, .nilFunc, .nilFunc, .nilFunc, .nilFunc, .nilFunc, .nilFunc, .nilFunc, .nilFunc, .nilFunc, .nilFunc, .nilFunc, .nilFunc, .nilFunc, .nilFunc, .nilFunc, .nilFunc, .nilFunc, .nilFunc, .nilFunc, .nilFunc, .nilFunc, .nilFunc, .nilFunc, .nilFunc, .nilFunc, .nilFunc, .nilFunc, .nilFunc, .nilFunc, .nilFunc, .nilFunc, .nilFunc, .nilFunc, .nilFunc, .nilFunc, .nilFunc, .nilFunc, .nilFunc, .nilFunc, .nilFunc, .nilFunc, .nilFunc, .nilFunc, .nilFunc, .nilFunc, .nilFunc, .nilFunc, .nilFunc, .nilFunc, .nilFunc, .nilFunc, .nilFunc, .nilFunc, .func (.func 42) #[] #[], .nilFunc, .func (.func 43) #[] #[], .nilFunc, .func (.func 44) #[] #[], .nilFunc, .func (.func 47) #[] #[], .nilFunc, .func (.func 49) #[] #[], .nilFunc, .func (.func 50) #[] #[], .nilFunc, .func (.func 45) #[] #[], .nilFunc, .func (.func 46) #[] #[], .nilFunc, .func (.func 51) #[] #[], .nilFunc, .func (.func 52) #[] #[], .nilFunc, .nilFunc, .func (.func 53) #[] #[], .nilFunc, .func (.func 54) #[] #[], .nilFunc, .func (.func 55) #[] #[], .nilFunc, .func (.func 56) #[] #[], .nilFunc, .func (.func 57) #[] #[], .nilFunc, .nilFunc, .nilFunc, .nilFunc, .nilFunc, .nilFunc, .nilFunc, .nilFunc, .nilFunc, .nilFunc, .nilFunc, .nilFunc, .nilFunc, .nilFunc, .nilFunc, .nilFunc, .nilFunc, .nilFunc, .nilFunc, .nilFunc, .nilFunc, .nilFunc, .nilFunc, .nilFunc, .func (.func 58) #[] #[], .nilFunc, .func (.func 59) #[] #[], .nilFunc, .func (.func 61) #[] #[], .nilFunc, .func (.func 62) #[] #[], .nilFunc, .func (.func 63) #[] #[], .nilFunc, .func (.func 64) #[] #[], .nilFunc, .func (.func 65) #[] #[], .nilFunc, .func (.func 66) #[] #[], .nilFunc, .nilFunc, .func (.func 67) #[] #[], .nilFunc, .func (.func 68) #[] #[], .nilFunc, .func (.func 70) #[] #[], .nilFunc, .func (.func 69) #[] #[], .nilFunc, .func (.func 71) #[] #[], .nilFunc, .nilFunc, .nilFunc, .nilFunc, .nilFunc, .nilFunc, .nilFunc, .nilFunc, .nilFunc, .nilFunc, .nilFunc, .nilFunc, .nilFunc, .nilFunc, .nilFunc, .nilFunc, .nilFunc, .nilFunc, .nilFunc, .nilFunc, .nilFunc, .nilFunc, .nilFunc, .nilFunc, .nilFunc, .nilFunc, .nilFunc, .nilFunc, .nilFunc, .nilFunc, .nilFunc, .nilFunc, .nilFunc, .nilFunc, .nilFunc, .nilFunc, .nilFunc, .nilFunc, .nilFunc, .nilFunc, .nilFunc, .nilFunc, .nilFunc, .nilFunc]
theorem rowsV_size : rowsV.size = 194 := by kernel_rfl
theorem rowsV_one : rowsV.all (·.oneCell') = true := by kernel_rfl
theorem size49 : (Tryd.prog.info? 49).map (·.size) = some rowsV.size := by kernel_rfl
theorem zero49 : Tryd.zeroCells49.size = rowsV.size := by kernel_rfl
theorem wpList_build_to {P : Program} {ops : Array Oper} {rest : List Oper} {o : Oper} {a : Act} {w : World} {Q : Exit → Act → World → Prop} (hg : o.guard = none) (t : TypeId) (parts : Array (Nat × Operand)) (ho : o.op = .build t parts) (cells : Array Value)
    (hf : P.built t (parts.map fun (i, x) => (i, a.eval x)).toList = some cells)
    (h : wpList P ops Q rest (a.put o.dst (.agg cells)) w) : wpList P ops Q (o :: rest) a w :=
  wpList_build hg t parts ho (by rw [hf]; rfl) (by rw [hf]; exact h)
set_option maxHeartbeats 1000000 in
theorem rows_any (w : World) : Calls Tryd.prog 30 #[] w fun e w' => e = .returned (.agg rowsV) ∧ w' = w.alloc (.cells rowsV 49) := by
  go_enter Tryd.func30, Tryd.ntmps30
  go_wp2_with (first
    | (refine wpList_build_to (t := 49) rfl 49 _ rfl rowsV ?hf ?_; (case hf => kernel_rfl))
    | (refine wpList_store_row rfl 49 (.tmp 0) (.tmp 29) rfl w.heap.size rowsV rfl rfl 49 Tryd.zeroCells49 ?hg size49 zero49 rowsV_one ?_; (case hg => exact heap_alloc_new _ _)))
  rw [World.setRow_alloc_new]
  exact bodyPost_ret (v := .agg rowsV) (results_cell_row Tryd.results30 _ _ w.heap.size 49 rowsV (0, 0) _ rfl (heap_alloc_new _ _) Tryd.underlying49 rfl size49) rfl ⟨rfl, rfl⟩
end Go.Proofs.YtdjppkffmeccoaaDoor
