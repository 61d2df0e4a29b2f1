/- How the arguments of ArithMemory are read. No condition. -/
import Derived.Test.YtdjppkffmeccoaaArMem
import Derived.ProofKit
import Derived.OpenShut
import Derived.ShutString
import Derived.ChangeOld
import Derived.SizedLaws
import Derived.Lib.SmallJoins
import Derived.Lib.LaidU8
import Derived.Deep.Slices
import Derived.Deep.Fields
import Derived.ChangeSame
namespace Go.Proofs.Ytdjppkffmeccoaa.BW
open Go.ChangeShapes Go.WideShapes Go.ChangeAt Go.RowKit Go.Joins Go.Deep
set_option linter.unusedVariables false
set_option linter.unusedSimpArgs false
set_option maxRecDepth 100000
section
variable {H : Type} {enc : TypeId × Value → H} {W : World} {held : Bool}
abbrev Sized (t : TypeId) (d : DataW H) : Prop := ∀ n ∈ DataW.weights Try.prog t d, n ≤ reachBytes
theorem cells1_5 : Try.prog.cellsOf 5 = 1 := by kernel_rfl
theorem bytes1_5 : Try.prog.bytesOf 5 = 1 := by kernel_rfl
theorem bytes_open {n : Nat} {v : Value} {x : DataW H × List MemPlace} (h : DataW.trod enc Try.prog W 0 (fun _ => true) held n 22 [v] = some x) :
    ∃ l, RdW W v l ∧ Byts l ∧ (Sized 22 x.1 → l.length ≤ 140737488351232) := by
  rcases open_ints Try.underlying22 Try.underlying5 cells1_5 h with ⟨hcs, hx⟩ | ⟨a, len, cap, zs, hcs, _, hl, hm, hz, hx, hcell, hwz⟩
  · obtain rfl : v = _ := (List.cons.inj hcs).1
    exact ⟨[], .inl (.inl ⟨rfl, rfl⟩), by intro n hn; simp at hn, fun _ => by simp⟩
  · obtain rfl : v = _ := (List.cons.inj hcs).1
    simp only [if_true] at hz
    have htl : (zs.take len).length = len := by rw [List.length_take]; omega
    refine ⟨zs.take len, ?_, fun n hn => bounds_u8 (hwz n (List.mem_of_mem_take hn)), fun hs => ?_⟩
    · by_cases h0 : len = 0
      · subst h0
        exact .inr ⟨by simp, a, cap, rfl⟩
      · obtain ⟨b, o, sp⟩ := a
        have c0 := hcell 0 (by omega)
        rw [show (⟨b, o, sp⟩ : Addr).add 0 = ⟨b, o, sp⟩ by unfold Addr.add; rw [if_pos rfl]] at c0
        obtain rfl := cell_spot c0
        refine .inl (.inr ⟨cap, b, o, by rw [htl], fun i y hy => ?_⟩)
        have hi : i < len := by have := (List.getElem?_eq_some_iff.mp hy).1; omega
        have c1 := hcell i (by omega)
        rw [addr_add] at c1
        rw [c1]
        rw [List.getElem?_take_of_lt hi] at hy
        simp [List.getD, hy]
    · have := hs ((zs.take len).length + (zs.drop len).length) (by rw [hx, DataW.weights, Try.underlying22]; simp [lits, bytes1_5])
      unfold reachBytes at this
      omega
theorem int_open {n t : Nat} {k : IntKind} {v : Value} {x : DataW H × List MemPlace} (hu : Try.prog.underlying t = some (.int k)) (h : DataW.trod enc Try.prog W 0 (fun _ => true) held n t [v] = some x) : ∃ a, v = .int k a ∧ (Lit.int k a).wf = true := by
  obtain ⟨a, e, _, hw⟩ := DataW.trod_int hu h
  exact ⟨a, (List.cons.inj e).1, hw⟩
end
end Go.Proofs.Ytdjppkffmeccoaa.BW
