/- A scope with forward jumps. Laws of the walk, no program. -/
import Derived.ScopeJumps
import Derived.WalkMore
namespace Go.Proofs.Ytiibhggjlandmaa
open Go
variable {P : Program} {a : Act} {w : World} {Q : Exit → Act → World → Prop}
/-- A scope with forward jumps to one label: behind a jump the rest is walked on, without another jump. -/
theorem wp_scope_goto {c rest : Code} (l : Nat) (hf : findLabel c l = some rest) (h : c.wp P (Exit.jump l (fun a w => rest.wp P (Exit.noGoto Q) a w) Q) a w) : (Code.scope c).wp P Q a w := by
  refine wp_scope_jumps l _ (fun _ _ => 0) hf h ?_
  intro a w hJ b k cs
  obtain ⟨e, a₁, w₁, hq, harr⟩ := hJ b k cs
  refine ⟨e, a₁, w₁, ?_, harr⟩
  cases e <;> first | exact hq | exact hq.elim
theorem wp_goto_jump {rest : Code} (l : Nat) (h : rest.wp P (Exit.noGoto Q) a w) : (Code.goto l).wp P (Exit.jump l (fun a w => rest.wp P (Exit.noGoto Q) a w) Q) a w := wp_goto ⟨rfl, h⟩
theorem goto_step {rest : Code} {l : Nat} {Q1 : Exit → Act → World → Prop} (e : Q (.goto l) a w = (l = l ∧ rest.wp P (Exit.noGoto Q1) a w)) (h : rest.wp P (Exit.noGoto Q1) a w) : (Code.goto l).wp P Q a w := wp_goto (e.mpr ⟨rfl, h⟩)
theorem jump_normal {J : Act → World → Prop} (l : Nat) : Exit.jump l J Q .normal a w = Q .normal a w := rfl
theorem jump_ret {J : Act → World → Prop} (l : Nat) : Exit.jump l J Q .ret a w = Q .ret a w := rfl
end Go.Proofs.Ytiibhggjlandmaa
