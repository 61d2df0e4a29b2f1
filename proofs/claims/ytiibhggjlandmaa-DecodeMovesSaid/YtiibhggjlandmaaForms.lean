/- decode.forms: the row of forms that it makes, by running its one region. No condition. -/
import Derived.Test.YtiibhggjlandmaaWMore
import Derived.Test.YtiibhggjlandmaaProg
import Derived.KernelRfl
import Derived.WalkKit
namespace Go.Proofs.Ytiibhggjlandmaa.PF
open Go.RowKit Go.Proofs.YtiibhggjlandmaaW.PrintWords Go.Proofs.YtiibhggjlandmaaW.PrintMore
set_option linter.unusedVariables false
section
variable {P : Program} {ops : Array Oper} {Q : Exit → Act → World → Prop}
/-- A row of operations that bear no guard and give values: run outright. -/
def runAll (P : Program) : List Oper → Act → World → Option (Act × World)
  | [], a, w => some (a, w)
  | o :: r, a, w => match o.guard, (execOp a.eval o).run P w with
    | .none, .ok (.value v) w' => runAll P r (a.put o.dst v) w'
    | _, _ => none
theorem runAll_wp : ∀ (l : List Oper) (a : Act) (w : World) (x : Act × World), runAll P l a w = some x → Q .normal x.1 x.2 → wpList P ops Q l a w
  | [], a, w, x, h, hq => by
    simp only [runAll, Option.some.injEq] at h; subst h; exact hq
  | o :: r, a, w, x, h, hq => by
    unfold runAll at h
    split at h
    · next hg hr => exact Kd.event_run hg hr (runAll_wp r _ _ x h hq)
    · exact absurd h (by simp)
theorem wp_region_run {id : Nat} {a : Act} {w : World} (x : Act × World) (h : runAll P ops.toList a w = some x) (hq : Q .normal x.1 x.2) : (Code.region id ops false).wp P Q a w :=
  wp_region_list (runAll_wp _ _ _ x h hq)
end
structure Frm where
  op : Int
  mask : Int
  code : Int
  shape : Int
def formsL : List Frm := [⟨1, 127, 55, 0⟩, ⟨2, 127, 23, 0⟩, ⟨3, 127, 111, 1⟩, ⟨4, 28799, 103, 2⟩, ⟨5, 28799, 99, 3⟩, ⟨6, 28799, 4195, 3⟩, ⟨7, 28799, 16483, 3⟩, ⟨8, 28799, 20579, 3⟩, ⟨9, 28799, 24675, 3⟩, ⟨10, 28799, 28771, 3⟩, ⟨11, 28799, 3, 2⟩, ⟨12, 28799, 4099, 2⟩, ⟨13, 28799, 8195, 2⟩, ⟨14, 28799, 12291, 2⟩, ⟨15, 28799, 16387, 2⟩, ⟨16, 28799, 20483, 2⟩, ⟨17, 28799, 24579, 2⟩, ⟨18, 28799, 35, 4⟩, ⟨19, 28799, 4131, 4⟩, ⟨20, 28799, 8227, 4⟩, ⟨21, 28799, 12323, 4⟩, ⟨22, 28799, 19, 2⟩, ⟨23, 28799, 8211, 2⟩, ⟨24, 28799, 12307, 2⟩, ⟨25, 28799, 16403, 2⟩, ⟨26, 28799, 24595, 2⟩, ⟨27, 28799, 28691, 2⟩, ⟨28, 4227887231, 4115, 5⟩, ⟨29, 4227887231, 20499, 5⟩, ⟨30, 4227887231, 1073762323, 5⟩, ⟨31, 28799, 27, 2⟩, ⟨32, 4261441663, 4123, 6⟩, ⟨33, 4261441663, 20507, 6⟩, ⟨34, 4261441663, 1073762331, 6⟩, ⟨35, 4261441663, 51, 7⟩, ⟨36, 4261441663, 1073741875, 7⟩, ⟨37, 4261441663, 4147, 7⟩, ⟨38, 4261441663, 8243, 7⟩, ⟨39, 4261441663, 12339, 7⟩, ⟨40, 4261441663, 16435, 7⟩, ⟨41, 4261441663, 20531, 7⟩, ⟨42, 4261441663, 1073762355, 7⟩, ⟨43, 4261441663, 24627, 7⟩, ⟨44, 4261441663, 28723, 7⟩, ⟨45, 4261441663, 59, 7⟩, ⟨46, 4261441663, 1073741883, 7⟩, ⟨47, 4261441663, 4155, 7⟩, ⟨48, 4261441663, 20539, 7⟩, ⟨49, 4261441663, 1073762363, 7⟩, ⟨50, 28799, 15, 8⟩, ⟨51, 28799, 4111, 8⟩, ⟨52, 4294967295, 115, 9⟩, ⟨53, 4294967295, 1048691, 9⟩, ⟨54, 4294967295, 807403635, 9⟩, ⟨55, 4294967295, 273678451, 9⟩, ⟨56, 28799, 4211, 8⟩, ⟨57, 28799, 8307, 8⟩, ⟨58, 28799, 12403, 8⟩, ⟨59, 28799, 20595, 8⟩, ⟨60, 28799, 24691, 8⟩, ⟨61, 28799, 28787, 8⟩, ⟨62, 4261441663, 33554483, 7⟩, ⟨63, 4261441663, 33558579, 7⟩, ⟨64, 4261441663, 33562675, 7⟩, ⟨65, 4261441663, 33566771, 7⟩, ⟨66, 4261441663, 33570867, 7⟩, ⟨67, 4261441663, 33574963, 7⟩, ⟨68, 4261441663, 33579059, 7⟩, ⟨69, 4261441663, 33583155, 7⟩, ⟨70, 4261441663, 33554491, 7⟩, ⟨71, 4261441663, 33570875, 7⟩, ⟨72, 4261441663, 33574971, 7⟩, ⟨73, 4261441663, 33579067, 7⟩, ⟨74, 4261441663, 33583163, 7⟩, ⟨75, 4193284223, 268443695, 10⟩, ⟨76, 4160778367, 402661423, 10⟩, ⟨77, 4160778367, 134225967, 10⟩, ⟨78, 4160778367, 8239, 10⟩, ⟨79, 4160778367, 536879151, 10⟩, ⟨80, 4160778367, 1610620975, 10⟩, ⟨81, 4160778367, 1073750063, 10⟩, ⟨82, 4160778367, 2147491887, 10⟩, ⟨83, 4160778367, 2684362799, 10⟩, ⟨84, 4160778367, 3221233711, 10⟩, ⟨85, 4160778367, 3758104623, 10⟩, ⟨86, 4193284223, 268447791, 10⟩, ⟨87, 4160778367, 402665519, 10⟩, ⟨88, 4160778367, 134230063, 10⟩, ⟨89, 4160778367, 12335, 10⟩, ⟨90, 4160778367, 536883247, 10⟩, ⟨91, 4160778367, 1610625071, 10⟩, ⟨92, 4160778367, 1073754159, 10⟩, ⟨93, 4160778367, 2147495983, 10⟩, ⟨94, 4160778367, 2684366895, 10⟩, ⟨95, 4160778367, 3221237807, 10⟩, ⟨96, 4160778367, 3758108719, 10⟩]
def Frm.cells (f : Frm) : List Value := [.int .i64 f.op, .int .u32 f.mask, .int .u32 f.code, .int .i64 f.shape]
def formCells : Array Value := (formsL.flatMap Frm.cells).toArray
def formsV (w : World) : Value := .slice (some ⟨w.heap.size, 0, none⟩) 96 96
def formsA0 : Act := { tmps := (Value.slice none 0 0 :: List.replicate 97 undef).toArray, defers := [] }
def formsA (w : World) : Act := { tmps := (formsV w :: (formsL.map fun f : Frm => Value.agg f.cells.toArray) ++ [formsV w]).toArray, defers := [] }
set_option maxHeartbeats 8000000 in
set_option maxRecDepth 1000000 in
theorem forms_calls (w : World) : Calls Try.prog 29 #[] w fun e w' => e = .returned (formsV w) ∧ w' = w.alloc (.cells formCells 50) := by
  go_enter Try.func29, Try.ntmps29
  refine wp_seq (wp_region_run (formsA0, w) (by kernel_rfl) ?_)
  refine wp_seq (wp_region_run (formsA w, w.alloc (.cells formCells 50)) (by kernel_rfl) ?_)
  refine wp_ret ?_
  have e : (formsA w).tmps.getD 0 undef = formsV w := by kernel_rfl
  have h1 := results_tmp (fn := Try.f29) (t := 0) rfl (formsA w).tmps Try.prog (w.alloc (.cells formCells 50))
  rw [e] at h1
  exact bodyPost_ret h1 rfl ⟨rfl, rfl⟩
end Go.Proofs.Ytiibhggjlandmaa.PF
