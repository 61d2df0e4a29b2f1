/- encode.fields: the row that it makes; encode.reaches: what is looked up in its map. No condition. -/
import Derived.Test.YtiibhggjlandmaaDoorEForm2
namespace Go.Proofs.YtiibhggjlandmaaDoor.PF
open Go.RowKit Go.Proofs.YtiibhggjlandmaaDoorW.PrintWords Go.Proofs.YtiibhggjlandmaaDoorW.PrintMore
set_option linter.unusedVariables false
set_option linter.unusedSimpArgs false
section
variable {P : Program} {ops : Array Oper} {Q : Exit → Act → World → Prop}
/-- A row of operations that bear no guard and give values: run outright. -/
def runAll (P : Program) : List Oper → Act → World → Option (Act × World)
  | [], a, w => some (a, w)
  | o :: r, a, w => match o.guard, (execOp a.eval o).run P w with
    | .none, .ok (.value v) w' => runAll P r (a.put o.dst v) w'
    | _, _ => none
theorem runAll_wp : ∀ (l : List Oper) (a : Act) (w : World) (x : Act × World), runAll P l a w = some x → Q .normal x.1 x.2 → wpList P ops Q l a w
  | [], a, w, x, h, hq => by
    simp only [runAll, Option.some.injEq] at h; subst h; exact hq
  | o :: r, a, w, x, h, hq => by
    unfold runAll at h
    split at h
    · next hg hr => exact Kd.event_run hg hr (runAll_wp r _ _ x h hq)
    · exact absurd h (by simp)
theorem wp_region_run {id : Nat} {a : Act} {w : World} (x : Act × World) (h : runAll P ops.toList a w = some x) (hq : Q .normal x.1 x.2) : (Code.region id ops false).wp P Q a w :=
  wp_region_list (runAll_wp _ _ _ x h hq)
end
/-- Which fields a shape has: rd, rs1, rs2, imm, order. -/
structure Has where
  rd : Bool
  rs1 : Bool
  rs2 : Bool
  imm : Bool
  order : Bool
def hasL : List Has := [⟨true, false, false, true, false⟩, ⟨true, false, false, true, false⟩, ⟨true, true, false, true, false⟩, ⟨false, true, true, true, false⟩, ⟨false, true, true, true, false⟩, ⟨true, true, true, false, false⟩, ⟨true, true, false, true, false⟩, ⟨true, true, false, true, false⟩, ⟨true, true, false, true, false⟩, ⟨false, false, false, false, false⟩, ⟨true, true, true, false, true⟩, ⟨true, true, false, false, true⟩]
def Has.cells (h : Has) : List Value := [.bool h.rd, .bool h.rs1, .bool h.rs2, .bool h.imm, .bool h.order]
def hasCells : Array Value := (hasL.flatMap Has.cells).toArray
def hasV (w : World) : Value := .slice (some ⟨w.heap.size, 0, none⟩) 12 12
def hasA0 : Act := { tmps := (Value.slice none 0 0 :: List.replicate 13 undef).toArray, defers := [] }
def hasA (w : World) : Act := { tmps := (hasV w :: (hasL.map fun h : Has => Value.agg h.cells.toArray) ++ [hasV w]).toArray, defers := [] }
set_option maxHeartbeats 8000000 in
set_option maxRecDepth 1000000 in
theorem fields_calls (w : World) : Calls Tryd.prog 24 #[] w fun e w' => e = .returned (hasV w) ∧ w' = w.alloc (.cells hasCells 61) := by
  go_enter Tryd.func24, Tryd.ntmps24
  refine wp_seq (wp_region_run (hasA0, w) (by kernel_rfl) ?_)
  refine wp_seq (wp_region_run (hasA w, w.alloc (.cells hasCells 61)) (by kernel_rfl) ?_)
  refine wp_ret ?_
  have e : (hasA w).tmps.getD 0 undef = hasV w := by kernel_rfl
  have h1 := results_tmp (fn := Tryd.f24) (t := 0) rfl (hasA w).tmps Tryd.prog (w.alloc (.cells hasCells 61))
  rw [e] at h1
  exact bodyPost_ret h1 rfl ⟨rfl, rfl⟩
/-- Shape, least, most, step. -/
def reachT : List (Int × Int × Int × Int) := [(0, (-2147483648), 2147479552, 4096), (1, (-1048576), 1048574, 2), (2, (-2048), 2047, 1), (4, (-2048), 2047, 1), (3, (-4096), 4094, 2), (6, 0, 63, 1), (7, 0, 31, 1), (8, 0, 4095, 1)]
def findR (x : Int) : List (Int × Int × Int × Int) → Option (Int × Int × Int)
  | [] => none
  | (o, a, b, c) :: r => if x = o then some (a, b, c) else findR x r
def mkR : Nat → List (Int × Int × Int × Int) → List MapEntry
  | _, [] => []
  | i, (o, a, b, c) :: r => { key := .int .i64 o, val := .agg #[.int .i64 a, .int .i64 b, .int .i64 c], born := i } :: mkR (i + 1) r
theorem reachesE_eq : reachesE = mkR 0 reachT := by kernel_rfl
theorem findE_mkR (x : Int) : ∀ (l : List (Int × Int × Int × Int)) (i : Nat), findE x (mkR i l) = (findR x l).map fun z => .agg #[.int .i64 z.1, .int .i64 z.2.1, .int .i64 z.2.2]
  | [], _ => rfl
  | (o, a, b, c) :: r, i => by
    unfold mkR findE findR
    by_cases e : x = o
    · simp [e]
    · simp only [if_neg e]; exact findE_mkR x r (i + 1)
theorem keys_mkR : ∀ (l : List (Int × Int × Int × Int)) (i : Nat), ∀ m ∈ mkR i l, ∃ y, m.key = .int .i64 y
  | (o, a, b, c) :: r, i, m, h => by
    unfold mkR at h
    rcases List.mem_cons.mp h with rfl | h
    · exact ⟨o, rfl⟩
    · exact keys_mkR r (i + 1) m h
theorem zero65 (w : World) : (zeroValue 65).run Tryd.prog w = .ok (.agg #[.int .i64 0, .int .i64 0, .int .i64 0]) w := by
  kernel_rfl
theorem run_lookup_reach (w : World) (g : Nat) (x : Int) (hg : w.heap[g]? = some reachesO) : (Instr.lookup 67 (.map (some g)) (.int .i64 x) true).run Tryd.prog w = .ok (.tuple #[.agg #[.int .i64 ((findR x reachT).getD (0, 0, 0)).1, .int .i64 ((findR x reachT).getD (0, 0, 0)).2.1, .int .i64 ((findR x reachT).getD (0, 0, 0)).2.2], .bool (findR x reachT).isSome]) w := by
  have h := run_lookup_int 67 3 65 w g reachesE.toArray 8 x _ hg Tryd.underlying67 Tryd.underlying3 (by rw [reachesE_eq]; exact keys_mkR reachT 0) (zero65 w)
  rw [h, reachesE_eq, findE_mkR]
  cases findR x reachT <;> rfl
end Go.Proofs.YtiibhggjlandmaaDoor.PF
