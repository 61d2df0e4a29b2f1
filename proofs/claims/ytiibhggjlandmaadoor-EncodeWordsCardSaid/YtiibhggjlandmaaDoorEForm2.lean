/- encode.formOf: what it answers, over the map of forms and the list of atomics. Premise: the list of atomics lies where the program has it. -/
import Derived.Test.YtiibhggjlandmaaDoorEMap
import Derived.Test.YtiibhggjlandmaaDoorPEx
import Derived.Laws.CopyOwn
import Derived.Below
namespace Go.Proofs.YtiibhggjlandmaaDoor.PF
open Go.RowKit Go.Proofs.YtiibhggjlandmaaDoorW.PrintWords Go.Proofs.YtiibhggjlandmaaDoorW.PrintMore Go.Proofs.YtiibhggjlandmaaDoor.PE
set_option linter.unusedVariables false
set_option linter.unusedSimpArgs false
def atomV : List Int := [3, 1, 0, 4, 12, 8, 16, 20, 24, 28]
/-- The list of atomics lies where the program has it. -/
structure TabOk (w : World) : Prop where
  size : 0 < w.heap.size
  cell : ∀ i : Nat, i < 10 → w.cell? ⟨0, i, none⟩ = some (.int .u32 (atomV.getD i 0))
theorem TabOk.below {w w' : World} (h : TabOk w) (hb : Below w.heap.size w w') : TabOk w' where
  size := Nat.lt_of_lt_of_le h.size hb.size
  cell := fun i hi => (hb.cell (p := ⟨0, i, none⟩) h.size).trans (h.cell i hi)
/-- Operation, shape, bits. -/
def formT : List (Int × Int × Int) := [(1, 0, 55), (2, 0, 23), (3, 1, 111), (4, 2, 103), (5, 3, 99), (6, 3, 4195), (7, 3, 16483), (8, 3, 20579), (9, 3, 24675), (10, 3, 28771), (11, 2, 3), (12, 2, 4099), (13, 2, 8195), (14, 2, 12291), (15, 2, 16387), (16, 2, 20483), (17, 2, 24579), (18, 4, 35), (19, 4, 4131), (20, 4, 8227), (21, 4, 12323), (22, 2, 19), (23, 2, 8211), (24, 2, 12307), (25, 2, 16403), (26, 2, 24595), (27, 2, 28691), (28, 6, 4115), (29, 6, 20499), (30, 6, 1073762323), (31, 2, 27), (32, 7, 4123), (33, 7, 20507), (34, 7, 1073762331), (35, 5, 51), (36, 5, 1073741875), (37, 5, 4147), (38, 5, 8243), (39, 5, 12339), (40, 5, 16435), (41, 5, 20531), (42, 5, 1073762355), (43, 5, 24627), (44, 5, 28723), (45, 5, 59), (46, 5, 1073741883), (47, 5, 4155), (48, 5, 20539), (49, 5, 1073762363), (50, 8, 15), (51, 8, 4111), (52, 9, 115), (53, 9, 1048691), (54, 9, 807403635), (55, 9, 273678451), (56, 8, 4211), (57, 8, 8307), (58, 8, 12403), (59, 8, 20595), (60, 8, 24691), (61, 8, 28787), (62, 5, 33554483), (63, 5, 33558579), (64, 5, 33562675), (65, 5, 33566771), (66, 5, 33570867), (67, 5, 33574963), (68, 5, 33579059), (69, 5, 33583155), (70, 5, 33554491), (71, 5, 33570875), (72, 5, 33574971), (73, 5, 33579067), (74, 5, 33583163), (75, 11, 268443695), (86, 11, 268447791)]
def findT (x : Int) : List (Int × Int × Int) → Option (Int × Int)
  | [] => none
  | (o, s, b) :: r => if x = o then some (s, b) else findT x r
def mkE : Nat → List (Int × Int × Int) → List MapEntry
  | _, [] => []
  | i, (o, s, b) :: r => { key := .int .i64 o, val := .agg #[.int .i64 s, .int .u32 b], born := i } :: mkE (i + 1) r
theorem formsE_eq : formsE = mkE 0 formT := by kernel_rfl
theorem findE_mk (x : Int) : ∀ (l : List (Int × Int × Int)) (i : Nat), findE x (mkE i l) = (findT x l).map fun z => .agg #[.int .i64 z.1, .int .u32 z.2]
  | [], _ => rfl
  | (o, s, b) :: r, i => by
    unfold mkE findE findT
    by_cases c : x = o
    · simp [c]
    · simp only [if_neg c]; exact findE_mk x r (i + 1)
theorem keys_mk : ∀ (l : List (Int × Int × Int)) (i : Nat), ∀ m ∈ mkE i l, ∃ y, m.key = .int .i64 y
  | (o, s, b) :: r, i, m, h => by
    unfold mkE at h
    rcases List.mem_cons.mp h with rfl | h
    · exact ⟨o, rfl⟩
    · exact keys_mk r (i + 1) m h
theorem zero56 (w : World) : (zeroValue 56).run Tryd.prog w = .ok (.agg #[.int .i64 0, .int .u32 0]) w := by
  kernel_rfl
theorem run_lookup_form (w : World) (g : Nat) (x : Int) (hg : w.heap[g]? = some formsO) : (Instr.lookup 92 (.map (some g)) (.int .i64 x) true).run Tryd.prog w = .ok (.tuple #[.agg #[.int .i64 ((findT x formT).getD (0, 0)).1, .int .u32 ((findT x formT).getD (0, 0)).2], .bool (findT x formT).isSome]) w := by
  have h := run_lookup_int 92 3 56 w g formsE.toArray 76 x _ hg Tryd.underlying92 Tryd.underlying3 (by rw [formsE_eq]; exact keys_mk formT 0) (zero56 w)
  rw [h, formsE_eq, findE_mk]
  cases findT x formT <;> rfl
def encode_formOf.f (op : Int) : Option (Int × Int × Bool) :=
  if 76 ≤ op ∧ op ≤ 85 then (encode_f.f 10 47 2 (shl .u32 (atomV.getD (op - 76).toNat 0) 2)).bind fun r => some (r.1, r.2, true)
  else if 87 ≤ op ∧ op ≤ 96 then (encode_f.f 10 47 3 (shl .u32 (atomV.getD (op - 87).toNat 0) 2)).bind fun r => some (r.1, r.2, true)
  else some (((findT op formT).getD (0, 0)).1, ((findT op formT).getD (0, 0)).2, (findT op formT).isSome)
theorem alloc3_old (w : World) (A B C : Obj) : (((w.alloc A).alloc B).alloc C).heap[w.heap.size]? = some A := by
  rw [Below.heap_alloc _ _ _ (by simp; omega)]; exact heap_alloc2_old w A B
set_option maxHeartbeats 8000000 in
set_option maxRecDepth 100000 in
theorem formOf3 (op : Int) (w : World) (h1 : ¬ (76 ≤ op ∧ op ≤ 85)) (h2 : ¬ (87 ≤ op ∧ op ≤ 96)) :
    Calls Tryd.prog 23 #[.int .i64 op] w fun e w' => e = .returned (.tuple #[.agg #[.int .i64 ((findT op formT).getD (0, 0)).1, .int .u32 ((findT op formT).getD (0, 0)).2], .bool (findT op formT).isSome]) ∧ Below w.heap.size w w' := by
  have hfm : ((w.alloc (.cells #[.int .i64 0, .int .u32 0] 56)).alloc formsO).heap[w.heap.size + 1]? = some formsO := heap_alloc2_new _ _ _
  by_cases c1 : op ≥ 76
  · have a1 : decide (76 ≤ op) = true := decide_eq_true c1
    have a2 : decide (op ≤ 85) = false := decide_eq_false (by omega)
    by_cases c2 : op ≥ 87
    · have a3 : decide (87 ≤ op) = true := decide_eq_true c2
      have a4 : decide (op ≤ 96) = false := decide_eq_false (by omega)
      go_enter Tryd.func23, Tryd.ntmps23
      have hlk := run_lookup_form ((w.alloc (.cells #[.int .i64 0, .int .u32 0] 56)).alloc formsO) (w.heap.size + 1) op hfm
      go_wp2_with (first | (go_at_call 40; refine (forms_calls _).mono ?_; rintro e w' ⟨rfl, rfl⟩; dsimp only [formsV]) | ((with_reducible refine gate_dst (N := 35) rfl ?_); refine Kd.event_run (v := .tuple #[.agg #[.int .i64 ((findT op formT).getD (0, 0)).1, .int .u32 ((findT op formT).getD (0, 0)).2], .bool (findT op formT).isSome]) (w1 := (w.alloc (.cells #[.int .i64 0, .int .u32 0] 56)).alloc formsO) rfl (by simp [execOp, Act.eval, hlk]) ?_))
      refine bodyPost_ret (results_ct rfl _ _ w.heap.size 56 #[.int .i64 ((findT op formT).getD (0, 0)).1, .int .u32 ((findT op formT).getD (0, 0)).2] (0, 0) _ rfl (alloc3_old _ _ _ _) Tryd.underlying56 rfl (by kernel_rfl)) rfl ?_
      exact ⟨rfl, below_alloc (below_alloc (below_alloc (Below.refl _ _) _) _) _⟩
    · have a3 : decide (87 ≤ op) = false := decide_eq_false c2
      go_enter Tryd.func23, Tryd.ntmps23
      have hlk := run_lookup_form ((w.alloc (.cells #[.int .i64 0, .int .u32 0] 56)).alloc formsO) (w.heap.size + 1) op hfm
      go_wp2_with (first | (go_at_call 40; refine (forms_calls _).mono ?_; rintro e w' ⟨rfl, rfl⟩; dsimp only [formsV]) | ((with_reducible refine gate_dst (N := 35) rfl ?_); refine Kd.event_run (v := .tuple #[.agg #[.int .i64 ((findT op formT).getD (0, 0)).1, .int .u32 ((findT op formT).getD (0, 0)).2], .bool (findT op formT).isSome]) (w1 := (w.alloc (.cells #[.int .i64 0, .int .u32 0] 56)).alloc formsO) rfl (by simp [execOp, Act.eval, hlk]) ?_))
      refine bodyPost_ret (results_ct rfl _ _ w.heap.size 56 #[.int .i64 ((findT op formT).getD (0, 0)).1, .int .u32 ((findT op formT).getD (0, 0)).2] (0, 0) _ rfl (alloc3_old _ _ _ _) Tryd.underlying56 rfl (by kernel_rfl)) rfl ?_
      exact ⟨rfl, below_alloc (below_alloc (below_alloc (Below.refl _ _) _) _) _⟩
  · have a1 : decide (76 ≤ op) = false := decide_eq_false c1
    have a3 : decide (87 ≤ op) = false := decide_eq_false (by omega)
    go_enter Tryd.func23, Tryd.ntmps23
    have hlk := run_lookup_form ((w.alloc (.cells #[.int .i64 0, .int .u32 0] 56)).alloc formsO) (w.heap.size + 1) op hfm
    go_wp2_with (first | (go_at_call 40; refine (forms_calls _).mono ?_; rintro e w' ⟨rfl, rfl⟩; dsimp only [formsV]) | ((with_reducible refine gate_dst (N := 35) rfl ?_); refine Kd.event_run (v := .tuple #[.agg #[.int .i64 ((findT op formT).getD (0, 0)).1, .int .u32 ((findT op formT).getD (0, 0)).2], .bool (findT op formT).isSome]) (w1 := (w.alloc (.cells #[.int .i64 0, .int .u32 0] 56)).alloc formsO) rfl (by simp [execOp, Act.eval, hlk]) ?_))
    refine bodyPost_ret (results_ct rfl _ _ w.heap.size 56 #[.int .i64 ((findT op formT).getD (0, 0)).1, .int .u32 ((findT op formT).getD (0, 0)).2] (0, 0) _ rfl (alloc3_old _ _ _ _) Tryd.underlying56 rfl (by kernel_rfl)) rfl ?_
    exact ⟨rfl, below_alloc (below_alloc (below_alloc (Below.refl _ _) _) _) _⟩
set_option maxHeartbeats 8000000 in
set_option maxRecDepth 100000 in
theorem formOf1 (i : Nat) (hi : i < 10) (s b : Int) (w : World) (hT : TabOk w) (hf : encode_f.f 10 47 2 (shl .u32 (atomV.getD i 0) 2) = some (s, b)) :
    Calls Tryd.prog 23 #[.int .i64 (76 + (i : Int))] w fun e w' => e = .returned (.tuple #[.agg #[.int .i64 s, .int .u32 b], .bool true]) ∧ Below w.heap.size w w' := by
  have hc := (hT.below (below_alloc (Below.refl _ w) (.cells #[.int .i64 0, .int .u32 0] 56))).cell i hi
  have a1 : decide ((76 : Int) ≤ 76 + (i : Int)) = true := decide_eq_true (by omega)
  have a2 : decide ((76 : Int) + (i : Int) ≤ 85) = true := decide_eq_true (by omega)
  have hx : (0 : Int) ≤ (i : Int) ∧ (i : Int) < ((10 : Nat) : Int) := ⟨by omega, by omega⟩
  go_enter Tryd.func23, Tryd.ntmps23
  go_wp2_with (first | (go_at_call 39; refine (encode_f.calls 10 47 2 (shl .u32 (atomV.getD i 0) 2) s b _ hf).mono ?_; rintro e w' ⟨rfl, hb⟩; have hR := (hb.block w.heap.size (by simp)).trans (heap_alloc_new w (.cells #[.int .i64 0, .int .u32 0] 56)); have hB := (below_alloc (Below.refl _ w) (.cells #[.int .i64 0, .int .u32 0] 56)).trans (hb.mono (by simp)); clear hb) | ((with_reducible refine gate_store (t := 56) (p := 2) (v := .tmp 18) rfl ?_); refine wpList_store_row rfl 56 _ _ rfl w.heap.size #[.int .i64 s, .int .u32 b] rfl rfl 56 #[.int .i64 0, .int .u32 0] hR (by kernel_rfl) rfl (by simp [Value.oneCell']) ?_))
  refine bodyPost_ret (results_ct rfl _ _ w.heap.size 56 #[.int .i64 s, .int .u32 b] (0, 0) _ rfl (setRow_heap _ _ _ _ _ _ hR) Tryd.underlying56 rfl (by kernel_rfl)) rfl ?_
  exact ⟨rfl, below_setRow hB (Nat.le_refl _) _⟩
set_option maxHeartbeats 8000000 in
set_option maxRecDepth 100000 in
theorem formOf2 (i : Nat) (hi : i < 10) (s b : Int) (w : World) (hT : TabOk w) (hf : encode_f.f 10 47 3 (shl .u32 (atomV.getD i 0) 2) = some (s, b)) :
    Calls Tryd.prog 23 #[.int .i64 (87 + (i : Int))] w fun e w' => e = .returned (.tuple #[.agg #[.int .i64 s, .int .u32 b], .bool true]) ∧ Below w.heap.size w w' := by
  have hc := (hT.below (below_alloc (Below.refl _ w) (.cells #[.int .i64 0, .int .u32 0] 56))).cell i hi
  have a1 : decide ((76 : Int) ≤ 87 + (i : Int)) = true := decide_eq_true (by omega)
  have a2 : decide ((87 : Int) + (i : Int) ≤ 85) = false := decide_eq_false (by omega)
  have a3 : decide ((87 : Int) ≤ 87 + (i : Int)) = true := decide_eq_true (by omega)
  have a4 : decide ((87 : Int) + (i : Int) ≤ 96) = true := decide_eq_true (by omega)
  have hx : (0 : Int) ≤ (i : Int) ∧ (i : Int) < ((10 : Nat) : Int) := ⟨by omega, by omega⟩
  go_enter Tryd.func23, Tryd.ntmps23
  go_wp2_with (first | (go_at_call 39; refine (encode_f.calls 10 47 3 (shl .u32 (atomV.getD i 0) 2) s b _ hf).mono ?_; rintro e w' ⟨rfl, hb⟩; have hR := (hb.block w.heap.size (by simp)).trans (heap_alloc_new w (.cells #[.int .i64 0, .int .u32 0] 56)); have hB := (below_alloc (Below.refl _ w) (.cells #[.int .i64 0, .int .u32 0] 56)).trans (hb.mono (by simp)); clear hb) | ((with_reducible refine gate_store (t := 56) (p := 2) (v := .tmp 31) rfl ?_); refine wpList_store_row rfl 56 _ _ rfl w.heap.size #[.int .i64 s, .int .u32 b] rfl rfl 56 #[.int .i64 0, .int .u32 0] hR (by kernel_rfl) rfl (by simp [Value.oneCell']) ?_))
  refine bodyPost_ret (results_ct rfl _ _ w.heap.size 56 #[.int .i64 s, .int .u32 b] (0, 0) _ rfl (setRow_heap _ _ _ _ _ _ hR) Tryd.underlying56 rfl (by kernel_rfl)) rfl ?_
  exact ⟨rfl, below_setRow hB (Nat.le_refl _) _⟩
theorem encode_formOf.calls (a0 r1 r2 : Int) (r3 : Bool) (w : World) (hT : TabOk w) (h : encode_formOf.f a0 = some (r1, r2, r3)) :
    Calls Tryd.prog 23 #[.int .i64 a0] w fun e w' => e = .returned (.tuple #[.agg #[.int .i64 r1, .int .u32 r2], .bool r3]) ∧ Below w.heap.size w w' := by
  unfold encode_formOf.f at h
  by_cases c1 : 76 ≤ a0 ∧ a0 ≤ 85
  · rw [if_pos c1] at h
    obtain ⟨⟨s, b⟩, hf, h⟩ := Option.bind_eq_some_iff.mp h
    simp only [Option.some.injEq, Prod.mk.injEq] at h
    obtain ⟨rfl, rfl, rfl⟩ := h
    have := formOf1 (a0 - 76).toNat (by omega) s b w hT hf
    rwa [show (76 : Int) + ((a0 - 76).toNat : Int) = a0 by omega] at this
  · rw [if_neg c1] at h
    by_cases c2 : 87 ≤ a0 ∧ a0 ≤ 96
    · rw [if_pos c2] at h
      obtain ⟨⟨s, b⟩, hf, h⟩ := Option.bind_eq_some_iff.mp h
      simp only [Option.some.injEq, Prod.mk.injEq] at h
      obtain ⟨rfl, rfl, rfl⟩ := h
      have := formOf2 (a0 - 87).toNat (by omega) s b w hT hf
      rwa [show (87 : Int) + ((a0 - 87).toNat : Int) = a0 by omega] at this
    · rw [if_neg c2] at h
      simp only [Option.some.injEq, Prod.mk.injEq] at h
      obtain ⟨rfl, rfl, rfl⟩ := h
      exact formOf3 a0 w c1 c2
end Go.Proofs.YtiibhggjlandmaaDoor.PF
