-- Written by a program (a turned copy of the kit's print.py) for this claim. Lean checks it.
import Derived.Test.YtiibhggjlandmaaPDx0
import Derived.Test.YtiibhggjlandmaaPDx4
namespace Go.Proofs.Ytiibhggjlandmaa.PD
open Go.RowKit Go.Proofs.YtiibhggjlandmaaW.PrintWords Go.Proofs.YtiibhggjlandmaaW.PrintLast Go.Proofs.YtiibhggjlandmaaW.PrintMore Go.Proofs.Ytiibhggjlandmaa.PE
attribute [local go_sem] max2_int min2_int max_two min_two max_three min_three max_four min_four   -- for this text's walks alone
set_option linter.unusedVariables false
set_option linter.unusedSimpArgs false

/-! ### anvilref05_two: function 28 -/
mutual
def anvilref05_two.j0 : Nat → Int → Bool → Int → Bool → Int → Int → Int → Int → Int → Int → Int → Int → Option (Int × Bool)
  | 0, _, _, _, _, _, _, _, _, _, _, _, _ => none
  | k + 1, x4, x5, x15, x25, x393000, x393001, x393002, x393003, x393004, x393005, x393006, x393007 => if x25 = true then (if x393002 = 0 then (some (0, false)) else (if x393001 = 2 then ((anvilref05_join.f k x4 (([12, 5, 6, 4, 5, 3, 4, 2, 3, 7, 2, 6] : List Int))).bind fun t398 => ((anvilref05_typeI.f k 3 2 x393002 2 t398).bind fun t399 => (some (t399, true)))) else ((anvilref05_join.f k x4 (([12, 5, 6, 4, 5, 3, 4, 8, 3, 7, 2, 6] : List Int))).bind fun t403 => ((anvilref05_typeI.f k 3 3 x393002 2 t403).bind fun t404 => (some (t404, true)))))) else (if x15 = 4 then (if x393003 = 0 then (anvilref05_two.j1 k x5 false x393000 x393001 x393002 x393003 x393004 x393005 x393006 x393007) else (anvilref05_two.j1 k x5 (!x5) x393000 x393001 x393002 x393003 x393004 x393005 x393006 x393007)) else (if x15 = 6 then ((anvilref05_join.f k x4 (([12, 5, 11, 4, 10, 3, 9, 2, 8, 7, 7, 6] : List Int))).bind fun t412 => ((anvilref05_typeS.f k 2 2 x393003 t412).bind fun t413 => (some (t413, true)))) else (if x15 = 7 then ((anvilref05_join.f k x4 (([12, 5, 11, 4, 10, 3, 9, 8, 8, 7, 7, 6] : List Int))).bind fun t417 => ((anvilref05_typeS.f k 3 2 x393003 t417).bind fun t418 => (some (t418, true)))) else (some (0, false)))))
def anvilref05_two.j1 : Nat → Bool → Bool → Int → Int → Int → Int → Int → Int → Int → Int → Option (Int × Bool)
  | 0, _, _, _, _, _, _, _, _, _, _ => none
  | k + 1, x5, x48, x393000, x393001, x393002, x393003, x393004, x393005, x393006, x393007 => if x48 = true then ((anvilref05_typeR.f 51 0 0 x393002 0 x393003).bind fun t405 => (some (t405, true))) else (if x393003 = 0 then (if x393002 = 0 then (anvilref05_two.j2 k x5 false x393000 x393001 x393002 x393003 x393004 x393005 x393006 x393007) else (anvilref05_two.j2 k x5 (!x5) x393000 x393001 x393002 x393003 x393004 x393005 x393006 x393007)) else ((anvilref05_typeR.f 51 0 0 x393002 x393002 x393003).bind fun t408 => (some (t408, true))))
def anvilref05_two.j2 : Nat → Bool → Bool → Int → Int → Int → Int → Int → Int → Int → Int → Option (Int × Bool)
  | 0, _, _, _, _, _, _, _, _, _, _ => none
  | k + 1, x5, x72, x393000, x393001, x393002, x393003, x393004, x393005, x393006, x393007 => if x72 = true then ((anvilref05_typeI.f k 103 0 0 x393002 0).bind fun t406 => (some (t406, true))) else (if x393002 = 0 then (if x5 = true then (some (1048691, true)) else (some (0, false))) else ((anvilref05_typeI.f k 103 0 1 x393002 0).bind fun t407 => (some (t407, true))))
end
def anvilref05_two.f (k : Nat) (a0_0 : Int) (a0_1 : Int) (a0_2 : Int) (a0_3 : Int) (a0_4 : Int) (a0_5 : Int) (a0_6 : Int) (a0_7 : Int) : Option (Int × Bool) := (anvilref05_cut.f k ((a0_0) % 4294967296) 12 12).bind fun t393 => (if a0_1 = 0 then ((anvilref05_typeI.f k 19 1 a0_2 a0_2 a0_6).bind fun t394 => (some (t394, true))) else (if a0_1 = 2 then (anvilref05_two.j0 k ((a0_0) % 4294967296) (t393 == 1) a0_1 (a0_1 == 2) a0_0 a0_1 a0_2 a0_3 a0_4 a0_5 a0_6 a0_7) else (anvilref05_two.j0 k ((a0_0) % 4294967296) (t393 == 1) a0_1 (a0_1 == 3) a0_0 a0_1 a0_2 a0_3 a0_4 a0_5 a0_6 a0_7)))
theorem anvilref05_two.mono_l : ∀ k, (∀ y0 y1 y2 y3 y4 y5 y6 y7 y8 y9 y10 y11, LeO (anvilref05_two.j0 k y0 y1 y2 y3 y4 y5 y6 y7 y8 y9 y10 y11) (anvilref05_two.j0 (k + 1) y0 y1 y2 y3 y4 y5 y6 y7 y8 y9 y10 y11)) ∧ (∀ y0 y1 y2 y3 y4 y5 y6 y7 y8 y9, LeO (anvilref05_two.j1 k y0 y1 y2 y3 y4 y5 y6 y7 y8 y9) (anvilref05_two.j1 (k + 1) y0 y1 y2 y3 y4 y5 y6 y7 y8 y9)) ∧ (∀ y0 y1 y2 y3 y4 y5 y6 y7 y8 y9, LeO (anvilref05_two.j2 k y0 y1 y2 y3 y4 y5 y6 y7 y8 y9) (anvilref05_two.j2 (k + 1) y0 y1 y2 y3 y4 y5 y6 y7 y8 y9))
  | 0 => ⟨fun _ _ _ _ _ _ _ _ _ _ _ _ r h => by simp [anvilref05_two.j0] at h, fun _ _ _ _ _ _ _ _ _ _ r h => by simp [anvilref05_two.j1] at h, fun _ _ _ _ _ _ _ _ _ _ r h => by simp [anvilref05_two.j2] at h⟩
  | k + 1 => by
    obtain ⟨ih0, ih1, ih2⟩ := anvilref05_two.mono_l k
    refine ⟨?_, ?_, ?_⟩
    · intro y0 y1 y2 y3 y4 y5 y6 y7 y8 y9 y10 y11
      unfold anvilref05_two.j0
      repeat' first
      | (with_reducible exact ih0 _ _ _ _ _ _ _ _ _ _ _ _)
      | (with_reducible exact ih1 _ _ _ _ _ _ _ _ _ _)
      | (with_reducible exact ih2 _ _ _ _ _ _ _ _ _ _)
      | (with_reducible exact anvilref05_cut.mono _ _ _ _)
      | (with_reducible exact anvilref05_join.mono _ _ _)
      | (with_reducible exact anvilref05_typeI.mono _ _ _ _ _ _)
      | (with_reducible exact anvilref05_typeS.mono _ _ _ _ _)
      | (with_reducible exact LeO.refl _)
      | (with_reducible exact LeO.none _)
      | (with_reducible refine LeO.ite ?_ ?_)
      | (with_reducible refine LeO.bind ?_ (fun _ => ?_))
      | exact ih0 _ _ _ _ _ _ _ _ _ _ _ _
      | exact ih1 _ _ _ _ _ _ _ _ _ _
      | exact ih2 _ _ _ _ _ _ _ _ _ _
      | exact anvilref05_cut.mono _ _ _ _
      | exact anvilref05_join.mono _ _ _
      | exact anvilref05_typeI.mono _ _ _ _ _ _
      | exact anvilref05_typeS.mono _ _ _ _ _
      | exact LeO.none _
      | refine LeO.ite ?_ ?_
      | refine LeO.bind ?_ (fun _ => ?_)
    · intro y0 y1 y2 y3 y4 y5 y6 y7 y8 y9
      unfold anvilref05_two.j1
      repeat' first
      | (with_reducible exact ih0 _ _ _ _ _ _ _ _ _ _ _ _)
      | (with_reducible exact ih1 _ _ _ _ _ _ _ _ _ _)
      | (with_reducible exact ih2 _ _ _ _ _ _ _ _ _ _)
      | (with_reducible exact anvilref05_cut.mono _ _ _ _)
      | (with_reducible exact anvilref05_join.mono _ _ _)
      | (with_reducible exact anvilref05_typeI.mono _ _ _ _ _ _)
      | (with_reducible exact anvilref05_typeS.mono _ _ _ _ _)
      | (with_reducible exact LeO.refl _)
      | (with_reducible exact LeO.none _)
      | (with_reducible refine LeO.ite ?_ ?_)
      | (with_reducible refine LeO.bind ?_ (fun _ => ?_))
      | exact ih0 _ _ _ _ _ _ _ _ _ _ _ _
      | exact ih1 _ _ _ _ _ _ _ _ _ _
      | exact ih2 _ _ _ _ _ _ _ _ _ _
      | exact anvilref05_cut.mono _ _ _ _
      | exact anvilref05_join.mono _ _ _
      | exact anvilref05_typeI.mono _ _ _ _ _ _
      | exact anvilref05_typeS.mono _ _ _ _ _
      | exact LeO.none _
      | refine LeO.ite ?_ ?_
      | refine LeO.bind ?_ (fun _ => ?_)
    · intro y0 y1 y2 y3 y4 y5 y6 y7 y8 y9
      unfold anvilref05_two.j2
      repeat' first
      | (with_reducible exact ih0 _ _ _ _ _ _ _ _ _ _ _ _)
      | (with_reducible exact ih1 _ _ _ _ _ _ _ _ _ _)
      | (with_reducible exact ih2 _ _ _ _ _ _ _ _ _ _)
      | (with_reducible exact anvilref05_cut.mono _ _ _ _)
      | (with_reducible exact anvilref05_join.mono _ _ _)
      | (with_reducible exact anvilref05_typeI.mono _ _ _ _ _ _)
      | (with_reducible exact anvilref05_typeS.mono _ _ _ _ _)
      | (with_reducible exact LeO.refl _)
      | (with_reducible exact LeO.none _)
      | (with_reducible refine LeO.ite ?_ ?_)
      | (with_reducible refine LeO.bind ?_ (fun _ => ?_))
      | exact ih0 _ _ _ _ _ _ _ _ _ _ _ _
      | exact ih1 _ _ _ _ _ _ _ _ _ _
      | exact ih2 _ _ _ _ _ _ _ _ _ _
      | exact anvilref05_cut.mono _ _ _ _
      | exact anvilref05_join.mono _ _ _
      | exact anvilref05_typeI.mono _ _ _ _ _ _
      | exact anvilref05_typeS.mono _ _ _ _ _
      | exact LeO.none _
      | refine LeO.ite ?_ ?_
      | refine LeO.bind ?_ (fun _ => ?_)
theorem anvilref05_two.mono : ∀ a0 a1 a2 a3 a4 a5 a6 a7 k, LeO (anvilref05_two.f k a0 a1 a2 a3 a4 a5 a6 a7) (anvilref05_two.f (k + 1) a0 a1 a2 a3 a4 a5 a6 a7) := by
  intro a0 a1 a2 a3 a4 a5 a6 a7 k
  obtain ⟨ih0, ih1, ih2⟩ := anvilref05_two.mono_l k
  unfold anvilref05_two.f
  repeat' first
      | (with_reducible exact ih0 _ _ _ _ _ _ _ _ _ _ _ _)
      | (with_reducible exact ih1 _ _ _ _ _ _ _ _ _ _)
      | (with_reducible exact ih2 _ _ _ _ _ _ _ _ _ _)
      | (with_reducible exact anvilref05_cut.mono _ _ _ _)
      | (with_reducible exact anvilref05_join.mono _ _ _)
      | (with_reducible exact anvilref05_typeI.mono _ _ _ _ _ _)
      | (with_reducible exact anvilref05_typeS.mono _ _ _ _ _)
      | (with_reducible exact LeO.refl _)
      | (with_reducible exact LeO.none _)
      | (with_reducible refine LeO.ite ?_ ?_)
      | (with_reducible refine LeO.bind ?_ (fun _ => ?_))
      | exact ih0 _ _ _ _ _ _ _ _ _ _ _ _
      | exact ih1 _ _ _ _ _ _ _ _ _ _
      | exact ih2 _ _ _ _ _ _ _ _ _ _
      | exact anvilref05_cut.mono _ _ _ _
      | exact anvilref05_join.mono _ _ _
      | exact anvilref05_typeI.mono _ _ _ _ _ _
      | exact anvilref05_typeS.mono _ _ _ _ _
      | exact LeO.none _
      | refine LeO.ite ?_ ?_
      | refine LeO.bind ?_ (fun _ => ?_)
def anvilref05_two.T11 : Bool × List (List Nat × List Nat) := (true, [([], []), ([0], [0]), ([], []), ([], []), ([2, 3], [2, 3]), ([1, 4, 4], [1, 4]), ([5, 5, 0, 1, 2, 3, 4, 5], [5]), ([6, 0, 1, 2, 3, 4, 5, 6], [])])
def anvilref05_two.B11 : List Nat := [0, 1, 0, 0, 12, 31, 63, 127]
theorem anvilref05_two.tab11 : rtab .any (opsOf Try.f28 11) = anvilref05_two.T11 := by kernel_rfl
theorem anvilref05_two.bits11 : waitsOk anvilref05_two.T11.2 anvilref05_two.B11 = true := by kernel_rfl
def anvilref05_two.T12 : Bool × List (List Nat × List Nat) := (true, [([], []), ([0], [0]), ([], []), ([], []), ([2, 3], [2, 3]), ([1, 4, 4], [1, 4]), ([5, 5, 0, 1, 2, 3, 4, 5], [5]), ([6, 0, 1, 2, 3, 4, 5, 6], [])])
def anvilref05_two.B12 : List Nat := [0, 1, 0, 0, 12, 31, 63, 127]
theorem anvilref05_two.tab12 : rtab .any (opsOf Try.f28 12) = anvilref05_two.T12 := by kernel_rfl
theorem anvilref05_two.bits12 : waitsOk anvilref05_two.T12.2 anvilref05_two.B12 = true := by kernel_rfl
set_option maxHeartbeats 8000000 in
set_option maxRecDepth 100000 in
theorem anvilref05_two.calls (k : Nat) (a0_0 : Int) (a0_1 : Int) (a0_2 : Int) (a0_3 : Int) (a0_4 : Int) (a0_5 : Int) (a0_6 : Int) (a0_7 : Int) (r1 : Int) (r2 : Bool) (w : World) (h : anvilref05_two.f k a0_0 a0_1 a0_2 a0_3 a0_4 a0_5 a0_6 a0_7 = some (r1, r2)) :
    Calls Try.prog 28 #[.agg #[.int .i64 a0_0, .int .i64 a0_1, .int .i64 a0_2, .int .i64 a0_3, .int .i64 a0_4, .int .i64 a0_5, .int .i64 a0_6, .int .i64 a0_7]] w fun e w' => e = .returned (.tuple #[.int .u32 r1, .bool r2]) ∧ Below w.heap.size w w' := by
  have hu43 := Try.underlying43
  have HB := Aside0.mk (Below.refl w.heap.size w)
  have H : ((anvilref05_cut.f k ((a0_0) % 4294967296) 12 12).bind fun t393 => (if a0_1 = 0 then ((anvilref05_typeI.f k 19 1 a0_2 a0_2 a0_6).bind fun t394 => (some (t394, true))) else (if a0_1 = 2 then (anvilref05_two.j0 k ((a0_0) % 4294967296) (t393 == 1) a0_1 (a0_1 == 2) a0_0 a0_1 a0_2 a0_3 a0_4 a0_5 a0_6 a0_7) else (anvilref05_two.j0 k ((a0_0) % 4294967296) (t393 == 1) a0_1 (a0_1 == 3) a0_0 a0_1 a0_2 a0_3 a0_4 a0_5 a0_6 a0_7)))) = some (r1, r2) := h
  clear h
  replace H := Option.bind_eq_some_iff.mp H
  obtain ⟨t393, A20, H⟩ := H
  replace H : (if a0_1 = 0 then ((anvilref05_typeI.f k 19 1 a0_2 a0_2 a0_6).bind fun t394 => (some (t394, true))) else (if a0_1 = 2 then (anvilref05_two.j0 k ((a0_0) % 4294967296) (t393 == 1) a0_1 (a0_1 == 2) a0_0 a0_1 a0_2 a0_3 a0_4 a0_5 a0_6 a0_7) else (anvilref05_two.j0 k ((a0_0) % 4294967296) (t393 == 1) a0_1 (a0_1 == 3) a0_0 a0_1 a0_2 a0_3 a0_4 a0_5 a0_6 a0_7))) = some (r1, r2) := H
  have A2 := Aside0.mk A20
  clear A20
  by_cases c3 : a0_1 = 0
  · rw [if_pos c3] at H
    have c3b0 : (a0_1 == 0) = true := beq_iff_eq.mpr c3
    have c3b1 : (a0_1 != 0) = false := bne_eq_false_iff_eq.mpr c3
    clear c3
    replace H := Option.bind_eq_some_iff.mp H
    obtain ⟨t394, A40, H⟩ := H
    replace H : (some (t394, true)) = some (r1, r2) := H
    have A4 := Aside0.mk A40
    clear A40
    simp only [Option.some.injEq, Prod.mk.injEq] at H
    obtain ⟨rfl, rfl⟩ := H
    go_enter Try.func28, Try.ntmps28
    go_wp2_with (first | ((with_reducible refine gate_dst (N := 1) rfl ?_); refine box_event ?hg (N := 1) ?hd (cs := #[.int .i64 a0_0, .int .i64 a0_1, .int .i64 a0_2, .int .i64 a0_3, .int .i64 a0_4, .int .i64 a0_5, .int .i64 a0_6, .int .i64 a0_7]) (t := 43) ?hr ?_; (case hd => rfl); (case hg => rfl); (case hr => first | (go_simp; done) | (go_simp; rfl)); intro gb392 hg w5 hbox hb; have n0_ := Aside0.mk (below_step (by repeat (first | (with_reducible first | exact HB.out | apply below_alloc | apply pw_below_drewN | apply below_drew1) | exact HB.out)) hb); have n1_ := Aside0.mk (hbox); have n2_ := Aside0.mk ((by rw [hg]; exact (below_size (by repeat (first | (with_reducible first | exact HB.out | apply below_alloc | apply pw_below_drewN | apply below_drew1) | exact HB.out))) : w.heap.size ≤ gb392)); have n3_ := Aside0.mk ((by rw [hg]; exact (below_size (by repeat (first | (with_reducible first | exact HB.out | apply below_alloc | apply pw_below_drewN | apply below_drew1) | exact HB.out))) : w.heap.size ≤ gb392)); clear HB; have HB := n0_; have BK392 := n1_; have GW392 := n2_; have GE392 := n3_; clear n0_ n1_ n2_ n3_; clear hb hbox hg; have hcz6_0 : w5.cell? ⟨gb392, 0, none⟩ = some (.int .i64 a0_0) := (blk_cell BK392.out 0).trans rfl; have hcz6_1 : w5.cell? ⟨gb392, 1, none⟩ = some (.int .i64 a0_1) := (blk_cell BK392.out 1).trans rfl; have hcz6_2 : w5.cell? ⟨gb392, 2, none⟩ = some (.int .i64 a0_2) := (blk_cell BK392.out 2).trans rfl; have hcz6_3 : w5.cell? ⟨gb392, 3, none⟩ = some (.int .i64 a0_3) := (blk_cell BK392.out 3).trans rfl; have hcz6_4 : w5.cell? ⟨gb392, 4, none⟩ = some (.int .i64 a0_4) := (blk_cell BK392.out 4).trans rfl; have hcz6_5 : w5.cell? ⟨gb392, 5, none⟩ = some (.int .i64 a0_5) := (blk_cell BK392.out 5).trans rfl; have hcz6_6 : w5.cell? ⟨gb392, 6, none⟩ = some (.int .i64 a0_6) := (blk_cell BK392.out 6).trans rfl; have hcz6_7 : w5.cell? ⟨gb392, 7, none⟩ = some (.int .i64 a0_7) := (blk_cell BK392.out 7).trans rfl; have hfz6_0 := blk_frozen BK392.out 0; have hfz6_1 := blk_frozen BK392.out 1; have hfz6_2 := blk_frozen BK392.out 2; have hfz6_3 := blk_frozen BK392.out 3; have hfz6_4 := blk_frozen BK392.out 4; have hfz6_5 := blk_frozen BK392.out 5; have hfz6_6 := blk_frozen BK392.out 6; have hfz6_7 := blk_frozen BK392.out 7) | ((with_reducible refine gate_callee (f := 25) rfl ?_); refine goesL_ (some 12) rfl rfl Try.func25 (by kernel_rfl) rfl #[.int .u32 ((a0_0) % 4294967296), .int .i64 12, .int .i64 12] rfl (by (try simp only [List.map_toArray, List.map_cons, List.map_nil]); first | done | rfl | (simp only [List.length_drop, List.length_take]; rfl)) ?_; (with_reducible refine (anvilref05_cut.calls k ((a0_0) % 4294967296) 12 12 t393 _ A2.out).mono ?_); rintro e w' ⟨rfl, ⟨nd, rfl⟩⟩; refine ⟨_, rfl, ?_⟩) | ((with_reducible refine gate_callee (f := 53) rfl ?_); refine goesL_ (some 24) rfl rfl Try.func53 (by kernel_rfl) rfl #[.int .i64 19, .int .i64 1, .int .i64 a0_2, .int .i64 a0_2, .int .i64 a0_6] rfl (by (try simp only [List.map_toArray, List.map_cons, List.map_nil]); first | done | rfl | (simp only [List.length_drop, List.length_take]; rfl)) ?_; (with_reducible refine (anvilref05_typeI.calls k 19 1 a0_2 a0_2 a0_6 t394 _ A4.out).mono ?_); rintro e w' ⟨rfl, ⟨nd, rfl⟩⟩; refine ⟨_, rfl, ?_⟩))
    go_ret2
    exact ⟨by first | rfl | (simp [errW_none, errW_some] <;> rfl) | (simp [*, errW_none, errW_some] <;> rfl), by repeat (first | (with_reducible first | exact HB.out | apply below_alloc | apply pw_below_drewN | apply below_drew1 | refine below_set ?_ GE392.out) | exact HB.out)⟩
  · rw [if_neg c3] at H
    have c3b0 : (a0_1 == 0) = false := beq_eq_false_iff_ne.mpr c3
    have c3b1 : (a0_1 != 0) = true := bne_iff_ne.mpr c3
    have HC7 := Aside0.mk H
    clear H
    go_enter Try.func28, Try.ntmps28
    go_upto_if 25 with (first | ((with_reducible refine gate_dst (N := 1) rfl ?_); refine box_event ?hg (N := 1) ?hd (cs := #[.int .i64 a0_0, .int .i64 a0_1, .int .i64 a0_2, .int .i64 a0_3, .int .i64 a0_4, .int .i64 a0_5, .int .i64 a0_6, .int .i64 a0_7]) (t := 43) ?hr ?_; (case hd => rfl); (case hg => rfl); (case hr => first | (go_simp; done) | (go_simp; rfl)); intro gb392 hg w8 hbox hb; have n0_ := Aside0.mk (below_step (by repeat (first | (with_reducible first | exact HB.out | apply below_alloc | apply pw_below_drewN | apply below_drew1) | exact HB.out)) hb); have n1_ := Aside0.mk (hbox); have n2_ := Aside0.mk ((by rw [hg]; exact (below_size (by repeat (first | (with_reducible first | exact HB.out | apply below_alloc | apply pw_below_drewN | apply below_drew1) | exact HB.out))) : w.heap.size ≤ gb392)); have n3_ := Aside0.mk ((by rw [hg]; exact (below_size (by repeat (first | (with_reducible first | exact HB.out | apply below_alloc | apply pw_below_drewN | apply below_drew1) | exact HB.out))) : w.heap.size ≤ gb392)); clear HB; have HB := n0_; have BK392 := n1_; have GW392 := n2_; have GE392 := n3_; clear n0_ n1_ n2_ n3_; clear hb hbox hg; have hcz9_0 : w8.cell? ⟨gb392, 0, none⟩ = some (.int .i64 a0_0) := (blk_cell BK392.out 0).trans rfl; have hcz9_1 : w8.cell? ⟨gb392, 1, none⟩ = some (.int .i64 a0_1) := (blk_cell BK392.out 1).trans rfl; have hcz9_2 : w8.cell? ⟨gb392, 2, none⟩ = some (.int .i64 a0_2) := (blk_cell BK392.out 2).trans rfl; have hcz9_3 : w8.cell? ⟨gb392, 3, none⟩ = some (.int .i64 a0_3) := (blk_cell BK392.out 3).trans rfl; have hcz9_4 : w8.cell? ⟨gb392, 4, none⟩ = some (.int .i64 a0_4) := (blk_cell BK392.out 4).trans rfl; have hcz9_5 : w8.cell? ⟨gb392, 5, none⟩ = some (.int .i64 a0_5) := (blk_cell BK392.out 5).trans rfl; have hcz9_6 : w8.cell? ⟨gb392, 6, none⟩ = some (.int .i64 a0_6) := (blk_cell BK392.out 6).trans rfl; have hcz9_7 : w8.cell? ⟨gb392, 7, none⟩ = some (.int .i64 a0_7) := (blk_cell BK392.out 7).trans rfl; have hfz9_0 := blk_frozen BK392.out 0; have hfz9_1 := blk_frozen BK392.out 1; have hfz9_2 := blk_frozen BK392.out 2; have hfz9_3 := blk_frozen BK392.out 3; have hfz9_4 := blk_frozen BK392.out 4; have hfz9_5 := blk_frozen BK392.out 5; have hfz9_6 := blk_frozen BK392.out 6; have hfz9_7 := blk_frozen BK392.out 7) | ((with_reducible refine gate_callee (f := 25) rfl ?_); refine goesL_ (some 12) rfl rfl Try.func25 (by kernel_rfl) rfl #[.int .u32 ((a0_0) % 4294967296), .int .i64 12, .int .i64 12] rfl (by (try simp only [List.map_toArray, List.map_cons, List.map_nil]); first | done | rfl | (simp only [List.length_drop, List.length_take]; rfl)) ?_; (with_reducible refine (anvilref05_cut.calls k ((a0_0) % 4294967296) 12 12 t393 _ A2.out).mono ?_); rintro e w' ⟨rfl, ⟨nd, rfl⟩⟩; refine ⟨_, rfl, ?_⟩))
    (try simp only [Act.put, List.setIfInBounds_toArray, List.set_cons_zero, List.set_cons_succ])
    go_cut [25] (fun v25 wc => ∃ (kq : Nat) (x25_6 : Bool), v25 = .bool x25_6 ∧ Aside0 (anvilref05_two.j0 kq ((a0_0) % 4294967296) (t393 == 1) a0_1 x25_6 a0_0 a0_1 a0_2 a0_3 a0_4 a0_5 a0_6 a0_7 = some (r1, r2)) ∧ Aside0 (kq ≤ k) ∧ Aside0 (wc.heap[gb392]? = some (.cells #[.int .i64 a0_0, .int .i64 a0_1, .int .i64 a0_2, .int .i64 a0_3, .int .i64 a0_4, .int .i64 a0_5, .int .i64 a0_6, .int .i64 a0_7] 43 (0, 0))) ∧ Aside0 (Below w.heap.size w wc))
    case first =>
      have H := HC7.out
      clear HC7
      by_cases c10 : a0_1 = 2
      · rw [if_pos c10] at H
        have c10b0 : (a0_1 == 2) = true := beq_iff_eq.mpr c10
        have c10b1 : (a0_1 != 2) = false := bne_eq_false_iff_eq.mpr c10
        clear c10
        (first | rw [c10b0] | (simp only [i64_w, i32_w]; rw [c10b0]) | skip)
        have H' := Aside0.mk H
        clear H
        go_wp2
        go_meet
        case rel => exact ⟨_, ((a0_1 == 2)), (by first | rfl | (simp; done) | (simp [*]; done)), H', ⟨by first | omega | exact Nat.le_refl _⟩, ⟨by (with_reducible repeat (first | refine blk_drewN ?_ _ | refine blk_drew ?_ | refine blk_alloc ?_ _)); exact BK392.out⟩, ⟨by repeat (first | (with_reducible first | exact HB.out | apply below_alloc | apply pw_below_drewN | apply below_drew1 | refine below_set ?_ GE392.out) | exact HB.out)⟩⟩
      · rw [if_neg c10] at H
        have c10b0 : (a0_1 == 2) = false := beq_eq_false_iff_ne.mpr c10
        have c10b1 : (a0_1 != 2) = true := bne_iff_ne.mpr c10
        (first | rw [c10b0] | (simp only [i64_w, i32_w]; rw [c10b0]) | skip)
        have H' := Aside0.mk H
        clear H
        go_wp2
        go_meet
        case rel => exact ⟨_, ((a0_1 == 3)), (by first | rfl | (simp; done) | (simp [*]; done)), H', ⟨by first | omega | exact Nat.le_refl _⟩, ⟨by (with_reducible repeat (first | refine blk_drewN ?_ _ | refine blk_drew ?_ | refine blk_alloc ?_ _)); exact BK392.out⟩, ⟨by repeat (first | (with_reducible first | exact HB.out | apply below_alloc | apply pw_below_drewN | apply below_drew1 | refine below_set ?_ GE392.out) | exact HB.out)⟩⟩
    case rest =>
      clear HC7
      try clear c1
      try clear c2
      try clear p2
      try clear c3
      try clear c3b0
      try clear c3b1
      try clear c5
      try clear c10
      try clear c10b0
      try clear c10b1
      try clear hcz6_0
      try clear hcz6_1
      try clear hcz6_2
      try clear hcz6_3
      try clear hcz6_4
      try clear hcz6_5
      try clear hcz6_6
      try clear hcz6_7
      try clear hcz9_0
      try clear hcz9_1
      try clear hcz9_2
      try clear hcz9_3
      try clear hcz9_4
      try clear hcz9_5
      try clear hcz9_6
      try clear hcz9_7
      try clear hfz6_0
      try clear hfz6_1
      try clear hfz6_2
      try clear hfz6_3
      try clear hfz6_4
      try clear hfz6_5
      try clear hfz6_6
      try clear hfz6_7
      try clear hfz9_0
      try clear hfz9_1
      try clear hfz9_2
      try clear hfz9_3
      try clear hfz9_4
      try clear hfz9_5
      try clear hfz9_6
      try clear hfz9_7
      obtain ⟨kq, x25_6, rfl, HA, HJ6, BK392, HB⟩ := hcut
      cases kq with
      | zero => exact absurd HA.out (by simp [anvilref05_two.j0])
      | succ kj6 =>
        have H := HA.out
        clear HA
        simp only [anvilref05_two.j0] at H
        by_cases c11 : x25_6 = true
        · subst c11
          have H1 : (if a0_2 = 0 then (some (0, false)) else (if a0_1 = 2 then ((anvilref05_join.f kj6 ((a0_0) % 4294967296) (([12, 5, 6, 4, 5, 3, 4, 2, 3, 7, 2, 6] : List Int))).bind fun t398 => ((anvilref05_typeI.f kj6 3 2 a0_2 2 t398).bind fun t399 => (some (t399, true)))) else ((anvilref05_join.f kj6 ((a0_0) % 4294967296) (([12, 5, 6, 4, 5, 3, 4, 8, 3, 7, 2, 6] : List Int))).bind fun t403 => ((anvilref05_typeI.f kj6 3 3 a0_2 2 t403).bind fun t404 => (some (t404, true)))))) = some (r1, r2) := by rw [if_pos rfl] at H; exact H
          clear H
          have H := H1
          clear H1
          by_cases c12 : a0_2 = 0
          · rw [if_pos c12] at H
            have c12b0 : (a0_2 == 0) = true := beq_iff_eq.mpr c12
            have c12b1 : (a0_2 != 0) = false := bne_eq_false_iff_eq.mpr c12
            clear c12
            simp only [Option.some.injEq, Prod.mk.injEq] at H
            obtain ⟨rfl, rfl⟩ := H
            have hcz13_0 : wc.cell? ⟨gb392, 0, none⟩ = some (.int .i64 a0_0) := (blk_cell BK392.out 0).trans rfl
            have hcz13_1 : wc.cell? ⟨gb392, 1, none⟩ = some (.int .i64 a0_1) := (blk_cell BK392.out 1).trans rfl
            have hcz13_2 : wc.cell? ⟨gb392, 2, none⟩ = some (.int .i64 a0_2) := (blk_cell BK392.out 2).trans rfl
            have hcz13_3 : wc.cell? ⟨gb392, 3, none⟩ = some (.int .i64 a0_3) := (blk_cell BK392.out 3).trans rfl
            have hcz13_4 : wc.cell? ⟨gb392, 4, none⟩ = some (.int .i64 a0_4) := (blk_cell BK392.out 4).trans rfl
            have hcz13_5 : wc.cell? ⟨gb392, 5, none⟩ = some (.int .i64 a0_5) := (blk_cell BK392.out 5).trans rfl
            have hcz13_6 : wc.cell? ⟨gb392, 6, none⟩ = some (.int .i64 a0_6) := (blk_cell BK392.out 6).trans rfl
            have hcz13_7 : wc.cell? ⟨gb392, 7, none⟩ = some (.int .i64 a0_7) := (blk_cell BK392.out 7).trans rfl
            have hfz13_0 := blk_frozen BK392.out 0
            have hfz13_1 := blk_frozen BK392.out 1
            have hfz13_2 := blk_frozen BK392.out 2
            have hfz13_3 := blk_frozen BK392.out 3
            have hfz13_4 := blk_frozen BK392.out 4
            have hfz13_5 := blk_frozen BK392.out 5
            have hfz13_6 := blk_frozen BK392.out 6
            have hfz13_7 := blk_frozen BK392.out 7
            go_wp2
            go_ret2
            exact ⟨by first | rfl | (simp [errW_none, errW_some] <;> rfl) | (simp [*, errW_none, errW_some] <;> rfl), by repeat (first | (with_reducible first | exact HB.out | apply below_alloc | apply pw_below_drewN | apply below_drew1 | refine below_set ?_ GE392.out) | exact HB.out)⟩
          · rw [if_neg c12] at H
            have c12b0 : (a0_2 == 0) = false := beq_eq_false_iff_ne.mpr c12
            have c12b1 : (a0_2 != 0) = true := bne_iff_ne.mpr c12
            by_cases c14 : a0_1 = 2
            · rw [if_pos c14] at H
              have c14b0 : (a0_1 == 2) = true := beq_iff_eq.mpr c14
              have c14b1 : (a0_1 != 2) = false := bne_eq_false_iff_eq.mpr c14
              clear c14
              obtain ⟨y395, hy395⟩ : ∃ y_ : List Int, y_ = (([12, 5, 6, 4, 5, 3, 4, 2, 3, 7, 2, 6] : List Int)) := ⟨_, rfl⟩
              replace H : ((anvilref05_join.f kj6 ((a0_0) % 4294967296) y395).bind fun t398 => ((anvilref05_typeI.f kj6 3 2 a0_2 2 t398).bind fun t399 => (some (t399, true)))) = some (r1, r2) := by first | (rw [hy395]; with_reducible exact H) | (have H2_ := (Option.bind_some _ _).symm.trans H; rw [hy395]; with_reducible exact H2_) | (have H2_ := (Option.bind_some _ _).symm.trans H; with_reducible exact H2_) | with_reducible exact H | (rw [hy395]; exact H) | exact H
              have Ny395 := Aside0.mk hy395
              clear hy395
              replace H := Option.bind_eq_some_iff.mp H
              obtain ⟨t398, A150, H⟩ := H
              replace H : ((anvilref05_typeI.f kj6 3 2 a0_2 2 t398).bind fun t399 => (some (t399, true))) = some (r1, r2) := H
              have A15 := Aside0.mk A150
              clear A150
              replace H := Option.bind_eq_some_iff.mp H
              obtain ⟨t399, A160, H⟩ := H
              replace H : (some (t399, true)) = some (r1, r2) := H
              have A16 := Aside0.mk A160
              clear A160
              simp only [Option.some.injEq, Prod.mk.injEq] at H
              obtain ⟨rfl, rfl⟩ := H
              have hcz17_0 : wc.cell? ⟨gb392, 0, none⟩ = some (.int .i64 a0_0) := (blk_cell BK392.out 0).trans rfl
              have hcz17_1 : wc.cell? ⟨gb392, 1, none⟩ = some (.int .i64 a0_1) := (blk_cell BK392.out 1).trans rfl
              have hcz17_2 : wc.cell? ⟨gb392, 2, none⟩ = some (.int .i64 a0_2) := (blk_cell BK392.out 2).trans rfl
              have hcz17_3 : wc.cell? ⟨gb392, 3, none⟩ = some (.int .i64 a0_3) := (blk_cell BK392.out 3).trans rfl
              have hcz17_4 : wc.cell? ⟨gb392, 4, none⟩ = some (.int .i64 a0_4) := (blk_cell BK392.out 4).trans rfl
              have hcz17_5 : wc.cell? ⟨gb392, 5, none⟩ = some (.int .i64 a0_5) := (blk_cell BK392.out 5).trans rfl
              have hcz17_6 : wc.cell? ⟨gb392, 6, none⟩ = some (.int .i64 a0_6) := (blk_cell BK392.out 6).trans rfl
              have hcz17_7 : wc.cell? ⟨gb392, 7, none⟩ = some (.int .i64 a0_7) := (blk_cell BK392.out 7).trans rfl
              have hfz17_0 := blk_frozen BK392.out 0
              have hfz17_1 := blk_frozen BK392.out 1
              have hfz17_2 := blk_frozen BK392.out 2
              have hfz17_3 := blk_frozen BK392.out 3
              have hfz17_4 := blk_frozen BK392.out 4
              have hfz17_5 := blk_frozen BK392.out 5
              have hfz17_6 := blk_frozen BK392.out 6
              have hfz17_7 := blk_frozen BK392.out 7
              try go_wp2
              have n0_ := Aside0.mk (blk_drew BK392.out)
              have n1_ := Aside0.mk (below_drew1 HB.out)
              clear BK392
              clear HB
              have BK392 := n0_
              have HB := n1_
              clear n0_ n1_
              refine start_ (n := 8) (S := fun w' => w'.cell? ⟨gb392, 0, none⟩ = some (.int .i64 a0_0) ∧ w'.cell? ⟨gb392, 1, none⟩ = some (.int .i64 a0_1) ∧ w'.cell? ⟨gb392, 2, none⟩ = some (.int .i64 a0_2) ∧ w'.cell? ⟨gb392, 3, none⟩ = some (.int .i64 a0_3) ∧ w'.cell? ⟨gb392, 4, none⟩ = some (.int .i64 a0_4) ∧ w'.cell? ⟨gb392, 5, none⟩ = some (.int .i64 a0_5) ∧ w'.cell? ⟨gb392, 6, none⟩ = some (.int .i64 a0_6) ∧ w'.cell? ⟨gb392, 7, none⟩ = some (.int .i64 a0_7)) (ds := []) #[false, false, false, false, false, false, false, false] (by kernel_rfl) rfl rfl ⟨(blk_cell BK392.out 0).trans rfl, (blk_cell BK392.out 1).trans rfl, (blk_cell BK392.out 2).trans rfl, (blk_cell BK392.out 3).trans rfl, (blk_cell BK392.out 4).trans rfl, (blk_cell BK392.out 5).trans rfl, (blk_cell BK392.out 6).trans rfl, (blk_cell BK392.out 7).trans rfl⟩ (fun hHeld => ?_); refine with_tabW anvilref05_two.tab11 anvilref05_two.bits11 (fun HT_ HW_ => ?_)
              generalize wc.drew = w18 at BK392 HB hHeld ⊢
              refine pure_ (i := 0) (N := some 34) (v := ?_) (a' := ?_) #[true, false, false, false, false, false, false, false] rfl rfl (any_of HT_.out (by kernel_rfl)) (fun _ _ _ h => h) (Or.inl ⟨by rfl, ?_⟩) ?_ ?_
              rotate_left
              · intro w'
                go_simp
                with_reducible rfl
              rotate_left
              · simp only [Act.put, List.setIfInBounds_toArray, List.set_cons_zero, List.set_cons_succ, i64_w, i32_w]
                rfl
              refine pure_ (i := 2) (N := some 36) (v := ?_) (a' := ?_) #[true, false, true, false, false, false, false, false] rfl rfl (any_of HT_.out (by kernel_rfl)) (fun _ _ _ h => h) (Or.inl ⟨by rfl, ?_⟩) ?_ ?_
              rotate_left
              · intro w'
                go_simp
                with_reducible rfl
              rotate_left
              · simp only [Act.put, List.setIfInBounds_toArray, List.set_cons_zero, List.set_cons_succ, i64_w, i32_w]
                rfl
              refine take_ (i := 1) (N := some 35) (v := ?_) (a' := ?_) #[true, true, true, false, false, false, false, false] rfl rfl (take_ofW HT_.out HW_.out (by kernel_rfl)) (fun _ _ _ h => h) (Or.inl ⟨by rfl, ?_⟩) hHeld ?_ ?_
              rotate_left
              · rintro w' ⟨s0, s1, s2, s3, s4, s5, s6, s7⟩
                go_simp
                with_reducible rfl
              rotate_left
              · simp only [Act.put, List.setIfInBounds_toArray, List.set_cons_zero, List.set_cons_succ, i64_w, i32_w]
                rfl
              refine one_ (i := 3) (N := some 37) #[true, true, true, true, false, false, false, false] rfl rfl (one_of HT_.out (by kernel_rfl)) (by decide) (fun K hK => ?_)
              refine Kd.R_lit_step (Kd.int .i64) _ 3 ?hg (N := 37) ?hd (xs := ([12, 5, 6, 4, 5, 3, 4, 2, 3, 7, 2, 6] : List Int)) (inner := [.int .i64 12, .int .i64 5, .int .i64 6, .int .i64 4, .int .i64 5, .int .i64 3, .int .i64 4, .int .i64 2, .int .i64 3, .int .i64 7, .int .i64 2, .int .i64 6]) (ok := fun _ => True) (okp := fun _ => True) ?hr ?hp (fun _ hk => hk) trivial (Below.refl _ _) (Nat.le_refl _) (by simp) ?_; (case hd => rfl); (case hg => rfl); (case hr => first | (go_simp; done) | (go_simp; rfl)); (case hp => exact (Reps.one (show Kd.M (Kd.int .i64) _ _ _ 12 [.int .i64 12] from rfl) (Reps.one (show Kd.M (Kd.int .i64) _ _ _ 5 [.int .i64 5] from rfl) (Reps.one (show Kd.M (Kd.int .i64) _ _ _ 6 [.int .i64 6] from rfl) (Reps.one (show Kd.M (Kd.int .i64) _ _ _ 4 [.int .i64 4] from rfl) (Reps.one (show Kd.M (Kd.int .i64) _ _ _ 5 [.int .i64 5] from rfl) (Reps.one (show Kd.M (Kd.int .i64) _ _ _ 3 [.int .i64 3] from rfl) (Reps.one (show Kd.M (Kd.int .i64) _ _ _ 4 [.int .i64 4] from rfl) (Reps.one (show Kd.M (Kd.int .i64) _ _ _ 2 [.int .i64 2] from rfl) (Reps.one (show Kd.M (Kd.int .i64) _ _ _ 3 [.int .i64 3] from rfl) (Reps.one (show Kd.M (Kd.int .i64) _ _ _ 7 [.int .i64 7] from rfl) (Reps.one (show Kd.M (Kd.int .i64) _ _ _ 2 [.int .i64 2] from rfl) (Reps.one (show Kd.M (Kd.int .i64) _ _ _ 6 [.int .i64 6] from rfl) (Reps.none _ _))))))))))))))
              intro v396 w19 ho20 hb hg_ hnew_
              clear hg_ hnew_
              (first | rw [← Ny395.out] at ho20 | (simp only [Int.reduceToNat] at ho20; rw [← Ny395.out] at ho20))
              have n0_ := Aside0.mk (Kd.R_lower ho20 (below_size (by repeat (first | (with_reducible first | exact HB.out | apply below_alloc | apply pw_below_drewN | apply below_drew1 | refine below_set ?_ GE392.out) | exact HB.out))))
              have n1_ := Aside0.mk (blk_below (g := gb392) (o := .cells #[.int .i64 a0_0, .int .i64 a0_1, .int .i64 a0_2, .int .i64 a0_3, .int .i64 a0_4, .int .i64 a0_5, .int .i64 a0_6, .int .i64 a0_7] 43 (0, 0)) (by (with_reducible repeat (first | refine blk_drewN ?_ _ | refine blk_drew ?_ | refine blk_alloc ?_ _)); exact BK392.out) hb)
              have n2_ := Aside0.mk (below_step (by repeat (first | (with_reducible first | exact HB.out | apply below_alloc | apply pw_below_drewN | apply below_drew1 | refine below_set ?_ GE392.out) | exact HB.out)) hb)
              clear BK392
              clear HB
              have HO397 := n0_
              have BK392 := n1_
              have HB := n2_
              clear n0_ n1_ n2_
              clear hb ho20
              obtain ⟨Ao21, co21, eo21⟩ := Kd.R_slice HO397.out
              (first | subst eo21 | (injection eo21 with f1_ f2_ f3_; have f4_ := f1_.symm; have f5_ := f3_.symm; clear f1_ f2_ f3_; subst f4_; subst f5_))
              refine hK.out _ _ ⟨(blk_cell BK392.out 0).trans rfl, (blk_cell BK392.out 1).trans rfl, (blk_cell BK392.out 2).trans rfl, (blk_cell BK392.out 3).trans rfl, (blk_cell BK392.out 4).trans rfl, (blk_cell BK392.out 5).trans rfl, (blk_cell BK392.out 6).trans rfl, (blk_cell BK392.out 7).trans rfl⟩ (fun hHeld => ?_)
              clear hK K
              refine norm_ (a' := ?_) ?_ ?_
              rotate_left
              · show Act.put _ (some 37) _ = _
                simp only [Act.put, List.setIfInBounds_toArray, List.set_cons_zero, List.set_cons_succ, i64_w, i32_w]
                rfl
              refine one_ (i := 4) (N := some 38) #[true, true, true, true, true, false, false, false] rfl rfl (one_of HT_.out (by kernel_rfl)) (by decide) (fun K hK => ?_)
              refine goes_ Try.func52 (by kernel_rfl) rfl #[.int .u32 ((a0_0) % 4294967296), .slice Ao21 y395.length co21] (by rfl) rfl rfl (by (try simp only [List.map_toArray, List.map_cons, List.map_nil]); first | done | rfl | (simp only [List.length_drop, List.length_take]; rfl)) ?_
              with_reducible refine (anvilref05_join.calls kj6 ((a0_0) % 4294967296) _ _ y395 t398 _ ?side1 ?side2 A15.out).mono ?_
              (case side1 => repeat (first | exact (Kd.R_reads' HO397.out).2.2 | (with_reducible refine Kd.C_alloc ?_ _) | (with_reducible refine Kd.C_drewN ?_ _) | (with_reducible refine Kd.C_drew ?_)))
              (case side2 => exact (Kd.R_reads' HO397.out).2.1)
              rintro e w' ⟨rfl, ⟨nd, rfl⟩⟩
              refine ⟨_, rfl, ?_⟩
              refine hK.out _ _ ⟨(blk_cell BK392.out 0).trans rfl, (blk_cell BK392.out 1).trans rfl, (blk_cell BK392.out 2).trans rfl, (blk_cell BK392.out 3).trans rfl, (blk_cell BK392.out 4).trans rfl, (blk_cell BK392.out 5).trans rfl, (blk_cell BK392.out 6).trans rfl, (blk_cell BK392.out 7).trans rfl⟩ (fun hHeld => ?_)
              clear hK K
              refine norm_ (a' := ?_) ?_ ?_
              rotate_left
              · show Act.put _ (some 38) _ = _
                simp only [Act.put, List.setIfInBounds_toArray, List.set_cons_zero, List.set_cons_succ, i64_w, i32_w]
                rfl
              refine one_ (i := 5) (N := some 39) #[true, true, true, true, true, true, false, false] rfl rfl (one_of HT_.out (by kernel_rfl)) (by decide) (fun K hK => ?_)
              refine goes_ Try.func53 (by kernel_rfl) rfl #[.int .i64 3, .int .i64 2, .int .i64 a0_2, .int .i64 2, .int .i64 t398] (by rfl) rfl rfl (by (try simp only [List.map_toArray, List.map_cons, List.map_nil]); first | done | rfl | (simp only [List.length_drop, List.length_take]; rfl)) ?_
              with_reducible refine (anvilref05_typeI.calls kj6 3 2 a0_2 2 t398 t399 _ A16.out).mono ?_
              rintro e w' ⟨rfl, ⟨nd, rfl⟩⟩
              refine ⟨_, rfl, ?_⟩
              refine hK.out _ _ ⟨(blk_cell BK392.out 0).trans rfl, (blk_cell BK392.out 1).trans rfl, (blk_cell BK392.out 2).trans rfl, (blk_cell BK392.out 3).trans rfl, (blk_cell BK392.out 4).trans rfl, (blk_cell BK392.out 5).trans rfl, (blk_cell BK392.out 6).trans rfl, (blk_cell BK392.out 7).trans rfl⟩ (fun hHeld => ?_)
              clear hK K
              refine norm_ (a' := ?_) ?_ ?_
              rotate_left
              · show Act.put _ (some 39) _ = _
                simp only [Act.put, List.setIfInBounds_toArray, List.set_cons_zero, List.set_cons_succ, i64_w, i32_w]
                rfl
              refine pure_ (i := 6) (N := some 2) (v := ?_) (a' := ?_) #[true, true, true, true, true, true, true, false] rfl rfl (any_of HT_.out (by kernel_rfl)) (fun _ _ _ h => h) (Or.inl ⟨by rfl, ?_⟩) ?_ ?_
              rotate_left
              · intro w'
                go_simp
                with_reducible rfl
              rotate_left
              · simp only [Act.put, List.setIfInBounds_toArray, List.set_cons_zero, List.set_cons_succ, i64_w, i32_w]
                rfl
              refine pure_ (i := 7) (N := some 3) (v := ?_) (a' := ?_) #[true, true, true, true, true, true, true, true] rfl rfl (any_of HT_.out (by kernel_rfl)) (fun _ _ _ h => h) (Or.inl ⟨by rfl, ?_⟩) ?_ ?_
              rotate_left
              · intro w'
                go_simp
                with_reducible rfl
              rotate_left
              · simp only [Act.put, List.setIfInBounds_toArray, List.set_cons_zero, List.set_cons_succ, i64_w, i32_w]
                rfl
              refine done_ (done_of HT_.out (by kernel_rfl)) ?_
              try go_wp2
              go_ret2
              exact ⟨by first | rfl | (simp [errW_none, errW_some] <;> rfl) | (simp [*, errW_none, errW_some] <;> rfl), by repeat (first | (with_reducible first | exact HB.out | apply below_alloc | apply pw_below_drewN | apply below_drew1 | refine below_set ?_ GE392.out) | exact HB.out)⟩
            · rw [if_neg c14] at H
              have c14b0 : (a0_1 == 2) = false := beq_eq_false_iff_ne.mpr c14
              have c14b1 : (a0_1 != 2) = true := bne_iff_ne.mpr c14
              obtain ⟨y400, hy400⟩ : ∃ y_ : List Int, y_ = (([12, 5, 6, 4, 5, 3, 4, 8, 3, 7, 2, 6] : List Int)) := ⟨_, rfl⟩
              replace H : ((anvilref05_join.f kj6 ((a0_0) % 4294967296) y400).bind fun t403 => ((anvilref05_typeI.f kj6 3 3 a0_2 2 t403).bind fun t404 => (some (t404, true)))) = some (r1, r2) := by first | (rw [hy400]; with_reducible exact H) | (have H2_ := (Option.bind_some _ _).symm.trans H; rw [hy400]; with_reducible exact H2_) | (have H2_ := (Option.bind_some _ _).symm.trans H; with_reducible exact H2_) | with_reducible exact H | (rw [hy400]; exact H) | exact H
              have Ny400 := Aside0.mk hy400
              clear hy400
              replace H := Option.bind_eq_some_iff.mp H
              obtain ⟨t403, A220, H⟩ := H
              replace H : ((anvilref05_typeI.f kj6 3 3 a0_2 2 t403).bind fun t404 => (some (t404, true))) = some (r1, r2) := H
              have A22 := Aside0.mk A220
              clear A220
              replace H := Option.bind_eq_some_iff.mp H
              obtain ⟨t404, A230, H⟩ := H
              replace H : (some (t404, true)) = some (r1, r2) := H
              have A23 := Aside0.mk A230
              clear A230
              simp only [Option.some.injEq, Prod.mk.injEq] at H
              obtain ⟨rfl, rfl⟩ := H
              have hcz24_0 : wc.cell? ⟨gb392, 0, none⟩ = some (.int .i64 a0_0) := (blk_cell BK392.out 0).trans rfl
              have hcz24_1 : wc.cell? ⟨gb392, 1, none⟩ = some (.int .i64 a0_1) := (blk_cell BK392.out 1).trans rfl
              have hcz24_2 : wc.cell? ⟨gb392, 2, none⟩ = some (.int .i64 a0_2) := (blk_cell BK392.out 2).trans rfl
              have hcz24_3 : wc.cell? ⟨gb392, 3, none⟩ = some (.int .i64 a0_3) := (blk_cell BK392.out 3).trans rfl
              have hcz24_4 : wc.cell? ⟨gb392, 4, none⟩ = some (.int .i64 a0_4) := (blk_cell BK392.out 4).trans rfl
              have hcz24_5 : wc.cell? ⟨gb392, 5, none⟩ = some (.int .i64 a0_5) := (blk_cell BK392.out 5).trans rfl
              have hcz24_6 : wc.cell? ⟨gb392, 6, none⟩ = some (.int .i64 a0_6) := (blk_cell BK392.out 6).trans rfl
              have hcz24_7 : wc.cell? ⟨gb392, 7, none⟩ = some (.int .i64 a0_7) := (blk_cell BK392.out 7).trans rfl
              have hfz24_0 := blk_frozen BK392.out 0
              have hfz24_1 := blk_frozen BK392.out 1
              have hfz24_2 := blk_frozen BK392.out 2
              have hfz24_3 := blk_frozen BK392.out 3
              have hfz24_4 := blk_frozen BK392.out 4
              have hfz24_5 := blk_frozen BK392.out 5
              have hfz24_6 := blk_frozen BK392.out 6
              have hfz24_7 := blk_frozen BK392.out 7
              try go_wp2
              have n0_ := Aside0.mk (blk_drew BK392.out)
              have n1_ := Aside0.mk (below_drew1 HB.out)
              clear BK392
              clear HB
              have BK392 := n0_
              have HB := n1_
              clear n0_ n1_
              refine start_ (n := 8) (S := fun w' => w'.cell? ⟨gb392, 0, none⟩ = some (.int .i64 a0_0) ∧ w'.cell? ⟨gb392, 1, none⟩ = some (.int .i64 a0_1) ∧ w'.cell? ⟨gb392, 2, none⟩ = some (.int .i64 a0_2) ∧ w'.cell? ⟨gb392, 3, none⟩ = some (.int .i64 a0_3) ∧ w'.cell? ⟨gb392, 4, none⟩ = some (.int .i64 a0_4) ∧ w'.cell? ⟨gb392, 5, none⟩ = some (.int .i64 a0_5) ∧ w'.cell? ⟨gb392, 6, none⟩ = some (.int .i64 a0_6) ∧ w'.cell? ⟨gb392, 7, none⟩ = some (.int .i64 a0_7)) (ds := []) #[false, false, false, false, false, false, false, false] (by kernel_rfl) rfl rfl ⟨(blk_cell BK392.out 0).trans rfl, (blk_cell BK392.out 1).trans rfl, (blk_cell BK392.out 2).trans rfl, (blk_cell BK392.out 3).trans rfl, (blk_cell BK392.out 4).trans rfl, (blk_cell BK392.out 5).trans rfl, (blk_cell BK392.out 6).trans rfl, (blk_cell BK392.out 7).trans rfl⟩ (fun hHeld => ?_); refine with_tabW anvilref05_two.tab12 anvilref05_two.bits12 (fun HT_ HW_ => ?_)
              generalize wc.drew = w25 at BK392 HB hHeld ⊢
              refine pure_ (i := 0) (N := some 40) (v := ?_) (a' := ?_) #[true, false, false, false, false, false, false, false] rfl rfl (any_of HT_.out (by kernel_rfl)) (fun _ _ _ h => h) (Or.inl ⟨by rfl, ?_⟩) ?_ ?_
              rotate_left
              · intro w'
                go_simp
                with_reducible rfl
              rotate_left
              · simp only [Act.put, List.setIfInBounds_toArray, List.set_cons_zero, List.set_cons_succ, i64_w, i32_w]
                rfl
              refine pure_ (i := 2) (N := some 42) (v := ?_) (a' := ?_) #[true, false, true, false, false, false, false, false] rfl rfl (any_of HT_.out (by kernel_rfl)) (fun _ _ _ h => h) (Or.inl ⟨by rfl, ?_⟩) ?_ ?_
              rotate_left
              · intro w'
                go_simp
                with_reducible rfl
              rotate_left
              · simp only [Act.put, List.setIfInBounds_toArray, List.set_cons_zero, List.set_cons_succ, i64_w, i32_w]
                rfl
              refine take_ (i := 1) (N := some 41) (v := ?_) (a' := ?_) #[true, true, true, false, false, false, false, false] rfl rfl (take_ofW HT_.out HW_.out (by kernel_rfl)) (fun _ _ _ h => h) (Or.inl ⟨by rfl, ?_⟩) hHeld ?_ ?_
              rotate_left
              · rintro w' ⟨s0, s1, s2, s3, s4, s5, s6, s7⟩
                go_simp
                with_reducible rfl
              rotate_left
              · simp only [Act.put, List.setIfInBounds_toArray, List.set_cons_zero, List.set_cons_succ, i64_w, i32_w]
                rfl
              refine one_ (i := 3) (N := some 43) #[true, true, true, true, false, false, false, false] rfl rfl (one_of HT_.out (by kernel_rfl)) (by decide) (fun K hK => ?_)
              refine Kd.R_lit_step (Kd.int .i64) _ 3 ?hg (N := 43) ?hd (xs := ([12, 5, 6, 4, 5, 3, 4, 8, 3, 7, 2, 6] : List Int)) (inner := [.int .i64 12, .int .i64 5, .int .i64 6, .int .i64 4, .int .i64 5, .int .i64 3, .int .i64 4, .int .i64 8, .int .i64 3, .int .i64 7, .int .i64 2, .int .i64 6]) (ok := fun _ => True) (okp := fun _ => True) ?hr ?hp (fun _ hk => hk) trivial (Below.refl _ _) (Nat.le_refl _) (by simp) ?_; (case hd => rfl); (case hg => rfl); (case hr => first | (go_simp; done) | (go_simp; rfl)); (case hp => exact (Reps.one (show Kd.M (Kd.int .i64) _ _ _ 12 [.int .i64 12] from rfl) (Reps.one (show Kd.M (Kd.int .i64) _ _ _ 5 [.int .i64 5] from rfl) (Reps.one (show Kd.M (Kd.int .i64) _ _ _ 6 [.int .i64 6] from rfl) (Reps.one (show Kd.M (Kd.int .i64) _ _ _ 4 [.int .i64 4] from rfl) (Reps.one (show Kd.M (Kd.int .i64) _ _ _ 5 [.int .i64 5] from rfl) (Reps.one (show Kd.M (Kd.int .i64) _ _ _ 3 [.int .i64 3] from rfl) (Reps.one (show Kd.M (Kd.int .i64) _ _ _ 4 [.int .i64 4] from rfl) (Reps.one (show Kd.M (Kd.int .i64) _ _ _ 8 [.int .i64 8] from rfl) (Reps.one (show Kd.M (Kd.int .i64) _ _ _ 3 [.int .i64 3] from rfl) (Reps.one (show Kd.M (Kd.int .i64) _ _ _ 7 [.int .i64 7] from rfl) (Reps.one (show Kd.M (Kd.int .i64) _ _ _ 2 [.int .i64 2] from rfl) (Reps.one (show Kd.M (Kd.int .i64) _ _ _ 6 [.int .i64 6] from rfl) (Reps.none _ _))))))))))))))
              intro v401 w26 ho27 hb hg_ hnew_
              clear hg_ hnew_
              (first | rw [← Ny400.out] at ho27 | (simp only [Int.reduceToNat] at ho27; rw [← Ny400.out] at ho27))
              have n0_ := Aside0.mk (Kd.R_lower ho27 (below_size (by repeat (first | (with_reducible first | exact HB.out | apply below_alloc | apply pw_below_drewN | apply below_drew1 | refine below_set ?_ GE392.out) | exact HB.out))))
              have n1_ := Aside0.mk (blk_below (g := gb392) (o := .cells #[.int .i64 a0_0, .int .i64 a0_1, .int .i64 a0_2, .int .i64 a0_3, .int .i64 a0_4, .int .i64 a0_5, .int .i64 a0_6, .int .i64 a0_7] 43 (0, 0)) (by (with_reducible repeat (first | refine blk_drewN ?_ _ | refine blk_drew ?_ | refine blk_alloc ?_ _)); exact BK392.out) hb)
              have n2_ := Aside0.mk (below_step (by repeat (first | (with_reducible first | exact HB.out | apply below_alloc | apply pw_below_drewN | apply below_drew1 | refine below_set ?_ GE392.out) | exact HB.out)) hb)
              clear BK392
              clear HB
              have HO402 := n0_
              have BK392 := n1_
              have HB := n2_
              clear n0_ n1_ n2_
              clear hb ho27
              obtain ⟨Ao28, co28, eo28⟩ := Kd.R_slice HO402.out
              (first | subst eo28 | (injection eo28 with f1_ f2_ f3_; have f4_ := f1_.symm; have f5_ := f3_.symm; clear f1_ f2_ f3_; subst f4_; subst f5_))
              refine hK.out _ _ ⟨(blk_cell BK392.out 0).trans rfl, (blk_cell BK392.out 1).trans rfl, (blk_cell BK392.out 2).trans rfl, (blk_cell BK392.out 3).trans rfl, (blk_cell BK392.out 4).trans rfl, (blk_cell BK392.out 5).trans rfl, (blk_cell BK392.out 6).trans rfl, (blk_cell BK392.out 7).trans rfl⟩ (fun hHeld => ?_)
              clear hK K
              refine norm_ (a' := ?_) ?_ ?_
              rotate_left
              · show Act.put _ (some 43) _ = _
                simp only [Act.put, List.setIfInBounds_toArray, List.set_cons_zero, List.set_cons_succ, i64_w, i32_w]
                rfl
              refine one_ (i := 4) (N := some 44) #[true, true, true, true, true, false, false, false] rfl rfl (one_of HT_.out (by kernel_rfl)) (by decide) (fun K hK => ?_)
              refine goes_ Try.func52 (by kernel_rfl) rfl #[.int .u32 ((a0_0) % 4294967296), .slice Ao28 y400.length co28] (by rfl) rfl rfl (by (try simp only [List.map_toArray, List.map_cons, List.map_nil]); first | done | rfl | (simp only [List.length_drop, List.length_take]; rfl)) ?_
              with_reducible refine (anvilref05_join.calls kj6 ((a0_0) % 4294967296) _ _ y400 t403 _ ?side1 ?side2 A22.out).mono ?_
              (case side1 => repeat (first | exact (Kd.R_reads' HO402.out).2.2 | (with_reducible refine Kd.C_alloc ?_ _) | (with_reducible refine Kd.C_drewN ?_ _) | (with_reducible refine Kd.C_drew ?_)))
              (case side2 => exact (Kd.R_reads' HO402.out).2.1)
              rintro e w' ⟨rfl, ⟨nd, rfl⟩⟩
              refine ⟨_, rfl, ?_⟩
              refine hK.out _ _ ⟨(blk_cell BK392.out 0).trans rfl, (blk_cell BK392.out 1).trans rfl, (blk_cell BK392.out 2).trans rfl, (blk_cell BK392.out 3).trans rfl, (blk_cell BK392.out 4).trans rfl, (blk_cell BK392.out 5).trans rfl, (blk_cell BK392.out 6).trans rfl, (blk_cell BK392.out 7).trans rfl⟩ (fun hHeld => ?_)
              clear hK K
              refine norm_ (a' := ?_) ?_ ?_
              rotate_left
              · show Act.put _ (some 44) _ = _
                simp only [Act.put, List.setIfInBounds_toArray, List.set_cons_zero, List.set_cons_succ, i64_w, i32_w]
                rfl
              refine one_ (i := 5) (N := some 45) #[true, true, true, true, true, true, false, false] rfl rfl (one_of HT_.out (by kernel_rfl)) (by decide) (fun K hK => ?_)
              refine goes_ Try.func53 (by kernel_rfl) rfl #[.int .i64 3, .int .i64 3, .int .i64 a0_2, .int .i64 2, .int .i64 t403] (by rfl) rfl rfl (by (try simp only [List.map_toArray, List.map_cons, List.map_nil]); first | done | rfl | (simp only [List.length_drop, List.length_take]; rfl)) ?_
              with_reducible refine (anvilref05_typeI.calls kj6 3 3 a0_2 2 t403 t404 _ A23.out).mono ?_
              rintro e w' ⟨rfl, ⟨nd, rfl⟩⟩
              refine ⟨_, rfl, ?_⟩
              refine hK.out _ _ ⟨(blk_cell BK392.out 0).trans rfl, (blk_cell BK392.out 1).trans rfl, (blk_cell BK392.out 2).trans rfl, (blk_cell BK392.out 3).trans rfl, (blk_cell BK392.out 4).trans rfl, (blk_cell BK392.out 5).trans rfl, (blk_cell BK392.out 6).trans rfl, (blk_cell BK392.out 7).trans rfl⟩ (fun hHeld => ?_)
              clear hK K
              refine norm_ (a' := ?_) ?_ ?_
              rotate_left
              · show Act.put _ (some 45) _ = _
                simp only [Act.put, List.setIfInBounds_toArray, List.set_cons_zero, List.set_cons_succ, i64_w, i32_w]
                rfl
              refine pure_ (i := 6) (N := some 2) (v := ?_) (a' := ?_) #[true, true, true, true, true, true, true, false] rfl rfl (any_of HT_.out (by kernel_rfl)) (fun _ _ _ h => h) (Or.inl ⟨by rfl, ?_⟩) ?_ ?_
              rotate_left
              · intro w'
                go_simp
                with_reducible rfl
              rotate_left
              · simp only [Act.put, List.setIfInBounds_toArray, List.set_cons_zero, List.set_cons_succ, i64_w, i32_w]
                rfl
              refine pure_ (i := 7) (N := some 3) (v := ?_) (a' := ?_) #[true, true, true, true, true, true, true, true] rfl rfl (any_of HT_.out (by kernel_rfl)) (fun _ _ _ h => h) (Or.inl ⟨by rfl, ?_⟩) ?_ ?_
              rotate_left
              · intro w'
                go_simp
                with_reducible rfl
              rotate_left
              · simp only [Act.put, List.setIfInBounds_toArray, List.set_cons_zero, List.set_cons_succ, i64_w, i32_w]
                rfl
              refine done_ (done_of HT_.out (by kernel_rfl)) ?_
              try go_wp2
              go_ret2
              exact ⟨by first | rfl | (simp [errW_none, errW_some] <;> rfl) | (simp [*, errW_none, errW_some] <;> rfl), by repeat (first | (with_reducible first | exact HB.out | apply below_alloc | apply pw_below_drewN | apply below_drew1 | refine below_set ?_ GE392.out) | exact HB.out)⟩
        · replace c11 := Bool.eq_false_iff.mpr c11
          subst c11
          have H1 : (if a0_1 = 4 then (if a0_3 = 0 then (anvilref05_two.j1 kj6 (t393 == 1) false a0_0 a0_1 a0_2 a0_3 a0_4 a0_5 a0_6 a0_7) else (anvilref05_two.j1 kj6 (t393 == 1) (!(t393 == 1)) a0_0 a0_1 a0_2 a0_3 a0_4 a0_5 a0_6 a0_7)) else (if a0_1 = 6 then ((anvilref05_join.f kj6 ((a0_0) % 4294967296) (([12, 5, 11, 4, 10, 3, 9, 2, 8, 7, 7, 6] : List Int))).bind fun t412 => ((anvilref05_typeS.f kj6 2 2 a0_3 t412).bind fun t413 => (some (t413, true)))) else (if a0_1 = 7 then ((anvilref05_join.f kj6 ((a0_0) % 4294967296) (([12, 5, 11, 4, 10, 3, 9, 8, 8, 7, 7, 6] : List Int))).bind fun t417 => ((anvilref05_typeS.f kj6 3 2 a0_3 t417).bind fun t418 => (some (t418, true)))) else (some (0, false))))) = some (r1, r2) := by rw [if_neg (show ¬ (false = true) by decide)] at H; exact H
          clear H
          have H := H1
          clear H1
          by_cases c29 : a0_1 = 4
          · rw [if_pos c29] at H
            have c29b0 : (a0_1 == 4) = true := beq_iff_eq.mpr c29
            have c29b1 : (a0_1 != 4) = false := bne_eq_false_iff_eq.mpr c29
            clear c29
            have HC30 := Aside0.mk H
            clear H
            go_upto_region 14 with (fail)
            go_cut [48] (fun v48 wc => ∃ (kq : Nat) (x48_29 : Bool), v48 = .bool x48_29 ∧ Aside0 (anvilref05_two.j1 kq (t393 == 1) x48_29 a0_0 a0_1 a0_2 a0_3 a0_4 a0_5 a0_6 a0_7 = some (r1, r2)) ∧ Aside0 (kq ≤ kj6) ∧ Aside0 (wc.heap[gb392]? = some (.cells #[.int .i64 a0_0, .int .i64 a0_1, .int .i64 a0_2, .int .i64 a0_3, .int .i64 a0_4, .int .i64 a0_5, .int .i64 a0_6, .int .i64 a0_7] 43 (0, 0))) ∧ Aside0 (Below w.heap.size w wc))
            case first =>
              have H := HC30.out
              clear HC30
              by_cases c31 : a0_3 = 0
              · rw [if_pos c31] at H
                have c31b0 : (a0_3 == 0) = true := beq_iff_eq.mpr c31
                have c31b1 : (a0_3 != 0) = false := bne_eq_false_iff_eq.mpr c31
                clear c31
                (first | rw [c31b0] | (simp only [i64_w, i32_w]; rw [c31b0]) | skip)
                have H' := Aside0.mk H
                clear H
                have hcz32_0 : wc.cell? ⟨gb392, 0, none⟩ = some (.int .i64 a0_0) := (blk_cell BK392.out 0).trans rfl
                have hcz32_1 : wc.cell? ⟨gb392, 1, none⟩ = some (.int .i64 a0_1) := (blk_cell BK392.out 1).trans rfl
                have hcz32_2 : wc.cell? ⟨gb392, 2, none⟩ = some (.int .i64 a0_2) := (blk_cell BK392.out 2).trans rfl
                have hcz32_3 : wc.cell? ⟨gb392, 3, none⟩ = some (.int .i64 a0_3) := (blk_cell BK392.out 3).trans rfl
                have hcz32_4 : wc.cell? ⟨gb392, 4, none⟩ = some (.int .i64 a0_4) := (blk_cell BK392.out 4).trans rfl
                have hcz32_5 : wc.cell? ⟨gb392, 5, none⟩ = some (.int .i64 a0_5) := (blk_cell BK392.out 5).trans rfl
                have hcz32_6 : wc.cell? ⟨gb392, 6, none⟩ = some (.int .i64 a0_6) := (blk_cell BK392.out 6).trans rfl
                have hcz32_7 : wc.cell? ⟨gb392, 7, none⟩ = some (.int .i64 a0_7) := (blk_cell BK392.out 7).trans rfl
                have hfz32_0 := blk_frozen BK392.out 0
                have hfz32_1 := blk_frozen BK392.out 1
                have hfz32_2 := blk_frozen BK392.out 2
                have hfz32_3 := blk_frozen BK392.out 3
                have hfz32_4 := blk_frozen BK392.out 4
                have hfz32_5 := blk_frozen BK392.out 5
                have hfz32_6 := blk_frozen BK392.out 6
                have hfz32_7 := blk_frozen BK392.out 7
                go_wp2
                go_meet
                case rel => exact ⟨_, (false), (by first | rfl | (simp; done) | (simp [*]; done)), H', ⟨by have := HJ6.out; first | omega | exact Nat.le_refl _⟩, ⟨by (with_reducible repeat (first | refine blk_drewN ?_ _ | refine blk_drew ?_ | refine blk_alloc ?_ _)); exact BK392.out⟩, ⟨by repeat (first | (with_reducible first | exact HB.out | apply below_alloc | apply pw_below_drewN | apply below_drew1 | refine below_set ?_ GE392.out) | exact HB.out)⟩⟩
              · rw [if_neg c31] at H
                have c31b0 : (a0_3 == 0) = false := beq_eq_false_iff_ne.mpr c31
                have c31b1 : (a0_3 != 0) = true := bne_iff_ne.mpr c31
                (first | rw [c31b0] | (simp only [i64_w, i32_w]; rw [c31b0]) | skip)
                have H' := Aside0.mk H
                clear H
                have hcz33_0 : wc.cell? ⟨gb392, 0, none⟩ = some (.int .i64 a0_0) := (blk_cell BK392.out 0).trans rfl
                have hcz33_1 : wc.cell? ⟨gb392, 1, none⟩ = some (.int .i64 a0_1) := (blk_cell BK392.out 1).trans rfl
                have hcz33_2 : wc.cell? ⟨gb392, 2, none⟩ = some (.int .i64 a0_2) := (blk_cell BK392.out 2).trans rfl
                have hcz33_3 : wc.cell? ⟨gb392, 3, none⟩ = some (.int .i64 a0_3) := (blk_cell BK392.out 3).trans rfl
                have hcz33_4 : wc.cell? ⟨gb392, 4, none⟩ = some (.int .i64 a0_4) := (blk_cell BK392.out 4).trans rfl
                have hcz33_5 : wc.cell? ⟨gb392, 5, none⟩ = some (.int .i64 a0_5) := (blk_cell BK392.out 5).trans rfl
                have hcz33_6 : wc.cell? ⟨gb392, 6, none⟩ = some (.int .i64 a0_6) := (blk_cell BK392.out 6).trans rfl
                have hcz33_7 : wc.cell? ⟨gb392, 7, none⟩ = some (.int .i64 a0_7) := (blk_cell BK392.out 7).trans rfl
                have hfz33_0 := blk_frozen BK392.out 0
                have hfz33_1 := blk_frozen BK392.out 1
                have hfz33_2 := blk_frozen BK392.out 2
                have hfz33_3 := blk_frozen BK392.out 3
                have hfz33_4 := blk_frozen BK392.out 4
                have hfz33_5 := blk_frozen BK392.out 5
                have hfz33_6 := blk_frozen BK392.out 6
                have hfz33_7 := blk_frozen BK392.out 7
                go_wp2
                go_meet
                case rel => exact ⟨_, (!(t393 == 1)), (by first | rfl | (simp; done) | (simp [*]; done)), H', ⟨by have := HJ6.out; first | omega | exact Nat.le_refl _⟩, ⟨by (with_reducible repeat (first | refine blk_drewN ?_ _ | refine blk_drew ?_ | refine blk_alloc ?_ _)); exact BK392.out⟩, ⟨by repeat (first | (with_reducible first | exact HB.out | apply below_alloc | apply pw_below_drewN | apply below_drew1 | refine below_set ?_ GE392.out) | exact HB.out)⟩⟩
            case rest =>
              clear HC30
              try clear c1
              try clear c2
              try clear p2
              try clear c3
              try clear c3b0
              try clear c3b1
              try clear c5
              try clear c10
              try clear c10b0
              try clear c10b1
              try clear c11
              try clear c12
              try clear c12b0
              try clear c12b1
              try clear c14
              try clear c14b0
              try clear c14b1
              try clear c25
              try clear c28
              try clear c29
              try clear c29b0
              try clear c29b1
              try clear c31
              try clear c31b0
              try clear c31b1
              try clear hcz13_0
              try clear hcz13_1
              try clear hcz13_2
              try clear hcz13_3
              try clear hcz13_4
              try clear hcz13_5
              try clear hcz13_6
              try clear hcz13_7
              try clear hcz17_0
              try clear hcz17_1
              try clear hcz17_2
              try clear hcz17_3
              try clear hcz17_4
              try clear hcz17_5
              try clear hcz17_6
              try clear hcz17_7
              try clear hcz24_0
              try clear hcz24_1
              try clear hcz24_2
              try clear hcz24_3
              try clear hcz24_4
              try clear hcz24_5
              try clear hcz24_6
              try clear hcz24_7
              try clear hcz32_0
              try clear hcz32_1
              try clear hcz32_2
              try clear hcz32_3
              try clear hcz32_4
              try clear hcz32_5
              try clear hcz32_6
              try clear hcz32_7
              try clear hcz33_0
              try clear hcz33_1
              try clear hcz33_2
              try clear hcz33_3
              try clear hcz33_4
              try clear hcz33_5
              try clear hcz33_6
              try clear hcz33_7
              try clear hcz6_0
              try clear hcz6_1
              try clear hcz6_2
              try clear hcz6_3
              try clear hcz6_4
              try clear hcz6_5
              try clear hcz6_6
              try clear hcz6_7
              try clear hcz9_0
              try clear hcz9_1
              try clear hcz9_2
              try clear hcz9_3
              try clear hcz9_4
              try clear hcz9_5
              try clear hcz9_6
              try clear hcz9_7
              try clear hfz13_0
              try clear hfz13_1
              try clear hfz13_2
              try clear hfz13_3
              try clear hfz13_4
              try clear hfz13_5
              try clear hfz13_6
              try clear hfz13_7
              try clear hfz17_0
              try clear hfz17_1
              try clear hfz17_2
              try clear hfz17_3
              try clear hfz17_4
              try clear hfz17_5
              try clear hfz17_6
              try clear hfz17_7
              try clear hfz24_0
              try clear hfz24_1
              try clear hfz24_2
              try clear hfz24_3
              try clear hfz24_4
              try clear hfz24_5
              try clear hfz24_6
              try clear hfz24_7
              try clear hfz32_0
              try clear hfz32_1
              try clear hfz32_2
              try clear hfz32_3
              try clear hfz32_4
              try clear hfz32_5
              try clear hfz32_6
              try clear hfz32_7
              try clear hfz33_0
              try clear hfz33_1
              try clear hfz33_2
              try clear hfz33_3
              try clear hfz33_4
              try clear hfz33_5
              try clear hfz33_6
              try clear hfz33_7
              try clear hfz6_0
              try clear hfz6_1
              try clear hfz6_2
              try clear hfz6_3
              try clear hfz6_4
              try clear hfz6_5
              try clear hfz6_6
              try clear hfz6_7
              try clear hfz9_0
              try clear hfz9_1
              try clear hfz9_2
              try clear hfz9_3
              try clear hfz9_4
              try clear hfz9_5
              try clear hfz9_6
              try clear hfz9_7
              try clear p2
              obtain ⟨kq, x48_29, rfl, HA, HJ29, BK392, HB⟩ := hcut
              cases kq with
              | zero => exact absurd HA.out (by simp [anvilref05_two.j1])
              | succ kj29 =>
                have H := HA.out
                clear HA
                simp only [anvilref05_two.j1] at H
                by_cases c34 : x48_29 = true
                · subst c34
                  have H1 : ((anvilref05_typeR.f 51 0 0 a0_2 0 a0_3).bind fun t405 => (some (t405, true))) = some (r1, r2) := by rw [if_pos rfl] at H; exact H
                  clear H
                  have H := H1
                  clear H1
                  replace H := Option.bind_eq_some_iff.mp H
                  obtain ⟨t405, A350, H⟩ := H
                  replace H : (some (t405, true)) = some (r1, r2) := H
                  have A35 := Aside0.mk A350
                  clear A350
                  simp only [Option.some.injEq, Prod.mk.injEq] at H
                  obtain ⟨rfl, rfl⟩ := H
                  have hcz36_0 : wc.cell? ⟨gb392, 0, none⟩ = some (.int .i64 a0_0) := (blk_cell BK392.out 0).trans rfl
                  have hcz36_1 : wc.cell? ⟨gb392, 1, none⟩ = some (.int .i64 a0_1) := (blk_cell BK392.out 1).trans rfl
                  have hcz36_2 : wc.cell? ⟨gb392, 2, none⟩ = some (.int .i64 a0_2) := (blk_cell BK392.out 2).trans rfl
                  have hcz36_3 : wc.cell? ⟨gb392, 3, none⟩ = some (.int .i64 a0_3) := (blk_cell BK392.out 3).trans rfl
                  have hcz36_4 : wc.cell? ⟨gb392, 4, none⟩ = some (.int .i64 a0_4) := (blk_cell BK392.out 4).trans rfl
                  have hcz36_5 : wc.cell? ⟨gb392, 5, none⟩ = some (.int .i64 a0_5) := (blk_cell BK392.out 5).trans rfl
                  have hcz36_6 : wc.cell? ⟨gb392, 6, none⟩ = some (.int .i64 a0_6) := (blk_cell BK392.out 6).trans rfl
                  have hcz36_7 : wc.cell? ⟨gb392, 7, none⟩ = some (.int .i64 a0_7) := (blk_cell BK392.out 7).trans rfl
                  have hfz36_0 := blk_frozen BK392.out 0
                  have hfz36_1 := blk_frozen BK392.out 1
                  have hfz36_2 := blk_frozen BK392.out 2
                  have hfz36_3 := blk_frozen BK392.out 3
                  have hfz36_4 := blk_frozen BK392.out 4
                  have hfz36_5 := blk_frozen BK392.out 5
                  have hfz36_6 := blk_frozen BK392.out 6
                  have hfz36_7 := blk_frozen BK392.out 7
                  go_wp2_with (first | ((with_reducible refine gate_callee (f := 59) rfl ?_); refine goesL_ (some 60) rfl rfl Try.func59 (by kernel_rfl) rfl #[.int .i64 51, .int .i64 0, .int .i64 0, .int .i64 a0_2, .int .i64 0, .int .i64 a0_3] rfl (by (try simp only [List.map_toArray, List.map_cons, List.map_nil]); first | done | rfl | (simp only [List.length_drop, List.length_take]; rfl)) ?_; (with_reducible refine (anvilref05_typeR.calls 51 0 0 a0_2 0 a0_3 t405 _ A35.out).mono ?_); rintro e w' ⟨rfl, ⟨nd, rfl⟩⟩; refine ⟨_, rfl, ?_⟩))
                  go_ret2
                  exact ⟨by first | rfl | (simp [errW_none, errW_some] <;> rfl) | (simp [*, errW_none, errW_some] <;> rfl), by repeat (first | (with_reducible first | exact HB.out | apply below_alloc | apply pw_below_drewN | apply below_drew1 | refine below_set ?_ GE392.out) | exact HB.out)⟩
                · replace c34 := Bool.eq_false_iff.mpr c34
                  subst c34
                  have H1 : (if a0_3 = 0 then (if a0_2 = 0 then (anvilref05_two.j2 kj29 (t393 == 1) false a0_0 a0_1 a0_2 a0_3 a0_4 a0_5 a0_6 a0_7) else (anvilref05_two.j2 kj29 (t393 == 1) (!(t393 == 1)) a0_0 a0_1 a0_2 a0_3 a0_4 a0_5 a0_6 a0_7)) else ((anvilref05_typeR.f 51 0 0 a0_2 a0_2 a0_3).bind fun t408 => (some (t408, true)))) = some (r1, r2) := by rw [if_neg (show ¬ (false = true) by decide)] at H; exact H
                  clear H
                  have H := H1
                  clear H1
                  by_cases c37 : a0_3 = 0
                  · rw [if_pos c37] at H
                    have c37b0 : (a0_3 == 0) = true := beq_iff_eq.mpr c37
                    have c37b1 : (a0_3 != 0) = false := bne_eq_false_iff_eq.mpr c37
                    clear c37
                    have HC38 := Aside0.mk H
                    clear H
                    have hcz39_0 : wc.cell? ⟨gb392, 0, none⟩ = some (.int .i64 a0_0) := (blk_cell BK392.out 0).trans rfl
                    have hcz39_1 : wc.cell? ⟨gb392, 1, none⟩ = some (.int .i64 a0_1) := (blk_cell BK392.out 1).trans rfl
                    have hcz39_2 : wc.cell? ⟨gb392, 2, none⟩ = some (.int .i64 a0_2) := (blk_cell BK392.out 2).trans rfl
                    have hcz39_3 : wc.cell? ⟨gb392, 3, none⟩ = some (.int .i64 a0_3) := (blk_cell BK392.out 3).trans rfl
                    have hcz39_4 : wc.cell? ⟨gb392, 4, none⟩ = some (.int .i64 a0_4) := (blk_cell BK392.out 4).trans rfl
                    have hcz39_5 : wc.cell? ⟨gb392, 5, none⟩ = some (.int .i64 a0_5) := (blk_cell BK392.out 5).trans rfl
                    have hcz39_6 : wc.cell? ⟨gb392, 6, none⟩ = some (.int .i64 a0_6) := (blk_cell BK392.out 6).trans rfl
                    have hcz39_7 : wc.cell? ⟨gb392, 7, none⟩ = some (.int .i64 a0_7) := (blk_cell BK392.out 7).trans rfl
                    have hfz39_0 := blk_frozen BK392.out 0
                    have hfz39_1 := blk_frozen BK392.out 1
                    have hfz39_2 := blk_frozen BK392.out 2
                    have hfz39_3 := blk_frozen BK392.out 3
                    have hfz39_4 := blk_frozen BK392.out 4
                    have hfz39_5 := blk_frozen BK392.out 5
                    have hfz39_6 := blk_frozen BK392.out 6
                    have hfz39_7 := blk_frozen BK392.out 7
                    go_upto_region 18 with (fail)
                    go_cut [72] (fun v72 wc => ∃ (kq : Nat) (x72_37 : Bool), v72 = .bool x72_37 ∧ Aside0 (anvilref05_two.j2 kq (t393 == 1) x72_37 a0_0 a0_1 a0_2 a0_3 a0_4 a0_5 a0_6 a0_7 = some (r1, r2)) ∧ Aside0 (kq ≤ kj29) ∧ Aside0 (wc.heap[gb392]? = some (.cells #[.int .i64 a0_0, .int .i64 a0_1, .int .i64 a0_2, .int .i64 a0_3, .int .i64 a0_4, .int .i64 a0_5, .int .i64 a0_6, .int .i64 a0_7] 43 (0, 0))) ∧ Aside0 (Below w.heap.size w wc))
                    case first =>
                      have H := HC38.out
                      clear HC38
                      by_cases c40 : a0_2 = 0
                      · rw [if_pos c40] at H
                        have c40b0 : (a0_2 == 0) = true := beq_iff_eq.mpr c40
                        have c40b1 : (a0_2 != 0) = false := bne_eq_false_iff_eq.mpr c40
                        clear c40
                        (first | rw [c40b0] | (simp only [i64_w, i32_w]; rw [c40b0]) | skip)
                        have H' := Aside0.mk H
                        clear H
                        have hcz41_0 : wc.cell? ⟨gb392, 0, none⟩ = some (.int .i64 a0_0) := (blk_cell BK392.out 0).trans rfl
                        have hcz41_1 : wc.cell? ⟨gb392, 1, none⟩ = some (.int .i64 a0_1) := (blk_cell BK392.out 1).trans rfl
                        have hcz41_2 : wc.cell? ⟨gb392, 2, none⟩ = some (.int .i64 a0_2) := (blk_cell BK392.out 2).trans rfl
                        have hcz41_3 : wc.cell? ⟨gb392, 3, none⟩ = some (.int .i64 a0_3) := (blk_cell BK392.out 3).trans rfl
                        have hcz41_4 : wc.cell? ⟨gb392, 4, none⟩ = some (.int .i64 a0_4) := (blk_cell BK392.out 4).trans rfl
                        have hcz41_5 : wc.cell? ⟨gb392, 5, none⟩ = some (.int .i64 a0_5) := (blk_cell BK392.out 5).trans rfl
                        have hcz41_6 : wc.cell? ⟨gb392, 6, none⟩ = some (.int .i64 a0_6) := (blk_cell BK392.out 6).trans rfl
                        have hcz41_7 : wc.cell? ⟨gb392, 7, none⟩ = some (.int .i64 a0_7) := (blk_cell BK392.out 7).trans rfl
                        have hfz41_0 := blk_frozen BK392.out 0
                        have hfz41_1 := blk_frozen BK392.out 1
                        have hfz41_2 := blk_frozen BK392.out 2
                        have hfz41_3 := blk_frozen BK392.out 3
                        have hfz41_4 := blk_frozen BK392.out 4
                        have hfz41_5 := blk_frozen BK392.out 5
                        have hfz41_6 := blk_frozen BK392.out 6
                        have hfz41_7 := blk_frozen BK392.out 7
                        go_wp2
                        go_meet
                        case rel => exact ⟨_, (false), (by first | rfl | (simp; done) | (simp [*]; done)), H', ⟨by have := HJ6.out; have := HJ29.out; first | omega | exact Nat.le_refl _⟩, ⟨by (with_reducible repeat (first | refine blk_drewN ?_ _ | refine blk_drew ?_ | refine blk_alloc ?_ _)); exact BK392.out⟩, ⟨by repeat (first | (with_reducible first | exact HB.out | apply below_alloc | apply pw_below_drewN | apply below_drew1 | refine below_set ?_ GE392.out) | exact HB.out)⟩⟩
                      · rw [if_neg c40] at H
                        have c40b0 : (a0_2 == 0) = false := beq_eq_false_iff_ne.mpr c40
                        have c40b1 : (a0_2 != 0) = true := bne_iff_ne.mpr c40
                        (first | rw [c40b0] | (simp only [i64_w, i32_w]; rw [c40b0]) | skip)
                        have H' := Aside0.mk H
                        clear H
                        have hcz42_0 : wc.cell? ⟨gb392, 0, none⟩ = some (.int .i64 a0_0) := (blk_cell BK392.out 0).trans rfl
                        have hcz42_1 : wc.cell? ⟨gb392, 1, none⟩ = some (.int .i64 a0_1) := (blk_cell BK392.out 1).trans rfl
                        have hcz42_2 : wc.cell? ⟨gb392, 2, none⟩ = some (.int .i64 a0_2) := (blk_cell BK392.out 2).trans rfl
                        have hcz42_3 : wc.cell? ⟨gb392, 3, none⟩ = some (.int .i64 a0_3) := (blk_cell BK392.out 3).trans rfl
                        have hcz42_4 : wc.cell? ⟨gb392, 4, none⟩ = some (.int .i64 a0_4) := (blk_cell BK392.out 4).trans rfl
                        have hcz42_5 : wc.cell? ⟨gb392, 5, none⟩ = some (.int .i64 a0_5) := (blk_cell BK392.out 5).trans rfl
                        have hcz42_6 : wc.cell? ⟨gb392, 6, none⟩ = some (.int .i64 a0_6) := (blk_cell BK392.out 6).trans rfl
                        have hcz42_7 : wc.cell? ⟨gb392, 7, none⟩ = some (.int .i64 a0_7) := (blk_cell BK392.out 7).trans rfl
                        have hfz42_0 := blk_frozen BK392.out 0
                        have hfz42_1 := blk_frozen BK392.out 1
                        have hfz42_2 := blk_frozen BK392.out 2
                        have hfz42_3 := blk_frozen BK392.out 3
                        have hfz42_4 := blk_frozen BK392.out 4
                        have hfz42_5 := blk_frozen BK392.out 5
                        have hfz42_6 := blk_frozen BK392.out 6
                        have hfz42_7 := blk_frozen BK392.out 7
                        go_wp2
                        go_meet
                        case rel => exact ⟨_, (!(t393 == 1)), (by first | rfl | (simp; done) | (simp [*]; done)), H', ⟨by have := HJ6.out; have := HJ29.out; first | omega | exact Nat.le_refl _⟩, ⟨by (with_reducible repeat (first | refine blk_drewN ?_ _ | refine blk_drew ?_ | refine blk_alloc ?_ _)); exact BK392.out⟩, ⟨by repeat (first | (with_reducible first | exact HB.out | apply below_alloc | apply pw_below_drewN | apply below_drew1 | refine below_set ?_ GE392.out) | exact HB.out)⟩⟩
                    case rest =>
                      clear HC38
                      try clear c1
                      try clear c2
                      try clear p2
                      try clear c3
                      try clear c3b0
                      try clear c3b1
                      try clear c4
                      try clear c5
                      try clear c10
                      try clear c10b0
                      try clear c10b1
                      try clear c11
                      try clear c12
                      try clear c12b0
                      try clear c12b1
                      try clear c14
                      try clear c14b0
                      try clear c14b1
                      try clear c25
                      try clear c28
                      try clear c29
                      try clear c29b0
                      try clear c29b1
                      try clear c31
                      try clear c31b0
                      try clear c31b1
                      try clear c34
                      try clear c37
                      try clear c37b0
                      try clear c37b1
                      try clear c40
                      try clear c40b0
                      try clear c40b1
                      try clear hcz13_0
                      try clear hcz13_1
                      try clear hcz13_2
                      try clear hcz13_3
                      try clear hcz13_4
                      try clear hcz13_5
                      try clear hcz13_6
                      try clear hcz13_7
                      try clear hcz17_0
                      try clear hcz17_1
                      try clear hcz17_2
                      try clear hcz17_3
                      try clear hcz17_4
                      try clear hcz17_5
                      try clear hcz17_6
                      try clear hcz17_7
                      try clear hcz24_0
                      try clear hcz24_1
                      try clear hcz24_2
                      try clear hcz24_3
                      try clear hcz24_4
                      try clear hcz24_5
                      try clear hcz24_6
                      try clear hcz24_7
                      try clear hcz32_0
                      try clear hcz32_1
                      try clear hcz32_2
                      try clear hcz32_3
                      try clear hcz32_4
                      try clear hcz32_5
                      try clear hcz32_6
                      try clear hcz32_7
                      try clear hcz33_0
                      try clear hcz33_1
                      try clear hcz33_2
                      try clear hcz33_3
                      try clear hcz33_4
                      try clear hcz33_5
                      try clear hcz33_6
                      try clear hcz33_7
                      try clear hcz36_0
                      try clear hcz36_1
                      try clear hcz36_2
                      try clear hcz36_3
                      try clear hcz36_4
                      try clear hcz36_5
                      try clear hcz36_6
                      try clear hcz36_7
                      try clear hcz39_0
                      try clear hcz39_1
                      try clear hcz39_2
                      try clear hcz39_3
                      try clear hcz39_4
                      try clear hcz39_5
                      try clear hcz39_6
                      try clear hcz39_7
                      try clear hcz41_0
                      try clear hcz41_1
                      try clear hcz41_2
                      try clear hcz41_3
                      try clear hcz41_4
                      try clear hcz41_5
                      try clear hcz41_6
                      try clear hcz41_7
                      try clear hcz42_0
                      try clear hcz42_1
                      try clear hcz42_2
                      try clear hcz42_3
                      try clear hcz42_4
                      try clear hcz42_5
                      try clear hcz42_6
                      try clear hcz42_7
                      try clear hcz6_0
                      try clear hcz6_1
                      try clear hcz6_2
                      try clear hcz6_3
                      try clear hcz6_4
                      try clear hcz6_5
                      try clear hcz6_6
                      try clear hcz6_7
                      try clear hcz9_0
                      try clear hcz9_1
                      try clear hcz9_2
                      try clear hcz9_3
                      try clear hcz9_4
                      try clear hcz9_5
                      try clear hcz9_6
                      try clear hcz9_7
                      try clear hfz13_0
                      try clear hfz13_1
                      try clear hfz13_2
                      try clear hfz13_3
                      try clear hfz13_4
                      try clear hfz13_5
                      try clear hfz13_6
                      try clear hfz13_7
                      try clear hfz17_0
                      try clear hfz17_1
                      try clear hfz17_2
                      try clear hfz17_3
                      try clear hfz17_4
                      try clear hfz17_5
                      try clear hfz17_6
                      try clear hfz17_7
                      try clear hfz24_0
                      try clear hfz24_1
                      try clear hfz24_2
                      try clear hfz24_3
                      try clear hfz24_4
                      try clear hfz24_5
                      try clear hfz24_6
                      try clear hfz24_7
                      try clear hfz32_0
                      try clear hfz32_1
                      try clear hfz32_2
                      try clear hfz32_3
                      try clear hfz32_4
                      try clear hfz32_5
                      try clear hfz32_6
                      try clear hfz32_7
                      try clear hfz33_0
                      try clear hfz33_1
                      try clear hfz33_2
                      try clear hfz33_3
                      try clear hfz33_4
                      try clear hfz33_5
                      try clear hfz33_6
                      try clear hfz33_7
                      try clear hfz36_0
                      try clear hfz36_1
                      try clear hfz36_2
                      try clear hfz36_3
                      try clear hfz36_4
                      try clear hfz36_5
                      try clear hfz36_6
                      try clear hfz36_7
                      try clear hfz39_0
                      try clear hfz39_1
                      try clear hfz39_2
                      try clear hfz39_3
                      try clear hfz39_4
                      try clear hfz39_5
                      try clear hfz39_6
                      try clear hfz39_7
                      try clear hfz41_0
                      try clear hfz41_1
                      try clear hfz41_2
                      try clear hfz41_3
                      try clear hfz41_4
                      try clear hfz41_5
                      try clear hfz41_6
                      try clear hfz41_7
                      try clear hfz42_0
                      try clear hfz42_1
                      try clear hfz42_2
                      try clear hfz42_3
                      try clear hfz42_4
                      try clear hfz42_5
                      try clear hfz42_6
                      try clear hfz42_7
                      try clear hfz6_0
                      try clear hfz6_1
                      try clear hfz6_2
                      try clear hfz6_3
                      try clear hfz6_4
                      try clear hfz6_5
                      try clear hfz6_6
                      try clear hfz6_7
                      try clear hfz9_0
                      try clear hfz9_1
                      try clear hfz9_2
                      try clear hfz9_3
                      try clear hfz9_4
                      try clear hfz9_5
                      try clear hfz9_6
                      try clear hfz9_7
                      try clear p2
                      obtain ⟨kq, x72_37, rfl, HA, HJ37, BK392, HB⟩ := hcut
                      cases kq with
                      | zero => exact absurd HA.out (by simp [anvilref05_two.j2])
                      | succ kj37 =>
                        have H := HA.out
                        clear HA
                        simp only [anvilref05_two.j2] at H
                        by_cases c43 : x72_37 = true
                        · subst c43
                          have H1 : ((anvilref05_typeI.f kj37 103 0 0 a0_2 0).bind fun t406 => (some (t406, true))) = some (r1, r2) := by rw [if_pos rfl] at H; exact H
                          clear H
                          have H := H1
                          clear H1
                          replace H := Option.bind_eq_some_iff.mp H
                          obtain ⟨t406, A440, H⟩ := H
                          replace H : (some (t406, true)) = some (r1, r2) := H
                          have A44 := Aside0.mk A440
                          clear A440
                          simp only [Option.some.injEq, Prod.mk.injEq] at H
                          obtain ⟨rfl, rfl⟩ := H
                          have hcz45_0 : wc.cell? ⟨gb392, 0, none⟩ = some (.int .i64 a0_0) := (blk_cell BK392.out 0).trans rfl
                          have hcz45_1 : wc.cell? ⟨gb392, 1, none⟩ = some (.int .i64 a0_1) := (blk_cell BK392.out 1).trans rfl
                          have hcz45_2 : wc.cell? ⟨gb392, 2, none⟩ = some (.int .i64 a0_2) := (blk_cell BK392.out 2).trans rfl
                          have hcz45_3 : wc.cell? ⟨gb392, 3, none⟩ = some (.int .i64 a0_3) := (blk_cell BK392.out 3).trans rfl
                          have hcz45_4 : wc.cell? ⟨gb392, 4, none⟩ = some (.int .i64 a0_4) := (blk_cell BK392.out 4).trans rfl
                          have hcz45_5 : wc.cell? ⟨gb392, 5, none⟩ = some (.int .i64 a0_5) := (blk_cell BK392.out 5).trans rfl
                          have hcz45_6 : wc.cell? ⟨gb392, 6, none⟩ = some (.int .i64 a0_6) := (blk_cell BK392.out 6).trans rfl
                          have hcz45_7 : wc.cell? ⟨gb392, 7, none⟩ = some (.int .i64 a0_7) := (blk_cell BK392.out 7).trans rfl
                          have hfz45_0 := blk_frozen BK392.out 0
                          have hfz45_1 := blk_frozen BK392.out 1
                          have hfz45_2 := blk_frozen BK392.out 2
                          have hfz45_3 := blk_frozen BK392.out 3
                          have hfz45_4 := blk_frozen BK392.out 4
                          have hfz45_5 := blk_frozen BK392.out 5
                          have hfz45_6 := blk_frozen BK392.out 6
                          have hfz45_7 := blk_frozen BK392.out 7
                          go_wp2_with (first | ((with_reducible refine gate_callee (f := 53) rfl ?_); refine goesL_ (some 82) rfl rfl Try.func53 (by kernel_rfl) rfl #[.int .i64 103, .int .i64 0, .int .i64 0, .int .i64 a0_2, .int .i64 0] rfl (by (try simp only [List.map_toArray, List.map_cons, List.map_nil]); first | done | rfl | (simp only [List.length_drop, List.length_take]; rfl)) ?_; (with_reducible refine (anvilref05_typeI.calls kj37 103 0 0 a0_2 0 t406 _ A44.out).mono ?_); rintro e w' ⟨rfl, ⟨nd, rfl⟩⟩; refine ⟨_, rfl, ?_⟩))
                          go_ret2
                          exact ⟨by first | rfl | (simp [errW_none, errW_some] <;> rfl) | (simp [*, errW_none, errW_some] <;> rfl), by repeat (first | (with_reducible first | exact HB.out | apply below_alloc | apply pw_below_drewN | apply below_drew1 | refine below_set ?_ GE392.out) | exact HB.out)⟩
                        · replace c43 := Bool.eq_false_iff.mpr c43
                          subst c43
                          have H1 : (if a0_2 = 0 then (if (t393 == 1) = true then (some (1048691, true)) else (some (0, false))) else ((anvilref05_typeI.f kj37 103 0 1 a0_2 0).bind fun t407 => (some (t407, true)))) = some (r1, r2) := by rw [if_neg (show ¬ (false = true) by decide)] at H; exact H
                          clear H
                          have H := H1
                          clear H1
                          by_cases c46 : a0_2 = 0
                          · rw [if_pos c46] at H
                            have c46b0 : (a0_2 == 0) = true := beq_iff_eq.mpr c46
                            have c46b1 : (a0_2 != 0) = false := bne_eq_false_iff_eq.mpr c46
                            clear c46
                            by_cases c47 : (t393 == 1) = true
                            · rw [if_pos c47] at H
                              have c47b0 : (t393 == 1) = true := c47
                              (try (have c47b1 : decide (t393 = 1) = true := by simpa using c47))
                              (try (have c47b2 : (t393 == 1) = true := by simpa using c47))
                              clear c47
                              simp only [Option.some.injEq, Prod.mk.injEq] at H
                              obtain ⟨rfl, rfl⟩ := H
                              have hcz48_0 : wc.cell? ⟨gb392, 0, none⟩ = some (.int .i64 a0_0) := (blk_cell BK392.out 0).trans rfl
                              have hcz48_1 : wc.cell? ⟨gb392, 1, none⟩ = some (.int .i64 a0_1) := (blk_cell BK392.out 1).trans rfl
                              have hcz48_2 : wc.cell? ⟨gb392, 2, none⟩ = some (.int .i64 a0_2) := (blk_cell BK392.out 2).trans rfl
                              have hcz48_3 : wc.cell? ⟨gb392, 3, none⟩ = some (.int .i64 a0_3) := (blk_cell BK392.out 3).trans rfl
                              have hcz48_4 : wc.cell? ⟨gb392, 4, none⟩ = some (.int .i64 a0_4) := (blk_cell BK392.out 4).trans rfl
                              have hcz48_5 : wc.cell? ⟨gb392, 5, none⟩ = some (.int .i64 a0_5) := (blk_cell BK392.out 5).trans rfl
                              have hcz48_6 : wc.cell? ⟨gb392, 6, none⟩ = some (.int .i64 a0_6) := (blk_cell BK392.out 6).trans rfl
                              have hcz48_7 : wc.cell? ⟨gb392, 7, none⟩ = some (.int .i64 a0_7) := (blk_cell BK392.out 7).trans rfl
                              have hfz48_0 := blk_frozen BK392.out 0
                              have hfz48_1 := blk_frozen BK392.out 1
                              have hfz48_2 := blk_frozen BK392.out 2
                              have hfz48_3 := blk_frozen BK392.out 3
                              have hfz48_4 := blk_frozen BK392.out 4
                              have hfz48_5 := blk_frozen BK392.out 5
                              have hfz48_6 := blk_frozen BK392.out 6
                              have hfz48_7 := blk_frozen BK392.out 7
                              go_wp2
                              go_ret2
                              exact ⟨by first | rfl | (simp [errW_none, errW_some] <;> rfl) | (simp [*, errW_none, errW_some] <;> rfl), by repeat (first | (with_reducible first | exact HB.out | apply below_alloc | apply pw_below_drewN | apply below_drew1 | refine below_set ?_ GE392.out) | exact HB.out)⟩
                            · rw [if_neg c47] at H
                              have c47b0 : (t393 == 1) = false := by simpa using c47
                              (try (have c47b1 : decide (t393 = 1) = false := by simpa using c47))
                              (try (have c47b2 : (t393 == 1) = false := by simpa using c47))
                              (try (have c47b3 : ¬ (t393 = 1) := by simpa using c47))
                              clear c47
                              simp only [Option.some.injEq, Prod.mk.injEq] at H
                              obtain ⟨rfl, rfl⟩ := H
                              have hcz49_0 : wc.cell? ⟨gb392, 0, none⟩ = some (.int .i64 a0_0) := (blk_cell BK392.out 0).trans rfl
                              have hcz49_1 : wc.cell? ⟨gb392, 1, none⟩ = some (.int .i64 a0_1) := (blk_cell BK392.out 1).trans rfl
                              have hcz49_2 : wc.cell? ⟨gb392, 2, none⟩ = some (.int .i64 a0_2) := (blk_cell BK392.out 2).trans rfl
                              have hcz49_3 : wc.cell? ⟨gb392, 3, none⟩ = some (.int .i64 a0_3) := (blk_cell BK392.out 3).trans rfl
                              have hcz49_4 : wc.cell? ⟨gb392, 4, none⟩ = some (.int .i64 a0_4) := (blk_cell BK392.out 4).trans rfl
                              have hcz49_5 : wc.cell? ⟨gb392, 5, none⟩ = some (.int .i64 a0_5) := (blk_cell BK392.out 5).trans rfl
                              have hcz49_6 : wc.cell? ⟨gb392, 6, none⟩ = some (.int .i64 a0_6) := (blk_cell BK392.out 6).trans rfl
                              have hcz49_7 : wc.cell? ⟨gb392, 7, none⟩ = some (.int .i64 a0_7) := (blk_cell BK392.out 7).trans rfl
                              have hfz49_0 := blk_frozen BK392.out 0
                              have hfz49_1 := blk_frozen BK392.out 1
                              have hfz49_2 := blk_frozen BK392.out 2
                              have hfz49_3 := blk_frozen BK392.out 3
                              have hfz49_4 := blk_frozen BK392.out 4
                              have hfz49_5 := blk_frozen BK392.out 5
                              have hfz49_6 := blk_frozen BK392.out 6
                              have hfz49_7 := blk_frozen BK392.out 7
                              go_wp2
                              go_ret2
                              exact ⟨by first | rfl | (simp [errW_none, errW_some] <;> rfl) | (simp [*, errW_none, errW_some] <;> rfl), by repeat (first | (with_reducible first | exact HB.out | apply below_alloc | apply pw_below_drewN | apply below_drew1 | refine below_set ?_ GE392.out) | exact HB.out)⟩
                          · rw [if_neg c46] at H
                            have c46b0 : (a0_2 == 0) = false := beq_eq_false_iff_ne.mpr c46
                            have c46b1 : (a0_2 != 0) = true := bne_iff_ne.mpr c46
                            replace H := Option.bind_eq_some_iff.mp H
                            obtain ⟨t407, A500, H⟩ := H
                            replace H : (some (t407, true)) = some (r1, r2) := H
                            have A50 := Aside0.mk A500
                            clear A500
                            simp only [Option.some.injEq, Prod.mk.injEq] at H
                            obtain ⟨rfl, rfl⟩ := H
                            have hcz51_0 : wc.cell? ⟨gb392, 0, none⟩ = some (.int .i64 a0_0) := (blk_cell BK392.out 0).trans rfl
                            have hcz51_1 : wc.cell? ⟨gb392, 1, none⟩ = some (.int .i64 a0_1) := (blk_cell BK392.out 1).trans rfl
                            have hcz51_2 : wc.cell? ⟨gb392, 2, none⟩ = some (.int .i64 a0_2) := (blk_cell BK392.out 2).trans rfl
                            have hcz51_3 : wc.cell? ⟨gb392, 3, none⟩ = some (.int .i64 a0_3) := (blk_cell BK392.out 3).trans rfl
                            have hcz51_4 : wc.cell? ⟨gb392, 4, none⟩ = some (.int .i64 a0_4) := (blk_cell BK392.out 4).trans rfl
                            have hcz51_5 : wc.cell? ⟨gb392, 5, none⟩ = some (.int .i64 a0_5) := (blk_cell BK392.out 5).trans rfl
                            have hcz51_6 : wc.cell? ⟨gb392, 6, none⟩ = some (.int .i64 a0_6) := (blk_cell BK392.out 6).trans rfl
                            have hcz51_7 : wc.cell? ⟨gb392, 7, none⟩ = some (.int .i64 a0_7) := (blk_cell BK392.out 7).trans rfl
                            have hfz51_0 := blk_frozen BK392.out 0
                            have hfz51_1 := blk_frozen BK392.out 1
                            have hfz51_2 := blk_frozen BK392.out 2
                            have hfz51_3 := blk_frozen BK392.out 3
                            have hfz51_4 := blk_frozen BK392.out 4
                            have hfz51_5 := blk_frozen BK392.out 5
                            have hfz51_6 := blk_frozen BK392.out 6
                            have hfz51_7 := blk_frozen BK392.out 7
                            go_wp2_with (first | ((with_reducible refine gate_callee (f := 53) rfl ?_); refine goesL_ (some 89) rfl rfl Try.func53 (by kernel_rfl) rfl #[.int .i64 103, .int .i64 0, .int .i64 1, .int .i64 a0_2, .int .i64 0] rfl (by (try simp only [List.map_toArray, List.map_cons, List.map_nil]); first | done | rfl | (simp only [List.length_drop, List.length_take]; rfl)) ?_; (with_reducible refine (anvilref05_typeI.calls kj37 103 0 1 a0_2 0 t407 _ A50.out).mono ?_); rintro e w' ⟨rfl, ⟨nd, rfl⟩⟩; refine ⟨_, rfl, ?_⟩))
                            go_ret2
                            exact ⟨by first | rfl | (simp [errW_none, errW_some] <;> rfl) | (simp [*, errW_none, errW_some] <;> rfl), by repeat (first | (with_reducible first | exact HB.out | apply below_alloc | apply pw_below_drewN | apply below_drew1 | refine below_set ?_ GE392.out) | exact HB.out)⟩
                  · rw [if_neg c37] at H
                    have c37b0 : (a0_3 == 0) = false := beq_eq_false_iff_ne.mpr c37
                    have c37b1 : (a0_3 != 0) = true := bne_iff_ne.mpr c37
                    replace H := Option.bind_eq_some_iff.mp H
                    obtain ⟨t408, A520, H⟩ := H
                    replace H : (some (t408, true)) = some (r1, r2) := H
                    have A52 := Aside0.mk A520
                    clear A520
                    simp only [Option.some.injEq, Prod.mk.injEq] at H
                    obtain ⟨rfl, rfl⟩ := H
                    have hcz53_0 : wc.cell? ⟨gb392, 0, none⟩ = some (.int .i64 a0_0) := (blk_cell BK392.out 0).trans rfl
                    have hcz53_1 : wc.cell? ⟨gb392, 1, none⟩ = some (.int .i64 a0_1) := (blk_cell BK392.out 1).trans rfl
                    have hcz53_2 : wc.cell? ⟨gb392, 2, none⟩ = some (.int .i64 a0_2) := (blk_cell BK392.out 2).trans rfl
                    have hcz53_3 : wc.cell? ⟨gb392, 3, none⟩ = some (.int .i64 a0_3) := (blk_cell BK392.out 3).trans rfl
                    have hcz53_4 : wc.cell? ⟨gb392, 4, none⟩ = some (.int .i64 a0_4) := (blk_cell BK392.out 4).trans rfl
                    have hcz53_5 : wc.cell? ⟨gb392, 5, none⟩ = some (.int .i64 a0_5) := (blk_cell BK392.out 5).trans rfl
                    have hcz53_6 : wc.cell? ⟨gb392, 6, none⟩ = some (.int .i64 a0_6) := (blk_cell BK392.out 6).trans rfl
                    have hcz53_7 : wc.cell? ⟨gb392, 7, none⟩ = some (.int .i64 a0_7) := (blk_cell BK392.out 7).trans rfl
                    have hfz53_0 := blk_frozen BK392.out 0
                    have hfz53_1 := blk_frozen BK392.out 1
                    have hfz53_2 := blk_frozen BK392.out 2
                    have hfz53_3 := blk_frozen BK392.out 3
                    have hfz53_4 := blk_frozen BK392.out 4
                    have hfz53_5 := blk_frozen BK392.out 5
                    have hfz53_6 := blk_frozen BK392.out 6
                    have hfz53_7 := blk_frozen BK392.out 7
                    go_wp2_with (first | ((with_reducible refine gate_callee (f := 59) rfl ?_); refine goesL_ (some 71) rfl rfl Try.func59 (by kernel_rfl) rfl #[.int .i64 51, .int .i64 0, .int .i64 0, .int .i64 a0_2, .int .i64 a0_2, .int .i64 a0_3] rfl (by (try simp only [List.map_toArray, List.map_cons, List.map_nil]); first | done | rfl | (simp only [List.length_drop, List.length_take]; rfl)) ?_; (with_reducible refine (anvilref05_typeR.calls 51 0 0 a0_2 a0_2 a0_3 t408 _ A52.out).mono ?_); rintro e w' ⟨rfl, ⟨nd, rfl⟩⟩; refine ⟨_, rfl, ?_⟩))
                    go_ret2
                    exact ⟨by first | rfl | (simp [errW_none, errW_some] <;> rfl) | (simp [*, errW_none, errW_some] <;> rfl), by repeat (first | (with_reducible first | exact HB.out | apply below_alloc | apply pw_below_drewN | apply below_drew1 | refine below_set ?_ GE392.out) | exact HB.out)⟩
          · rw [if_neg c29] at H
            have c29b0 : (a0_1 == 4) = false := beq_eq_false_iff_ne.mpr c29
            have c29b1 : (a0_1 != 4) = true := bne_iff_ne.mpr c29
            by_cases c54 : a0_1 = 6
            · rw [if_pos c54] at H
              have c54b0 : (a0_1 == 6) = true := beq_iff_eq.mpr c54
              have c54b1 : (a0_1 != 6) = false := bne_eq_false_iff_eq.mpr c54
              clear c54
              obtain ⟨y409, hy409⟩ : ∃ y_ : List Int, y_ = (([12, 5, 11, 4, 10, 3, 9, 2, 8, 7, 7, 6] : List Int)) := ⟨_, rfl⟩
              replace H : ((anvilref05_join.f kj6 ((a0_0) % 4294967296) y409).bind fun t412 => ((anvilref05_typeS.f kj6 2 2 a0_3 t412).bind fun t413 => (some (t413, true)))) = some (r1, r2) := by first | (rw [hy409]; with_reducible exact H) | (have H2_ := (Option.bind_some _ _).symm.trans H; rw [hy409]; with_reducible exact H2_) | (have H2_ := (Option.bind_some _ _).symm.trans H; with_reducible exact H2_) | with_reducible exact H | (rw [hy409]; exact H) | exact H
              have Ny409 := Aside0.mk hy409
              clear hy409
              replace H := Option.bind_eq_some_iff.mp H
              obtain ⟨t412, A550, H⟩ := H
              replace H : ((anvilref05_typeS.f kj6 2 2 a0_3 t412).bind fun t413 => (some (t413, true))) = some (r1, r2) := H
              have A55 := Aside0.mk A550
              clear A550
              replace H := Option.bind_eq_some_iff.mp H
              obtain ⟨t413, A560, H⟩ := H
              replace H : (some (t413, true)) = some (r1, r2) := H
              have A56 := Aside0.mk A560
              clear A560
              simp only [Option.some.injEq, Prod.mk.injEq] at H
              obtain ⟨rfl, rfl⟩ := H
              go_wp2_with (first | ((with_reducible refine gate_dst (N := 95) rfl ?_); refine Kd.R_lit (Kd.int .i64) _ 3 ?hg (N := 95) ?hd (xs := ([12, 5, 11, 4, 10, 3, 9, 2, 8, 7, 7, 6] : List Int)) (inner := [.int .i64 12, .int .i64 5, .int .i64 11, .int .i64 4, .int .i64 10, .int .i64 3, .int .i64 9, .int .i64 2, .int .i64 8, .int .i64 7, .int .i64 7, .int .i64 6]) (ok := fun _ => True) (okp := fun _ => True) ?hr ?hp (fun _ hk => hk) trivial (Below.refl _ _) (Nat.le_refl _) (by simp) ?_; (case hd => rfl); (case hg => rfl); (case hr => first | (go_simp; done) | (go_simp; rfl)); (case hp => exact (Reps.one (show Kd.M (Kd.int .i64) _ _ _ 12 [.int .i64 12] from rfl) (Reps.one (show Kd.M (Kd.int .i64) _ _ _ 5 [.int .i64 5] from rfl) (Reps.one (show Kd.M (Kd.int .i64) _ _ _ 11 [.int .i64 11] from rfl) (Reps.one (show Kd.M (Kd.int .i64) _ _ _ 4 [.int .i64 4] from rfl) (Reps.one (show Kd.M (Kd.int .i64) _ _ _ 10 [.int .i64 10] from rfl) (Reps.one (show Kd.M (Kd.int .i64) _ _ _ 3 [.int .i64 3] from rfl) (Reps.one (show Kd.M (Kd.int .i64) _ _ _ 9 [.int .i64 9] from rfl) (Reps.one (show Kd.M (Kd.int .i64) _ _ _ 2 [.int .i64 2] from rfl) (Reps.one (show Kd.M (Kd.int .i64) _ _ _ 8 [.int .i64 8] from rfl) (Reps.one (show Kd.M (Kd.int .i64) _ _ _ 7 [.int .i64 7] from rfl) (Reps.one (show Kd.M (Kd.int .i64) _ _ _ 7 [.int .i64 7] from rfl) (Reps.one (show Kd.M (Kd.int .i64) _ _ _ 6 [.int .i64 6] from rfl) (Reps.none _ _)))))))))))))); intro v410 w57 ho58 hb hg_ hnew_; clear hg_ hnew_; (first | rw [← Ny409.out] at ho58 | (simp only [Int.reduceToNat] at ho58; rw [← Ny409.out] at ho58)); have n0_ := Aside0.mk (Kd.R_lower ho58 (below_size (by repeat (first | (with_reducible first | exact HB.out | apply below_alloc | apply pw_below_drewN | apply below_drew1 | refine below_set ?_ GE392.out) | exact HB.out)))); have n1_ := Aside0.mk (blk_below (g := gb392) (o := .cells #[.int .i64 a0_0, .int .i64 a0_1, .int .i64 a0_2, .int .i64 a0_3, .int .i64 a0_4, .int .i64 a0_5, .int .i64 a0_6, .int .i64 a0_7] 43 (0, 0)) (by (with_reducible repeat (first | refine blk_drewN ?_ _ | refine blk_drew ?_ | refine blk_alloc ?_ _)); exact BK392.out) hb); have n2_ := Aside0.mk (below_step (by repeat (first | (with_reducible first | exact HB.out | apply below_alloc | apply pw_below_drewN | apply below_drew1 | refine below_set ?_ GE392.out) | exact HB.out)) hb); clear BK392; clear HB; have HO411 := n0_; have BK392 := n1_; have HB := n2_; clear n0_ n1_ n2_; clear hb ho58; obtain ⟨Ao59, co59, eo59⟩ := Kd.R_slice HO411.out; subst eo59) | ((with_reducible refine gate_callee (f := 52) rfl ?_); refine goesL_ (some 96) rfl rfl Try.func52 (by kernel_rfl) rfl #[.int .u32 ((a0_0) % 4294967296), .slice Ao59 y409.length co59] rfl (by (try simp only [List.map_toArray, List.map_cons, List.map_nil]); first | done | rfl | (simp only [List.length_drop, List.length_take]; rfl)) ?_; (with_reducible refine (anvilref05_join.calls kj6 ((a0_0) % 4294967296) _ _ y409 t412 _ ?side1 ?side2 A55.out).mono ?_); (case side1 => repeat (first | exact (Kd.R_reads' HO411.out).2.2 | (with_reducible refine Kd.C_alloc ?_ _) | (with_reducible refine Kd.C_drewN ?_ _) | (with_reducible refine Kd.C_drew ?_))); (case side2 => exact (Kd.R_reads' HO411.out).2.1); rintro e w' ⟨rfl, ⟨nd, rfl⟩⟩; refine ⟨_, rfl, ?_⟩; have hcz60_0 : w57.cell? ⟨gb392, 0, none⟩ = some (.int .i64 a0_0) := (blk_cell BK392.out 0).trans rfl; have hcz60_1 : w57.cell? ⟨gb392, 1, none⟩ = some (.int .i64 a0_1) := (blk_cell BK392.out 1).trans rfl; have hcz60_2 : w57.cell? ⟨gb392, 2, none⟩ = some (.int .i64 a0_2) := (blk_cell BK392.out 2).trans rfl; have hcz60_3 : w57.cell? ⟨gb392, 3, none⟩ = some (.int .i64 a0_3) := (blk_cell BK392.out 3).trans rfl; have hcz60_4 : w57.cell? ⟨gb392, 4, none⟩ = some (.int .i64 a0_4) := (blk_cell BK392.out 4).trans rfl; have hcz60_5 : w57.cell? ⟨gb392, 5, none⟩ = some (.int .i64 a0_5) := (blk_cell BK392.out 5).trans rfl; have hcz60_6 : w57.cell? ⟨gb392, 6, none⟩ = some (.int .i64 a0_6) := (blk_cell BK392.out 6).trans rfl; have hcz60_7 : w57.cell? ⟨gb392, 7, none⟩ = some (.int .i64 a0_7) := (blk_cell BK392.out 7).trans rfl; have hfz60_0 := blk_frozen BK392.out 0; have hfz60_1 := blk_frozen BK392.out 1; have hfz60_2 := blk_frozen BK392.out 2; have hfz60_3 := blk_frozen BK392.out 3; have hfz60_4 := blk_frozen BK392.out 4; have hfz60_5 := blk_frozen BK392.out 5; have hfz60_6 := blk_frozen BK392.out 6; have hfz60_7 := blk_frozen BK392.out 7) | ((with_reducible refine gate_callee (f := 54) rfl ?_); refine goesL_ (some 100) rfl rfl Try.func54 (by kernel_rfl) rfl #[.int .i64 2, .int .i64 2, .int .i64 a0_3, .int .i64 t412] rfl (by (try simp only [List.map_toArray, List.map_cons, List.map_nil]); first | done | rfl | (simp only [List.length_drop, List.length_take]; rfl)) ?_; (with_reducible refine (anvilref05_typeS.calls kj6 2 2 a0_3 t412 t413 _ A56.out).mono ?_); rintro e w' ⟨rfl, ⟨nd, rfl⟩⟩; refine ⟨_, rfl, ?_⟩))
              go_ret2
              exact ⟨by first | rfl | (simp [errW_none, errW_some] <;> rfl) | (simp [*, errW_none, errW_some] <;> rfl), by repeat (first | (with_reducible first | exact HB.out | apply below_alloc | apply pw_below_drewN | apply below_drew1 | refine below_set ?_ GE392.out) | exact HB.out)⟩
            · rw [if_neg c54] at H
              have c54b0 : (a0_1 == 6) = false := beq_eq_false_iff_ne.mpr c54
              have c54b1 : (a0_1 != 6) = true := bne_iff_ne.mpr c54
              by_cases c61 : a0_1 = 7
              · rw [if_pos c61] at H
                have c61b0 : (a0_1 == 7) = true := beq_iff_eq.mpr c61
                have c61b1 : (a0_1 != 7) = false := bne_eq_false_iff_eq.mpr c61
                clear c61
                obtain ⟨y414, hy414⟩ : ∃ y_ : List Int, y_ = (([12, 5, 11, 4, 10, 3, 9, 8, 8, 7, 7, 6] : List Int)) := ⟨_, rfl⟩
                replace H : ((anvilref05_join.f kj6 ((a0_0) % 4294967296) y414).bind fun t417 => ((anvilref05_typeS.f kj6 3 2 a0_3 t417).bind fun t418 => (some (t418, true)))) = some (r1, r2) := by first | (rw [hy414]; with_reducible exact H) | (have H2_ := (Option.bind_some _ _).symm.trans H; rw [hy414]; with_reducible exact H2_) | (have H2_ := (Option.bind_some _ _).symm.trans H; with_reducible exact H2_) | with_reducible exact H | (rw [hy414]; exact H) | exact H
                have Ny414 := Aside0.mk hy414
                clear hy414
                replace H := Option.bind_eq_some_iff.mp H
                obtain ⟨t417, A620, H⟩ := H
                replace H : ((anvilref05_typeS.f kj6 3 2 a0_3 t417).bind fun t418 => (some (t418, true))) = some (r1, r2) := H
                have A62 := Aside0.mk A620
                clear A620
                replace H := Option.bind_eq_some_iff.mp H
                obtain ⟨t418, A630, H⟩ := H
                replace H : (some (t418, true)) = some (r1, r2) := H
                have A63 := Aside0.mk A630
                clear A630
                simp only [Option.some.injEq, Prod.mk.injEq] at H
                obtain ⟨rfl, rfl⟩ := H
                go_wp2_with (first | ((with_reducible refine gate_dst (N := 104) rfl ?_); refine Kd.R_lit (Kd.int .i64) _ 3 ?hg (N := 104) ?hd (xs := ([12, 5, 11, 4, 10, 3, 9, 8, 8, 7, 7, 6] : List Int)) (inner := [.int .i64 12, .int .i64 5, .int .i64 11, .int .i64 4, .int .i64 10, .int .i64 3, .int .i64 9, .int .i64 8, .int .i64 8, .int .i64 7, .int .i64 7, .int .i64 6]) (ok := fun _ => True) (okp := fun _ => True) ?hr ?hp (fun _ hk => hk) trivial (Below.refl _ _) (Nat.le_refl _) (by simp) ?_; (case hd => rfl); (case hg => rfl); (case hr => first | (go_simp; done) | (go_simp; rfl)); (case hp => exact (Reps.one (show Kd.M (Kd.int .i64) _ _ _ 12 [.int .i64 12] from rfl) (Reps.one (show Kd.M (Kd.int .i64) _ _ _ 5 [.int .i64 5] from rfl) (Reps.one (show Kd.M (Kd.int .i64) _ _ _ 11 [.int .i64 11] from rfl) (Reps.one (show Kd.M (Kd.int .i64) _ _ _ 4 [.int .i64 4] from rfl) (Reps.one (show Kd.M (Kd.int .i64) _ _ _ 10 [.int .i64 10] from rfl) (Reps.one (show Kd.M (Kd.int .i64) _ _ _ 3 [.int .i64 3] from rfl) (Reps.one (show Kd.M (Kd.int .i64) _ _ _ 9 [.int .i64 9] from rfl) (Reps.one (show Kd.M (Kd.int .i64) _ _ _ 8 [.int .i64 8] from rfl) (Reps.one (show Kd.M (Kd.int .i64) _ _ _ 8 [.int .i64 8] from rfl) (Reps.one (show Kd.M (Kd.int .i64) _ _ _ 7 [.int .i64 7] from rfl) (Reps.one (show Kd.M (Kd.int .i64) _ _ _ 7 [.int .i64 7] from rfl) (Reps.one (show Kd.M (Kd.int .i64) _ _ _ 6 [.int .i64 6] from rfl) (Reps.none _ _)))))))))))))); intro v415 w64 ho65 hb hg_ hnew_; clear hg_ hnew_; (first | rw [← Ny414.out] at ho65 | (simp only [Int.reduceToNat] at ho65; rw [← Ny414.out] at ho65)); have n0_ := Aside0.mk (Kd.R_lower ho65 (below_size (by repeat (first | (with_reducible first | exact HB.out | apply below_alloc | apply pw_below_drewN | apply below_drew1 | refine below_set ?_ GE392.out) | exact HB.out)))); have n1_ := Aside0.mk (blk_below (g := gb392) (o := .cells #[.int .i64 a0_0, .int .i64 a0_1, .int .i64 a0_2, .int .i64 a0_3, .int .i64 a0_4, .int .i64 a0_5, .int .i64 a0_6, .int .i64 a0_7] 43 (0, 0)) (by (with_reducible repeat (first | refine blk_drewN ?_ _ | refine blk_drew ?_ | refine blk_alloc ?_ _)); exact BK392.out) hb); have n2_ := Aside0.mk (below_step (by repeat (first | (with_reducible first | exact HB.out | apply below_alloc | apply pw_below_drewN | apply below_drew1 | refine below_set ?_ GE392.out) | exact HB.out)) hb); clear BK392; clear HB; have HO416 := n0_; have BK392 := n1_; have HB := n2_; clear n0_ n1_ n2_; clear hb ho65; obtain ⟨Ao66, co66, eo66⟩ := Kd.R_slice HO416.out; subst eo66) | ((with_reducible refine gate_callee (f := 52) rfl ?_); refine goesL_ (some 105) rfl rfl Try.func52 (by kernel_rfl) rfl #[.int .u32 ((a0_0) % 4294967296), .slice Ao66 y414.length co66] rfl (by (try simp only [List.map_toArray, List.map_cons, List.map_nil]); first | done | rfl | (simp only [List.length_drop, List.length_take]; rfl)) ?_; (with_reducible refine (anvilref05_join.calls kj6 ((a0_0) % 4294967296) _ _ y414 t417 _ ?side1 ?side2 A62.out).mono ?_); (case side1 => repeat (first | exact (Kd.R_reads' HO416.out).2.2 | (with_reducible refine Kd.C_alloc ?_ _) | (with_reducible refine Kd.C_drewN ?_ _) | (with_reducible refine Kd.C_drew ?_))); (case side2 => exact (Kd.R_reads' HO416.out).2.1); rintro e w' ⟨rfl, ⟨nd, rfl⟩⟩; refine ⟨_, rfl, ?_⟩; have hcz67_0 : w64.cell? ⟨gb392, 0, none⟩ = some (.int .i64 a0_0) := (blk_cell BK392.out 0).trans rfl; have hcz67_1 : w64.cell? ⟨gb392, 1, none⟩ = some (.int .i64 a0_1) := (blk_cell BK392.out 1).trans rfl; have hcz67_2 : w64.cell? ⟨gb392, 2, none⟩ = some (.int .i64 a0_2) := (blk_cell BK392.out 2).trans rfl; have hcz67_3 : w64.cell? ⟨gb392, 3, none⟩ = some (.int .i64 a0_3) := (blk_cell BK392.out 3).trans rfl; have hcz67_4 : w64.cell? ⟨gb392, 4, none⟩ = some (.int .i64 a0_4) := (blk_cell BK392.out 4).trans rfl; have hcz67_5 : w64.cell? ⟨gb392, 5, none⟩ = some (.int .i64 a0_5) := (blk_cell BK392.out 5).trans rfl; have hcz67_6 : w64.cell? ⟨gb392, 6, none⟩ = some (.int .i64 a0_6) := (blk_cell BK392.out 6).trans rfl; have hcz67_7 : w64.cell? ⟨gb392, 7, none⟩ = some (.int .i64 a0_7) := (blk_cell BK392.out 7).trans rfl; have hfz67_0 := blk_frozen BK392.out 0; have hfz67_1 := blk_frozen BK392.out 1; have hfz67_2 := blk_frozen BK392.out 2; have hfz67_3 := blk_frozen BK392.out 3; have hfz67_4 := blk_frozen BK392.out 4; have hfz67_5 := blk_frozen BK392.out 5; have hfz67_6 := blk_frozen BK392.out 6; have hfz67_7 := blk_frozen BK392.out 7) | ((with_reducible refine gate_callee (f := 54) rfl ?_); refine goesL_ (some 109) rfl rfl Try.func54 (by kernel_rfl) rfl #[.int .i64 3, .int .i64 2, .int .i64 a0_3, .int .i64 t417] rfl (by (try simp only [List.map_toArray, List.map_cons, List.map_nil]); first | done | rfl | (simp only [List.length_drop, List.length_take]; rfl)) ?_; (with_reducible refine (anvilref05_typeS.calls kj6 3 2 a0_3 t417 t418 _ A63.out).mono ?_); rintro e w' ⟨rfl, ⟨nd, rfl⟩⟩; refine ⟨_, rfl, ?_⟩))
                go_ret2
                exact ⟨by first | rfl | (simp [errW_none, errW_some] <;> rfl) | (simp [*, errW_none, errW_some] <;> rfl), by repeat (first | (with_reducible first | exact HB.out | apply below_alloc | apply pw_below_drewN | apply below_drew1 | refine below_set ?_ GE392.out) | exact HB.out)⟩
              · rw [if_neg c61] at H
                have c61b0 : (a0_1 == 7) = false := beq_eq_false_iff_ne.mpr c61
                have c61b1 : (a0_1 != 7) = true := bne_iff_ne.mpr c61
                simp only [Option.some.injEq, Prod.mk.injEq] at H
                obtain ⟨rfl, rfl⟩ := H
                go_wp2
                go_ret2
                exact ⟨by first | rfl | (simp [errW_none, errW_some] <;> rfl) | (simp [*, errW_none, errW_some] <;> rfl), by repeat (first | (with_reducible first | exact HB.out | apply below_alloc | apply pw_below_drewN | apply below_drew1 | refine below_set ?_ GE392.out) | exact HB.out)⟩

end Go.Proofs.Ytiibhggjlandmaa.PD
