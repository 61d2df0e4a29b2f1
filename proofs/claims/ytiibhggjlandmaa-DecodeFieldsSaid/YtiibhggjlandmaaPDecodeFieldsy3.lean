-- Written by a program (a turned copy of the kit's print.py) for this claim. Lean checks it.
import Derived.Test.YtiibhggjlandmaaPDecodeFieldsy0
import Derived.Test.YtiibhggjlandmaaPDecodeFieldsy1
import Derived.Test.YtiibhggjlandmaaPDecodeFieldsy2
namespace Go.Proofs.Ytiibhggjlandmaa.PDecodeFields
open Go.RowKit Go.Proofs.YtiibhggjlandmaaW.PrintWords Go.Proofs.YtiibhggjlandmaaW.PrintLast Go.Proofs.YtiibhggjlandmaaW.PrintMore Go.Proofs.Ytiibhggjlandmaa.PB
attribute [local go_sem] max2_int min2_int max_two min_two max_three min_three max_four min_four   -- for this text's walks alone
set_option linter.unusedVariables false
set_option linter.unusedSimpArgs false

attribute [local go_sem high] eqA29
/-! ### anvillaw05_DecodeFields: function 7 -/
mutual
def anvillaw05_DecodeFields.j0 : Nat → Int → Bool → Int → Int → Int → Int → Int → Bool → Bool → Int → Int → Option (Bool)
  | 0, _, _, _, _, _, _, _, _, _, _, _ => none
  | k + 1, x0, x28, x131000, x131001, x131002, x131003, x131004, x131005, x131006, x131007, x131008 => if x28 = true then (some false) else (if x131007 = 2 then (if x131008 = (Int.tmod x0 65536) then (if x131007 = 4 then (anvillaw05_DecodeFields.j1 k (x131008 != x0) x131000 x131001 x131002 x131003 x131004 x131005 x131006 x131007 x131008) else (anvillaw05_DecodeFields.j1 k false x131000 x131001 x131002 x131003 x131004 x131005 x131006 x131007 x131008)) else (anvillaw05_DecodeFields.j1 k true x131000 x131001 x131002 x131003 x131004 x131005 x131006 x131007 x131008)) else (if x131007 = 4 then (anvillaw05_DecodeFields.j1 k (x131008 != x0) x131000 x131001 x131002 x131003 x131004 x131005 x131006 x131007 x131008) else (anvillaw05_DecodeFields.j1 k false x131000 x131001 x131002 x131003 x131004 x131005 x131006 x131007 x131008)))
def anvillaw05_DecodeFields.j1 : Nat → Bool → Int → Int → Int → Int → Int → Bool → Bool → Int → Int → Option (Bool)
  | 0, _, _, _, _, _, _, _, _, _, _ => none
  | k + 1, x49, x131000, x131001, x131002, x131003, x131004, x131005, x131006, x131007, x131008 => if x49 = true then (some false) else (if x131000 = 0 then (some (x131000 == 0 && (x131001 == 0 && (x131002 == 0 && (x131003 == 0 && (x131004 == 0 && (!x131005 && (!x131006)))))))) else ((anvillaw05_bound.f k x131000).bind fun bt133 => ((anvillaw05_reg.f x131001).bind fun t136 => (if t136 = true then ((anvillaw05_reg.f x131002).bind fun t137 => (if t137 = true then ((anvillaw05_reg.f x131003).bind fun t138 => (if t138 = true then (if x131004 ≥ bt133.1 then (if x131004 ≤ bt133.2.1 then (if bt133.2.2 = 0 then (none) else (if (Int.tmod x131004 bt133.2.2) = 0 then (if x131000 ≥ 75 then (some true) else (if x131005 = true then (some false) else (some (!x131006)))) else (some false))) else (some false)) else (some false)) else (some false))) else (some false))) else (some false)))))
end
def anvillaw05_DecodeFields.f (k : Nat) (a0 : Int) : Option (Bool) := (decode_Decode.f k a0).bind fun bt121 => ((anvillaw05_first.f k).bind fun t131 => (if t131 = true then (if bt121.1 < 0 then (anvillaw05_DecodeFields.j0 k a0 true bt121.1 bt121.2.1 bt121.2.2.1 bt121.2.2.2.1 bt121.2.2.2.2.1 bt121.2.2.2.2.2.1 bt121.2.2.2.2.2.2.1 bt121.2.2.2.2.2.2.2.1 bt121.2.2.2.2.2.2.2.2) else (if bt121.1 ≥ 97 then (anvillaw05_DecodeFields.j0 k a0 true bt121.1 bt121.2.1 bt121.2.2.1 bt121.2.2.2.1 bt121.2.2.2.2.1 bt121.2.2.2.2.2.1 bt121.2.2.2.2.2.2.1 bt121.2.2.2.2.2.2.2.1 bt121.2.2.2.2.2.2.2.2) else ((decode_Length.f a0).bind fun t132 => (anvillaw05_DecodeFields.j0 k a0 (bt121.2.2.2.2.2.2.2.1 != t132) bt121.1 bt121.2.1 bt121.2.2.1 bt121.2.2.2.1 bt121.2.2.2.2.1 bt121.2.2.2.2.2.1 bt121.2.2.2.2.2.2.1 bt121.2.2.2.2.2.2.2.1 bt121.2.2.2.2.2.2.2.2)))) else (anvillaw05_DecodeFields.j0 k a0 true bt121.1 bt121.2.1 bt121.2.2.1 bt121.2.2.2.1 bt121.2.2.2.2.1 bt121.2.2.2.2.2.1 bt121.2.2.2.2.2.2.1 bt121.2.2.2.2.2.2.2.1 bt121.2.2.2.2.2.2.2.2)))
theorem anvillaw05_DecodeFields.mono_l : ∀ k, (∀ y0 y1 y2 y3 y4 y5 y6 y7 y8 y9 y10, LeO (anvillaw05_DecodeFields.j0 k y0 y1 y2 y3 y4 y5 y6 y7 y8 y9 y10) (anvillaw05_DecodeFields.j0 (k + 1) y0 y1 y2 y3 y4 y5 y6 y7 y8 y9 y10)) ∧ (∀ y0 y1 y2 y3 y4 y5 y6 y7 y8 y9, LeO (anvillaw05_DecodeFields.j1 k y0 y1 y2 y3 y4 y5 y6 y7 y8 y9) (anvillaw05_DecodeFields.j1 (k + 1) y0 y1 y2 y3 y4 y5 y6 y7 y8 y9))
  | 0 => ⟨fun _ _ _ _ _ _ _ _ _ _ _ r h => by simp [anvillaw05_DecodeFields.j0] at h, fun _ _ _ _ _ _ _ _ _ _ r h => by simp [anvillaw05_DecodeFields.j1] at h⟩
  | k + 1 => by
    obtain ⟨ih0, ih1⟩ := anvillaw05_DecodeFields.mono_l k
    refine ⟨?_, ?_⟩
    · intro y0 y1 y2 y3 y4 y5 y6 y7 y8 y9 y10
      unfold anvillaw05_DecodeFields.j0
      repeat' first
      | (with_reducible exact ih0 _ _ _ _ _ _ _ _ _ _ _)
      | (with_reducible exact ih1 _ _ _ _ _ _ _ _ _ _)
      | (with_reducible exact anvillaw05_bound.mono _ _)
      | (with_reducible exact anvillaw05_first.mono _)
      | (with_reducible exact decode_Decode.mono _ _)
      | (with_reducible exact LeO.refl _)
      | (with_reducible exact LeO.none _)
      | (with_reducible refine LeO.ite ?_ ?_)
      | (with_reducible refine LeO.bind ?_ (fun _ => ?_))
      | exact ih0 _ _ _ _ _ _ _ _ _ _ _
      | exact ih1 _ _ _ _ _ _ _ _ _ _
      | exact anvillaw05_bound.mono _ _
      | exact anvillaw05_first.mono _
      | exact decode_Decode.mono _ _
      | exact LeO.none _
      | refine LeO.ite ?_ ?_
      | refine LeO.bind ?_ (fun _ => ?_)
    · intro y0 y1 y2 y3 y4 y5 y6 y7 y8 y9
      unfold anvillaw05_DecodeFields.j1
      repeat' first
      | (with_reducible exact ih0 _ _ _ _ _ _ _ _ _ _ _)
      | (with_reducible exact ih1 _ _ _ _ _ _ _ _ _ _)
      | (with_reducible exact anvillaw05_bound.mono _ _)
      | (with_reducible exact anvillaw05_first.mono _)
      | (with_reducible exact decode_Decode.mono _ _)
      | (with_reducible exact LeO.refl _)
      | (with_reducible exact LeO.none _)
      | (with_reducible refine LeO.ite ?_ ?_)
      | (with_reducible refine LeO.bind ?_ (fun _ => ?_))
      | exact ih0 _ _ _ _ _ _ _ _ _ _ _
      | exact ih1 _ _ _ _ _ _ _ _ _ _
      | exact anvillaw05_bound.mono _ _
      | exact anvillaw05_first.mono _
      | exact decode_Decode.mono _ _
      | exact LeO.none _
      | refine LeO.ite ?_ ?_
      | refine LeO.bind ?_ (fun _ => ?_)
theorem anvillaw05_DecodeFields.mono : ∀ a0 k, LeO (anvillaw05_DecodeFields.f k a0) (anvillaw05_DecodeFields.f (k + 1) a0) := by
  intro a0 k
  obtain ⟨ih0, ih1⟩ := anvillaw05_DecodeFields.mono_l k
  unfold anvillaw05_DecodeFields.f
  repeat' first
      | (with_reducible exact ih0 _ _ _ _ _ _ _ _ _ _ _)
      | (with_reducible exact ih1 _ _ _ _ _ _ _ _ _ _)
      | (with_reducible exact anvillaw05_bound.mono _ _)
      | (with_reducible exact anvillaw05_first.mono _)
      | (with_reducible exact decode_Decode.mono _ _)
      | (with_reducible exact LeO.refl _)
      | (with_reducible exact LeO.none _)
      | (with_reducible refine LeO.ite ?_ ?_)
      | (with_reducible refine LeO.bind ?_ (fun _ => ?_))
      | exact ih0 _ _ _ _ _ _ _ _ _ _ _
      | exact ih1 _ _ _ _ _ _ _ _ _ _
      | exact anvillaw05_bound.mono _ _
      | exact anvillaw05_first.mono _
      | exact decode_Decode.mono _ _
      | exact LeO.none _
      | refine LeO.ite ?_ ?_
      | refine LeO.bind ?_ (fun _ => ?_)
def anvillaw05_DecodeFields.T2 : Bool × List (List Nat × List Nat) := (true, [([], []), ([0], [0]), ([1, 0], [1]), ([2], [2]), ([3, 2], [2, 3]), ([4, 2], [2, 4]), ([2, 5], [2, 5]), ([6, 2], [6]), ([7], [7]), ([8, 7], [7, 8]), ([9, 7], [7, 9]), ([7, 10], [7, 10]), ([11, 7], [11]), ([12], [12]), ([13, 12], [12, 13]), ([12], [12]), ([15, 12, 12], [12, 15]), ([14, 16, 12], [12, 14, 16]), ([12, 17], [12, 17])])
def anvillaw05_DecodeFields.B2 : List Nat := [0, 1, 3, 7, 15, 31, 63, 127, 255, 511, 1023, 2047, 4095, 8191, 16383, 8191, 40959, 131071, 262143]
theorem anvillaw05_DecodeFields.tab2 : rtab .any (opsOf Try.f7 2) = anvillaw05_DecodeFields.T2 := by kernel_rfl
theorem anvillaw05_DecodeFields.bits2 : waitsOk anvillaw05_DecodeFields.T2.2 anvillaw05_DecodeFields.B2 = true := by kernel_rfl
set_option maxHeartbeats 8000000 in
set_option maxRecDepth 100000 in
theorem anvillaw05_DecodeFields.calls (k : Nat) (a0 : Int) (r : Bool) (hr : Aside0 (r = true)) (w : World) (h : anvillaw05_DecodeFields.f k a0 = some r) :
    Calls Try.prog 7 #[.int .u32 a0] w fun e w' => e = .returned (.bool r) ∧ Below w.heap.size w w' := by
  have hu29 := Try.underlying29
  have HB := Aside0.mk (Below.refl w.heap.size w)
  have H : ((decode_Decode.f k a0).bind fun bt121 => ((anvillaw05_first.f k).bind fun t131 => (if t131 = true then (if bt121.1 < 0 then (anvillaw05_DecodeFields.j0 k a0 true bt121.1 bt121.2.1 bt121.2.2.1 bt121.2.2.2.1 bt121.2.2.2.2.1 bt121.2.2.2.2.2.1 bt121.2.2.2.2.2.2.1 bt121.2.2.2.2.2.2.2.1 bt121.2.2.2.2.2.2.2.2) else (if bt121.1 ≥ 97 then (anvillaw05_DecodeFields.j0 k a0 true bt121.1 bt121.2.1 bt121.2.2.1 bt121.2.2.2.1 bt121.2.2.2.2.1 bt121.2.2.2.2.2.1 bt121.2.2.2.2.2.2.1 bt121.2.2.2.2.2.2.2.1 bt121.2.2.2.2.2.2.2.2) else ((decode_Length.f a0).bind fun t132 => (anvillaw05_DecodeFields.j0 k a0 (bt121.2.2.2.2.2.2.2.1 != t132) bt121.1 bt121.2.1 bt121.2.2.1 bt121.2.2.2.1 bt121.2.2.2.2.1 bt121.2.2.2.2.2.1 bt121.2.2.2.2.2.2.1 bt121.2.2.2.2.2.2.2.1 bt121.2.2.2.2.2.2.2.2)))) else (anvillaw05_DecodeFields.j0 k a0 true bt121.1 bt121.2.1 bt121.2.2.1 bt121.2.2.2.1 bt121.2.2.2.2.1 bt121.2.2.2.2.2.1 bt121.2.2.2.2.2.2.1 bt121.2.2.2.2.2.2.2.1 bt121.2.2.2.2.2.2.2.2)))) = some r := h
  clear h
  replace H := Option.bind_eq_some_iff.mp H
  obtain ⟨⟨t121, t122, t123, t124, t125, t126, t127, t128, t129⟩, A20, H⟩ := H
  replace H : ((anvillaw05_first.f k).bind fun t131 => (if t131 = true then (if t121 < 0 then (anvillaw05_DecodeFields.j0 k a0 true t121 t122 t123 t124 t125 t126 t127 t128 t129) else (if t121 ≥ 97 then (anvillaw05_DecodeFields.j0 k a0 true t121 t122 t123 t124 t125 t126 t127 t128 t129) else ((decode_Length.f a0).bind fun t132 => (anvillaw05_DecodeFields.j0 k a0 (t128 != t132) t121 t122 t123 t124 t125 t126 t127 t128 t129)))) else (anvillaw05_DecodeFields.j0 k a0 true t121 t122 t123 t124 t125 t126 t127 t128 t129))) = some r := H
  have A2 := Aside0.mk A20
  clear A20
  have HC3 := Aside0.mk H
  clear H
  go_enter Try.func7, Try.ntmps7
  go_upto_region 2 with (first | ((with_reducible refine gate_callee (f := 13) rfl ?_); refine goesL_ (some 9) rfl rfl Try.func13 (by kernel_rfl) rfl #[.int .u32 a0] rfl (by (try simp only [List.map_toArray, List.map_cons, List.map_nil]); first | done | rfl | (simp only [List.length_drop, List.length_take]; rfl)) ?_; (with_reducible refine (decode_Decode.calls k a0 t121 t122 t123 t124 t125 t126 t127 t128 t129 _ A2.out).mono ?_); rintro e w4 ⟨rfl, hb⟩; refine ⟨_, rfl, ?_⟩; have n0_ := Aside0.mk (below_step (by repeat (first | (with_reducible first | exact HB.out | apply below_alloc | apply pw_below_drewN | apply below_drew1) | exact HB.out)) hb); clear HB; have HB := n0_; clear n0_; (try clear hb); (try clear hb2); (try clear hk); (try clear hi)) | ((with_reducible refine gate_dst (N := 3) rfl ?_); refine box_event ?hg (N := 3) ?hd (cs := #[.int .i64 0, .int .i64 0, .int .i64 0, .int .i64 0, .int .i64 0, .bool false, .bool false, .int .i64 0, .int .u32 0]) (t := 29) ?hr ?_; (case hd => rfl); (case hg => rfl); (case hr => first | (go_simp; done) | (go_simp; rfl)); intro gb130 hg w5 hbox hb; have n0_ := Aside0.mk (below_step (by repeat (first | (with_reducible first | exact HB.out | apply below_alloc | apply pw_below_drewN | apply below_drew1) | exact HB.out)) hb); have n1_ := Aside0.mk (hbox); have n2_ := Aside0.mk ((by rw [hg]; exact (below_size (by repeat (first | (with_reducible first | exact HB.out | apply below_alloc | apply pw_below_drewN | apply below_drew1) | exact HB.out))) : w.heap.size ≤ gb130)); have n3_ := Aside0.mk ((by rw [hg]; exact (below_size (by repeat (first | (with_reducible first | exact HB.out | apply below_alloc | apply pw_below_drewN | apply below_drew1) | exact HB.out))) : w.heap.size ≤ gb130)); clear HB; have HB := n0_; have BK130 := n1_; have GW130 := n2_; have GE130 := n3_; clear n0_ n1_ n2_ n3_; clear hb hbox hg; have hcz6_0 : w5.cell? ⟨gb130, 0, none⟩ = some (.int .i64 0) := (blk_cell BK130.out 0).trans rfl; have hcz6_1 : w5.cell? ⟨gb130, 1, none⟩ = some (.int .i64 0) := (blk_cell BK130.out 1).trans rfl; have hcz6_2 : w5.cell? ⟨gb130, 2, none⟩ = some (.int .i64 0) := (blk_cell BK130.out 2).trans rfl; have hcz6_3 : w5.cell? ⟨gb130, 3, none⟩ = some (.int .i64 0) := (blk_cell BK130.out 3).trans rfl; have hcz6_4 : w5.cell? ⟨gb130, 4, none⟩ = some (.int .i64 0) := (blk_cell BK130.out 4).trans rfl; have hcz6_5 : w5.cell? ⟨gb130, 5, none⟩ = some (.bool false) := (blk_cell BK130.out 5).trans rfl; have hcz6_6 : w5.cell? ⟨gb130, 6, none⟩ = some (.bool false) := (blk_cell BK130.out 6).trans rfl; have hcz6_7 : w5.cell? ⟨gb130, 7, none⟩ = some (.int .i64 0) := (blk_cell BK130.out 7).trans rfl; have hcz6_8 : w5.cell? ⟨gb130, 8, none⟩ = some (.int .u32 0) := (blk_cell BK130.out 8).trans rfl; have hfz6_0 := blk_frozen BK130.out 0; have hfz6_1 := blk_frozen BK130.out 1; have hfz6_2 := blk_frozen BK130.out 2; have hfz6_3 := blk_frozen BK130.out 3; have hfz6_4 := blk_frozen BK130.out 4; have hfz6_5 := blk_frozen BK130.out 5; have hfz6_6 := blk_frozen BK130.out 6; have hfz6_7 := blk_frozen BK130.out 7; have hfz6_8 := blk_frozen BK130.out 8))
  (try simp only [Act.put, List.setIfInBounds_toArray, List.set_cons_zero, List.set_cons_succ])
  go_cut [28] (fun v28 wc => ∃ (kq : Nat) (x28_2 : Bool), v28 = .bool x28_2 ∧ Aside0 (anvillaw05_DecodeFields.j0 kq a0 x28_2 t121 t122 t123 t124 t125 t126 t127 t128 t129 = some r) ∧ Aside0 (kq ≤ k) ∧ Aside0 (wc.heap[gb130]? = some (.cells #[.int .i64 t121, .int .i64 t122, .int .i64 t123, .int .i64 t124, .int .i64 t125, .bool t126, .bool t127, .int .i64 t128, .int .u32 t129] 29 (0, 0))) ∧ Aside0 (Below w.heap.size w wc))
  case first =>
    have H := HC3.out
    clear HC3
    replace H := Option.bind_eq_some_iff.mp H
    obtain ⟨t131, A70, H⟩ := H
    replace H : (if t131 = true then (if t121 < 0 then (anvillaw05_DecodeFields.j0 k a0 true t121 t122 t123 t124 t125 t126 t127 t128 t129) else (if t121 ≥ 97 then (anvillaw05_DecodeFields.j0 k a0 true t121 t122 t123 t124 t125 t126 t127 t128 t129) else ((decode_Length.f a0).bind fun t132 => (anvillaw05_DecodeFields.j0 k a0 (t128 != t132) t121 t122 t123 t124 t125 t126 t127 t128 t129)))) else (anvillaw05_DecodeFields.j0 k a0 true t121 t122 t123 t124 t125 t126 t127 t128 t129)) = some r := H
    have A7 := Aside0.mk A70
    clear A70
    by_cases c8 : t131 = true
    · subst c8
      have H1 : (if t121 < 0 then (anvillaw05_DecodeFields.j0 k a0 true t121 t122 t123 t124 t125 t126 t127 t128 t129) else (if t121 ≥ 97 then (anvillaw05_DecodeFields.j0 k a0 true t121 t122 t123 t124 t125 t126 t127 t128 t129) else ((decode_Length.f a0).bind fun t132 => (anvillaw05_DecodeFields.j0 k a0 (t128 != t132) t121 t122 t123 t124 t125 t126 t127 t128 t129)))) = some r := by rw [if_pos rfl] at H; exact H
      clear H
      have H := H1
      clear H1
      by_cases c9 : t121 < 0
      · rw [if_pos c9] at H
        have c9b0 : decide (t121 < 0) = true := decide_eq_true c9
        clear c9
        (first | rw [c9b0] | (simp only [i64_w, i32_w]; rw [c9b0]) | skip)
        exact absurd (hr.out.symm.trans (by cases k with | zero => simp [anvillaw05_DecodeFields.j0] at H | succ kk_ => (simp [anvillaw05_DecodeFields.j0] at H; first | exact H | exact H.symm) : r = false)) (by decide)
      · rw [if_neg c9] at H
        have c9b0 : decide (t121 < 0) = false := decide_eq_false c9
        clear c9
        (first | rw [c9b0] | (simp only [i64_w, i32_w]; rw [c9b0]) | skip)
        by_cases c10 : t121 ≥ 97
        · rw [if_pos c10] at H
          have c10b0 : decide (97 ≤ t121) = true := decide_eq_true c10
          clear c10
          exact absurd (hr.out.symm.trans (by cases k with | zero => simp [anvillaw05_DecodeFields.j0] at H | succ kk_ => (simp [anvillaw05_DecodeFields.j0] at H; first | exact H | exact H.symm) : r = false)) (by decide)
        · rw [if_neg c10] at H
          have c10b0 : decide (97 ≤ t121) = false := decide_eq_false c10
          clear c10
          replace H := Option.bind_eq_some_iff.mp H
          obtain ⟨t132, A110, H⟩ := H
          replace H : (anvillaw05_DecodeFields.j0 k a0 (t128 != t132) t121 t122 t123 t124 t125 t126 t127 t128 t129) = some r := H
          have A11 := Aside0.mk A110
          clear A110
          have H' := Aside0.mk H
          clear H
          try go_wp2
          have n0_ : Aside0 ((((((((((w5.setCell ⟨gb130, 0, none⟩ (.int .i64 t121)).setCell ⟨gb130, 1, none⟩ (.int .i64 t122)).setCell ⟨gb130, 2, none⟩ (.int .i64 t123)).setCell ⟨gb130, 3, none⟩ (.int .i64 t124)).setCell ⟨gb130, 4, none⟩ (.int .i64 t125)).setCell ⟨gb130, 5, none⟩ (.bool t126)).setCell ⟨gb130, 6, none⟩ (.bool t127)).setCell ⟨gb130, 7, none⟩ (.int .i64 t128)).setCell ⟨gb130, 8, none⟩ (.int .u32 t129)).heap[gb130]? = some (.cells #[.int .i64 t121, .int .i64 t122, .int .i64 t123, .int .i64 t124, .int .i64 t125, .bool t126, .bool t127, .int .i64 t128, .int .u32 t129] 29 (0, 0))) := ⟨by (with_reducible repeat (first | refine blk_drewN ?_ _ | refine blk_drew ?_ | refine blk_alloc ?_ _)); refine blk_put (cs := #[.int .i64 t121, .int .i64 t122, .int .i64 t123, .int .i64 t124, .int .i64 t125, .bool t126, .bool t127, .int .i64 t128, .int .u32 0]) ?_ 8 _ rfl; (with_reducible repeat (first | refine blk_drewN ?_ _ | refine blk_drew ?_ | refine blk_alloc ?_ _)); refine blk_put (cs := #[.int .i64 t121, .int .i64 t122, .int .i64 t123, .int .i64 t124, .int .i64 t125, .bool t126, .bool t127, .int .i64 0, .int .u32 0]) ?_ 7 _ rfl; (with_reducible repeat (first | refine blk_drewN ?_ _ | refine blk_drew ?_ | refine blk_alloc ?_ _)); refine blk_put (cs := #[.int .i64 t121, .int .i64 t122, .int .i64 t123, .int .i64 t124, .int .i64 t125, .bool t126, .bool false, .int .i64 0, .int .u32 0]) ?_ 6 _ rfl; (with_reducible repeat (first | refine blk_drewN ?_ _ | refine blk_drew ?_ | refine blk_alloc ?_ _)); refine blk_put (cs := #[.int .i64 t121, .int .i64 t122, .int .i64 t123, .int .i64 t124, .int .i64 t125, .bool false, .bool false, .int .i64 0, .int .u32 0]) ?_ 5 _ rfl; (with_reducible repeat (first | refine blk_drewN ?_ _ | refine blk_drew ?_ | refine blk_alloc ?_ _)); refine blk_put (cs := #[.int .i64 t121, .int .i64 t122, .int .i64 t123, .int .i64 t124, .int .i64 0, .bool false, .bool false, .int .i64 0, .int .u32 0]) ?_ 4 _ rfl; (with_reducible repeat (first | refine blk_drewN ?_ _ | refine blk_drew ?_ | refine blk_alloc ?_ _)); refine blk_put (cs := #[.int .i64 t121, .int .i64 t122, .int .i64 t123, .int .i64 0, .int .i64 0, .bool false, .bool false, .int .i64 0, .int .u32 0]) ?_ 3 _ rfl; (with_reducible repeat (first | refine blk_drewN ?_ _ | refine blk_drew ?_ | refine blk_alloc ?_ _)); refine blk_put (cs := #[.int .i64 t121, .int .i64 t122, .int .i64 0, .int .i64 0, .int .i64 0, .bool false, .bool false, .int .i64 0, .int .u32 0]) ?_ 2 _ rfl; (with_reducible repeat (first | refine blk_drewN ?_ _ | refine blk_drew ?_ | refine blk_alloc ?_ _)); refine blk_put (cs := #[.int .i64 t121, .int .i64 0, .int .i64 0, .int .i64 0, .int .i64 0, .bool false, .bool false, .int .i64 0, .int .u32 0]) ?_ 1 _ rfl; (with_reducible repeat (first | refine blk_drewN ?_ _ | refine blk_drew ?_ | refine blk_alloc ?_ _)); refine blk_put (cs := #[.int .i64 0, .int .i64 0, .int .i64 0, .int .i64 0, .int .i64 0, .bool false, .bool false, .int .i64 0, .int .u32 0]) ?_ 0 _ rfl; (with_reducible repeat (first | refine blk_drewN ?_ _ | refine blk_drew ?_ | refine blk_alloc ?_ _)); exact BK130.out⟩
          have n1_ : Aside0 (Below w.heap.size w (((((((((w5.setCell ⟨gb130, 0, none⟩ (.int .i64 t121)).setCell ⟨gb130, 1, none⟩ (.int .i64 t122)).setCell ⟨gb130, 2, none⟩ (.int .i64 t123)).setCell ⟨gb130, 3, none⟩ (.int .i64 t124)).setCell ⟨gb130, 4, none⟩ (.int .i64 t125)).setCell ⟨gb130, 5, none⟩ (.bool t126)).setCell ⟨gb130, 6, none⟩ (.bool t127)).setCell ⟨gb130, 7, none⟩ (.int .i64 t128)).setCell ⟨gb130, 8, none⟩ (.int .u32 t129))) := ⟨by repeat (first | (with_reducible first | exact HB.out | apply below_alloc | apply pw_below_drewN | apply below_drew1 | refine below_set ?_ GE130.out) | exact HB.out)⟩
          (try clear BK130)
          (try clear HB)
          generalize (((((((((w5.setCell ⟨gb130, 0, none⟩ (.int .i64 t121)).setCell ⟨gb130, 1, none⟩ (.int .i64 t122)).setCell ⟨gb130, 2, none⟩ (.int .i64 t123)).setCell ⟨gb130, 3, none⟩ (.int .i64 t124)).setCell ⟨gb130, 4, none⟩ (.int .i64 t125)).setCell ⟨gb130, 5, none⟩ (.bool t126)).setCell ⟨gb130, 6, none⟩ (.bool t127)).setCell ⟨gb130, 7, none⟩ (.int .i64 t128)).setCell ⟨gb130, 8, none⟩ (.int .u32 t129)) = w12 at n0_ n1_ ⊢
          have BK130 := n0_
          have HB := n1_
          clear n0_ n1_
          have n0_ := Aside0.mk (blk_drew BK130.out)
          have n1_ := Aside0.mk (below_drew1 HB.out)
          clear BK130
          clear HB
          have BK130 := n0_
          have HB := n1_
          clear n0_ n1_
          refine start_ (n := 19) (S := fun w' => w'.cell? ⟨gb130, 0, none⟩ = some (.int .i64 t121) ∧ w'.cell? ⟨gb130, 1, none⟩ = some (.int .i64 t122) ∧ w'.cell? ⟨gb130, 2, none⟩ = some (.int .i64 t123) ∧ w'.cell? ⟨gb130, 3, none⟩ = some (.int .i64 t124) ∧ w'.cell? ⟨gb130, 4, none⟩ = some (.int .i64 t125) ∧ w'.cell? ⟨gb130, 5, none⟩ = some (.bool t126) ∧ w'.cell? ⟨gb130, 6, none⟩ = some (.bool t127) ∧ w'.cell? ⟨gb130, 7, none⟩ = some (.int .i64 t128) ∧ w'.cell? ⟨gb130, 8, none⟩ = some (.int .u32 t129)) (ds := []) #[false, false, false, false, false, false, false, false, false, false, false, false, false, false, false, false, false, false, false] (by kernel_rfl) rfl rfl ⟨(blk_cell BK130.out 0).trans rfl, (blk_cell BK130.out 1).trans rfl, (blk_cell BK130.out 2).trans rfl, (blk_cell BK130.out 3).trans rfl, (blk_cell BK130.out 4).trans rfl, (blk_cell BK130.out 5).trans rfl, (blk_cell BK130.out 6).trans rfl, (blk_cell BK130.out 7).trans rfl, (blk_cell BK130.out 8).trans rfl⟩ (fun hHeld => ?_); refine with_tabW anvillaw05_DecodeFields.tab2 anvillaw05_DecodeFields.bits2 (fun HT_ HW_ => ?_)
          generalize w12.drew = w13 at BK130 HB hHeld ⊢
          refine one_ (i := 0) (N := some 10) #[true, false, false, false, false, false, false, false, false, false, false, false, false, false, false, false, false, false, false] rfl rfl (one_of HT_.out (by kernel_rfl)) (by decide) (fun K hK => ?_)
          refine goes_ Try.func15 (by kernel_rfl) rfl #[] (by rfl) rfl rfl (by (try simp only [List.map_toArray, List.map_cons, List.map_nil]); first | done | rfl | (simp only [List.length_drop, List.length_take]; rfl)) ?_
          with_reducible refine (anvillaw05_first.calls k  true _ A7.out).mono ?_
          rintro e w14 ⟨rfl, hb⟩
          refine ⟨_, rfl, ?_⟩
          have n0_ := Aside0.mk (blk_below (g := gb130) (o := .cells #[.int .i64 t121, .int .i64 t122, .int .i64 t123, .int .i64 t124, .int .i64 t125, .bool t126, .bool t127, .int .i64 t128, .int .u32 t129] 29 (0, 0)) (by (with_reducible repeat (first | refine blk_drewN ?_ _ | refine blk_drew ?_ | refine blk_alloc ?_ _)); exact BK130.out) hb)
          have n1_ := Aside0.mk (below_step (by repeat (first | (with_reducible first | exact HB.out | apply below_alloc | apply pw_below_drewN | apply below_drew1 | refine below_set ?_ GE130.out) | exact HB.out)) hb)
          clear BK130
          clear HB
          have BK130 := n0_
          have HB := n1_
          clear n0_ n1_
          (try clear hb)
          (try clear hb2)
          (try clear hk)
          (try clear hi)
          refine hK.out _ _ ⟨(blk_cell BK130.out 0).trans rfl, (blk_cell BK130.out 1).trans rfl, (blk_cell BK130.out 2).trans rfl, (blk_cell BK130.out 3).trans rfl, (blk_cell BK130.out 4).trans rfl, (blk_cell BK130.out 5).trans rfl, (blk_cell BK130.out 6).trans rfl, (blk_cell BK130.out 7).trans rfl, (blk_cell BK130.out 8).trans rfl⟩ (fun hHeld => ?_)
          clear hK K
          refine norm_ (a' := ?_) ?_ ?_
          rotate_left
          · show Act.put _ (some 10) _ = _
            simp only [Act.put, List.setIfInBounds_toArray, List.set_cons_zero, List.set_cons_succ, i64_w, i32_w]
            rfl
          refine pure_ (i := 1) (N := some 11) (v := ?_) (a' := ?_) #[true, true, false, false, false, false, false, false, false, false, false, false, false, false, false, false, false, false, false] rfl rfl (any_of HT_.out (by kernel_rfl)) (fun _ _ _ h => h) (Or.inl ⟨by rfl, ?_⟩) ?_ ?_
          rotate_left
          · intro w'
            go_simp
            with_reducible rfl
          rotate_left
          · simp only [Act.put, List.setIfInBounds_toArray, List.set_cons_zero, List.set_cons_succ, i64_w, i32_w]
            rfl
          refine pure_ (i := 2) (N := some 12) (v := ?_) (a' := ?_) #[true, true, true, false, false, false, false, false, false, false, false, false, false, false, false, false, false, false, false] rfl rfl (any_of HT_.out (by kernel_rfl)) (fun _ _ _ h => h) (Or.inl ⟨by rfl, ?_⟩) ?_ ?_
          rotate_left
          · intro w'
            go_simp
            with_reducible rfl
          rotate_left
          · simp only [Act.put, List.setIfInBounds_toArray, List.set_cons_zero, List.set_cons_succ, i64_w, i32_w]
            rfl
          refine pure_ (i := 3) (N := some 13) (v := ?_) (a' := ?_) #[true, true, true, true, false, false, false, false, false, false, false, false, false, false, false, false, false, false, false] rfl rfl (any_of HT_.out (by kernel_rfl)) (fun _ _ _ h => h) (Or.inl ⟨by rfl, ?_⟩) ?_ ?_
          rotate_left
          · intro w'
            go_simp
            with_reducible rfl
          rotate_left
          · simp only [Act.put, List.setIfInBounds_toArray, List.set_cons_zero, List.set_cons_succ, i64_w, i32_w]
            rfl
          refine take_ (i := 4) (N := some 14) (v := ?_) (a' := ?_) #[true, true, true, true, true, false, false, false, false, false, false, false, false, false, false, false, false, false, false] rfl rfl (take_ofW HT_.out HW_.out (by kernel_rfl)) (fun _ _ _ h => h) (Or.inl ⟨by rfl, ?_⟩) hHeld ?_ ?_
          rotate_left
          · rintro w' ⟨s0, s1, s2, s3, s4, s5, s6, s7, s8⟩
            go_simp
            with_reducible rfl
          rotate_left
          · simp only [Act.put, List.setIfInBounds_toArray, List.set_cons_zero, List.set_cons_succ, i64_w, i32_w]
            rfl
          refine pure_ (i := 5) (N := some 15) (v := ?_) (a' := ?_) #[true, true, true, true, true, true, false, false, false, false, false, false, false, false, false, false, false, false, false] rfl rfl (any_of HT_.out (by kernel_rfl)) (fun _ _ _ h => h) (Or.inl ⟨by rfl, ?_⟩) ?_ ?_
          rotate_left
          · intro w'
            go_simp
            with_reducible rfl
          rotate_left
          · simp only [Act.put, List.setIfInBounds_toArray, List.set_cons_zero, List.set_cons_succ, i64_w, i32_w]
            rfl
          refine pure_ (i := 6) (N := some 16) (v := ?_) (a' := ?_) #[true, true, true, true, true, true, true, false, false, false, false, false, false, false, false, false, false, false, false] rfl rfl (any_of HT_.out (by kernel_rfl)) (fun _ _ _ h => h) (Or.inl ⟨by rfl, ?_⟩) ?_ ?_
          rotate_left
          · intro w'
            go_simp
            with_reducible rfl
          rotate_left
          · simp only [Act.put, List.setIfInBounds_toArray, List.set_cons_zero, List.set_cons_succ, i64_w, i32_w]
            rfl
          refine pure_ (i := 7) (N := some 17) (v := ?_) (a' := ?_) #[true, true, true, true, true, true, true, true, false, false, false, false, false, false, false, false, false, false, false] rfl rfl (any_of HT_.out (by kernel_rfl)) (fun _ _ _ h => h) (Or.inl ⟨by rfl, ?_⟩) ?_ ?_
          rotate_left
          · intro w'
            go_simp
            with_reducible rfl
          rotate_left
          · simp only [Act.put, List.setIfInBounds_toArray, List.set_cons_zero, List.set_cons_succ, i64_w, i32_w]
            rfl
          refine pure_ (i := 8) (N := some 18) (v := ?_) (a' := ?_) #[true, true, true, true, true, true, true, true, true, false, false, false, false, false, false, false, false, false, false] rfl rfl (any_of HT_.out (by kernel_rfl)) (fun _ _ _ h => h) (Or.inl ⟨by rfl, ?_⟩) ?_ ?_
          rotate_left
          · intro w'
            go_simp
            with_reducible rfl
          rotate_left
          · simp only [Act.put, List.setIfInBounds_toArray, List.set_cons_zero, List.set_cons_succ, i64_w, i32_w]
            rfl
          refine take_ (i := 9) (N := some 19) (v := ?_) (a' := ?_) #[true, true, true, true, true, true, true, true, true, true, false, false, false, false, false, false, false, false, false] rfl rfl (take_ofW HT_.out HW_.out (by kernel_rfl)) (fun _ _ _ h => h) (Or.inl ⟨by rfl, ?_⟩) hHeld ?_ ?_
          rotate_left
          · rintro w' ⟨s0, s1, s2, s3, s4, s5, s6, s7, s8⟩
            go_simp
            with_reducible rfl
          rotate_left
          · simp only [Act.put, List.setIfInBounds_toArray, List.set_cons_zero, List.set_cons_succ, i64_w, i32_w]
            rfl
          refine pure_ (i := 10) (N := some 20) (v := ?_) (a' := ?_) #[true, true, true, true, true, true, true, true, true, true, true, false, false, false, false, false, false, false, false] rfl rfl (any_of HT_.out (by kernel_rfl)) (fun _ _ _ h => h) (Or.inl ⟨by rfl, ?_⟩) ?_ ?_
          rotate_left
          · intro w'
            go_simp
            with_reducible rfl
          rotate_left
          · simp only [Act.put, List.setIfInBounds_toArray, List.set_cons_zero, List.set_cons_succ, i64_w, i32_w]
            rfl
          refine pure_ (i := 11) (N := some 21) (v := ?_) (a' := ?_) #[true, true, true, true, true, true, true, true, true, true, true, true, false, false, false, false, false, false, false] rfl rfl (any_of HT_.out (by kernel_rfl)) (fun _ _ _ h => h) (Or.inl ⟨by rfl, ?_⟩) ?_ ?_
          rotate_left
          · intro w'
            go_simp
            with_reducible rfl
          rotate_left
          · simp only [Act.put, List.setIfInBounds_toArray, List.set_cons_zero, List.set_cons_succ, i64_w, i32_w]
            rfl
          refine pure_ (i := 12) (N := some 22) (v := ?_) (a' := ?_) #[true, true, true, true, true, true, true, true, true, true, true, true, true, false, false, false, false, false, false] rfl rfl (any_of HT_.out (by kernel_rfl)) (fun _ _ _ h => h) (Or.inl ⟨by rfl, ?_⟩) ?_ ?_
          rotate_left
          · intro w'
            go_simp
            with_reducible rfl
          rotate_left
          · simp only [Act.put, List.setIfInBounds_toArray, List.set_cons_zero, List.set_cons_succ, i64_w, i32_w]
            rfl
          refine pure_ (i := 13) (N := some 23) (v := ?_) (a' := ?_) #[true, true, true, true, true, true, true, true, true, true, true, true, true, true, false, false, false, false, false] rfl rfl (any_of HT_.out (by kernel_rfl)) (fun _ _ _ h => h) (Or.inl ⟨by rfl, ?_⟩) ?_ ?_
          rotate_left
          · intro w'
            go_simp
            with_reducible rfl
          rotate_left
          · simp only [Act.put, List.setIfInBounds_toArray, List.set_cons_zero, List.set_cons_succ, i64_w, i32_w]
            rfl
          refine pure_ (i := 15) (N := some 25) (v := ?_) (a' := ?_) #[true, true, true, true, true, true, true, true, true, true, true, true, true, true, false, true, false, false, false] rfl rfl (any_of HT_.out (by kernel_rfl)) (fun _ _ _ h => h) (Or.inl ⟨by rfl, ?_⟩) ?_ ?_
          rotate_left
          · intro w'
            go_simp
            with_reducible rfl
          rotate_left
          · simp only [Act.put, List.setIfInBounds_toArray, List.set_cons_zero, List.set_cons_succ, i64_w, i32_w]
            rfl
          refine take_ (i := 14) (N := some 24) (v := ?_) (a' := ?_) #[true, true, true, true, true, true, true, true, true, true, true, true, true, true, true, true, false, false, false] rfl rfl (take_ofW HT_.out HW_.out (by kernel_rfl)) (fun _ _ _ h => h) (Or.inl ⟨by rfl, ?_⟩) hHeld ?_ ?_
          rotate_left
          · rintro w' ⟨s0, s1, s2, s3, s4, s5, s6, s7, s8⟩
            go_simp
            with_reducible rfl
          rotate_left
          · simp only [Act.put, List.setIfInBounds_toArray, List.set_cons_zero, List.set_cons_succ, i64_w, i32_w]
            rfl
          refine one_ (i := 16) (N := some 26) #[true, true, true, true, true, true, true, true, true, true, true, true, true, true, true, true, true, false, false] rfl rfl (one_of HT_.out (by kernel_rfl)) (by decide) (fun K hK => ?_)
          refine goes_ Try.func11 (by kernel_rfl) rfl #[.int .u32 a0] (by rfl) rfl rfl (by (try simp only [List.map_toArray, List.map_cons, List.map_nil]); first | done | rfl | (simp only [List.length_drop, List.length_take]; rfl)) ?_
          with_reducible refine (decode_Length.calls a0 t132 _ A11.out).mono ?_
          rintro e w' ⟨rfl, ⟨nd, rfl⟩⟩
          refine ⟨_, rfl, ?_⟩
          refine hK.out _ _ ⟨(blk_cell BK130.out 0).trans rfl, (blk_cell BK130.out 1).trans rfl, (blk_cell BK130.out 2).trans rfl, (blk_cell BK130.out 3).trans rfl, (blk_cell BK130.out 4).trans rfl, (blk_cell BK130.out 5).trans rfl, (blk_cell BK130.out 6).trans rfl, (blk_cell BK130.out 7).trans rfl, (blk_cell BK130.out 8).trans rfl⟩ (fun hHeld => ?_)
          clear hK K
          refine norm_ (a' := ?_) ?_ ?_
          rotate_left
          · show Act.put _ (some 26) _ = _
            simp only [Act.put, List.setIfInBounds_toArray, List.set_cons_zero, List.set_cons_succ, i64_w, i32_w]
            rfl
          refine pure_ (i := 17) (N := some 27) (v := ?_) (a' := ?_) #[true, true, true, true, true, true, true, true, true, true, true, true, true, true, true, true, true, true, false] rfl rfl (any_of HT_.out (by kernel_rfl)) (fun _ _ _ h => h) (Or.inl ⟨by rfl, ?_⟩) ?_ ?_
          rotate_left
          · intro w'
            go_simp
            with_reducible rfl
          rotate_left
          · simp only [Act.put, List.setIfInBounds_toArray, List.set_cons_zero, List.set_cons_succ, i64_w, i32_w]
            rfl
          refine pure_ (i := 18) (N := some 28) (v := ?_) (a' := ?_) #[true, true, true, true, true, true, true, true, true, true, true, true, true, true, true, true, true, true, true] rfl rfl (any_of HT_.out (by kernel_rfl)) (fun _ _ _ h => h) (Or.inl ⟨by rfl, ?_⟩) ?_ ?_
          rotate_left
          · intro w'
            go_simp
            with_reducible rfl
          rotate_left
          · simp only [Act.put, List.setIfInBounds_toArray, List.set_cons_zero, List.set_cons_succ, i64_w, i32_w]
            rfl
          refine done_ (done_of HT_.out (by kernel_rfl)) ?_
          try go_wp2
          go_meet
          case rel => exact ⟨_, ((t128 != t132)), (by first | rfl | (simp; done) | (simp [*]; done)), H', ⟨by first | omega | exact Nat.le_refl _⟩, ⟨by (with_reducible repeat (first | refine blk_drewN ?_ _ | refine blk_drew ?_ | refine blk_alloc ?_ _)); exact BK130.out⟩, ⟨by repeat (first | (with_reducible first | exact HB.out | apply below_alloc | apply pw_below_drewN | apply below_drew1 | refine below_set ?_ GE130.out) | exact HB.out)⟩⟩
    · replace c8 := Bool.eq_false_iff.mpr c8
      subst c8
      have H1 : (anvillaw05_DecodeFields.j0 k a0 true t121 t122 t123 t124 t125 t126 t127 t128 t129) = some r := by rw [if_neg (show ¬ (false = true) by decide)] at H; exact H
      clear H
      have H := H1
      clear H1
      exact absurd (hr.out.symm.trans (by cases k with | zero => simp [anvillaw05_DecodeFields.j0] at H | succ kk_ => (simp [anvillaw05_DecodeFields.j0] at H; first | exact H | exact H.symm) : r = false)) (by decide)
  case rest =>
    clear HC3
    try clear c1
    try clear p2
    try clear c7
    try clear c8
    try clear c9
    try clear c9b0
    try clear c10
    try clear c10b0
    try clear c11
    try clear c13
    try clear hcz6_0
    try clear hcz6_1
    try clear hcz6_2
    try clear hcz6_3
    try clear hcz6_4
    try clear hcz6_5
    try clear hcz6_6
    try clear hcz6_7
    try clear hcz6_8
    try clear hfz6_0
    try clear hfz6_1
    try clear hfz6_2
    try clear hfz6_3
    try clear hfz6_4
    try clear hfz6_5
    try clear hfz6_6
    try clear hfz6_7
    try clear hfz6_8
    obtain ⟨kq, x28_2, rfl, HA, HJ2, BK130, HB⟩ := hcut
    cases kq with
    | zero => exact absurd HA.out (by simp [anvillaw05_DecodeFields.j0])
    | succ kj2 =>
      have H := HA.out
      clear HA
      simp only [anvillaw05_DecodeFields.j0] at H
      by_cases c15 : x28_2 = true
      · subst c15
        have H1 : (some false) = some r := by rw [if_pos rfl] at H; exact H
        clear H
        have H := H1
        clear H1
        obtain rfl := Option.some.inj H
        exact absurd hr.out (by decide)
      · replace c15 := Bool.eq_false_iff.mpr c15
        subst c15
        have H1 : (if t128 = 2 then (if t129 = (Int.tmod a0 65536) then (if t128 = 4 then (anvillaw05_DecodeFields.j1 kj2 (t129 != a0) t121 t122 t123 t124 t125 t126 t127 t128 t129) else (anvillaw05_DecodeFields.j1 kj2 false t121 t122 t123 t124 t125 t126 t127 t128 t129)) else (anvillaw05_DecodeFields.j1 kj2 true t121 t122 t123 t124 t125 t126 t127 t128 t129)) else (if t128 = 4 then (anvillaw05_DecodeFields.j1 kj2 (t129 != a0) t121 t122 t123 t124 t125 t126 t127 t128 t129) else (anvillaw05_DecodeFields.j1 kj2 false t121 t122 t123 t124 t125 t126 t127 t128 t129))) = some r := by rw [if_neg (show ¬ (false = true) by decide)] at H; exact H
        clear H
        have H := H1
        clear H1
        have HC16 := Aside0.mk H
        clear H
        go_upto_region 4 with (fail)
        go_cut [49] (fun v49 wc => ∃ (kq : Nat) (x49_15 : Bool), v49 = .bool x49_15 ∧ Aside0 (anvillaw05_DecodeFields.j1 kq x49_15 t121 t122 t123 t124 t125 t126 t127 t128 t129 = some r) ∧ Aside0 (kq ≤ kj2) ∧ Aside0 (wc.heap[gb130]? = some (.cells #[.int .i64 t121, .int .i64 t122, .int .i64 t123, .int .i64 t124, .int .i64 t125, .bool t126, .bool t127, .int .i64 t128, .int .u32 t129] 29 (0, 0))) ∧ Aside0 (Below w.heap.size w wc))
        case first =>
          have H := HC16.out
          clear HC16
          by_cases c17 : t128 = 2
          · rw [if_pos c17] at H
            have c17b0 : (t128 == 2) = true := beq_iff_eq.mpr c17
            have c17b1 : (t128 != 2) = false := bne_eq_false_iff_eq.mpr c17
            clear c17
            (first | rw [c17b0] | (simp only [i64_w, i32_w]; rw [c17b0]) | skip)
            by_cases c18 : t129 = (Int.tmod a0 65536)
            · rw [if_pos c18] at H
              have c18b0 : (t129 == (Int.tmod a0 65536)) = true := beq_iff_eq.mpr c18
              have c18b1 : (t129 != (Int.tmod a0 65536)) = false := bne_eq_false_iff_eq.mpr c18
              clear c18
              by_cases c19 : t128 = 4
              · rw [if_pos c19] at H
                have c19b0 : (t128 == 4) = true := beq_iff_eq.mpr c19
                have c19b1 : (t128 != 4) = false := bne_eq_false_iff_eq.mpr c19
                clear c19
                have H' := Aside0.mk H
                clear H
                have hcz20_0 : wc.cell? ⟨gb130, 0, none⟩ = some (.int .i64 t121) := (blk_cell BK130.out 0).trans rfl
                have hcz20_1 : wc.cell? ⟨gb130, 1, none⟩ = some (.int .i64 t122) := (blk_cell BK130.out 1).trans rfl
                have hcz20_2 : wc.cell? ⟨gb130, 2, none⟩ = some (.int .i64 t123) := (blk_cell BK130.out 2).trans rfl
                have hcz20_3 : wc.cell? ⟨gb130, 3, none⟩ = some (.int .i64 t124) := (blk_cell BK130.out 3).trans rfl
                have hcz20_4 : wc.cell? ⟨gb130, 4, none⟩ = some (.int .i64 t125) := (blk_cell BK130.out 4).trans rfl
                have hcz20_5 : wc.cell? ⟨gb130, 5, none⟩ = some (.bool t126) := (blk_cell BK130.out 5).trans rfl
                have hcz20_6 : wc.cell? ⟨gb130, 6, none⟩ = some (.bool t127) := (blk_cell BK130.out 6).trans rfl
                have hcz20_7 : wc.cell? ⟨gb130, 7, none⟩ = some (.int .i64 t128) := (blk_cell BK130.out 7).trans rfl
                have hcz20_8 : wc.cell? ⟨gb130, 8, none⟩ = some (.int .u32 t129) := (blk_cell BK130.out 8).trans rfl
                have hfz20_0 := blk_frozen BK130.out 0
                have hfz20_1 := blk_frozen BK130.out 1
                have hfz20_2 := blk_frozen BK130.out 2
                have hfz20_3 := blk_frozen BK130.out 3
                have hfz20_4 := blk_frozen BK130.out 4
                have hfz20_5 := blk_frozen BK130.out 5
                have hfz20_6 := blk_frozen BK130.out 6
                have hfz20_7 := blk_frozen BK130.out 7
                have hfz20_8 := blk_frozen BK130.out 8
                go_wp2
                go_meet
                case rel => exact ⟨_, ((t129 != a0)), (by first | rfl | (simp; done) | (simp [*]; done)), H', ⟨by have := HJ2.out; first | omega | exact Nat.le_refl _⟩, ⟨by (with_reducible repeat (first | refine blk_drewN ?_ _ | refine blk_drew ?_ | refine blk_alloc ?_ _)); exact BK130.out⟩, ⟨by repeat (first | (with_reducible first | exact HB.out | apply below_alloc | apply pw_below_drewN | apply below_drew1 | refine below_set ?_ GE130.out) | exact HB.out)⟩⟩
              · rw [if_neg c19] at H
                have c19b0 : (t128 == 4) = false := beq_eq_false_iff_ne.mpr c19
                have c19b1 : (t128 != 4) = true := bne_iff_ne.mpr c19
                have H' := Aside0.mk H
                clear H
                have hcz21_0 : wc.cell? ⟨gb130, 0, none⟩ = some (.int .i64 t121) := (blk_cell BK130.out 0).trans rfl
                have hcz21_1 : wc.cell? ⟨gb130, 1, none⟩ = some (.int .i64 t122) := (blk_cell BK130.out 1).trans rfl
                have hcz21_2 : wc.cell? ⟨gb130, 2, none⟩ = some (.int .i64 t123) := (blk_cell BK130.out 2).trans rfl
                have hcz21_3 : wc.cell? ⟨gb130, 3, none⟩ = some (.int .i64 t124) := (blk_cell BK130.out 3).trans rfl
                have hcz21_4 : wc.cell? ⟨gb130, 4, none⟩ = some (.int .i64 t125) := (blk_cell BK130.out 4).trans rfl
                have hcz21_5 : wc.cell? ⟨gb130, 5, none⟩ = some (.bool t126) := (blk_cell BK130.out 5).trans rfl
                have hcz21_6 : wc.cell? ⟨gb130, 6, none⟩ = some (.bool t127) := (blk_cell BK130.out 6).trans rfl
                have hcz21_7 : wc.cell? ⟨gb130, 7, none⟩ = some (.int .i64 t128) := (blk_cell BK130.out 7).trans rfl
                have hcz21_8 : wc.cell? ⟨gb130, 8, none⟩ = some (.int .u32 t129) := (blk_cell BK130.out 8).trans rfl
                have hfz21_0 := blk_frozen BK130.out 0
                have hfz21_1 := blk_frozen BK130.out 1
                have hfz21_2 := blk_frozen BK130.out 2
                have hfz21_3 := blk_frozen BK130.out 3
                have hfz21_4 := blk_frozen BK130.out 4
                have hfz21_5 := blk_frozen BK130.out 5
                have hfz21_6 := blk_frozen BK130.out 6
                have hfz21_7 := blk_frozen BK130.out 7
                have hfz21_8 := blk_frozen BK130.out 8
                go_wp2
                go_meet
                case rel => exact ⟨_, (false), (by first | rfl | (simp; done) | (simp [*]; done)), H', ⟨by have := HJ2.out; first | omega | exact Nat.le_refl _⟩, ⟨by (with_reducible repeat (first | refine blk_drewN ?_ _ | refine blk_drew ?_ | refine blk_alloc ?_ _)); exact BK130.out⟩, ⟨by repeat (first | (with_reducible first | exact HB.out | apply below_alloc | apply pw_below_drewN | apply below_drew1 | refine below_set ?_ GE130.out) | exact HB.out)⟩⟩
            · rw [if_neg c18] at H
              have c18b0 : (t129 == (Int.tmod a0 65536)) = false := beq_eq_false_iff_ne.mpr c18
              have c18b1 : (t129 != (Int.tmod a0 65536)) = true := bne_iff_ne.mpr c18
              exact absurd (hr.out.symm.trans (by cases kj2 with | zero => simp [anvillaw05_DecodeFields.j1] at H | succ kk_ => (simp [anvillaw05_DecodeFields.j1] at H; first | exact H | exact H.symm) : r = false)) (by decide)
          · rw [if_neg c17] at H
            have c17b0 : (t128 == 2) = false := beq_eq_false_iff_ne.mpr c17
            have c17b1 : (t128 != 2) = true := bne_iff_ne.mpr c17
            (first | rw [c17b0] | (simp only [i64_w, i32_w]; rw [c17b0]) | skip)
            by_cases c22 : t128 = 4
            · rw [if_pos c22] at H
              have c22b0 : (t128 == 4) = true := beq_iff_eq.mpr c22
              have c22b1 : (t128 != 4) = false := bne_eq_false_iff_eq.mpr c22
              clear c22
              have H' := Aside0.mk H
              clear H
              have hcz23_0 : wc.cell? ⟨gb130, 0, none⟩ = some (.int .i64 t121) := (blk_cell BK130.out 0).trans rfl
              have hcz23_1 : wc.cell? ⟨gb130, 1, none⟩ = some (.int .i64 t122) := (blk_cell BK130.out 1).trans rfl
              have hcz23_2 : wc.cell? ⟨gb130, 2, none⟩ = some (.int .i64 t123) := (blk_cell BK130.out 2).trans rfl
              have hcz23_3 : wc.cell? ⟨gb130, 3, none⟩ = some (.int .i64 t124) := (blk_cell BK130.out 3).trans rfl
              have hcz23_4 : wc.cell? ⟨gb130, 4, none⟩ = some (.int .i64 t125) := (blk_cell BK130.out 4).trans rfl
              have hcz23_5 : wc.cell? ⟨gb130, 5, none⟩ = some (.bool t126) := (blk_cell BK130.out 5).trans rfl
              have hcz23_6 : wc.cell? ⟨gb130, 6, none⟩ = some (.bool t127) := (blk_cell BK130.out 6).trans rfl
              have hcz23_7 : wc.cell? ⟨gb130, 7, none⟩ = some (.int .i64 t128) := (blk_cell BK130.out 7).trans rfl
              have hcz23_8 : wc.cell? ⟨gb130, 8, none⟩ = some (.int .u32 t129) := (blk_cell BK130.out 8).trans rfl
              have hfz23_0 := blk_frozen BK130.out 0
              have hfz23_1 := blk_frozen BK130.out 1
              have hfz23_2 := blk_frozen BK130.out 2
              have hfz23_3 := blk_frozen BK130.out 3
              have hfz23_4 := blk_frozen BK130.out 4
              have hfz23_5 := blk_frozen BK130.out 5
              have hfz23_6 := blk_frozen BK130.out 6
              have hfz23_7 := blk_frozen BK130.out 7
              have hfz23_8 := blk_frozen BK130.out 8
              go_wp2
              go_meet
              case rel => exact ⟨_, ((t129 != a0)), (by first | rfl | (simp; done) | (simp [*]; done)), H', ⟨by have := HJ2.out; first | omega | exact Nat.le_refl _⟩, ⟨by (with_reducible repeat (first | refine blk_drewN ?_ _ | refine blk_drew ?_ | refine blk_alloc ?_ _)); exact BK130.out⟩, ⟨by repeat (first | (with_reducible first | exact HB.out | apply below_alloc | apply pw_below_drewN | apply below_drew1 | refine below_set ?_ GE130.out) | exact HB.out)⟩⟩
            · rw [if_neg c22] at H
              have c22b0 : (t128 == 4) = false := beq_eq_false_iff_ne.mpr c22
              have c22b1 : (t128 != 4) = true := bne_iff_ne.mpr c22
              have H' := Aside0.mk H
              clear H
              have hcz24_0 : wc.cell? ⟨gb130, 0, none⟩ = some (.int .i64 t121) := (blk_cell BK130.out 0).trans rfl
              have hcz24_1 : wc.cell? ⟨gb130, 1, none⟩ = some (.int .i64 t122) := (blk_cell BK130.out 1).trans rfl
              have hcz24_2 : wc.cell? ⟨gb130, 2, none⟩ = some (.int .i64 t123) := (blk_cell BK130.out 2).trans rfl
              have hcz24_3 : wc.cell? ⟨gb130, 3, none⟩ = some (.int .i64 t124) := (blk_cell BK130.out 3).trans rfl
              have hcz24_4 : wc.cell? ⟨gb130, 4, none⟩ = some (.int .i64 t125) := (blk_cell BK130.out 4).trans rfl
              have hcz24_5 : wc.cell? ⟨gb130, 5, none⟩ = some (.bool t126) := (blk_cell BK130.out 5).trans rfl
              have hcz24_6 : wc.cell? ⟨gb130, 6, none⟩ = some (.bool t127) := (blk_cell BK130.out 6).trans rfl
              have hcz24_7 : wc.cell? ⟨gb130, 7, none⟩ = some (.int .i64 t128) := (blk_cell BK130.out 7).trans rfl
              have hcz24_8 : wc.cell? ⟨gb130, 8, none⟩ = some (.int .u32 t129) := (blk_cell BK130.out 8).trans rfl
              have hfz24_0 := blk_frozen BK130.out 0
              have hfz24_1 := blk_frozen BK130.out 1
              have hfz24_2 := blk_frozen BK130.out 2
              have hfz24_3 := blk_frozen BK130.out 3
              have hfz24_4 := blk_frozen BK130.out 4
              have hfz24_5 := blk_frozen BK130.out 5
              have hfz24_6 := blk_frozen BK130.out 6
              have hfz24_7 := blk_frozen BK130.out 7
              have hfz24_8 := blk_frozen BK130.out 8
              go_wp2
              go_meet
              case rel => exact ⟨_, (false), (by first | rfl | (simp; done) | (simp [*]; done)), H', ⟨by have := HJ2.out; first | omega | exact Nat.le_refl _⟩, ⟨by (with_reducible repeat (first | refine blk_drewN ?_ _ | refine blk_drew ?_ | refine blk_alloc ?_ _)); exact BK130.out⟩, ⟨by repeat (first | (with_reducible first | exact HB.out | apply below_alloc | apply pw_below_drewN | apply below_drew1 | refine below_set ?_ GE130.out) | exact HB.out)⟩⟩
        case rest =>
          clear HC16
          try clear c1
          try clear c2
          try clear p2
          try clear c7
          try clear c8
          try clear c9
          try clear c9b0
          try clear c10
          try clear c10b0
          try clear c11
          try clear c13
          try clear c15
          try clear c17
          try clear c17b0
          try clear c17b1
          try clear c18
          try clear c18b0
          try clear c18b1
          try clear c19
          try clear c19b0
          try clear c19b1
          try clear c22
          try clear c22b0
          try clear c22b1
          try clear hcz20_0
          try clear hcz20_1
          try clear hcz20_2
          try clear hcz20_3
          try clear hcz20_4
          try clear hcz20_5
          try clear hcz20_6
          try clear hcz20_7
          try clear hcz20_8
          try clear hcz21_0
          try clear hcz21_1
          try clear hcz21_2
          try clear hcz21_3
          try clear hcz21_4
          try clear hcz21_5
          try clear hcz21_6
          try clear hcz21_7
          try clear hcz21_8
          try clear hcz23_0
          try clear hcz23_1
          try clear hcz23_2
          try clear hcz23_3
          try clear hcz23_4
          try clear hcz23_5
          try clear hcz23_6
          try clear hcz23_7
          try clear hcz23_8
          try clear hcz24_0
          try clear hcz24_1
          try clear hcz24_2
          try clear hcz24_3
          try clear hcz24_4
          try clear hcz24_5
          try clear hcz24_6
          try clear hcz24_7
          try clear hcz24_8
          try clear hcz6_0
          try clear hcz6_1
          try clear hcz6_2
          try clear hcz6_3
          try clear hcz6_4
          try clear hcz6_5
          try clear hcz6_6
          try clear hcz6_7
          try clear hcz6_8
          try clear hfz20_0
          try clear hfz20_1
          try clear hfz20_2
          try clear hfz20_3
          try clear hfz20_4
          try clear hfz20_5
          try clear hfz20_6
          try clear hfz20_7
          try clear hfz20_8
          try clear hfz21_0
          try clear hfz21_1
          try clear hfz21_2
          try clear hfz21_3
          try clear hfz21_4
          try clear hfz21_5
          try clear hfz21_6
          try clear hfz21_7
          try clear hfz21_8
          try clear hfz23_0
          try clear hfz23_1
          try clear hfz23_2
          try clear hfz23_3
          try clear hfz23_4
          try clear hfz23_5
          try clear hfz23_6
          try clear hfz23_7
          try clear hfz23_8
          try clear hfz24_0
          try clear hfz24_1
          try clear hfz24_2
          try clear hfz24_3
          try clear hfz24_4
          try clear hfz24_5
          try clear hfz24_6
          try clear hfz24_7
          try clear hfz24_8
          try clear hfz6_0
          try clear hfz6_1
          try clear hfz6_2
          try clear hfz6_3
          try clear hfz6_4
          try clear hfz6_5
          try clear hfz6_6
          try clear hfz6_7
          try clear hfz6_8
          try clear p2
          obtain ⟨kq, x49_15, rfl, HA, HJ15, BK130, HB⟩ := hcut
          cases kq with
          | zero => exact absurd HA.out (by simp [anvillaw05_DecodeFields.j1])
          | succ kj15 =>
            have H := HA.out
            clear HA
            simp only [anvillaw05_DecodeFields.j1] at H
            by_cases c25 : x49_15 = true
            · subst c25
              have H1 : (some false) = some r := by rw [if_pos rfl] at H; exact H
              clear H
              have H := H1
              clear H1
              obtain rfl := Option.some.inj H
              exact absurd hr.out (by decide)
            · replace c25 := Bool.eq_false_iff.mpr c25
              subst c25
              have H1 : (if t121 = 0 then (some (t121 == 0 && (t122 == 0 && (t123 == 0 && (t124 == 0 && (t125 == 0 && (!t126 && (!t127)))))))) else ((anvillaw05_bound.f kj15 t121).bind fun bt133 => ((anvillaw05_reg.f t122).bind fun t136 => (if t136 = true then ((anvillaw05_reg.f t123).bind fun t137 => (if t137 = true then ((anvillaw05_reg.f t124).bind fun t138 => (if t138 = true then (if t125 ≥ bt133.1 then (if t125 ≤ bt133.2.1 then (if bt133.2.2 = 0 then (none) else (if (Int.tmod t125 bt133.2.2) = 0 then (if t121 ≥ 75 then (some true) else (if t126 = true then (some false) else (some (!t127)))) else (some false))) else (some false)) else (some false)) else (some false))) else (some false))) else (some false))))) = some r := by rw [if_neg (show ¬ (false = true) by decide)] at H; exact H
              clear H
              have H := H1
              clear H1
              by_cases c26 : t121 = 0
              · rw [if_pos c26] at H
                have c26b0 : (t121 == 0) = true := beq_iff_eq.mpr c26
                have c26b1 : (t121 != 0) = false := bne_eq_false_iff_eq.mpr c26
                clear c26
                obtain rfl := Option.some.inj H
                have hcz27_0 : wc.cell? ⟨gb130, 0, none⟩ = some (.int .i64 t121) := (blk_cell BK130.out 0).trans rfl
                have hcz27_1 : wc.cell? ⟨gb130, 1, none⟩ = some (.int .i64 t122) := (blk_cell BK130.out 1).trans rfl
                have hcz27_2 : wc.cell? ⟨gb130, 2, none⟩ = some (.int .i64 t123) := (blk_cell BK130.out 2).trans rfl
                have hcz27_3 : wc.cell? ⟨gb130, 3, none⟩ = some (.int .i64 t124) := (blk_cell BK130.out 3).trans rfl
                have hcz27_4 : wc.cell? ⟨gb130, 4, none⟩ = some (.int .i64 t125) := (blk_cell BK130.out 4).trans rfl
                have hcz27_5 : wc.cell? ⟨gb130, 5, none⟩ = some (.bool t126) := (blk_cell BK130.out 5).trans rfl
                have hcz27_6 : wc.cell? ⟨gb130, 6, none⟩ = some (.bool t127) := (blk_cell BK130.out 6).trans rfl
                have hcz27_7 : wc.cell? ⟨gb130, 7, none⟩ = some (.int .i64 t128) := (blk_cell BK130.out 7).trans rfl
                have hcz27_8 : wc.cell? ⟨gb130, 8, none⟩ = some (.int .u32 t129) := (blk_cell BK130.out 8).trans rfl
                have hfz27_0 := blk_frozen BK130.out 0
                have hfz27_1 := blk_frozen BK130.out 1
                have hfz27_2 := blk_frozen BK130.out 2
                have hfz27_3 := blk_frozen BK130.out 3
                have hfz27_4 := blk_frozen BK130.out 4
                have hfz27_5 := blk_frozen BK130.out 5
                have hfz27_6 := blk_frozen BK130.out 6
                have hfz27_7 := blk_frozen BK130.out 7
                have hfz27_8 := blk_frozen BK130.out 8
                go_wp2
                go_ret
                exact ⟨by first | rfl | (simp [errW_none, errW_some] <;> rfl) | (simp [*, errW_none, errW_some] <;> rfl), by repeat (first | (with_reducible first | exact HB.out | apply below_alloc | apply pw_below_drewN | apply below_drew1 | refine below_set ?_ GE130.out) | exact HB.out)⟩
              · rw [if_neg c26] at H
                have c26b0 : (t121 == 0) = false := beq_eq_false_iff_ne.mpr c26
                have c26b1 : (t121 != 0) = true := bne_iff_ne.mpr c26
                replace H := Option.bind_eq_some_iff.mp H
                obtain ⟨⟨t133, t134, t135⟩, A280, H⟩ := H
                replace H : ((anvillaw05_reg.f t122).bind fun t136 => (if t136 = true then ((anvillaw05_reg.f t123).bind fun t137 => (if t137 = true then ((anvillaw05_reg.f t124).bind fun t138 => (if t138 = true then (if t125 ≥ t133 then (if t125 ≤ t134 then (if t135 = 0 then (none) else (if (Int.tmod t125 t135) = 0 then (if t121 ≥ 75 then (some true) else (if t126 = true then (some false) else (some (!t127)))) else (some false))) else (some false)) else (some false)) else (some false))) else (some false))) else (some false))) = some r := H
                have A28 := Aside0.mk A280
                clear A280
                replace H := Option.bind_eq_some_iff.mp H
                obtain ⟨t136, A290, H⟩ := H
                replace H : (if t136 = true then ((anvillaw05_reg.f t123).bind fun t137 => (if t137 = true then ((anvillaw05_reg.f t124).bind fun t138 => (if t138 = true then (if t125 ≥ t133 then (if t125 ≤ t134 then (if t135 = 0 then (none) else (if (Int.tmod t125 t135) = 0 then (if t121 ≥ 75 then (some true) else (if t126 = true then (some false) else (some (!t127)))) else (some false))) else (some false)) else (some false)) else (some false))) else (some false))) else (some false)) = some r := H
                have A29 := Aside0.mk A290
                clear A290
                by_cases c30 : t136 = true
                · subst c30
                  have H1 : ((anvillaw05_reg.f t123).bind fun t137 => (if t137 = true then ((anvillaw05_reg.f t124).bind fun t138 => (if t138 = true then (if t125 ≥ t133 then (if t125 ≤ t134 then (if t135 = 0 then (none) else (if (Int.tmod t125 t135) = 0 then (if t121 ≥ 75 then (some true) else (if t126 = true then (some false) else (some (!t127)))) else (some false))) else (some false)) else (some false)) else (some false))) else (some false))) = some r := by rw [if_pos rfl] at H; exact H
                  clear H
                  have H := H1
                  clear H1
                  replace H := Option.bind_eq_some_iff.mp H
                  obtain ⟨t137, A310, H⟩ := H
                  replace H : (if t137 = true then ((anvillaw05_reg.f t124).bind fun t138 => (if t138 = true then (if t125 ≥ t133 then (if t125 ≤ t134 then (if t135 = 0 then (none) else (if (Int.tmod t125 t135) = 0 then (if t121 ≥ 75 then (some true) else (if t126 = true then (some false) else (some (!t127)))) else (some false))) else (some false)) else (some false)) else (some false))) else (some false)) = some r := H
                  have A31 := Aside0.mk A310
                  clear A310
                  by_cases c32 : t137 = true
                  · subst c32
                    have H1 : ((anvillaw05_reg.f t124).bind fun t138 => (if t138 = true then (if t125 ≥ t133 then (if t125 ≤ t134 then (if t135 = 0 then (none) else (if (Int.tmod t125 t135) = 0 then (if t121 ≥ 75 then (some true) else (if t126 = true then (some false) else (some (!t127)))) else (some false))) else (some false)) else (some false)) else (some false))) = some r := by rw [if_pos rfl] at H; exact H
                    clear H
                    have H := H1
                    clear H1
                    replace H := Option.bind_eq_some_iff.mp H
                    obtain ⟨t138, A330, H⟩ := H
                    replace H : (if t138 = true then (if t125 ≥ t133 then (if t125 ≤ t134 then (if t135 = 0 then (none) else (if (Int.tmod t125 t135) = 0 then (if t121 ≥ 75 then (some true) else (if t126 = true then (some false) else (some (!t127)))) else (some false))) else (some false)) else (some false)) else (some false)) = some r := H
                    have A33 := Aside0.mk A330
                    clear A330
                    by_cases c34 : t138 = true
                    · subst c34
                      have H1 : (if t125 ≥ t133 then (if t125 ≤ t134 then (if t135 = 0 then (none) else (if (Int.tmod t125 t135) = 0 then (if t121 ≥ 75 then (some true) else (if t126 = true then (some false) else (some (!t127)))) else (some false))) else (some false)) else (some false)) = some r := by rw [if_pos rfl] at H; exact H
                      clear H
                      have H := H1
                      clear H1
                      by_cases c35 : t125 ≥ t133
                      · rw [if_pos c35] at H
                        have c35b0 : decide (t133 ≤ t125) = true := decide_eq_true c35
                        clear c35
                        by_cases c36 : t125 ≤ t134
                        · rw [if_pos c36] at H
                          have c36b0 : decide (t125 ≤ t134) = true := decide_eq_true c36
                          clear c36
                          by_cases c37 : t135 = 0
                          · rw [if_pos c37] at H
                            exact absurd H (by simp)
                          · rw [if_neg c37] at H
                            have c37b0 : (t135 == 0) = false := beq_eq_false_iff_ne.mpr c37
                            have c37b1 : (t135 != 0) = true := bne_iff_ne.mpr c37
                            by_cases c38 : (Int.tmod t125 t135) = 0
                            · rw [if_pos c38] at H
                              have c38b0 : ((Int.tmod t125 t135) == 0) = true := beq_iff_eq.mpr c38
                              have c38b1 : ((Int.tmod t125 t135) != 0) = false := bne_eq_false_iff_eq.mpr c38
                              clear c38
                              by_cases c39 : t121 ≥ 75
                              · rw [if_pos c39] at H
                                have c39b0 : decide (75 ≤ t121) = true := decide_eq_true c39
                                clear c39
                                obtain rfl := Option.some.inj H
                                have hcz40_0 : wc.cell? ⟨gb130, 0, none⟩ = some (.int .i64 t121) := (blk_cell BK130.out 0).trans rfl
                                have hcz40_1 : wc.cell? ⟨gb130, 1, none⟩ = some (.int .i64 t122) := (blk_cell BK130.out 1).trans rfl
                                have hcz40_2 : wc.cell? ⟨gb130, 2, none⟩ = some (.int .i64 t123) := (blk_cell BK130.out 2).trans rfl
                                have hcz40_3 : wc.cell? ⟨gb130, 3, none⟩ = some (.int .i64 t124) := (blk_cell BK130.out 3).trans rfl
                                have hcz40_4 : wc.cell? ⟨gb130, 4, none⟩ = some (.int .i64 t125) := (blk_cell BK130.out 4).trans rfl
                                have hcz40_5 : wc.cell? ⟨gb130, 5, none⟩ = some (.bool t126) := (blk_cell BK130.out 5).trans rfl
                                have hcz40_6 : wc.cell? ⟨gb130, 6, none⟩ = some (.bool t127) := (blk_cell BK130.out 6).trans rfl
                                have hcz40_7 : wc.cell? ⟨gb130, 7, none⟩ = some (.int .i64 t128) := (blk_cell BK130.out 7).trans rfl
                                have hcz40_8 : wc.cell? ⟨gb130, 8, none⟩ = some (.int .u32 t129) := (blk_cell BK130.out 8).trans rfl
                                have hfz40_0 := blk_frozen BK130.out 0
                                have hfz40_1 := blk_frozen BK130.out 1
                                have hfz40_2 := blk_frozen BK130.out 2
                                have hfz40_3 := blk_frozen BK130.out 3
                                have hfz40_4 := blk_frozen BK130.out 4
                                have hfz40_5 := blk_frozen BK130.out 5
                                have hfz40_6 := blk_frozen BK130.out 6
                                have hfz40_7 := blk_frozen BK130.out 7
                                have hfz40_8 := blk_frozen BK130.out 8
                                go_wp2_with (first | ((with_reducible refine gate_callee (f := 16) rfl ?_); refine goesL_ (some 63) rfl rfl Try.func16 (by kernel_rfl) rfl #[.int .i64 t121] rfl (by (try simp only [List.map_toArray, List.map_cons, List.map_nil]); first | done | rfl | (simp only [List.length_drop, List.length_take]; rfl)) ?_; (with_reducible refine (anvillaw05_bound.calls kj15 t121 t133 t134 t135 _ A28.out).mono ?_); rintro e w' ⟨rfl, ⟨nd, rfl⟩⟩; refine ⟨_, rfl, ?_⟩) | ((with_reducible refine gate_callee (f := 17) rfl ?_); refine goesL_ (some 72) rfl rfl Try.func17 (by kernel_rfl) rfl #[.int .i64 t122] rfl (by (try simp only [List.map_toArray, List.map_cons, List.map_nil]); first | done | rfl | (simp only [List.length_drop, List.length_take]; rfl)) ?_; (with_reducible refine (anvillaw05_reg.calls t122 true _ A29.out).mono ?_); rintro e w' ⟨rfl, ⟨nd, rfl⟩⟩; refine ⟨_, rfl, ?_⟩) | (go_at_call 17; (with_reducible refine (anvillaw05_reg.calls t123 true _ A31.out).mono ?_); rintro e w' ⟨rfl, ⟨nd, rfl⟩⟩) | (go_at_call 17; (with_reducible refine (anvillaw05_reg.calls t124 true _ A33.out).mono ?_); rintro e w' ⟨rfl, ⟨nd, rfl⟩⟩))
                                go_ret
                                exact ⟨by first | rfl | (simp [errW_none, errW_some] <;> rfl) | (simp [*, errW_none, errW_some] <;> rfl), by repeat (first | (with_reducible first | exact HB.out | apply below_alloc | apply pw_below_drewN | apply below_drew1 | refine below_set ?_ GE130.out) | exact HB.out)⟩
                              · rw [if_neg c39] at H
                                have c39b0 : decide (75 ≤ t121) = false := decide_eq_false c39
                                clear c39
                                by_cases c41 : t126 = true
                                · subst c41
                                  have H1 : (some false) = some r := by rw [if_pos rfl] at H; exact H
                                  clear H
                                  have H := H1
                                  clear H1
                                  obtain rfl := Option.some.inj H
                                  exact absurd hr.out (by decide)
                                · replace c41 := Bool.eq_false_iff.mpr c41
                                  subst c41
                                  have H1 : (some (!t127)) = some r := by rw [if_neg (show ¬ (false = true) by decide)] at H; exact H
                                  clear H
                                  have H := H1
                                  clear H1
                                  obtain rfl := Option.some.inj H
                                  have hcz42_0 : wc.cell? ⟨gb130, 0, none⟩ = some (.int .i64 t121) := (blk_cell BK130.out 0).trans rfl
                                  have hcz42_1 : wc.cell? ⟨gb130, 1, none⟩ = some (.int .i64 t122) := (blk_cell BK130.out 1).trans rfl
                                  have hcz42_2 : wc.cell? ⟨gb130, 2, none⟩ = some (.int .i64 t123) := (blk_cell BK130.out 2).trans rfl
                                  have hcz42_3 : wc.cell? ⟨gb130, 3, none⟩ = some (.int .i64 t124) := (blk_cell BK130.out 3).trans rfl
                                  have hcz42_4 : wc.cell? ⟨gb130, 4, none⟩ = some (.int .i64 t125) := (blk_cell BK130.out 4).trans rfl
                                  have hcz42_5 : wc.cell? ⟨gb130, 5, none⟩ = some (.bool false) := (blk_cell BK130.out 5).trans rfl
                                  have hcz42_6 : wc.cell? ⟨gb130, 6, none⟩ = some (.bool t127) := (blk_cell BK130.out 6).trans rfl
                                  have hcz42_7 : wc.cell? ⟨gb130, 7, none⟩ = some (.int .i64 t128) := (blk_cell BK130.out 7).trans rfl
                                  have hcz42_8 : wc.cell? ⟨gb130, 8, none⟩ = some (.int .u32 t129) := (blk_cell BK130.out 8).trans rfl
                                  have hfz42_0 := blk_frozen BK130.out 0
                                  have hfz42_1 := blk_frozen BK130.out 1
                                  have hfz42_2 := blk_frozen BK130.out 2
                                  have hfz42_3 := blk_frozen BK130.out 3
                                  have hfz42_4 := blk_frozen BK130.out 4
                                  have hfz42_5 := blk_frozen BK130.out 5
                                  have hfz42_6 := blk_frozen BK130.out 6
                                  have hfz42_7 := blk_frozen BK130.out 7
                                  have hfz42_8 := blk_frozen BK130.out 8
                                  go_wp2_with (first | ((with_reducible refine gate_callee (f := 16) rfl ?_); refine goesL_ (some 63) rfl rfl Try.func16 (by kernel_rfl) rfl #[.int .i64 t121] rfl (by (try simp only [List.map_toArray, List.map_cons, List.map_nil]); first | done | rfl | (simp only [List.length_drop, List.length_take]; rfl)) ?_; (with_reducible refine (anvillaw05_bound.calls kj15 t121 t133 t134 t135 _ A28.out).mono ?_); rintro e w' ⟨rfl, ⟨nd, rfl⟩⟩; refine ⟨_, rfl, ?_⟩) | ((with_reducible refine gate_callee (f := 17) rfl ?_); refine goesL_ (some 72) rfl rfl Try.func17 (by kernel_rfl) rfl #[.int .i64 t122] rfl (by (try simp only [List.map_toArray, List.map_cons, List.map_nil]); first | done | rfl | (simp only [List.length_drop, List.length_take]; rfl)) ?_; (with_reducible refine (anvillaw05_reg.calls t122 true _ A29.out).mono ?_); rintro e w' ⟨rfl, ⟨nd, rfl⟩⟩; refine ⟨_, rfl, ?_⟩) | (go_at_call 17; (with_reducible refine (anvillaw05_reg.calls t123 true _ A31.out).mono ?_); rintro e w' ⟨rfl, ⟨nd, rfl⟩⟩) | (go_at_call 17; (with_reducible refine (anvillaw05_reg.calls t124 true _ A33.out).mono ?_); rintro e w' ⟨rfl, ⟨nd, rfl⟩⟩))
                                  go_ret
                                  exact ⟨by first | rfl | (simp [errW_none, errW_some] <;> rfl) | (simp [*, errW_none, errW_some] <;> rfl), by repeat (first | (with_reducible first | exact HB.out | apply below_alloc | apply pw_below_drewN | apply below_drew1 | refine below_set ?_ GE130.out) | exact HB.out)⟩
                            · rw [if_neg c38] at H
                              have c38b0 : ((Int.tmod t125 t135) == 0) = false := beq_eq_false_iff_ne.mpr c38
                              have c38b1 : ((Int.tmod t125 t135) != 0) = true := bne_iff_ne.mpr c38
                              obtain rfl := Option.some.inj H
                              exact absurd hr.out (by decide)
                        · rw [if_neg c36] at H
                          have c36b0 : decide (t125 ≤ t134) = false := decide_eq_false c36
                          clear c36
                          obtain rfl := Option.some.inj H
                          exact absurd hr.out (by decide)
                      · rw [if_neg c35] at H
                        have c35b0 : decide (t133 ≤ t125) = false := decide_eq_false c35
                        clear c35
                        obtain rfl := Option.some.inj H
                        exact absurd hr.out (by decide)
                    · replace c34 := Bool.eq_false_iff.mpr c34
                      subst c34
                      have H1 : (some false) = some r := by rw [if_neg (show ¬ (false = true) by decide)] at H; exact H
                      clear H
                      have H := H1
                      clear H1
                      obtain rfl := Option.some.inj H
                      exact absurd hr.out (by decide)
                  · replace c32 := Bool.eq_false_iff.mpr c32
                    subst c32
                    have H1 : (some false) = some r := by rw [if_neg (show ¬ (false = true) by decide)] at H; exact H
                    clear H
                    have H := H1
                    clear H1
                    obtain rfl := Option.some.inj H
                    exact absurd hr.out (by decide)
                · replace c30 := Bool.eq_false_iff.mpr c30
                  subst c30
                  have H1 : (some false) = some r := by rw [if_neg (show ¬ (false = true) by decide)] at H; exact H
                  clear H
                  have H := H1
                  clear H1
                  obtain rfl := Option.some.inj H
                  exact absurd hr.out (by decide)

/-- THE ONE PURE STATEMENT of anvillaw05_DecodeFields: yours. -/
def anvillaw05_DecodeFields.Pure : Prop := ∀ (a0 : Int), (Lit.int .u32 a0).wf = true → ∃ k, anvillaw05_DecodeFields.f k a0 = some true
theorem anvillaw05_DecodeFields.walk (P : anvillaw05_DecodeFields.Pure) (a0 : Int) (w : World) (w0 : (Lit.int .u32 a0).wf = true) :
    Calls Try.prog 7 #[.int .u32 a0] w fun e w' => e = .returned (.bool true) ∧ Below w.heap.size w w' := by
  obtain ⟨k, h⟩ := P a0 w0
  refine (anvillaw05_DecodeFields.calls k a0 true ⟨rfl⟩ w h).mono ?_
  rintro e w' ⟨rfl, hd⟩
  exact ⟨rfl, hd⟩

end Go.Proofs.Ytiibhggjlandmaa.PDecodeFields
