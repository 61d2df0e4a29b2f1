-- Written by a program (a turned copy of the kit's print.py) for this claim. Lean checks it.
import Derived.Test.YtiibhggjlandmaaPDecodeMovesy0
import Derived.Test.YtiibhggjlandmaaPDecodeMovesy1
import Derived.Test.YtiibhggjlandmaaPDecodeMovesy2
namespace Go.Proofs.Ytiibhggjlandmaa.PDecodeMoves
open Go.RowKit Go.Proofs.YtiibhggjlandmaaW.PrintWords Go.Proofs.YtiibhggjlandmaaW.PrintLast Go.Proofs.YtiibhggjlandmaaW.PrintMore Go.Proofs.Ytiibhggjlandmaa.PB
attribute [local go_sem] max2_int min2_int max_two min_two max_three min_three max_four min_four   -- for this text's walks alone
set_option linter.unusedVariables false
set_option linter.unusedSimpArgs false

attribute [local go_sem high] eqA29
/-! ### anvillaw05_DecodeMoves: function 8 -/
mutual
def anvillaw05_DecodeMoves.j0 : Nat → Int → Int → Bool → Int → Int → Int → Int → Int → Bool → Bool → Int → Int → Option (Bool)
  | 0, _, _, _, _, _, _, _, _, _, _, _, _ => none
  | k + 1, x0, x1, x20, x131000, x131001, x131002, x131003, x131004, x131005, x131006, x131007, x131008 => if x20 = true then ((anvillaw05_first.f k).bind fun t133 => (some t133)) else ((anvillaw05_hasRd.f x131000).bind fun t134 => (if t134 = true then ((decode_Decode.f k (Go.bits .or .u32 (Go.bits .andNot .u32 x0 3968) ((((x1) % 4294967296) * 128) % 4294967296))).bind fun bt136 => (if (!(bt136.1 == x131000) || (!(bt136.2.1 == x1) || (!(bt136.2.2.1 == x131002) || (!(bt136.2.2.2.1 == x131003) || (!(bt136.2.2.2.2.1 == x131004) || (!(bt136.2.2.2.2.2.1 == x131005) || (!(bt136.2.2.2.2.2.2.1 == x131006) || (!(bt136.2.2.2.2.2.2.2.1 == x131007) || (!(bt136.2.2.2.2.2.2.2.2 == (Go.bits .or .u32 (Go.bits .andNot .u32 x0 3968) ((((x1) % 4294967296) * 128) % 4294967296)))))))))))) = true then (some false) else (anvillaw05_DecodeMoves.j1 k x0 x1 x131000 x131001 x131002 x131003 x131004 x131005 x131006 x131007 x131008))) else (anvillaw05_DecodeMoves.j1 k x0 x1 x131000 x131001 x131002 x131003 x131004 x131005 x131006 x131007 x131008)))
def anvillaw05_DecodeMoves.j1 : Nat → Int → Int → Int → Int → Int → Int → Int → Bool → Bool → Int → Int → Option (Bool)
  | 0, _, _, _, _, _, _, _, _, _, _, _ => none
  | k + 1, x0, x1, x131000, x131001, x131002, x131003, x131004, x131005, x131006, x131007, x131008 => (anvillaw05_hasRs1.f x131000).bind fun t145 => (if t145 = true then ((decode_Decode.f k (Go.bits .or .u32 (Go.bits .andNot .u32 x0 1015808) ((((x1) % 4294967296) * 32768) % 4294967296))).bind fun bt147 => (if (!(bt147.1 == x131000) || (!(bt147.2.1 == x131001) || (!(bt147.2.2.1 == x1) || (!(bt147.2.2.2.1 == x131003) || (!(bt147.2.2.2.2.1 == x131004) || (!(bt147.2.2.2.2.2.1 == x131005) || (!(bt147.2.2.2.2.2.2.1 == x131006) || (!(bt147.2.2.2.2.2.2.2.1 == x131007) || (!(bt147.2.2.2.2.2.2.2.2 == (Go.bits .or .u32 (Go.bits .andNot .u32 x0 1015808) ((((x1) % 4294967296) * 32768) % 4294967296)))))))))))) = true then (some false) else (some true))) else (some true))
end
def anvillaw05_DecodeMoves.f (k : Nat) (a0 : Int) (a1 : Int) : Option (Bool) := (decode_Decode.f k (Go.bits .or .u32 a0 3)).bind fun bt121 => ((anvillaw05_first.f k).bind fun t131 => (if t131 = true then ((anvillaw05_reg.f a1).bind fun t132 => (anvillaw05_DecodeMoves.j0 k (Go.bits .or .u32 a0 3) a1 (!t132) bt121.1 bt121.2.1 bt121.2.2.1 bt121.2.2.2.1 bt121.2.2.2.2.1 bt121.2.2.2.2.2.1 bt121.2.2.2.2.2.2.1 bt121.2.2.2.2.2.2.2.1 bt121.2.2.2.2.2.2.2.2)) else (anvillaw05_DecodeMoves.j0 k (Go.bits .or .u32 a0 3) a1 true bt121.1 bt121.2.1 bt121.2.2.1 bt121.2.2.2.1 bt121.2.2.2.2.1 bt121.2.2.2.2.2.1 bt121.2.2.2.2.2.2.1 bt121.2.2.2.2.2.2.2.1 bt121.2.2.2.2.2.2.2.2)))
theorem anvillaw05_DecodeMoves.mono_l : ∀ k, (∀ y0 y1 y2 y3 y4 y5 y6 y7 y8 y9 y10 y11, LeO (anvillaw05_DecodeMoves.j0 k y0 y1 y2 y3 y4 y5 y6 y7 y8 y9 y10 y11) (anvillaw05_DecodeMoves.j0 (k + 1) y0 y1 y2 y3 y4 y5 y6 y7 y8 y9 y10 y11)) ∧ (∀ y0 y1 y2 y3 y4 y5 y6 y7 y8 y9 y10, LeO (anvillaw05_DecodeMoves.j1 k y0 y1 y2 y3 y4 y5 y6 y7 y8 y9 y10) (anvillaw05_DecodeMoves.j1 (k + 1) y0 y1 y2 y3 y4 y5 y6 y7 y8 y9 y10))
  | 0 => ⟨fun _ _ _ _ _ _ _ _ _ _ _ _ r h => by simp [anvillaw05_DecodeMoves.j0] at h, fun _ _ _ _ _ _ _ _ _ _ _ r h => by simp [anvillaw05_DecodeMoves.j1] at h⟩
  | k + 1 => by
    obtain ⟨ih0, ih1⟩ := anvillaw05_DecodeMoves.mono_l k
    refine ⟨?_, ?_⟩
    · intro y0 y1 y2 y3 y4 y5 y6 y7 y8 y9 y10 y11
      unfold anvillaw05_DecodeMoves.j0
      repeat' first
      | (with_reducible exact ih0 _ _ _ _ _ _ _ _ _ _ _ _)
      | (with_reducible exact ih1 _ _ _ _ _ _ _ _ _ _ _)
      | (with_reducible exact anvillaw05_first.mono _)
      | (with_reducible exact decode_Decode.mono _ _)
      | (with_reducible exact LeO.refl _)
      | (with_reducible exact LeO.none _)
      | (with_reducible refine LeO.ite ?_ ?_)
      | (with_reducible refine LeO.bind ?_ (fun _ => ?_))
      | exact ih0 _ _ _ _ _ _ _ _ _ _ _ _
      | exact ih1 _ _ _ _ _ _ _ _ _ _ _
      | exact anvillaw05_first.mono _
      | exact decode_Decode.mono _ _
      | exact LeO.none _
      | refine LeO.ite ?_ ?_
      | refine LeO.bind ?_ (fun _ => ?_)
    · intro y0 y1 y2 y3 y4 y5 y6 y7 y8 y9 y10
      unfold anvillaw05_DecodeMoves.j1
      repeat' first
      | (with_reducible exact ih0 _ _ _ _ _ _ _ _ _ _ _ _)
      | (with_reducible exact ih1 _ _ _ _ _ _ _ _ _ _ _)
      | (with_reducible exact anvillaw05_first.mono _)
      | (with_reducible exact decode_Decode.mono _ _)
      | (with_reducible exact LeO.refl _)
      | (with_reducible exact LeO.none _)
      | (with_reducible refine LeO.ite ?_ ?_)
      | (with_reducible refine LeO.bind ?_ (fun _ => ?_))
      | exact ih0 _ _ _ _ _ _ _ _ _ _ _ _
      | exact ih1 _ _ _ _ _ _ _ _ _ _ _
      | exact anvillaw05_first.mono _
      | exact decode_Decode.mono _ _
      | exact LeO.none _
      | refine LeO.ite ?_ ?_
      | refine LeO.bind ?_ (fun _ => ?_)
theorem anvillaw05_DecodeMoves.mono : ∀ a0 a1 k, LeO (anvillaw05_DecodeMoves.f k a0 a1) (anvillaw05_DecodeMoves.f (k + 1) a0 a1) := by
  intro a0 a1 k
  obtain ⟨ih0, ih1⟩ := anvillaw05_DecodeMoves.mono_l k
  unfold anvillaw05_DecodeMoves.f
  repeat' first
      | (with_reducible exact ih0 _ _ _ _ _ _ _ _ _ _ _ _)
      | (with_reducible exact ih1 _ _ _ _ _ _ _ _ _ _ _)
      | (with_reducible exact anvillaw05_first.mono _)
      | (with_reducible exact decode_Decode.mono _ _)
      | (with_reducible exact LeO.refl _)
      | (with_reducible exact LeO.none _)
      | (with_reducible refine LeO.ite ?_ ?_)
      | (with_reducible refine LeO.bind ?_ (fun _ => ?_))
      | exact ih0 _ _ _ _ _ _ _ _ _ _ _ _
      | exact ih1 _ _ _ _ _ _ _ _ _ _ _
      | exact anvillaw05_first.mono _
      | exact decode_Decode.mono _ _
      | exact LeO.none _
      | refine LeO.ite ?_ ?_
      | refine LeO.bind ?_ (fun _ => ?_)
set_option maxHeartbeats 8000000 in
set_option maxRecDepth 100000 in
theorem anvillaw05_DecodeMoves.calls (k : Nat) (a0 : Int) (a1 : Int) (r : Bool) (hr : Aside0 (r = true)) (w : World) (h : anvillaw05_DecodeMoves.f k a0 a1 = some r) :
    Calls Try.prog 8 #[.int .u32 a0, .int .i64 a1] w fun e w' => e = .returned (.bool r) ∧ Below w.heap.size w w' := by
  have hu29 := Try.underlying29
  have HB := Aside0.mk (Below.refl w.heap.size w)
  have H : ((decode_Decode.f k (Go.bits .or .u32 a0 3)).bind fun bt121 => ((anvillaw05_first.f k).bind fun t131 => (if t131 = true then ((anvillaw05_reg.f a1).bind fun t132 => (anvillaw05_DecodeMoves.j0 k (Go.bits .or .u32 a0 3) a1 (!t132) bt121.1 bt121.2.1 bt121.2.2.1 bt121.2.2.2.1 bt121.2.2.2.2.1 bt121.2.2.2.2.2.1 bt121.2.2.2.2.2.2.1 bt121.2.2.2.2.2.2.2.1 bt121.2.2.2.2.2.2.2.2)) else (anvillaw05_DecodeMoves.j0 k (Go.bits .or .u32 a0 3) a1 true bt121.1 bt121.2.1 bt121.2.2.1 bt121.2.2.2.1 bt121.2.2.2.2.1 bt121.2.2.2.2.2.1 bt121.2.2.2.2.2.2.1 bt121.2.2.2.2.2.2.2.1 bt121.2.2.2.2.2.2.2.2)))) = some r := h
  clear h
  replace H := Option.bind_eq_some_iff.mp H
  obtain ⟨⟨t121, t122, t123, t124, t125, t126, t127, t128, t129⟩, A30, H⟩ := H
  replace H : ((anvillaw05_first.f k).bind fun t131 => (if t131 = true then ((anvillaw05_reg.f a1).bind fun t132 => (anvillaw05_DecodeMoves.j0 k (Go.bits .or .u32 a0 3) a1 (!t132) t121 t122 t123 t124 t125 t126 t127 t128 t129)) else (anvillaw05_DecodeMoves.j0 k (Go.bits .or .u32 a0 3) a1 true t121 t122 t123 t124 t125 t126 t127 t128 t129))) = some r := H
  have A3 := Aside0.mk A30
  clear A30
  have HC4 := Aside0.mk H
  clear H
  go_enter Try.func8, Try.ntmps8
  go_upto_region 3 with (first | ((with_reducible refine gate_callee (f := 13) rfl ?_); refine goesL_ (some 13) rfl rfl Try.func13 (by kernel_rfl) rfl #[.int .u32 (Go.bits .or .u32 a0 3)] rfl (by (try simp only [List.map_toArray, List.map_cons, List.map_nil]); first | done | rfl | (simp only [List.length_drop, List.length_take]; rfl)) ?_; (with_reducible refine (decode_Decode.calls k (Go.bits .or .u32 a0 3) t121 t122 t123 t124 t125 t126 t127 t128 t129 _ A3.out).mono ?_); rintro e w5 ⟨rfl, hb⟩; refine ⟨_, rfl, ?_⟩; have n0_ := Aside0.mk (below_step (by repeat (first | (with_reducible first | exact HB.out | apply below_alloc | apply pw_below_drewN | apply below_drew1) | exact HB.out)) hb); clear HB; have HB := n0_; clear n0_; (try clear hb); (try clear hb2); (try clear hk); (try clear hi)) | ((with_reducible refine gate_dst (N := 5) rfl ?_); refine box_event ?hg (N := 5) ?hd (cs := #[.int .i64 0, .int .i64 0, .int .i64 0, .int .i64 0, .int .i64 0, .bool false, .bool false, .int .i64 0, .int .u32 0]) (t := 29) ?hr ?_; (case hd => rfl); (case hg => rfl); (case hr => first | (go_simp; done) | (go_simp; rfl)); intro gb130 hg w6 hbox hb; have n0_ := Aside0.mk (below_step (by repeat (first | (with_reducible first | exact HB.out | apply below_alloc | apply pw_below_drewN | apply below_drew1) | exact HB.out)) hb); have n1_ := Aside0.mk (hbox); have n2_ := Aside0.mk ((by rw [hg]; exact (below_size (by repeat (first | (with_reducible first | exact HB.out | apply below_alloc | apply pw_below_drewN | apply below_drew1) | exact HB.out))) : w.heap.size ≤ gb130)); have n3_ := Aside0.mk ((by rw [hg]; exact (below_size (by repeat (first | (with_reducible first | exact HB.out | apply below_alloc | apply pw_below_drewN | apply below_drew1) | exact HB.out))) : w.heap.size ≤ gb130)); clear HB; have HB := n0_; have BK130 := n1_; have GW130 := n2_; have GE130 := n3_; clear n0_ n1_ n2_ n3_; clear hb hbox hg; have hcz7_0 : w6.cell? ⟨gb130, 0, none⟩ = some (.int .i64 0) := (blk_cell BK130.out 0).trans rfl; have hcz7_1 : w6.cell? ⟨gb130, 1, none⟩ = some (.int .i64 0) := (blk_cell BK130.out 1).trans rfl; have hcz7_2 : w6.cell? ⟨gb130, 2, none⟩ = some (.int .i64 0) := (blk_cell BK130.out 2).trans rfl; have hcz7_3 : w6.cell? ⟨gb130, 3, none⟩ = some (.int .i64 0) := (blk_cell BK130.out 3).trans rfl; have hcz7_4 : w6.cell? ⟨gb130, 4, none⟩ = some (.int .i64 0) := (blk_cell BK130.out 4).trans rfl; have hcz7_5 : w6.cell? ⟨gb130, 5, none⟩ = some (.bool false) := (blk_cell BK130.out 5).trans rfl; have hcz7_6 : w6.cell? ⟨gb130, 6, none⟩ = some (.bool false) := (blk_cell BK130.out 6).trans rfl; have hcz7_7 : w6.cell? ⟨gb130, 7, none⟩ = some (.int .i64 0) := (blk_cell BK130.out 7).trans rfl; have hcz7_8 : w6.cell? ⟨gb130, 8, none⟩ = some (.int .u32 0) := (blk_cell BK130.out 8).trans rfl; have hfz7_0 := blk_frozen BK130.out 0; have hfz7_1 := blk_frozen BK130.out 1; have hfz7_2 := blk_frozen BK130.out 2; have hfz7_3 := blk_frozen BK130.out 3; have hfz7_4 := blk_frozen BK130.out 4; have hfz7_5 := blk_frozen BK130.out 5; have hfz7_6 := blk_frozen BK130.out 6; have hfz7_7 := blk_frozen BK130.out 7; have hfz7_8 := blk_frozen BK130.out 8))
  (try simp only [Act.put, List.setIfInBounds_toArray, List.set_cons_zero, List.set_cons_succ])
  go_cut [20] (fun v20 wc => ∃ (kq : Nat) (x20_3 : Bool), v20 = .bool x20_3 ∧ Aside0 (anvillaw05_DecodeMoves.j0 kq (Go.bits .or .u32 a0 3) a1 x20_3 t121 t122 t123 t124 t125 t126 t127 t128 t129 = some r) ∧ Aside0 (kq ≤ k) ∧ Aside0 (wc.heap[gb130]? = some (.cells #[.int .i64 t121, .int .i64 t122, .int .i64 t123, .int .i64 t124, .int .i64 t125, .bool t126, .bool t127, .int .i64 t128, .int .u32 t129] 29 (0, 0))) ∧ Aside0 (Below w.heap.size w wc))
  case first =>
    have H := HC4.out
    clear HC4
    replace H := Option.bind_eq_some_iff.mp H
    obtain ⟨t131, A80, H⟩ := H
    replace H : (if t131 = true then ((anvillaw05_reg.f a1).bind fun t132 => (anvillaw05_DecodeMoves.j0 k (Go.bits .or .u32 a0 3) a1 (!t132) t121 t122 t123 t124 t125 t126 t127 t128 t129)) else (anvillaw05_DecodeMoves.j0 k (Go.bits .or .u32 a0 3) a1 true t121 t122 t123 t124 t125 t126 t127 t128 t129)) = some r := H
    have A8 := Aside0.mk A80
    clear A80
    by_cases c9 : t131 = true
    · subst c9
      have H1 : ((anvillaw05_reg.f a1).bind fun t132 => (anvillaw05_DecodeMoves.j0 k (Go.bits .or .u32 a0 3) a1 (!t132) t121 t122 t123 t124 t125 t126 t127 t128 t129)) = some r := by rw [if_pos rfl] at H; exact H
      clear H
      have H := H1
      clear H1
      replace H := Option.bind_eq_some_iff.mp H
      obtain ⟨t132, A100, H⟩ := H
      replace H : (anvillaw05_DecodeMoves.j0 k (Go.bits .or .u32 a0 3) a1 (!t132) t121 t122 t123 t124 t125 t126 t127 t128 t129) = some r := H
      have A10 := Aside0.mk A100
      clear A100
      have H' := Aside0.mk H
      clear H
      go_wp2_with (first | ((with_reducible refine gate_callee (f := 15) rfl ?_); refine goesL_ (some 14) rfl rfl Try.func15 (by kernel_rfl) rfl #[] rfl (by (try simp only [List.map_toArray, List.map_cons, List.map_nil]); first | done | rfl | (simp only [List.length_drop, List.length_take]; rfl)) ?_; (with_reducible refine (anvillaw05_first.calls k  true _ A8.out).mono ?_); rintro e w11 ⟨rfl, hb⟩; refine ⟨_, rfl, ?_⟩; have n0_ := Aside0.mk (blk_below (g := gb130) (o := .cells #[.int .i64 t121, .int .i64 t122, .int .i64 t123, .int .i64 t124, .int .i64 t125, .bool t126, .bool t127, .int .i64 t128, .int .u32 t129] 29 (0, 0)) (by (with_reducible repeat (first | refine blk_drewN ?_ _ | refine blk_drew ?_ | refine blk_alloc ?_ _)); refine blk_put (cs := #[.int .i64 t121, .int .i64 t122, .int .i64 t123, .int .i64 t124, .int .i64 t125, .bool t126, .bool t127, .int .i64 t128, .int .u32 0]) ?_ 8 _ rfl; (with_reducible repeat (first | refine blk_drewN ?_ _ | refine blk_drew ?_ | refine blk_alloc ?_ _)); refine blk_put (cs := #[.int .i64 t121, .int .i64 t122, .int .i64 t123, .int .i64 t124, .int .i64 t125, .bool t126, .bool t127, .int .i64 0, .int .u32 0]) ?_ 7 _ rfl; (with_reducible repeat (first | refine blk_drewN ?_ _ | refine blk_drew ?_ | refine blk_alloc ?_ _)); refine blk_put (cs := #[.int .i64 t121, .int .i64 t122, .int .i64 t123, .int .i64 t124, .int .i64 t125, .bool t126, .bool false, .int .i64 0, .int .u32 0]) ?_ 6 _ rfl; (with_reducible repeat (first | refine blk_drewN ?_ _ | refine blk_drew ?_ | refine blk_alloc ?_ _)); refine blk_put (cs := #[.int .i64 t121, .int .i64 t122, .int .i64 t123, .int .i64 t124, .int .i64 t125, .bool false, .bool false, .int .i64 0, .int .u32 0]) ?_ 5 _ rfl; (with_reducible repeat (first | refine blk_drewN ?_ _ | refine blk_drew ?_ | refine blk_alloc ?_ _)); refine blk_put (cs := #[.int .i64 t121, .int .i64 t122, .int .i64 t123, .int .i64 t124, .int .i64 0, .bool false, .bool false, .int .i64 0, .int .u32 0]) ?_ 4 _ rfl; (with_reducible repeat (first | refine blk_drewN ?_ _ | refine blk_drew ?_ | refine blk_alloc ?_ _)); refine blk_put (cs := #[.int .i64 t121, .int .i64 t122, .int .i64 t123, .int .i64 0, .int .i64 0, .bool false, .bool false, .int .i64 0, .int .u32 0]) ?_ 3 _ rfl; (with_reducible repeat (first | refine blk_drewN ?_ _ | refine blk_drew ?_ | refine blk_alloc ?_ _)); refine blk_put (cs := #[.int .i64 t121, .int .i64 t122, .int .i64 0, .int .i64 0, .int .i64 0, .bool false, .bool false, .int .i64 0, .int .u32 0]) ?_ 2 _ rfl; (with_reducible repeat (first | refine blk_drewN ?_ _ | refine blk_drew ?_ | refine blk_alloc ?_ _)); refine blk_put (cs := #[.int .i64 t121, .int .i64 0, .int .i64 0, .int .i64 0, .int .i64 0, .bool false, .bool false, .int .i64 0, .int .u32 0]) ?_ 1 _ rfl; (with_reducible repeat (first | refine blk_drewN ?_ _ | refine blk_drew ?_ | refine blk_alloc ?_ _)); refine blk_put (cs := #[.int .i64 0, .int .i64 0, .int .i64 0, .int .i64 0, .int .i64 0, .bool false, .bool false, .int .i64 0, .int .u32 0]) ?_ 0 _ rfl; (with_reducible repeat (first | refine blk_drewN ?_ _ | refine blk_drew ?_ | refine blk_alloc ?_ _)); exact BK130.out) hb); have n1_ := Aside0.mk (below_step (by repeat (first | (with_reducible first | exact HB.out | apply below_alloc | apply pw_below_drewN | apply below_drew1 | refine below_set ?_ GE130.out) | exact HB.out)) hb); clear BK130; clear HB; have BK130 := n0_; have HB := n1_; clear n0_ n1_; (try clear hb); (try clear hb2); (try clear hk); (try clear hi)) | (go_at_call 17; (with_reducible refine (anvillaw05_reg.calls a1 t132 _ A10.out).mono ?_); rintro e w' ⟨rfl, ⟨nd, rfl⟩⟩))
      go_meet
      case rel => exact ⟨_, (!t132), (by first | rfl | (simp; done) | (simp [*]; done)), H', ⟨by first | omega | exact Nat.le_refl _⟩, ⟨by (with_reducible repeat (first | refine blk_drewN ?_ _ | refine blk_drew ?_ | refine blk_alloc ?_ _)); exact BK130.out⟩, ⟨by repeat (first | (with_reducible first | exact HB.out | apply below_alloc | apply pw_below_drewN | apply below_drew1 | refine below_set ?_ GE130.out) | exact HB.out)⟩⟩
    · replace c9 := Bool.eq_false_iff.mpr c9
      subst c9
      have H1 : (anvillaw05_DecodeMoves.j0 k (Go.bits .or .u32 a0 3) a1 true t121 t122 t123 t124 t125 t126 t127 t128 t129) = some r := by rw [if_neg (show ¬ (false = true) by decide)] at H; exact H
      clear H
      have H := H1
      clear H1
      have H' := Aside0.mk H
      clear H
      go_wp2_with (first | ((with_reducible refine gate_callee (f := 15) rfl ?_); refine goesL_ (some 14) rfl rfl Try.func15 (by kernel_rfl) rfl #[] rfl (by (try simp only [List.map_toArray, List.map_cons, List.map_nil]); first | done | rfl | (simp only [List.length_drop, List.length_take]; rfl)) ?_; (with_reducible refine (anvillaw05_first.calls k  false _ A8.out).mono ?_); rintro e w12 ⟨rfl, hb⟩; refine ⟨_, rfl, ?_⟩; have n0_ := Aside0.mk (blk_below (g := gb130) (o := .cells #[.int .i64 t121, .int .i64 t122, .int .i64 t123, .int .i64 t124, .int .i64 t125, .bool t126, .bool t127, .int .i64 t128, .int .u32 t129] 29 (0, 0)) (by (with_reducible repeat (first | refine blk_drewN ?_ _ | refine blk_drew ?_ | refine blk_alloc ?_ _)); refine blk_put (cs := #[.int .i64 t121, .int .i64 t122, .int .i64 t123, .int .i64 t124, .int .i64 t125, .bool t126, .bool t127, .int .i64 t128, .int .u32 0]) ?_ 8 _ rfl; (with_reducible repeat (first | refine blk_drewN ?_ _ | refine blk_drew ?_ | refine blk_alloc ?_ _)); refine blk_put (cs := #[.int .i64 t121, .int .i64 t122, .int .i64 t123, .int .i64 t124, .int .i64 t125, .bool t126, .bool t127, .int .i64 0, .int .u32 0]) ?_ 7 _ rfl; (with_reducible repeat (first | refine blk_drewN ?_ _ | refine blk_drew ?_ | refine blk_alloc ?_ _)); refine blk_put (cs := #[.int .i64 t121, .int .i64 t122, .int .i64 t123, .int .i64 t124, .int .i64 t125, .bool t126, .bool false, .int .i64 0, .int .u32 0]) ?_ 6 _ rfl; (with_reducible repeat (first | refine blk_drewN ?_ _ | refine blk_drew ?_ | refine blk_alloc ?_ _)); refine blk_put (cs := #[.int .i64 t121, .int .i64 t122, .int .i64 t123, .int .i64 t124, .int .i64 t125, .bool false, .bool false, .int .i64 0, .int .u32 0]) ?_ 5 _ rfl; (with_reducible repeat (first | refine blk_drewN ?_ _ | refine blk_drew ?_ | refine blk_alloc ?_ _)); refine blk_put (cs := #[.int .i64 t121, .int .i64 t122, .int .i64 t123, .int .i64 t124, .int .i64 0, .bool false, .bool false, .int .i64 0, .int .u32 0]) ?_ 4 _ rfl; (with_reducible repeat (first | refine blk_drewN ?_ _ | refine blk_drew ?_ | refine blk_alloc ?_ _)); refine blk_put (cs := #[.int .i64 t121, .int .i64 t122, .int .i64 t123, .int .i64 0, .int .i64 0, .bool false, .bool false, .int .i64 0, .int .u32 0]) ?_ 3 _ rfl; (with_reducible repeat (first | refine blk_drewN ?_ _ | refine blk_drew ?_ | refine blk_alloc ?_ _)); refine blk_put (cs := #[.int .i64 t121, .int .i64 t122, .int .i64 0, .int .i64 0, .int .i64 0, .bool false, .bool false, .int .i64 0, .int .u32 0]) ?_ 2 _ rfl; (with_reducible repeat (first | refine blk_drewN ?_ _ | refine blk_drew ?_ | refine blk_alloc ?_ _)); refine blk_put (cs := #[.int .i64 t121, .int .i64 0, .int .i64 0, .int .i64 0, .int .i64 0, .bool false, .bool false, .int .i64 0, .int .u32 0]) ?_ 1 _ rfl; (with_reducible repeat (first | refine blk_drewN ?_ _ | refine blk_drew ?_ | refine blk_alloc ?_ _)); refine blk_put (cs := #[.int .i64 0, .int .i64 0, .int .i64 0, .int .i64 0, .int .i64 0, .bool false, .bool false, .int .i64 0, .int .u32 0]) ?_ 0 _ rfl; (with_reducible repeat (first | refine blk_drewN ?_ _ | refine blk_drew ?_ | refine blk_alloc ?_ _)); exact BK130.out) hb); have n1_ := Aside0.mk (below_step (by repeat (first | (with_reducible first | exact HB.out | apply below_alloc | apply pw_below_drewN | apply below_drew1 | refine below_set ?_ GE130.out) | exact HB.out)) hb); clear BK130; clear HB; have BK130 := n0_; have HB := n1_; clear n0_ n1_; (try clear hb); (try clear hb2); (try clear hk); (try clear hi)))
      go_meet
      case rel => exact ⟨_, (true), (by first | rfl | (simp; done) | (simp [*]; done)), H', ⟨by first | omega | exact Nat.le_refl _⟩, ⟨by (with_reducible repeat (first | refine blk_drewN ?_ _ | refine blk_drew ?_ | refine blk_alloc ?_ _)); exact BK130.out⟩, ⟨by repeat (first | (with_reducible first | exact HB.out | apply below_alloc | apply pw_below_drewN | apply below_drew1 | refine below_set ?_ GE130.out) | exact HB.out)⟩⟩
  case rest =>
    clear HC4
    try clear c1
    try clear p2
    try clear c8
    try clear c9
    try clear hcz7_0
    try clear hcz7_1
    try clear hcz7_2
    try clear hcz7_3
    try clear hcz7_4
    try clear hcz7_5
    try clear hcz7_6
    try clear hcz7_7
    try clear hcz7_8
    try clear hfz7_0
    try clear hfz7_1
    try clear hfz7_2
    try clear hfz7_3
    try clear hfz7_4
    try clear hfz7_5
    try clear hfz7_6
    try clear hfz7_7
    try clear hfz7_8
    obtain ⟨kq, x20_3, rfl, HA, HJ3, BK130, HB⟩ := hcut
    cases kq with
    | zero => exact absurd HA.out (by simp [anvillaw05_DecodeMoves.j0])
    | succ kj3 =>
      have H := HA.out
      clear HA
      simp only [anvillaw05_DecodeMoves.j0] at H
      by_cases c13 : x20_3 = true
      · subst c13
        have H1 : ((anvillaw05_first.f kj3).bind fun t133 => (some t133)) = some r := by rw [if_pos rfl] at H; exact H
        clear H
        have H := H1
        clear H1
        replace H := Option.bind_eq_some_iff.mp H
        obtain ⟨t133, A140, H⟩ := H
        replace H : (some t133) = some r := H
        have A14 := Aside0.mk A140
        clear A140
        obtain rfl := Option.some.inj H
        go_wp2_with (first | ((with_reducible refine gate_callee (f := 15) rfl ?_); refine goesL_ (some 21) rfl rfl Try.func15 (by kernel_rfl) rfl #[] rfl (by (try simp only [List.map_toArray, List.map_cons, List.map_nil]); first | done | rfl | (simp only [List.length_drop, List.length_take]; rfl)) ?_; (with_reducible refine (anvillaw05_first.calls kj3  t133 _ A14.out).mono ?_); rintro e w15 ⟨rfl, hb⟩; refine ⟨_, rfl, ?_⟩; have n0_ := Aside0.mk (blk_below (g := gb130) (o := .cells #[.int .i64 t121, .int .i64 t122, .int .i64 t123, .int .i64 t124, .int .i64 t125, .bool t126, .bool t127, .int .i64 t128, .int .u32 t129] 29 (0, 0)) (by (with_reducible repeat (first | refine blk_drewN ?_ _ | refine blk_drew ?_ | refine blk_alloc ?_ _)); exact BK130.out) hb); have n1_ := Aside0.mk (below_step (by repeat (first | (with_reducible first | exact HB.out | apply below_alloc | apply pw_below_drewN | apply below_drew1 | refine below_set ?_ GE130.out) | exact HB.out)) hb); clear BK130; clear HB; have BK130 := n0_; have HB := n1_; clear n0_ n1_; (try clear hb); (try clear hb2); (try clear hk); (try clear hi)))
        go_ret
        exact ⟨by first | rfl | (simp [errW_none, errW_some] <;> rfl) | (simp [*, errW_none, errW_some] <;> rfl), by repeat (first | (with_reducible first | exact HB.out | apply below_alloc | apply pw_below_drewN | apply below_drew1 | refine below_set ?_ GE130.out) | exact HB.out)⟩
      · replace c13 := Bool.eq_false_iff.mpr c13
        subst c13
        have H1 : ((anvillaw05_hasRd.f t121).bind fun t134 => (if t134 = true then ((decode_Decode.f kj3 (Go.bits .or .u32 (Go.bits .andNot .u32 (Go.bits .or .u32 a0 3) 3968) ((((a1) % 4294967296) * 128) % 4294967296))).bind fun bt136 => (if (!(bt136.1 == t121) || (!(bt136.2.1 == a1) || (!(bt136.2.2.1 == t123) || (!(bt136.2.2.2.1 == t124) || (!(bt136.2.2.2.2.1 == t125) || (!(bt136.2.2.2.2.2.1 == t126) || (!(bt136.2.2.2.2.2.2.1 == t127) || (!(bt136.2.2.2.2.2.2.2.1 == t128) || (!(bt136.2.2.2.2.2.2.2.2 == (Go.bits .or .u32 (Go.bits .andNot .u32 (Go.bits .or .u32 a0 3) 3968) ((((a1) % 4294967296) * 128) % 4294967296)))))))))))) = true then (some false) else (anvillaw05_DecodeMoves.j1 kj3 (Go.bits .or .u32 a0 3) a1 t121 t122 t123 t124 t125 t126 t127 t128 t129))) else (anvillaw05_DecodeMoves.j1 kj3 (Go.bits .or .u32 a0 3) a1 t121 t122 t123 t124 t125 t126 t127 t128 t129))) = some r := by rw [if_neg (show ¬ (false = true) by decide)] at H; exact H
        clear H
        have H := H1
        clear H1
        replace H := Option.bind_eq_some_iff.mp H
        obtain ⟨t134, A160, H⟩ := H
        replace H : (if t134 = true then ((decode_Decode.f kj3 (Go.bits .or .u32 (Go.bits .andNot .u32 (Go.bits .or .u32 a0 3) 3968) ((((a1) % 4294967296) * 128) % 4294967296))).bind fun bt136 => (if (!(bt136.1 == t121) || (!(bt136.2.1 == a1) || (!(bt136.2.2.1 == t123) || (!(bt136.2.2.2.1 == t124) || (!(bt136.2.2.2.2.1 == t125) || (!(bt136.2.2.2.2.2.1 == t126) || (!(bt136.2.2.2.2.2.2.1 == t127) || (!(bt136.2.2.2.2.2.2.2.1 == t128) || (!(bt136.2.2.2.2.2.2.2.2 == (Go.bits .or .u32 (Go.bits .andNot .u32 (Go.bits .or .u32 a0 3) 3968) ((((a1) % 4294967296) * 128) % 4294967296)))))))))))) = true then (some false) else (anvillaw05_DecodeMoves.j1 kj3 (Go.bits .or .u32 a0 3) a1 t121 t122 t123 t124 t125 t126 t127 t128 t129))) else (anvillaw05_DecodeMoves.j1 kj3 (Go.bits .or .u32 a0 3) a1 t121 t122 t123 t124 t125 t126 t127 t128 t129)) = some r := H
        have A16 := Aside0.mk A160
        clear A160
        have HC17 := Aside0.mk H
        clear H
        have hcz18_0 : wc.cell? ⟨gb130, 0, none⟩ = some (.int .i64 t121) := (blk_cell BK130.out 0).trans rfl
        have hcz18_1 : wc.cell? ⟨gb130, 1, none⟩ = some (.int .i64 t122) := (blk_cell BK130.out 1).trans rfl
        have hcz18_2 : wc.cell? ⟨gb130, 2, none⟩ = some (.int .i64 t123) := (blk_cell BK130.out 2).trans rfl
        have hcz18_3 : wc.cell? ⟨gb130, 3, none⟩ = some (.int .i64 t124) := (blk_cell BK130.out 3).trans rfl
        have hcz18_4 : wc.cell? ⟨gb130, 4, none⟩ = some (.int .i64 t125) := (blk_cell BK130.out 4).trans rfl
        have hcz18_5 : wc.cell? ⟨gb130, 5, none⟩ = some (.bool t126) := (blk_cell BK130.out 5).trans rfl
        have hcz18_6 : wc.cell? ⟨gb130, 6, none⟩ = some (.bool t127) := (blk_cell BK130.out 6).trans rfl
        have hcz18_7 : wc.cell? ⟨gb130, 7, none⟩ = some (.int .i64 t128) := (blk_cell BK130.out 7).trans rfl
        have hcz18_8 : wc.cell? ⟨gb130, 8, none⟩ = some (.int .u32 t129) := (blk_cell BK130.out 8).trans rfl
        have hfz18_0 := blk_frozen BK130.out 0
        have hfz18_1 := blk_frozen BK130.out 1
        have hfz18_2 := blk_frozen BK130.out 2
        have hfz18_3 := blk_frozen BK130.out 3
        have hfz18_4 := blk_frozen BK130.out 4
        have hfz18_5 := blk_frozen BK130.out 5
        have hfz18_6 := blk_frozen BK130.out 6
        have hfz18_7 := blk_frozen BK130.out 7
        have hfz18_8 := blk_frozen BK130.out 8
        go_upto_if 24 with (first | ((with_reducible refine gate_callee (f := 18) rfl ?_); refine goesL_ (some 24) rfl rfl Try.func18 (by kernel_rfl) rfl #[.int .i64 t121] rfl (by (try simp only [List.map_toArray, List.map_cons, List.map_nil]); first | done | rfl | (simp only [List.length_drop, List.length_take]; rfl)) ?_; (with_reducible refine (anvillaw05_hasRd.calls t121 t134 _ A16.out).mono ?_); rintro e w' ⟨rfl, ⟨nd, rfl⟩⟩; refine ⟨_, rfl, ?_⟩))
        (try simp only [Act.put, List.setIfInBounds_toArray, List.set_cons_zero, List.set_cons_succ])
        go_cut [] (fun wc => ∃ (kq : Nat), Aside0 (anvillaw05_DecodeMoves.j1 kq (Go.bits .or .u32 a0 3) a1 t121 t122 t123 t124 t125 t126 t127 t128 t129 = some r) ∧ Aside0 (kq ≤ kj3) ∧ Aside0 (wc.heap[gb130]? = some (.cells #[.int .i64 t121, .int .i64 t122, .int .i64 t123, .int .i64 t124, .int .i64 t125, .bool t126, .bool t127, .int .i64 t128, .int .u32 t129] 29 (0, 0))) ∧ Aside0 (Below w.heap.size w wc))
        case first =>
          have H := HC17.out
          clear HC17
          by_cases c19 : t134 = true
          · subst c19
            have H1 : ((decode_Decode.f kj3 (Go.bits .or .u32 (Go.bits .andNot .u32 (Go.bits .or .u32 a0 3) 3968) ((((a1) % 4294967296) * 128) % 4294967296))).bind fun bt136 => (if (!(bt136.1 == t121) || (!(bt136.2.1 == a1) || (!(bt136.2.2.1 == t123) || (!(bt136.2.2.2.1 == t124) || (!(bt136.2.2.2.2.1 == t125) || (!(bt136.2.2.2.2.2.1 == t126) || (!(bt136.2.2.2.2.2.2.1 == t127) || (!(bt136.2.2.2.2.2.2.2.1 == t128) || (!(bt136.2.2.2.2.2.2.2.2 == (Go.bits .or .u32 (Go.bits .andNot .u32 (Go.bits .or .u32 a0 3) 3968) ((((a1) % 4294967296) * 128) % 4294967296)))))))))))) = true then (some false) else (anvillaw05_DecodeMoves.j1 kj3 (Go.bits .or .u32 a0 3) a1 t121 t122 t123 t124 t125 t126 t127 t128 t129))) = some r := by rw [if_pos rfl] at H; exact H
            clear H
            have H := H1
            clear H1
            replace H := Option.bind_eq_some_iff.mp H
            obtain ⟨⟨t136, t137, t138, t139, t140, t141, t142, t143, t144⟩, A200, H⟩ := H
            replace H : (if (!(t136 == t121) || (!(t137 == a1) || (!(t138 == t123) || (!(t139 == t124) || (!(t140 == t125) || (!(t141 == t126) || (!(t142 == t127) || (!(t143 == t128) || (!(t144 == (Go.bits .or .u32 (Go.bits .andNot .u32 (Go.bits .or .u32 a0 3) 3968) ((((a1) % 4294967296) * 128) % 4294967296)))))))))))) = true then (some false) else (anvillaw05_DecodeMoves.j1 kj3 (Go.bits .or .u32 a0 3) a1 t121 t122 t123 t124 t125 t126 t127 t128 t129)) = some r := H
            have A20 := Aside0.mk A200
            clear A200
            by_cases c21 : (!(t136 == t121) || (!(t137 == a1) || (!(t138 == t123) || (!(t139 == t124) || (!(t140 == t125) || (!(t141 == t126) || (!(t142 == t127) || (!(t143 == t128) || (!(t144 == (Go.bits .or .u32 (Go.bits .andNot .u32 (Go.bits .or .u32 a0 3) 3968) ((((a1) % 4294967296) * 128) % 4294967296)))))))))))) = true
            · rw [if_pos c21] at H
              have c21b0 : (!(t136 == t121) || (!(t137 == a1) || (!(t138 == t123) || (!(t139 == t124) || (!(t140 == t125) || (!(t141 == t126) || (!(t142 == t127) || (!(t143 == t128) || (!(t144 == (Go.bits .or .u32 (Go.bits .andNot .u32 (Go.bits .or .u32 a0 3) 3968) ((((a1) % 4294967296) * 128) % 4294967296)))))))))))) = true := c21
              clear c21
              (first | rw [c21b0] | (simp only [i64_w, i32_w]; rw [c21b0]) | skip)
              obtain rfl := Option.some.inj H
              exact absurd hr.out (by decide)
            · rw [if_neg c21] at H
              have c21b0 : (!(t136 == t121) || (!(t137 == a1) || (!(t138 == t123) || (!(t139 == t124) || (!(t140 == t125) || (!(t141 == t126) || (!(t142 == t127) || (!(t143 == t128) || (!(t144 == (Go.bits .or .u32 (Go.bits .andNot .u32 (Go.bits .or .u32 a0 3) 3968) ((((a1) % 4294967296) * 128) % 4294967296)))))))))))) = false := by simpa using c21
              clear c21
              (first | rw [c21b0] | (simp only [i64_w, i32_w]; rw [c21b0]) | skip)
              have H' := Aside0.mk H
              clear H
              have hcz22_0 : wc.cell? ⟨gb130, 0, none⟩ = some (.int .i64 t121) := (blk_cell BK130.out 0).trans rfl
              have hcz22_1 : wc.cell? ⟨gb130, 1, none⟩ = some (.int .i64 t122) := (blk_cell BK130.out 1).trans rfl
              have hcz22_2 : wc.cell? ⟨gb130, 2, none⟩ = some (.int .i64 t123) := (blk_cell BK130.out 2).trans rfl
              have hcz22_3 : wc.cell? ⟨gb130, 3, none⟩ = some (.int .i64 t124) := (blk_cell BK130.out 3).trans rfl
              have hcz22_4 : wc.cell? ⟨gb130, 4, none⟩ = some (.int .i64 t125) := (blk_cell BK130.out 4).trans rfl
              have hcz22_5 : wc.cell? ⟨gb130, 5, none⟩ = some (.bool t126) := (blk_cell BK130.out 5).trans rfl
              have hcz22_6 : wc.cell? ⟨gb130, 6, none⟩ = some (.bool t127) := (blk_cell BK130.out 6).trans rfl
              have hcz22_7 : wc.cell? ⟨gb130, 7, none⟩ = some (.int .i64 t128) := (blk_cell BK130.out 7).trans rfl
              have hcz22_8 : wc.cell? ⟨gb130, 8, none⟩ = some (.int .u32 t129) := (blk_cell BK130.out 8).trans rfl
              have hfz22_0 := blk_frozen BK130.out 0
              have hfz22_1 := blk_frozen BK130.out 1
              have hfz22_2 := blk_frozen BK130.out 2
              have hfz22_3 := blk_frozen BK130.out 3
              have hfz22_4 := blk_frozen BK130.out 4
              have hfz22_5 := blk_frozen BK130.out 5
              have hfz22_6 := blk_frozen BK130.out 6
              have hfz22_7 := blk_frozen BK130.out 7
              have hfz22_8 := blk_frozen BK130.out 8
              try go_wp2_with (first | ((with_reducible refine gate_dst (N := 7) rfl ?_); refine box_event ?hg (N := 7) ?hd (cs := #[.int .i64 0, .int .i64 0, .int .i64 0, .int .i64 0, .int .i64 0, .bool false, .bool false, .int .i64 0, .int .u32 0]) (t := 29) ?hr ?_; (case hd => rfl); (case hg => rfl); (case hr => first | (go_simp; done) | (go_simp; rfl)); intro gb135 hg w23 hbox hb; have n0_ := Aside0.mk (blk_below (g := gb130) (o := .cells #[.int .i64 t121, .int .i64 t122, .int .i64 t123, .int .i64 t124, .int .i64 t125, .bool t126, .bool t127, .int .i64 t128, .int .u32 t129] 29 (0, 0)) (by (with_reducible repeat (first | refine blk_drewN ?_ _ | refine blk_drew ?_ | refine blk_alloc ?_ _)); exact BK130.out) hb); have n1_ := Aside0.mk (below_step (by repeat (first | (with_reducible first | exact HB.out | apply below_alloc | apply pw_below_drewN | apply below_drew1 | refine below_set ?_ GE130.out) | exact HB.out)) hb); have n2_ := Aside0.mk (hbox); have n3_ := Aside0.mk ((by rw [hg]; exact (below_size (by repeat (first | (with_reducible first | exact HB.out | apply below_alloc | apply pw_below_drewN | apply below_drew1 | refine below_set ?_ GE130.out) | exact HB.out))) : w.heap.size ≤ gb135)); have n4_ := Aside0.mk ((by rw [hg]; exact (below_size (by repeat (first | (with_reducible first | exact HB.out | apply below_alloc | apply pw_below_drewN | apply below_drew1 | refine below_set ?_ GE130.out) | exact HB.out))) : w.heap.size ≤ gb135)); have n5_ := Aside0.mk ((by rw [hg]; exact Nat.ne_of_lt (blk_lt (g := gb130) (o := .cells #[.int .i64 t121, .int .i64 t122, .int .i64 t123, .int .i64 t124, .int .i64 t125, .bool t126, .bool t127, .int .i64 t128, .int .u32 t129] 29 (0, 0)) (by (with_reducible repeat (first | refine blk_drewN ?_ _ | refine blk_drew ?_ | refine blk_alloc ?_ _)); exact BK130.out)) : gb130 ≠ gb135)); have n6_ := Aside0.mk ((by rw [hg]; exact Nat.ne_of_gt (blk_lt (g := gb130) (o := .cells #[.int .i64 t121, .int .i64 t122, .int .i64 t123, .int .i64 t124, .int .i64 t125, .bool t126, .bool t127, .int .i64 t128, .int .u32 t129] 29 (0, 0)) (by (with_reducible repeat (first | refine blk_drewN ?_ _ | refine blk_drew ?_ | refine blk_alloc ?_ _)); exact BK130.out)) : gb135 ≠ gb130)); clear BK130; clear HB; have BK130 := n0_; have HB := n1_; have BK135 := n2_; have GW135 := n3_; have GE135 := n4_; have NB130_135 := n5_; have NB135_130 := n6_; clear n0_ n1_ n2_ n3_ n4_ n5_ n6_; clear hb hbox hg; have hnb24 := NB135_130.out; have hnc24 := NB130_135.out; have hcz25_0 : w23.cell? ⟨gb135, 0, none⟩ = some (.int .i64 0) := (blk_cell BK135.out 0).trans rfl; have hcz25_1 : w23.cell? ⟨gb135, 1, none⟩ = some (.int .i64 0) := (blk_cell BK135.out 1).trans rfl; have hcz25_2 : w23.cell? ⟨gb135, 2, none⟩ = some (.int .i64 0) := (blk_cell BK135.out 2).trans rfl; have hcz25_3 : w23.cell? ⟨gb135, 3, none⟩ = some (.int .i64 0) := (blk_cell BK135.out 3).trans rfl; have hcz25_4 : w23.cell? ⟨gb135, 4, none⟩ = some (.int .i64 0) := (blk_cell BK135.out 4).trans rfl; have hcz25_5 : w23.cell? ⟨gb135, 5, none⟩ = some (.bool false) := (blk_cell BK135.out 5).trans rfl; have hcz25_6 : w23.cell? ⟨gb135, 6, none⟩ = some (.bool false) := (blk_cell BK135.out 6).trans rfl; have hcz25_7 : w23.cell? ⟨gb135, 7, none⟩ = some (.int .i64 0) := (blk_cell BK135.out 7).trans rfl; have hcz25_8 : w23.cell? ⟨gb135, 8, none⟩ = some (.int .u32 0) := (blk_cell BK135.out 8).trans rfl; have hfz25_0 := blk_frozen BK135.out 0; have hfz25_1 := blk_frozen BK135.out 1; have hfz25_2 := blk_frozen BK135.out 2; have hfz25_3 := blk_frozen BK135.out 3; have hfz25_4 := blk_frozen BK135.out 4; have hfz25_5 := blk_frozen BK135.out 5; have hfz25_6 := blk_frozen BK135.out 6; have hfz25_7 := blk_frozen BK135.out 7; have hfz25_8 := blk_frozen BK135.out 8))
              have n0_ : Aside0 ((((((((((((w23.setCell ⟨gb135, 0, none⟩ (.int .i64 t121)).setCell ⟨gb135, 1, none⟩ (.int .i64 t122)).setCell ⟨gb135, 2, none⟩ (.int .i64 t123)).setCell ⟨gb135, 3, none⟩ (.int .i64 t124)).setCell ⟨gb135, 4, none⟩ (.int .i64 t125)).setCell ⟨gb135, 5, none⟩ (.bool t126)).setCell ⟨gb135, 6, none⟩ (.bool t127)).setCell ⟨gb135, 7, none⟩ (.int .i64 t128)).setCell ⟨gb135, 8, none⟩ (.int .u32 t129)).setCell ⟨gb135, 1, none⟩ (.int .i64 a1)).setCell ⟨gb135, 8, none⟩ (.int .u32 (Go.bits .or .u32 (Go.bits .andNot .u32 (Go.bits .or .u32 a0 3) 3968) ((((a1) % 4294967296) * 128) % 4294967296)))).heap[gb130]? = some (.cells #[.int .i64 t121, .int .i64 t122, .int .i64 t123, .int .i64 t124, .int .i64 t125, .bool t126, .bool t127, .int .i64 t128, .int .u32 t129] 29 (0, 0))) := ⟨by (with_reducible repeat (first | refine blk_drewN ?_ _ | refine blk_drew ?_ | refine blk_alloc ?_ _)); refine blk_far ?_ NB130_135.out _; (with_reducible repeat (first | refine blk_drewN ?_ _ | refine blk_drew ?_ | refine blk_alloc ?_ _)); refine blk_far ?_ NB130_135.out _; (with_reducible repeat (first | refine blk_drewN ?_ _ | refine blk_drew ?_ | refine blk_alloc ?_ _)); refine blk_far ?_ NB130_135.out _; (with_reducible repeat (first | refine blk_drewN ?_ _ | refine blk_drew ?_ | refine blk_alloc ?_ _)); refine blk_far ?_ NB130_135.out _; (with_reducible repeat (first | refine blk_drewN ?_ _ | refine blk_drew ?_ | refine blk_alloc ?_ _)); refine blk_far ?_ NB130_135.out _; (with_reducible repeat (first | refine blk_drewN ?_ _ | refine blk_drew ?_ | refine blk_alloc ?_ _)); refine blk_far ?_ NB130_135.out _; (with_reducible repeat (first | refine blk_drewN ?_ _ | refine blk_drew ?_ | refine blk_alloc ?_ _)); refine blk_far ?_ NB130_135.out _; (with_reducible repeat (first | refine blk_drewN ?_ _ | refine blk_drew ?_ | refine blk_alloc ?_ _)); refine blk_far ?_ NB130_135.out _; (with_reducible repeat (first | refine blk_drewN ?_ _ | refine blk_drew ?_ | refine blk_alloc ?_ _)); refine blk_far ?_ NB130_135.out _; (with_reducible repeat (first | refine blk_drewN ?_ _ | refine blk_drew ?_ | refine blk_alloc ?_ _)); refine blk_far ?_ NB130_135.out _; (with_reducible repeat (first | refine blk_drewN ?_ _ | refine blk_drew ?_ | refine blk_alloc ?_ _)); refine blk_far ?_ NB130_135.out _; (with_reducible repeat (first | refine blk_drewN ?_ _ | refine blk_drew ?_ | refine blk_alloc ?_ _)); exact BK130.out⟩
              have n1_ : Aside0 ((((((((((((w23.setCell ⟨gb135, 0, none⟩ (.int .i64 t121)).setCell ⟨gb135, 1, none⟩ (.int .i64 t122)).setCell ⟨gb135, 2, none⟩ (.int .i64 t123)).setCell ⟨gb135, 3, none⟩ (.int .i64 t124)).setCell ⟨gb135, 4, none⟩ (.int .i64 t125)).setCell ⟨gb135, 5, none⟩ (.bool t126)).setCell ⟨gb135, 6, none⟩ (.bool t127)).setCell ⟨gb135, 7, none⟩ (.int .i64 t128)).setCell ⟨gb135, 8, none⟩ (.int .u32 t129)).setCell ⟨gb135, 1, none⟩ (.int .i64 a1)).setCell ⟨gb135, 8, none⟩ (.int .u32 (Go.bits .or .u32 (Go.bits .andNot .u32 (Go.bits .or .u32 a0 3) 3968) ((((a1) % 4294967296) * 128) % 4294967296)))).heap[gb135]? = some (.cells #[.int .i64 t121, .int .i64 a1, .int .i64 t123, .int .i64 t124, .int .i64 t125, .bool t126, .bool t127, .int .i64 t128, .int .u32 (Go.bits .or .u32 (Go.bits .andNot .u32 (Go.bits .or .u32 a0 3) 3968) ((((a1) % 4294967296) * 128) % 4294967296))] 29 (0, 0))) := ⟨by (with_reducible repeat (first | refine blk_drewN ?_ _ | refine blk_drew ?_ | refine blk_alloc ?_ _)); refine blk_put (cs := #[.int .i64 t121, .int .i64 a1, .int .i64 t123, .int .i64 t124, .int .i64 t125, .bool t126, .bool t127, .int .i64 t128, .int .u32 t129]) ?_ 8 _ rfl; (with_reducible repeat (first | refine blk_drewN ?_ _ | refine blk_drew ?_ | refine blk_alloc ?_ _)); refine blk_put (cs := #[.int .i64 t121, .int .i64 t122, .int .i64 t123, .int .i64 t124, .int .i64 t125, .bool t126, .bool t127, .int .i64 t128, .int .u32 t129]) ?_ 1 _ rfl; (with_reducible repeat (first | refine blk_drewN ?_ _ | refine blk_drew ?_ | refine blk_alloc ?_ _)); refine blk_put (cs := #[.int .i64 t121, .int .i64 t122, .int .i64 t123, .int .i64 t124, .int .i64 t125, .bool t126, .bool t127, .int .i64 t128, .int .u32 0]) ?_ 8 _ rfl; (with_reducible repeat (first | refine blk_drewN ?_ _ | refine blk_drew ?_ | refine blk_alloc ?_ _)); refine blk_put (cs := #[.int .i64 t121, .int .i64 t122, .int .i64 t123, .int .i64 t124, .int .i64 t125, .bool t126, .bool t127, .int .i64 0, .int .u32 0]) ?_ 7 _ rfl; (with_reducible repeat (first | refine blk_drewN ?_ _ | refine blk_drew ?_ | refine blk_alloc ?_ _)); refine blk_put (cs := #[.int .i64 t121, .int .i64 t122, .int .i64 t123, .int .i64 t124, .int .i64 t125, .bool t126, .bool false, .int .i64 0, .int .u32 0]) ?_ 6 _ rfl; (with_reducible repeat (first | refine blk_drewN ?_ _ | refine blk_drew ?_ | refine blk_alloc ?_ _)); refine blk_put (cs := #[.int .i64 t121, .int .i64 t122, .int .i64 t123, .int .i64 t124, .int .i64 t125, .bool false, .bool false, .int .i64 0, .int .u32 0]) ?_ 5 _ rfl; (with_reducible repeat (first | refine blk_drewN ?_ _ | refine blk_drew ?_ | refine blk_alloc ?_ _)); refine blk_put (cs := #[.int .i64 t121, .int .i64 t122, .int .i64 t123, .int .i64 t124, .int .i64 0, .bool false, .bool false, .int .i64 0, .int .u32 0]) ?_ 4 _ rfl; (with_reducible repeat (first | refine blk_drewN ?_ _ | refine blk_drew ?_ | refine blk_alloc ?_ _)); refine blk_put (cs := #[.int .i64 t121, .int .i64 t122, .int .i64 t123, .int .i64 0, .int .i64 0, .bool false, .bool false, .int .i64 0, .int .u32 0]) ?_ 3 _ rfl; (with_reducible repeat (first | refine blk_drewN ?_ _ | refine blk_drew ?_ | refine blk_alloc ?_ _)); refine blk_put (cs := #[.int .i64 t121, .int .i64 t122, .int .i64 0, .int .i64 0, .int .i64 0, .bool false, .bool false, .int .i64 0, .int .u32 0]) ?_ 2 _ rfl; (with_reducible repeat (first | refine blk_drewN ?_ _ | refine blk_drew ?_ | refine blk_alloc ?_ _)); refine blk_put (cs := #[.int .i64 t121, .int .i64 0, .int .i64 0, .int .i64 0, .int .i64 0, .bool false, .bool false, .int .i64 0, .int .u32 0]) ?_ 1 _ rfl; (with_reducible repeat (first | refine blk_drewN ?_ _ | refine blk_drew ?_ | refine blk_alloc ?_ _)); refine blk_put (cs := #[.int .i64 0, .int .i64 0, .int .i64 0, .int .i64 0, .int .i64 0, .bool false, .bool false, .int .i64 0, .int .u32 0]) ?_ 0 _ rfl; (with_reducible repeat (first | refine blk_drewN ?_ _ | refine blk_drew ?_ | refine blk_alloc ?_ _)); exact BK135.out⟩
              have n2_ : Aside0 (Below w.heap.size w (((((((((((w23.setCell ⟨gb135, 0, none⟩ (.int .i64 t121)).setCell ⟨gb135, 1, none⟩ (.int .i64 t122)).setCell ⟨gb135, 2, none⟩ (.int .i64 t123)).setCell ⟨gb135, 3, none⟩ (.int .i64 t124)).setCell ⟨gb135, 4, none⟩ (.int .i64 t125)).setCell ⟨gb135, 5, none⟩ (.bool t126)).setCell ⟨gb135, 6, none⟩ (.bool t127)).setCell ⟨gb135, 7, none⟩ (.int .i64 t128)).setCell ⟨gb135, 8, none⟩ (.int .u32 t129)).setCell ⟨gb135, 1, none⟩ (.int .i64 a1)).setCell ⟨gb135, 8, none⟩ (.int .u32 (Go.bits .or .u32 (Go.bits .andNot .u32 (Go.bits .or .u32 a0 3) 3968) ((((a1) % 4294967296) * 128) % 4294967296))))) := ⟨by repeat (first | (with_reducible first | exact HB.out | apply below_alloc | apply pw_below_drewN | apply below_drew1 | refine below_set ?_ GE130.out | refine below_set ?_ GE135.out) | exact HB.out)⟩
              (try clear BK130)
              (try clear BK135)
              (try clear HB)
              generalize (((((((((((w23.setCell ⟨gb135, 0, none⟩ (.int .i64 t121)).setCell ⟨gb135, 1, none⟩ (.int .i64 t122)).setCell ⟨gb135, 2, none⟩ (.int .i64 t123)).setCell ⟨gb135, 3, none⟩ (.int .i64 t124)).setCell ⟨gb135, 4, none⟩ (.int .i64 t125)).setCell ⟨gb135, 5, none⟩ (.bool t126)).setCell ⟨gb135, 6, none⟩ (.bool t127)).setCell ⟨gb135, 7, none⟩ (.int .i64 t128)).setCell ⟨gb135, 8, none⟩ (.int .u32 t129)).setCell ⟨gb135, 1, none⟩ (.int .i64 a1)).setCell ⟨gb135, 8, none⟩ (.int .u32 (Go.bits .or .u32 (Go.bits .andNot .u32 (Go.bits .or .u32 a0 3) 3968) ((((a1) % 4294967296) * 128) % 4294967296)))) = w26 at n0_ n1_ n2_ ⊢
              have BK130 := n0_
              have BK135 := n1_
              have HB := n2_
              clear n0_ n1_ n2_
              have n0_ := Aside0.mk (blk_drew BK130.out)
              have n1_ := Aside0.mk (blk_drew BK135.out)
              have n2_ := Aside0.mk (below_drew1 HB.out)
              clear BK130
              clear BK135
              clear HB
              have BK130 := n0_
              have BK135 := n1_
              have HB := n2_
              clear n0_ n1_ n2_
              refine start_ (n := 4) (S := fun w' => w'.cell? ⟨gb135, 0, none⟩ = some (.int .i64 t121) ∧ w'.cell? ⟨gb135, 1, none⟩ = some (.int .i64 a1) ∧ w'.cell? ⟨gb135, 2, none⟩ = some (.int .i64 t123) ∧ w'.cell? ⟨gb135, 3, none⟩ = some (.int .i64 t124) ∧ w'.cell? ⟨gb135, 4, none⟩ = some (.int .i64 t125) ∧ w'.cell? ⟨gb135, 5, none⟩ = some (.bool t126) ∧ w'.cell? ⟨gb135, 6, none⟩ = some (.bool t127) ∧ w'.cell? ⟨gb135, 7, none⟩ = some (.int .i64 t128) ∧ w'.cell? ⟨gb135, 8, none⟩ = some (.int .u32 (Go.bits .or .u32 (Go.bits .andNot .u32 (Go.bits .or .u32 a0 3) 3968) ((((a1) % 4294967296) * 128) % 4294967296)))) (ds := []) #[false, false, false, false] (by kernel_rfl) rfl rfl ⟨(blk_cell BK135.out 0).trans rfl, (blk_cell BK135.out 1).trans rfl, (blk_cell BK135.out 2).trans rfl, (blk_cell BK135.out 3).trans rfl, (blk_cell BK135.out 4).trans rfl, (blk_cell BK135.out 5).trans rfl, (blk_cell BK135.out 6).trans rfl, (blk_cell BK135.out 7).trans rfl, (blk_cell BK135.out 8).trans rfl⟩ (fun hHeld => ?_)
              generalize w26.drew = w27 at BK130 BK135 HB hHeld ⊢
              refine pure_ (i := 0) (N := some 36) (v := ?_) (a' := ?_) #[true, false, false, false] rfl rfl (by kernel_rfl) (fun _ _ _ h => h) (Or.inl ⟨by rfl, ?_⟩) ?_ ?_
              rotate_left
              · intro w'
                go_simp
                with_reducible rfl
              rotate_left
              · simp only [Act.put, List.setIfInBounds_toArray, List.set_cons_zero, List.set_cons_succ, i64_w, i32_w]
                rfl
              refine take_ (i := 2) (N := some 38) (v := ?_) (a' := ?_) #[true, false, true, false] rfl rfl (by kernel_rfl) (fun _ _ _ h => h) (Or.inl ⟨by rfl, ?_⟩) hHeld ?_ ?_
              rotate_left
              · rintro w' ⟨s0, s1, s2, s3, s4, s5, s6, s7, s8⟩
                go_simp
                with_reducible rfl
              rotate_left
              · simp only [Act.put, List.setIfInBounds_toArray, List.set_cons_zero, List.set_cons_succ, i64_w, i32_w]
                rfl
              refine one_ (i := 1) (N := some 37) #[true, true, true, false] rfl rfl (by kernel_rfl) (by decide) (fun K hK => ?_)
              refine goes_ Try.func13 (by kernel_rfl) rfl #[.int .u32 (Go.bits .or .u32 (Go.bits .andNot .u32 (Go.bits .or .u32 a0 3) 3968) ((((a1) % 4294967296) * 128) % 4294967296))] (by rfl) rfl rfl (by (try simp only [List.map_toArray, List.map_cons, List.map_nil]); first | done | rfl | (simp only [List.length_drop, List.length_take]; rfl)) ?_
              with_reducible refine (decode_Decode.calls kj3 (Go.bits .or .u32 (Go.bits .andNot .u32 (Go.bits .or .u32 a0 3) 3968) ((((a1) % 4294967296) * 128) % 4294967296)) t136 t137 t138 t139 t140 t141 t142 t143 t144 _ A20.out).mono ?_
              rintro e w28 ⟨rfl, hb⟩
              refine ⟨_, rfl, ?_⟩
              have n0_ := Aside0.mk (blk_below (g := gb130) (o := .cells #[.int .i64 t121, .int .i64 t122, .int .i64 t123, .int .i64 t124, .int .i64 t125, .bool t126, .bool t127, .int .i64 t128, .int .u32 t129] 29 (0, 0)) (by (with_reducible repeat (first | refine blk_drewN ?_ _ | refine blk_drew ?_ | refine blk_alloc ?_ _)); exact BK130.out) hb)
              have n1_ := Aside0.mk (blk_below (g := gb135) (o := .cells #[.int .i64 t121, .int .i64 a1, .int .i64 t123, .int .i64 t124, .int .i64 t125, .bool t126, .bool t127, .int .i64 t128, .int .u32 (Go.bits .or .u32 (Go.bits .andNot .u32 (Go.bits .or .u32 a0 3) 3968) ((((a1) % 4294967296) * 128) % 4294967296))] 29 (0, 0)) (by (with_reducible repeat (first | refine blk_drewN ?_ _ | refine blk_drew ?_ | refine blk_alloc ?_ _)); exact BK135.out) hb)
              have n2_ := Aside0.mk (below_step (by repeat (first | (with_reducible first | exact HB.out | apply below_alloc | apply pw_below_drewN | apply below_drew1 | refine below_set ?_ GE130.out | refine below_set ?_ GE135.out) | exact HB.out)) hb)
              clear BK130
              clear BK135
              clear HB
              have BK130 := n0_
              have BK135 := n1_
              have HB := n2_
              clear n0_ n1_ n2_
              (try clear hb)
              (try clear hb2)
              (try clear hk)
              (try clear hi)
              refine hK.out _ _ ⟨(blk_cell BK135.out 0).trans rfl, (blk_cell BK135.out 1).trans rfl, (blk_cell BK135.out 2).trans rfl, (blk_cell BK135.out 3).trans rfl, (blk_cell BK135.out 4).trans rfl, (blk_cell BK135.out 5).trans rfl, (blk_cell BK135.out 6).trans rfl, (blk_cell BK135.out 7).trans rfl, (blk_cell BK135.out 8).trans rfl⟩ (fun hHeld => ?_)
              clear hK K
              refine norm_ (a' := ?_) ?_ ?_
              rotate_left
              · show Act.put _ (some 37) _ = _
                simp only [Act.put, List.setIfInBounds_toArray, List.set_cons_zero, List.set_cons_succ, i64_w, i32_w]
                rfl
              refine pure_ (i := 3) (N := some 39) (v := ?_) (a' := ?_) #[true, true, true, true] rfl rfl (by kernel_rfl) (fun _ _ _ h => h) (Or.inl ⟨by rfl, ?_⟩) ?_ ?_
              rotate_left
              · intro w'
                go_simp
                with_reducible rfl
              rotate_left
              · simp only [Act.put, List.setIfInBounds_toArray, List.set_cons_zero, List.set_cons_succ, i64_w, i32_w]
                rfl
              refine done_ (by kernel_rfl) ?_
              try go_wp2
              go_meet
              case rel => exact ⟨_, H', ⟨by have := HJ3.out; first | omega | exact Nat.le_refl _⟩, ⟨by (with_reducible repeat (first | refine blk_drewN ?_ _ | refine blk_drew ?_ | refine blk_alloc ?_ _)); exact BK130.out⟩, ⟨by repeat (first | (with_reducible first | exact HB.out | apply below_alloc | apply pw_below_drewN | apply below_drew1 | refine below_set ?_ GE130.out | refine below_set ?_ GE135.out) | exact HB.out)⟩⟩
          · replace c19 := Bool.eq_false_iff.mpr c19
            subst c19
            have H1 : (anvillaw05_DecodeMoves.j1 kj3 (Go.bits .or .u32 a0 3) a1 t121 t122 t123 t124 t125 t126 t127 t128 t129) = some r := by rw [if_neg (show ¬ (false = true) by decide)] at H; exact H
            clear H
            have H := H1
            clear H1
            have H' := Aside0.mk H
            clear H
            go_wp2
            go_meet
            case rel => exact ⟨_, H', ⟨by have := HJ3.out; first | omega | exact Nat.le_refl _⟩, ⟨by (with_reducible repeat (first | refine blk_drewN ?_ _ | refine blk_drew ?_ | refine blk_alloc ?_ _)); exact BK130.out⟩, ⟨by repeat (first | (with_reducible first | exact HB.out | apply below_alloc | apply pw_below_drewN | apply below_drew1 | refine below_set ?_ GE130.out) | exact HB.out)⟩⟩
        case rest =>
          clear HC17
          try clear c1
          try clear c2
          try clear p2
          try clear c8
          try clear c9
          try clear c13
          try clear c15
          try clear c18
          try clear c19
          try clear c21
          try clear c21b0
          try clear c24
          try clear hcz18_0
          try clear hcz18_1
          try clear hcz18_2
          try clear hcz18_3
          try clear hcz18_4
          try clear hcz18_5
          try clear hcz18_6
          try clear hcz18_7
          try clear hcz18_8
          try clear hcz22_0
          try clear hcz22_1
          try clear hcz22_2
          try clear hcz22_3
          try clear hcz22_4
          try clear hcz22_5
          try clear hcz22_6
          try clear hcz22_7
          try clear hcz22_8
          try clear hcz25_0
          try clear hcz25_1
          try clear hcz25_2
          try clear hcz25_3
          try clear hcz25_4
          try clear hcz25_5
          try clear hcz25_6
          try clear hcz25_7
          try clear hcz25_8
          try clear hcz7_0
          try clear hcz7_1
          try clear hcz7_2
          try clear hcz7_3
          try clear hcz7_4
          try clear hcz7_5
          try clear hcz7_6
          try clear hcz7_7
          try clear hcz7_8
          try clear hfz18_0
          try clear hfz18_1
          try clear hfz18_2
          try clear hfz18_3
          try clear hfz18_4
          try clear hfz18_5
          try clear hfz18_6
          try clear hfz18_7
          try clear hfz18_8
          try clear hfz22_0
          try clear hfz22_1
          try clear hfz22_2
          try clear hfz22_3
          try clear hfz22_4
          try clear hfz22_5
          try clear hfz22_6
          try clear hfz22_7
          try clear hfz22_8
          try clear hfz25_0
          try clear hfz25_1
          try clear hfz25_2
          try clear hfz25_3
          try clear hfz25_4
          try clear hfz25_5
          try clear hfz25_6
          try clear hfz25_7
          try clear hfz25_8
          try clear hfz7_0
          try clear hfz7_1
          try clear hfz7_2
          try clear hfz7_3
          try clear hfz7_4
          try clear hfz7_5
          try clear hfz7_6
          try clear hfz7_7
          try clear hfz7_8
          try clear p2
          obtain ⟨kq, HA, HJ16, BK130, HB⟩ := hcut
          cases kq with
          | zero => exact absurd HA.out (by simp [anvillaw05_DecodeMoves.j1])
          | succ kj16 =>
            have H := HA.out
            clear HA
            simp only [anvillaw05_DecodeMoves.j1] at H
            replace H := Option.bind_eq_some_iff.mp H
            obtain ⟨t145, A290, H⟩ := H
            replace H : (if t145 = true then ((decode_Decode.f kj16 (Go.bits .or .u32 (Go.bits .andNot .u32 (Go.bits .or .u32 a0 3) 1015808) ((((a1) % 4294967296) * 32768) % 4294967296))).bind fun bt147 => (if (!(bt147.1 == t121) || (!(bt147.2.1 == t122) || (!(bt147.2.2.1 == a1) || (!(bt147.2.2.2.1 == t124) || (!(bt147.2.2.2.2.1 == t125) || (!(bt147.2.2.2.2.2.1 == t126) || (!(bt147.2.2.2.2.2.2.1 == t127) || (!(bt147.2.2.2.2.2.2.2.1 == t128) || (!(bt147.2.2.2.2.2.2.2.2 == (Go.bits .or .u32 (Go.bits .andNot .u32 (Go.bits .or .u32 a0 3) 1015808) ((((a1) % 4294967296) * 32768) % 4294967296)))))))))))) = true then (some false) else (some true))) else (some true)) = some r := H
            have A29 := Aside0.mk A290
            clear A290
            by_cases c30 : t145 = true
            · subst c30
              have H1 : ((decode_Decode.f kj16 (Go.bits .or .u32 (Go.bits .andNot .u32 (Go.bits .or .u32 a0 3) 1015808) ((((a1) % 4294967296) * 32768) % 4294967296))).bind fun bt147 => (if (!(bt147.1 == t121) || (!(bt147.2.1 == t122) || (!(bt147.2.2.1 == a1) || (!(bt147.2.2.2.1 == t124) || (!(bt147.2.2.2.2.1 == t125) || (!(bt147.2.2.2.2.2.1 == t126) || (!(bt147.2.2.2.2.2.2.1 == t127) || (!(bt147.2.2.2.2.2.2.2.1 == t128) || (!(bt147.2.2.2.2.2.2.2.2 == (Go.bits .or .u32 (Go.bits .andNot .u32 (Go.bits .or .u32 a0 3) 1015808) ((((a1) % 4294967296) * 32768) % 4294967296)))))))))))) = true then (some false) else (some true))) = some r := by rw [if_pos rfl] at H; exact H
              clear H
              have H := H1
              clear H1
              replace H := Option.bind_eq_some_iff.mp H
              obtain ⟨⟨t147, t148, t149, t150, t151, t152, t153, t154, t155⟩, A310, H⟩ := H
              replace H : (if (!(t147 == t121) || (!(t148 == t122) || (!(t149 == a1) || (!(t150 == t124) || (!(t151 == t125) || (!(t152 == t126) || (!(t153 == t127) || (!(t154 == t128) || (!(t155 == (Go.bits .or .u32 (Go.bits .andNot .u32 (Go.bits .or .u32 a0 3) 1015808) ((((a1) % 4294967296) * 32768) % 4294967296)))))))))))) = true then (some false) else (some true)) = some r := H
              have A31 := Aside0.mk A310
              clear A310
              by_cases c32 : (!(t147 == t121) || (!(t148 == t122) || (!(t149 == a1) || (!(t150 == t124) || (!(t151 == t125) || (!(t152 == t126) || (!(t153 == t127) || (!(t154 == t128) || (!(t155 == (Go.bits .or .u32 (Go.bits .andNot .u32 (Go.bits .or .u32 a0 3) 1015808) ((((a1) % 4294967296) * 32768) % 4294967296)))))))))))) = true
              · rw [if_pos c32] at H
                have c32b0 : (!(t147 == t121) || (!(t148 == t122) || (!(t149 == a1) || (!(t150 == t124) || (!(t151 == t125) || (!(t152 == t126) || (!(t153 == t127) || (!(t154 == t128) || (!(t155 == (Go.bits .or .u32 (Go.bits .andNot .u32 (Go.bits .or .u32 a0 3) 1015808) ((((a1) % 4294967296) * 32768) % 4294967296)))))))))))) = true := c32
                clear c32
                obtain rfl := Option.some.inj H
                exact absurd hr.out (by decide)
              · rw [if_neg c32] at H
                have c32b0 : (!(t147 == t121) || (!(t148 == t122) || (!(t149 == a1) || (!(t150 == t124) || (!(t151 == t125) || (!(t152 == t126) || (!(t153 == t127) || (!(t154 == t128) || (!(t155 == (Go.bits .or .u32 (Go.bits .andNot .u32 (Go.bits .or .u32 a0 3) 1015808) ((((a1) % 4294967296) * 32768) % 4294967296)))))))))))) = false := by simpa using c32
                clear c32
                obtain rfl := Option.some.inj H
                have hcz33_0 : wc.cell? ⟨gb130, 0, none⟩ = some (.int .i64 t121) := (blk_cell BK130.out 0).trans rfl
                have hcz33_1 : wc.cell? ⟨gb130, 1, none⟩ = some (.int .i64 t122) := (blk_cell BK130.out 1).trans rfl
                have hcz33_2 : wc.cell? ⟨gb130, 2, none⟩ = some (.int .i64 t123) := (blk_cell BK130.out 2).trans rfl
                have hcz33_3 : wc.cell? ⟨gb130, 3, none⟩ = some (.int .i64 t124) := (blk_cell BK130.out 3).trans rfl
                have hcz33_4 : wc.cell? ⟨gb130, 4, none⟩ = some (.int .i64 t125) := (blk_cell BK130.out 4).trans rfl
                have hcz33_5 : wc.cell? ⟨gb130, 5, none⟩ = some (.bool t126) := (blk_cell BK130.out 5).trans rfl
                have hcz33_6 : wc.cell? ⟨gb130, 6, none⟩ = some (.bool t127) := (blk_cell BK130.out 6).trans rfl
                have hcz33_7 : wc.cell? ⟨gb130, 7, none⟩ = some (.int .i64 t128) := (blk_cell BK130.out 7).trans rfl
                have hcz33_8 : wc.cell? ⟨gb130, 8, none⟩ = some (.int .u32 t129) := (blk_cell BK130.out 8).trans rfl
                have hfz33_0 := blk_frozen BK130.out 0
                have hfz33_1 := blk_frozen BK130.out 1
                have hfz33_2 := blk_frozen BK130.out 2
                have hfz33_3 := blk_frozen BK130.out 3
                have hfz33_4 := blk_frozen BK130.out 4
                have hfz33_5 := blk_frozen BK130.out 5
                have hfz33_6 := blk_frozen BK130.out 6
                have hfz33_7 := blk_frozen BK130.out 7
                have hfz33_8 := blk_frozen BK130.out 8
                try go_wp2_with (first | ((with_reducible refine gate_callee (f := 19) rfl ?_); refine goesL_ (some 42) rfl rfl Try.func19 (by kernel_rfl) rfl #[.int .i64 t121] rfl (by (try simp only [List.map_toArray, List.map_cons, List.map_nil]); first | done | rfl | (simp only [List.length_drop, List.length_take]; rfl)) ?_; (with_reducible refine (anvillaw05_hasRs1.calls t121 true _ A29.out).mono ?_); rintro e w' ⟨rfl, ⟨nd, rfl⟩⟩; refine ⟨_, rfl, ?_⟩) | ((with_reducible refine gate_dst (N := 9) rfl ?_); refine box_event ?hg (N := 9) ?hd (cs := #[.int .i64 0, .int .i64 0, .int .i64 0, .int .i64 0, .int .i64 0, .bool false, .bool false, .int .i64 0, .int .u32 0]) (t := 29) ?hr ?_; (case hd => rfl); (case hg => rfl); (case hr => first | (go_simp; done) | (go_simp; rfl)); intro gb146 hg w34 hbox hb; have n0_ := Aside0.mk (blk_below (g := gb130) (o := .cells #[.int .i64 t121, .int .i64 t122, .int .i64 t123, .int .i64 t124, .int .i64 t125, .bool t126, .bool t127, .int .i64 t128, .int .u32 t129] 29 (0, 0)) (by (with_reducible repeat (first | refine blk_drewN ?_ _ | refine blk_drew ?_ | refine blk_alloc ?_ _)); exact BK130.out) hb); have n1_ := Aside0.mk (below_step (by repeat (first | (with_reducible first | exact HB.out | apply below_alloc | apply pw_below_drewN | apply below_drew1 | refine below_set ?_ GE130.out) | exact HB.out)) hb); have n2_ := Aside0.mk (hbox); have n3_ := Aside0.mk ((by rw [hg]; exact (below_size (by repeat (first | (with_reducible first | exact HB.out | apply below_alloc | apply pw_below_drewN | apply below_drew1 | refine below_set ?_ GE130.out) | exact HB.out))) : w.heap.size ≤ gb146)); have n4_ := Aside0.mk ((by rw [hg]; exact (below_size (by repeat (first | (with_reducible first | exact HB.out | apply below_alloc | apply pw_below_drewN | apply below_drew1 | refine below_set ?_ GE130.out) | exact HB.out))) : w.heap.size ≤ gb146)); have n5_ := Aside0.mk ((by rw [hg]; exact Nat.ne_of_lt (blk_lt (g := gb130) (o := .cells #[.int .i64 t121, .int .i64 t122, .int .i64 t123, .int .i64 t124, .int .i64 t125, .bool t126, .bool t127, .int .i64 t128, .int .u32 t129] 29 (0, 0)) (by (with_reducible repeat (first | refine blk_drewN ?_ _ | refine blk_drew ?_ | refine blk_alloc ?_ _)); exact BK130.out)) : gb130 ≠ gb146)); have n6_ := Aside0.mk ((by rw [hg]; exact Nat.ne_of_gt (blk_lt (g := gb130) (o := .cells #[.int .i64 t121, .int .i64 t122, .int .i64 t123, .int .i64 t124, .int .i64 t125, .bool t126, .bool t127, .int .i64 t128, .int .u32 t129] 29 (0, 0)) (by (with_reducible repeat (first | refine blk_drewN ?_ _ | refine blk_drew ?_ | refine blk_alloc ?_ _)); exact BK130.out)) : gb146 ≠ gb130)); clear BK130; clear HB; have BK130 := n0_; have HB := n1_; have BK146 := n2_; have GW146 := n3_; have GE146 := n4_; have NB130_146 := n5_; have NB146_130 := n6_; clear n0_ n1_ n2_ n3_ n4_ n5_ n6_; clear hb hbox hg; have hnb35 := NB146_130.out; have hnc35 := NB130_146.out; have hcz36_0 : w34.cell? ⟨gb146, 0, none⟩ = some (.int .i64 0) := (blk_cell BK146.out 0).trans rfl; have hcz36_1 : w34.cell? ⟨gb146, 1, none⟩ = some (.int .i64 0) := (blk_cell BK146.out 1).trans rfl; have hcz36_2 : w34.cell? ⟨gb146, 2, none⟩ = some (.int .i64 0) := (blk_cell BK146.out 2).trans rfl; have hcz36_3 : w34.cell? ⟨gb146, 3, none⟩ = some (.int .i64 0) := (blk_cell BK146.out 3).trans rfl; have hcz36_4 : w34.cell? ⟨gb146, 4, none⟩ = some (.int .i64 0) := (blk_cell BK146.out 4).trans rfl; have hcz36_5 : w34.cell? ⟨gb146, 5, none⟩ = some (.bool false) := (blk_cell BK146.out 5).trans rfl; have hcz36_6 : w34.cell? ⟨gb146, 6, none⟩ = some (.bool false) := (blk_cell BK146.out 6).trans rfl; have hcz36_7 : w34.cell? ⟨gb146, 7, none⟩ = some (.int .i64 0) := (blk_cell BK146.out 7).trans rfl; have hcz36_8 : w34.cell? ⟨gb146, 8, none⟩ = some (.int .u32 0) := (blk_cell BK146.out 8).trans rfl; have hfz36_0 := blk_frozen BK146.out 0; have hfz36_1 := blk_frozen BK146.out 1; have hfz36_2 := blk_frozen BK146.out 2; have hfz36_3 := blk_frozen BK146.out 3; have hfz36_4 := blk_frozen BK146.out 4; have hfz36_5 := blk_frozen BK146.out 5; have hfz36_6 := blk_frozen BK146.out 6; have hfz36_7 := blk_frozen BK146.out 7; have hfz36_8 := blk_frozen BK146.out 8))
                have n0_ : Aside0 ((((((((((((w34.setCell ⟨gb146, 0, none⟩ (.int .i64 t121)).setCell ⟨gb146, 1, none⟩ (.int .i64 t122)).setCell ⟨gb146, 2, none⟩ (.int .i64 t123)).setCell ⟨gb146, 3, none⟩ (.int .i64 t124)).setCell ⟨gb146, 4, none⟩ (.int .i64 t125)).setCell ⟨gb146, 5, none⟩ (.bool t126)).setCell ⟨gb146, 6, none⟩ (.bool t127)).setCell ⟨gb146, 7, none⟩ (.int .i64 t128)).setCell ⟨gb146, 8, none⟩ (.int .u32 t129)).setCell ⟨gb146, 2, none⟩ (.int .i64 a1)).setCell ⟨gb146, 8, none⟩ (.int .u32 (Go.bits .or .u32 (Go.bits .andNot .u32 (Go.bits .or .u32 a0 3) 1015808) ((((a1) % 4294967296) * 32768) % 4294967296)))).heap[gb130]? = some (.cells #[.int .i64 t121, .int .i64 t122, .int .i64 t123, .int .i64 t124, .int .i64 t125, .bool t126, .bool t127, .int .i64 t128, .int .u32 t129] 29 (0, 0))) := ⟨by (with_reducible repeat (first | refine blk_drewN ?_ _ | refine blk_drew ?_ | refine blk_alloc ?_ _)); refine blk_far ?_ NB130_146.out _; (with_reducible repeat (first | refine blk_drewN ?_ _ | refine blk_drew ?_ | refine blk_alloc ?_ _)); refine blk_far ?_ NB130_146.out _; (with_reducible repeat (first | refine blk_drewN ?_ _ | refine blk_drew ?_ | refine blk_alloc ?_ _)); refine blk_far ?_ NB130_146.out _; (with_reducible repeat (first | refine blk_drewN ?_ _ | refine blk_drew ?_ | refine blk_alloc ?_ _)); refine blk_far ?_ NB130_146.out _; (with_reducible repeat (first | refine blk_drewN ?_ _ | refine blk_drew ?_ | refine blk_alloc ?_ _)); refine blk_far ?_ NB130_146.out _; (with_reducible repeat (first | refine blk_drewN ?_ _ | refine blk_drew ?_ | refine blk_alloc ?_ _)); refine blk_far ?_ NB130_146.out _; (with_reducible repeat (first | refine blk_drewN ?_ _ | refine blk_drew ?_ | refine blk_alloc ?_ _)); refine blk_far ?_ NB130_146.out _; (with_reducible repeat (first | refine blk_drewN ?_ _ | refine blk_drew ?_ | refine blk_alloc ?_ _)); refine blk_far ?_ NB130_146.out _; (with_reducible repeat (first | refine blk_drewN ?_ _ | refine blk_drew ?_ | refine blk_alloc ?_ _)); refine blk_far ?_ NB130_146.out _; (with_reducible repeat (first | refine blk_drewN ?_ _ | refine blk_drew ?_ | refine blk_alloc ?_ _)); refine blk_far ?_ NB130_146.out _; (with_reducible repeat (first | refine blk_drewN ?_ _ | refine blk_drew ?_ | refine blk_alloc ?_ _)); refine blk_far ?_ NB130_146.out _; (with_reducible repeat (first | refine blk_drewN ?_ _ | refine blk_drew ?_ | refine blk_alloc ?_ _)); exact BK130.out⟩
                have n1_ : Aside0 ((((((((((((w34.setCell ⟨gb146, 0, none⟩ (.int .i64 t121)).setCell ⟨gb146, 1, none⟩ (.int .i64 t122)).setCell ⟨gb146, 2, none⟩ (.int .i64 t123)).setCell ⟨gb146, 3, none⟩ (.int .i64 t124)).setCell ⟨gb146, 4, none⟩ (.int .i64 t125)).setCell ⟨gb146, 5, none⟩ (.bool t126)).setCell ⟨gb146, 6, none⟩ (.bool t127)).setCell ⟨gb146, 7, none⟩ (.int .i64 t128)).setCell ⟨gb146, 8, none⟩ (.int .u32 t129)).setCell ⟨gb146, 2, none⟩ (.int .i64 a1)).setCell ⟨gb146, 8, none⟩ (.int .u32 (Go.bits .or .u32 (Go.bits .andNot .u32 (Go.bits .or .u32 a0 3) 1015808) ((((a1) % 4294967296) * 32768) % 4294967296)))).heap[gb146]? = some (.cells #[.int .i64 t121, .int .i64 t122, .int .i64 a1, .int .i64 t124, .int .i64 t125, .bool t126, .bool t127, .int .i64 t128, .int .u32 (Go.bits .or .u32 (Go.bits .andNot .u32 (Go.bits .or .u32 a0 3) 1015808) ((((a1) % 4294967296) * 32768) % 4294967296))] 29 (0, 0))) := ⟨by (with_reducible repeat (first | refine blk_drewN ?_ _ | refine blk_drew ?_ | refine blk_alloc ?_ _)); refine blk_put (cs := #[.int .i64 t121, .int .i64 t122, .int .i64 a1, .int .i64 t124, .int .i64 t125, .bool t126, .bool t127, .int .i64 t128, .int .u32 t129]) ?_ 8 _ rfl; (with_reducible repeat (first | refine blk_drewN ?_ _ | refine blk_drew ?_ | refine blk_alloc ?_ _)); refine blk_put (cs := #[.int .i64 t121, .int .i64 t122, .int .i64 t123, .int .i64 t124, .int .i64 t125, .bool t126, .bool t127, .int .i64 t128, .int .u32 t129]) ?_ 2 _ rfl; (with_reducible repeat (first | refine blk_drewN ?_ _ | refine blk_drew ?_ | refine blk_alloc ?_ _)); refine blk_put (cs := #[.int .i64 t121, .int .i64 t122, .int .i64 t123, .int .i64 t124, .int .i64 t125, .bool t126, .bool t127, .int .i64 t128, .int .u32 0]) ?_ 8 _ rfl; (with_reducible repeat (first | refine blk_drewN ?_ _ | refine blk_drew ?_ | refine blk_alloc ?_ _)); refine blk_put (cs := #[.int .i64 t121, .int .i64 t122, .int .i64 t123, .int .i64 t124, .int .i64 t125, .bool t126, .bool t127, .int .i64 0, .int .u32 0]) ?_ 7 _ rfl; (with_reducible repeat (first | refine blk_drewN ?_ _ | refine blk_drew ?_ | refine blk_alloc ?_ _)); refine blk_put (cs := #[.int .i64 t121, .int .i64 t122, .int .i64 t123, .int .i64 t124, .int .i64 t125, .bool t126, .bool false, .int .i64 0, .int .u32 0]) ?_ 6 _ rfl; (with_reducible repeat (first | refine blk_drewN ?_ _ | refine blk_drew ?_ | refine blk_alloc ?_ _)); refine blk_put (cs := #[.int .i64 t121, .int .i64 t122, .int .i64 t123, .int .i64 t124, .int .i64 t125, .bool false, .bool false, .int .i64 0, .int .u32 0]) ?_ 5 _ rfl; (with_reducible repeat (first | refine blk_drewN ?_ _ | refine blk_drew ?_ | refine blk_alloc ?_ _)); refine blk_put (cs := #[.int .i64 t121, .int .i64 t122, .int .i64 t123, .int .i64 t124, .int .i64 0, .bool false, .bool false, .int .i64 0, .int .u32 0]) ?_ 4 _ rfl; (with_reducible repeat (first | refine blk_drewN ?_ _ | refine blk_drew ?_ | refine blk_alloc ?_ _)); refine blk_put (cs := #[.int .i64 t121, .int .i64 t122, .int .i64 t123, .int .i64 0, .int .i64 0, .bool false, .bool false, .int .i64 0, .int .u32 0]) ?_ 3 _ rfl; (with_reducible repeat (first | refine blk_drewN ?_ _ | refine blk_drew ?_ | refine blk_alloc ?_ _)); refine blk_put (cs := #[.int .i64 t121, .int .i64 t122, .int .i64 0, .int .i64 0, .int .i64 0, .bool false, .bool false, .int .i64 0, .int .u32 0]) ?_ 2 _ rfl; (with_reducible repeat (first | refine blk_drewN ?_ _ | refine blk_drew ?_ | refine blk_alloc ?_ _)); refine blk_put (cs := #[.int .i64 t121, .int .i64 0, .int .i64 0, .int .i64 0, .int .i64 0, .bool false, .bool false, .int .i64 0, .int .u32 0]) ?_ 1 _ rfl; (with_reducible repeat (first | refine blk_drewN ?_ _ | refine blk_drew ?_ | refine blk_alloc ?_ _)); refine blk_put (cs := #[.int .i64 0, .int .i64 0, .int .i64 0, .int .i64 0, .int .i64 0, .bool false, .bool false, .int .i64 0, .int .u32 0]) ?_ 0 _ rfl; (with_reducible repeat (first | refine blk_drewN ?_ _ | refine blk_drew ?_ | refine blk_alloc ?_ _)); exact BK146.out⟩
                have n2_ : Aside0 (Below w.heap.size w (((((((((((w34.setCell ⟨gb146, 0, none⟩ (.int .i64 t121)).setCell ⟨gb146, 1, none⟩ (.int .i64 t122)).setCell ⟨gb146, 2, none⟩ (.int .i64 t123)).setCell ⟨gb146, 3, none⟩ (.int .i64 t124)).setCell ⟨gb146, 4, none⟩ (.int .i64 t125)).setCell ⟨gb146, 5, none⟩ (.bool t126)).setCell ⟨gb146, 6, none⟩ (.bool t127)).setCell ⟨gb146, 7, none⟩ (.int .i64 t128)).setCell ⟨gb146, 8, none⟩ (.int .u32 t129)).setCell ⟨gb146, 2, none⟩ (.int .i64 a1)).setCell ⟨gb146, 8, none⟩ (.int .u32 (Go.bits .or .u32 (Go.bits .andNot .u32 (Go.bits .or .u32 a0 3) 1015808) ((((a1) % 4294967296) * 32768) % 4294967296))))) := ⟨by repeat (first | (with_reducible first | exact HB.out | apply below_alloc | apply pw_below_drewN | apply below_drew1 | refine below_set ?_ GE130.out | refine below_set ?_ GE146.out) | exact HB.out)⟩
                (try clear BK130)
                (try clear BK146)
                (try clear HB)
                generalize (((((((((((w34.setCell ⟨gb146, 0, none⟩ (.int .i64 t121)).setCell ⟨gb146, 1, none⟩ (.int .i64 t122)).setCell ⟨gb146, 2, none⟩ (.int .i64 t123)).setCell ⟨gb146, 3, none⟩ (.int .i64 t124)).setCell ⟨gb146, 4, none⟩ (.int .i64 t125)).setCell ⟨gb146, 5, none⟩ (.bool t126)).setCell ⟨gb146, 6, none⟩ (.bool t127)).setCell ⟨gb146, 7, none⟩ (.int .i64 t128)).setCell ⟨gb146, 8, none⟩ (.int .u32 t129)).setCell ⟨gb146, 2, none⟩ (.int .i64 a1)).setCell ⟨gb146, 8, none⟩ (.int .u32 (Go.bits .or .u32 (Go.bits .andNot .u32 (Go.bits .or .u32 a0 3) 1015808) ((((a1) % 4294967296) * 32768) % 4294967296)))) = w37 at n0_ n1_ n2_ ⊢
                have BK130 := n0_
                have BK146 := n1_
                have HB := n2_
                clear n0_ n1_ n2_
                have n0_ := Aside0.mk (blk_drew BK130.out)
                have n1_ := Aside0.mk (blk_drew BK146.out)
                have n2_ := Aside0.mk (below_drew1 HB.out)
                clear BK130
                clear BK146
                clear HB
                have BK130 := n0_
                have BK146 := n1_
                have HB := n2_
                clear n0_ n1_ n2_
                refine start_ (n := 4) (S := fun w' => w'.cell? ⟨gb146, 0, none⟩ = some (.int .i64 t121) ∧ w'.cell? ⟨gb146, 1, none⟩ = some (.int .i64 t122) ∧ w'.cell? ⟨gb146, 2, none⟩ = some (.int .i64 a1) ∧ w'.cell? ⟨gb146, 3, none⟩ = some (.int .i64 t124) ∧ w'.cell? ⟨gb146, 4, none⟩ = some (.int .i64 t125) ∧ w'.cell? ⟨gb146, 5, none⟩ = some (.bool t126) ∧ w'.cell? ⟨gb146, 6, none⟩ = some (.bool t127) ∧ w'.cell? ⟨gb146, 7, none⟩ = some (.int .i64 t128) ∧ w'.cell? ⟨gb146, 8, none⟩ = some (.int .u32 (Go.bits .or .u32 (Go.bits .andNot .u32 (Go.bits .or .u32 a0 3) 1015808) ((((a1) % 4294967296) * 32768) % 4294967296)))) (ds := []) #[false, false, false, false] (by kernel_rfl) rfl rfl ⟨(blk_cell BK146.out 0).trans rfl, (blk_cell BK146.out 1).trans rfl, (blk_cell BK146.out 2).trans rfl, (blk_cell BK146.out 3).trans rfl, (blk_cell BK146.out 4).trans rfl, (blk_cell BK146.out 5).trans rfl, (blk_cell BK146.out 6).trans rfl, (blk_cell BK146.out 7).trans rfl, (blk_cell BK146.out 8).trans rfl⟩ (fun hHeld => ?_)
                generalize w37.drew = w38 at BK130 BK146 HB hHeld ⊢
                refine pure_ (i := 0) (N := some 54) (v := ?_) (a' := ?_) #[true, false, false, false] rfl rfl (by kernel_rfl) (fun _ _ _ h => h) (Or.inl ⟨by rfl, ?_⟩) ?_ ?_
                rotate_left
                · intro w'
                  go_simp
                  with_reducible rfl
                rotate_left
                · simp only [Act.put, List.setIfInBounds_toArray, List.set_cons_zero, List.set_cons_succ, i64_w, i32_w]
                  rfl
                refine take_ (i := 2) (N := some 56) (v := ?_) (a' := ?_) #[true, false, true, false] rfl rfl (by kernel_rfl) (fun _ _ _ h => h) (Or.inl ⟨by rfl, ?_⟩) hHeld ?_ ?_
                rotate_left
                · rintro w' ⟨s0, s1, s2, s3, s4, s5, s6, s7, s8⟩
                  go_simp
                  with_reducible rfl
                rotate_left
                · simp only [Act.put, List.setIfInBounds_toArray, List.set_cons_zero, List.set_cons_succ, i64_w, i32_w]
                  rfl
                refine one_ (i := 1) (N := some 55) #[true, true, true, false] rfl rfl (by kernel_rfl) (by decide) (fun K hK => ?_)
                refine goes_ Try.func13 (by kernel_rfl) rfl #[.int .u32 (Go.bits .or .u32 (Go.bits .andNot .u32 (Go.bits .or .u32 a0 3) 1015808) ((((a1) % 4294967296) * 32768) % 4294967296))] (by rfl) rfl rfl (by (try simp only [List.map_toArray, List.map_cons, List.map_nil]); first | done | rfl | (simp only [List.length_drop, List.length_take]; rfl)) ?_
                with_reducible refine (decode_Decode.calls kj16 (Go.bits .or .u32 (Go.bits .andNot .u32 (Go.bits .or .u32 a0 3) 1015808) ((((a1) % 4294967296) * 32768) % 4294967296)) t147 t148 t149 t150 t151 t152 t153 t154 t155 _ A31.out).mono ?_
                rintro e w39 ⟨rfl, hb⟩
                refine ⟨_, rfl, ?_⟩
                have n0_ := Aside0.mk (blk_below (g := gb130) (o := .cells #[.int .i64 t121, .int .i64 t122, .int .i64 t123, .int .i64 t124, .int .i64 t125, .bool t126, .bool t127, .int .i64 t128, .int .u32 t129] 29 (0, 0)) (by (with_reducible repeat (first | refine blk_drewN ?_ _ | refine blk_drew ?_ | refine blk_alloc ?_ _)); exact BK130.out) hb)
                have n1_ := Aside0.mk (blk_below (g := gb146) (o := .cells #[.int .i64 t121, .int .i64 t122, .int .i64 a1, .int .i64 t124, .int .i64 t125, .bool t126, .bool t127, .int .i64 t128, .int .u32 (Go.bits .or .u32 (Go.bits .andNot .u32 (Go.bits .or .u32 a0 3) 1015808) ((((a1) % 4294967296) * 32768) % 4294967296))] 29 (0, 0)) (by (with_reducible repeat (first | refine blk_drewN ?_ _ | refine blk_drew ?_ | refine blk_alloc ?_ _)); exact BK146.out) hb)
                have n2_ := Aside0.mk (below_step (by repeat (first | (with_reducible first | exact HB.out | apply below_alloc | apply pw_below_drewN | apply below_drew1 | refine below_set ?_ GE130.out | refine below_set ?_ GE146.out) | exact HB.out)) hb)
                clear BK130
                clear BK146
                clear HB
                have BK130 := n0_
                have BK146 := n1_
                have HB := n2_
                clear n0_ n1_ n2_
                (try clear hb)
                (try clear hb2)
                (try clear hk)
                (try clear hi)
                refine hK.out _ _ ⟨(blk_cell BK146.out 0).trans rfl, (blk_cell BK146.out 1).trans rfl, (blk_cell BK146.out 2).trans rfl, (blk_cell BK146.out 3).trans rfl, (blk_cell BK146.out 4).trans rfl, (blk_cell BK146.out 5).trans rfl, (blk_cell BK146.out 6).trans rfl, (blk_cell BK146.out 7).trans rfl, (blk_cell BK146.out 8).trans rfl⟩ (fun hHeld => ?_)
                clear hK K
                refine norm_ (a' := ?_) ?_ ?_
                rotate_left
                · show Act.put _ (some 55) _ = _
                  simp only [Act.put, List.setIfInBounds_toArray, List.set_cons_zero, List.set_cons_succ, i64_w, i32_w]
                  rfl
                refine pure_ (i := 3) (N := some 57) (v := ?_) (a' := ?_) #[true, true, true, true] rfl rfl (by kernel_rfl) (fun _ _ _ h => h) (Or.inl ⟨by rfl, ?_⟩) ?_ ?_
                rotate_left
                · intro w'
                  go_simp
                  with_reducible rfl
                rotate_left
                · simp only [Act.put, List.setIfInBounds_toArray, List.set_cons_zero, List.set_cons_succ, i64_w, i32_w]
                  rfl
                refine done_ (by kernel_rfl) ?_
                try go_wp2
                go_ret
                exact ⟨by first | rfl | (simp [errW_none, errW_some] <;> rfl) | (simp [*, errW_none, errW_some] <;> rfl), by repeat (first | (with_reducible first | exact HB.out | apply below_alloc | apply pw_below_drewN | apply below_drew1 | refine below_set ?_ GE130.out | refine below_set ?_ GE146.out) | exact HB.out)⟩
            · replace c30 := Bool.eq_false_iff.mpr c30
              subst c30
              have H1 : (some true) = some r := by rw [if_neg (show ¬ (false = true) by decide)] at H; exact H
              clear H
              have H := H1
              clear H1
              obtain rfl := Option.some.inj H
              have hcz40_0 : wc.cell? ⟨gb130, 0, none⟩ = some (.int .i64 t121) := (blk_cell BK130.out 0).trans rfl
              have hcz40_1 : wc.cell? ⟨gb130, 1, none⟩ = some (.int .i64 t122) := (blk_cell BK130.out 1).trans rfl
              have hcz40_2 : wc.cell? ⟨gb130, 2, none⟩ = some (.int .i64 t123) := (blk_cell BK130.out 2).trans rfl
              have hcz40_3 : wc.cell? ⟨gb130, 3, none⟩ = some (.int .i64 t124) := (blk_cell BK130.out 3).trans rfl
              have hcz40_4 : wc.cell? ⟨gb130, 4, none⟩ = some (.int .i64 t125) := (blk_cell BK130.out 4).trans rfl
              have hcz40_5 : wc.cell? ⟨gb130, 5, none⟩ = some (.bool t126) := (blk_cell BK130.out 5).trans rfl
              have hcz40_6 : wc.cell? ⟨gb130, 6, none⟩ = some (.bool t127) := (blk_cell BK130.out 6).trans rfl
              have hcz40_7 : wc.cell? ⟨gb130, 7, none⟩ = some (.int .i64 t128) := (blk_cell BK130.out 7).trans rfl
              have hcz40_8 : wc.cell? ⟨gb130, 8, none⟩ = some (.int .u32 t129) := (blk_cell BK130.out 8).trans rfl
              have hfz40_0 := blk_frozen BK130.out 0
              have hfz40_1 := blk_frozen BK130.out 1
              have hfz40_2 := blk_frozen BK130.out 2
              have hfz40_3 := blk_frozen BK130.out 3
              have hfz40_4 := blk_frozen BK130.out 4
              have hfz40_5 := blk_frozen BK130.out 5
              have hfz40_6 := blk_frozen BK130.out 6
              have hfz40_7 := blk_frozen BK130.out 7
              have hfz40_8 := blk_frozen BK130.out 8
              go_wp2_with (first | ((with_reducible refine gate_callee (f := 19) rfl ?_); refine goesL_ (some 42) rfl rfl Try.func19 (by kernel_rfl) rfl #[.int .i64 t121] rfl (by (try simp only [List.map_toArray, List.map_cons, List.map_nil]); first | done | rfl | (simp only [List.length_drop, List.length_take]; rfl)) ?_; (with_reducible refine (anvillaw05_hasRs1.calls t121 false _ A29.out).mono ?_); rintro e w' ⟨rfl, ⟨nd, rfl⟩⟩; refine ⟨_, rfl, ?_⟩))
              go_ret
              exact ⟨by first | rfl | (simp [errW_none, errW_some] <;> rfl) | (simp [*, errW_none, errW_some] <;> rfl), by repeat (first | (with_reducible first | exact HB.out | apply below_alloc | apply pw_below_drewN | apply below_drew1 | refine below_set ?_ GE130.out) | exact HB.out)⟩

/-- THE ONE PURE STATEMENT of anvillaw05_DecodeMoves: yours. -/
def anvillaw05_DecodeMoves.Pure : Prop := ∀ (a0 : Int) (a1 : Int), (Lit.int .u32 a0).wf = true → (Lit.int .i64 a1).wf = true → ∃ k, anvillaw05_DecodeMoves.f k a0 a1 = some true
theorem anvillaw05_DecodeMoves.walk (P : anvillaw05_DecodeMoves.Pure) (a0 : Int) (a1 : Int) (w : World) (w0 : (Lit.int .u32 a0).wf = true) (w1 : (Lit.int .i64 a1).wf = true) :
    Calls Try.prog 8 #[.int .u32 a0, .int .i64 a1] w fun e w' => e = .returned (.bool true) ∧ Below w.heap.size w w' := by
  obtain ⟨k, h⟩ := P a0 a1 w0 w1
  refine (anvillaw05_DecodeMoves.calls k a0 a1 true ⟨rfl⟩ w h).mono ?_
  rintro e w' ⟨rfl, hd⟩
  exact ⟨rfl, hd⟩

end Go.Proofs.Ytiibhggjlandmaa.PDecodeMoves
