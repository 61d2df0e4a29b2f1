/- Texts of this claim, put together by a program: PLBack. -/
import Derived.Test.YtiibhggjlandmaaDoorProg
import Derived.Below
import Derived.Deep.Draws
import Derived.Deep.AppendLies
import Derived.Maps.AppendAt
import Derived.OwnWalk
import Derived.Laws.BytesArg
import Derived.Laws.MakeOwn
import Derived.Laws.OwnMore
import Derived.Deep.OwnRows
import Derived.Tactics
import Derived.Lib.ConvBytes
import Derived.Laws.Slices
import Derived.WalkKit
import Derived.KernelRfl
import Derived.RowKit3
import Derived.Deep.LoopGhost
import Derived.Deep.QuietTactic
import Derived.BigQuiet
import Derived.WideLaws
import Derived.Deep.DeepCutAuto
import Derived.Deep.CutBlock
import Derived.Deep.RegionHeld3
import Derived.Laws.Rows
import Derived.Lib.AppendStr
import Derived.ArgAppend
import Derived.Laws.IdiomCopy
import Derived.OrdersHeld
import Derived.Laws.BitsLemmas
import Derived.RowKit
import Derived.Test.YtiibhggjlandmaaDoorMB14
import Derived.Test.YtiibhggjlandmaaDoorMB15
import Derived.Test.YtiibhggjlandmaaDoorMB0
import Derived.Test.YtiibhggjlandmaaDoorMBxPK
-- Written by a program (a turned copy of the kit's print.py) for this claim. Lean checks it.
namespace Go.Proofs.YtiibhggjlandmaaDoor.PK
open Go.RowKit Go.Proofs.YtiibhggjlandmaaDoorW.PrintWords Go.Proofs.YtiibhggjlandmaaDoorW.PrintLast Go.Proofs.YtiibhggjlandmaaDoorW.PrintMore Go.Proofs.YtiibhggjlandmaaDoor.PF Go.Proofs.YtiibhggjlandmaaDoor.PL Go.Proofs.YtiibhggjlandmaaDoor.PB Go.Proofs.YtiibhggjlandmaaDoor.TR
attribute [local go_sem] max2_int min2_int max_two min_two max_three min_three max_four min_four   -- for this text's walks alone
set_option linter.unusedVariables false
set_option linter.unusedSimpArgs false

attribute [local go_sem high] eqA24
/-! ### anvillaw06_EncodeBack: function 6 -/
mutual
def anvillaw06_EncodeBack.j0 : Nat → Int → Bool → Int → Int → Int → Int → Int → Bool → Bool → Int → Int → Option (Bool)
  | 0, _, _, _, _, _, _, _, _, _, _, _ => none
  | k + 1, x0, x20, x391000, x391001, x391002, x391003, x391004, x391005, x391006, x391007, x391008 => if x20 = true then ((anvillaw06_live.f k).bind fun t392 => (if t392 = true then ((encode_Check.f x391000 x391001 x391002 x391003 x391004 x391005 x391006 x391007 x391008).bind fun t393 => (some (t393 == 60))) else (some false))) else ((encode_Check.f x391000 x391001 x391002 x391003 x391004 x391005 x391006 x391007 x391008).bind fun t394 => (if t394 = 0 then ((encode_Encode.f k x391000 x391001 x391002 x391003 x391004 x391005 x391006 x391007 x391008).bind fun bt395 => (if bt395.2 = 0 then (if (Go.bits .and .u32 x0 3) = 3 then (some (bt395.1 == x0)) else ((decode_Expand.f k (IntKind.u16.wrap (x0))).bind fun bt397 => ((encode_Compress.f k x391000 x391001 x391002 x391003 x391004 x391005 x391006 x391007 x391008).bind fun bt399 => (if bt397.2 = true then (if bt397.1 = bt395.1 then (if bt399.2 = true then (anvillaw06_EncodeBack.j1 k bt395.1 bt399.1 (decide (bt399.1 > (IntKind.u16.wrap (x0)))) x391000 x391001 x391002 x391003 x391004 x391005 x391006 x391007 x391008) else (anvillaw06_EncodeBack.j1 k bt395.1 bt399.1 true x391000 x391001 x391002 x391003 x391004 x391005 x391006 x391007 x391008)) else (anvillaw06_EncodeBack.j1 k bt395.1 bt399.1 true x391000 x391001 x391002 x391003 x391004 x391005 x391006 x391007 x391008)) else (anvillaw06_EncodeBack.j1 k bt395.1 bt399.1 true x391000 x391001 x391002 x391003 x391004 x391005 x391006 x391007 x391008))))) else (some false))) else (some false)))
def anvillaw06_EncodeBack.j1 : Nat → Int → Int → Bool → Int → Int → Int → Int → Int → Bool → Bool → Int → Int → Option (Bool)
  | 0, _, _, _, _, _, _, _, _, _, _, _, _ => none
  | k + 1, x4, x8, x70, x391000, x391001, x391002, x391003, x391004, x391005, x391006, x391007, x391008 => if x70 = true then (some false) else ((decode_Expand.f k x8).bind fun bt401 => (if bt401.2 = true then (if bt401.1 = x4 then ((decode_Decode.f k ((x8) % 4294967296)).bind fun bt403 => ((anvillaw06_bare.f bt403.1 bt403.2.1 bt403.2.2.1 bt403.2.2.2.1 bt403.2.2.2.2.1 bt403.2.2.2.2.2.1 bt403.2.2.2.2.2.2.1 bt403.2.2.2.2.2.2.2.1 bt403.2.2.2.2.2.2.2.2).bind fun bt412 => ((anvillaw06_bare.f x391000 x391001 x391002 x391003 x391004 x391005 x391006 x391007 x391008).bind fun bt421 => (some (bt412.1 == bt421.1 && (bt412.2.1 == bt421.2.1 && (bt412.2.2.1 == bt421.2.2.1 && (bt412.2.2.2.1 == bt421.2.2.2.1 && (bt412.2.2.2.2.1 == bt421.2.2.2.2.1 && (bt412.2.2.2.2.2.1 == bt421.2.2.2.2.2.1 && (bt412.2.2.2.2.2.2.1 == bt421.2.2.2.2.2.2.1 && (bt412.2.2.2.2.2.2.2.1 == bt421.2.2.2.2.2.2.2.1 && (bt412.2.2.2.2.2.2.2.2 == bt421.2.2.2.2.2.2.2.2))))))))))))) else (some false)) else (some false)))
end
def anvillaw06_EncodeBack.f (k : Nat) (a0 : Int) : Option (Bool) := (decode_Decode.f k a0).bind fun bt381 => ((anvillaw06_live.f k).bind fun t391 => (if t391 = true then (anvillaw06_EncodeBack.j0 k a0 (bt381.1 == 0) bt381.1 bt381.2.1 bt381.2.2.1 bt381.2.2.2.1 bt381.2.2.2.2.1 bt381.2.2.2.2.2.1 bt381.2.2.2.2.2.2.1 bt381.2.2.2.2.2.2.2.1 bt381.2.2.2.2.2.2.2.2) else (anvillaw06_EncodeBack.j0 k a0 true bt381.1 bt381.2.1 bt381.2.2.1 bt381.2.2.2.1 bt381.2.2.2.2.1 bt381.2.2.2.2.2.1 bt381.2.2.2.2.2.2.1 bt381.2.2.2.2.2.2.2.1 bt381.2.2.2.2.2.2.2.2)))
def anvillaw06_EncodeBack.T16 : Bool × List (List Nat × List Nat) := (true, [([], []), ([0], [0]), ([1], [1]), ([1], [1]), ([2, 3, 1], [1, 2, 3]), ([1, 4], [1, 4]), ([5, 1], [5]), ([6], [6]), ([7, 6], [6, 7]), ([8, 6, 6], [6, 8]), ([9, 9, 6], [6, 9]), ([6], [6]), ([11, 10, 6], [6, 11]), ([10, 12, 6], [6, 10, 12]), ([6, 13], [6, 13]), ([14, 12, 0, 1, 2, 3, 4, 5, 6, 7, 8, 9, 10, 11, 12, 13, 14], [14])])
def anvillaw06_EncodeBack.B16 : List Nat := [0, 1, 3, 3, 15, 31, 63, 127, 255, 511, 1023, 127, 4095, 8191, 16383, 32767]
theorem anvillaw06_EncodeBack.tab16 : rtab .any (opsOf Tryd.f6 16) = anvillaw06_EncodeBack.T16 := by kernel_rfl
theorem anvillaw06_EncodeBack.bits16 : waitsOk anvillaw06_EncodeBack.T16.2 anvillaw06_EncodeBack.B16 = true := by kernel_rfl
set_option maxHeartbeats 8000000 in
set_option maxRecDepth 100000 in
theorem anvillaw06_EncodeBack.calls (k : Nat) (a0 : Int) (r : Bool) (hr : Aside0 (r = true)) (w : World) (hT : TabOk w) (h : anvillaw06_EncodeBack.f k a0 = some r) :
    Calls Tryd.prog 6 #[.int .u32 a0] w fun e w' => e = .returned (.bool r) ∧ Below w.heap.size w w' := by
  have hu24 := Tryd.underlying24
  have HB := Aside0.mk (Below.refl w.heap.size w)
  have H : ((decode_Decode.f k a0).bind fun bt381 => ((anvillaw06_live.f k).bind fun t391 => (if t391 = true then (anvillaw06_EncodeBack.j0 k a0 (bt381.1 == 0) bt381.1 bt381.2.1 bt381.2.2.1 bt381.2.2.2.1 bt381.2.2.2.2.1 bt381.2.2.2.2.2.1 bt381.2.2.2.2.2.2.1 bt381.2.2.2.2.2.2.2.1 bt381.2.2.2.2.2.2.2.2) else (anvillaw06_EncodeBack.j0 k a0 true bt381.1 bt381.2.1 bt381.2.2.1 bt381.2.2.2.1 bt381.2.2.2.2.1 bt381.2.2.2.2.2.1 bt381.2.2.2.2.2.2.1 bt381.2.2.2.2.2.2.2.1 bt381.2.2.2.2.2.2.2.2)))) = some r := h
  clear h
  replace H := Option.bind_eq_some_iff.mp H
  obtain ⟨⟨t381, t382, t383, t384, t385, t386, t387, t388, t389⟩, A20, H⟩ := H
  replace H : ((anvillaw06_live.f k).bind fun t391 => (if t391 = true then (anvillaw06_EncodeBack.j0 k a0 (t381 == 0) t381 t382 t383 t384 t385 t386 t387 t388 t389) else (anvillaw06_EncodeBack.j0 k a0 true t381 t382 t383 t384 t385 t386 t387 t388 t389))) = some r := H
  have A2 := Aside0.mk A20
  clear A20
  have HC3 := Aside0.mk H
  clear H
  go_enter Tryd.func6, Tryd.ntmps6
  go_upto_region 2 with (first | ((with_reducible refine gate_callee (f := 17) rfl ?_); refine goesL_ (some 13) rfl rfl Tryd.func17 (by kernel_rfl) rfl #[.int .u32 a0] rfl (by (try simp only [List.map_toArray, List.map_cons, List.map_nil]); first | done | rfl | (simp only [List.length_drop, List.length_take]; rfl)) ?_; (with_reducible refine (decode_Decode.calls k a0 t381 t382 t383 t384 t385 t386 t387 t388 t389 _ A2.out).mono ?_); rintro e w4 ⟨rfl, hb⟩; refine ⟨_, rfl, ?_⟩; have n0_ := Aside0.mk (below_step (by repeat (first | (with_reducible first | exact HB.out | apply below_alloc | apply pw_below_drewN | apply below_drew1) | exact HB.out)) hb); clear HB; have HB := n0_; clear n0_; (try clear hb); (try clear hb2); (try clear hk); (try clear hi)) | ((with_reducible refine gate_dst (N := 3) rfl ?_); refine box_event ?hg (N := 3) ?hd (cs := #[.int .i64 0, .int .i64 0, .int .i64 0, .int .i64 0, .int .i64 0, .bool false, .bool false, .int .i64 0, .int .u32 0]) (t := 24) ?hr ?_; (case hd => rfl); (case hg => rfl); (case hr => first | (go_simp; done) | (go_simp; rfl)); intro gb390 hg w5 hbox hb; have n0_ := Aside0.mk (below_step (by repeat (first | (with_reducible first | exact HB.out | apply below_alloc | apply pw_below_drewN | apply below_drew1) | exact HB.out)) hb); have n1_ := Aside0.mk (hbox); have n2_ := Aside0.mk ((by rw [hg]; exact (below_size (by repeat (first | (with_reducible first | exact HB.out | apply below_alloc | apply pw_below_drewN | apply below_drew1) | exact HB.out))) : w.heap.size ≤ gb390)); have n3_ := Aside0.mk ((by rw [hg]; exact (below_size (by repeat (first | (with_reducible first | exact HB.out | apply below_alloc | apply pw_below_drewN | apply below_drew1) | exact HB.out))) : w.heap.size ≤ gb390)); clear HB; have HB := n0_; have BK390 := n1_; have GW390 := n2_; have GE390 := n3_; clear n0_ n1_ n2_ n3_; clear hb hbox hg; have hcz6_0 : w5.cell? ⟨gb390, 0, none⟩ = some (.int .i64 0) := (blk_cell BK390.out 0).trans rfl; have hcz6_1 : w5.cell? ⟨gb390, 1, none⟩ = some (.int .i64 0) := (blk_cell BK390.out 1).trans rfl; have hcz6_2 : w5.cell? ⟨gb390, 2, none⟩ = some (.int .i64 0) := (blk_cell BK390.out 2).trans rfl; have hcz6_3 : w5.cell? ⟨gb390, 3, none⟩ = some (.int .i64 0) := (blk_cell BK390.out 3).trans rfl; have hcz6_4 : w5.cell? ⟨gb390, 4, none⟩ = some (.int .i64 0) := (blk_cell BK390.out 4).trans rfl; have hcz6_5 : w5.cell? ⟨gb390, 5, none⟩ = some (.bool false) := (blk_cell BK390.out 5).trans rfl; have hcz6_6 : w5.cell? ⟨gb390, 6, none⟩ = some (.bool false) := (blk_cell BK390.out 6).trans rfl; have hcz6_7 : w5.cell? ⟨gb390, 7, none⟩ = some (.int .i64 0) := (blk_cell BK390.out 7).trans rfl; have hcz6_8 : w5.cell? ⟨gb390, 8, none⟩ = some (.int .u32 0) := (blk_cell BK390.out 8).trans rfl; have hfz6_0 := blk_frozen BK390.out 0; have hfz6_1 := blk_frozen BK390.out 1; have hfz6_2 := blk_frozen BK390.out 2; have hfz6_3 := blk_frozen BK390.out 3; have hfz6_4 := blk_frozen BK390.out 4; have hfz6_5 := blk_frozen BK390.out 5; have hfz6_6 := blk_frozen BK390.out 6; have hfz6_7 := blk_frozen BK390.out 7; have hfz6_8 := blk_frozen BK390.out 8))
  (try simp only [Act.put, List.setIfInBounds_toArray, List.set_cons_zero, List.set_cons_succ])
  go_cut [20] (fun v20 wc => ∃ (kq : Nat) (x20_2 : Bool), v20 = .bool x20_2 ∧ Aside0 (anvillaw06_EncodeBack.j0 kq a0 x20_2 t381 t382 t383 t384 t385 t386 t387 t388 t389 = some r) ∧ Aside0 (kq ≤ k) ∧ Aside0 (wc.heap[gb390]? = some (.cells #[.int .i64 t381, .int .i64 t382, .int .i64 t383, .int .i64 t384, .int .i64 t385, .bool t386, .bool t387, .int .i64 t388, .int .u32 t389] 24 (0, 0))) ∧ Aside0 (Below w.heap.size w wc))
  case first =>
    have H := HC3.out
    clear HC3
    replace H := Option.bind_eq_some_iff.mp H
    obtain ⟨t391, A70, H⟩ := H
    replace H : (if t391 = true then (anvillaw06_EncodeBack.j0 k a0 (t381 == 0) t381 t382 t383 t384 t385 t386 t387 t388 t389) else (anvillaw06_EncodeBack.j0 k a0 true t381 t382 t383 t384 t385 t386 t387 t388 t389)) = some r := H
    have A7 := Aside0.mk A70
    clear A70
    by_cases c8 : t391 = true
    · subst c8
      have H1 : (anvillaw06_EncodeBack.j0 k a0 (t381 == 0) t381 t382 t383 t384 t385 t386 t387 t388 t389) = some r := by rw [if_pos rfl] at H; exact H
      clear H
      have H := H1
      clear H1
      have H' := Aside0.mk H
      clear H
      go_wp2_with (first | ((with_reducible refine gate_callee (f := 16) rfl ?_); refine goesL_ (some 14) rfl rfl Tryd.func16 (by kernel_rfl) rfl #[] rfl (by (try simp only [List.map_toArray, List.map_cons, List.map_nil]); first | done | rfl | (simp only [List.length_drop, List.length_take]; rfl)) ?_; (with_reducible refine (anvillaw06_live.calls k  true _ (by exact hT.below (by repeat (first | (with_reducible first | exact HB.out | apply below_alloc | apply pw_below_drewN | apply below_drew1 | refine below_set ?_ GE390.out) | exact HB.out))) A7.out).mono ?_); rintro e w9 ⟨rfl, hb⟩; refine ⟨_, rfl, ?_⟩; have n0_ := Aside0.mk (blk_below (g := gb390) (o := .cells #[.int .i64 t381, .int .i64 t382, .int .i64 t383, .int .i64 t384, .int .i64 t385, .bool t386, .bool t387, .int .i64 t388, .int .u32 t389] 24 (0, 0)) (by (with_reducible repeat (first | refine blk_drewN ?_ _ | refine blk_drew ?_ | refine blk_alloc ?_ _)); refine blk_put (cs := #[.int .i64 t381, .int .i64 t382, .int .i64 t383, .int .i64 t384, .int .i64 t385, .bool t386, .bool t387, .int .i64 t388, .int .u32 0]) ?_ 8 _ rfl; (with_reducible repeat (first | refine blk_drewN ?_ _ | refine blk_drew ?_ | refine blk_alloc ?_ _)); refine blk_put (cs := #[.int .i64 t381, .int .i64 t382, .int .i64 t383, .int .i64 t384, .int .i64 t385, .bool t386, .bool t387, .int .i64 0, .int .u32 0]) ?_ 7 _ rfl; (with_reducible repeat (first | refine blk_drewN ?_ _ | refine blk_drew ?_ | refine blk_alloc ?_ _)); refine blk_put (cs := #[.int .i64 t381, .int .i64 t382, .int .i64 t383, .int .i64 t384, .int .i64 t385, .bool t386, .bool false, .int .i64 0, .int .u32 0]) ?_ 6 _ rfl; (with_reducible repeat (first | refine blk_drewN ?_ _ | refine blk_drew ?_ | refine blk_alloc ?_ _)); refine blk_put (cs := #[.int .i64 t381, .int .i64 t382, .int .i64 t383, .int .i64 t384, .int .i64 t385, .bool false, .bool false, .int .i64 0, .int .u32 0]) ?_ 5 _ rfl; (with_reducible repeat (first | refine blk_drewN ?_ _ | refine blk_drew ?_ | refine blk_alloc ?_ _)); refine blk_put (cs := #[.int .i64 t381, .int .i64 t382, .int .i64 t383, .int .i64 t384, .int .i64 0, .bool false, .bool false, .int .i64 0, .int .u32 0]) ?_ 4 _ rfl; (with_reducible repeat (first | refine blk_drewN ?_ _ | refine blk_drew ?_ | refine blk_alloc ?_ _)); refine blk_put (cs := #[.int .i64 t381, .int .i64 t382, .int .i64 t383, .int .i64 0, .int .i64 0, .bool false, .bool false, .int .i64 0, .int .u32 0]) ?_ 3 _ rfl; (with_reducible repeat (first | refine blk_drewN ?_ _ | refine blk_drew ?_ | refine blk_alloc ?_ _)); refine blk_put (cs := #[.int .i64 t381, .int .i64 t382, .int .i64 0, .int .i64 0, .int .i64 0, .bool false, .bool false, .int .i64 0, .int .u32 0]) ?_ 2 _ rfl; (with_reducible repeat (first | refine blk_drewN ?_ _ | refine blk_drew ?_ | refine blk_alloc ?_ _)); refine blk_put (cs := #[.int .i64 t381, .int .i64 0, .int .i64 0, .int .i64 0, .int .i64 0, .bool false, .bool false, .int .i64 0, .int .u32 0]) ?_ 1 _ rfl; (with_reducible repeat (first | refine blk_drewN ?_ _ | refine blk_drew ?_ | refine blk_alloc ?_ _)); refine blk_put (cs := #[.int .i64 0, .int .i64 0, .int .i64 0, .int .i64 0, .int .i64 0, .bool false, .bool false, .int .i64 0, .int .u32 0]) ?_ 0 _ rfl; (with_reducible repeat (first | refine blk_drewN ?_ _ | refine blk_drew ?_ | refine blk_alloc ?_ _)); exact BK390.out) hb); have n1_ := Aside0.mk (below_step (by repeat (first | (with_reducible first | exact HB.out | apply below_alloc | apply pw_below_drewN | apply below_drew1 | refine below_set ?_ GE390.out) | exact HB.out)) hb); clear BK390; clear HB; have BK390 := n0_; have HB := n1_; clear n0_ n1_; (try clear hb); (try clear hb2); (try clear hk); (try clear hi); have hcz10_0 : w9.cell? ⟨gb390, 0, none⟩ = some (.int .i64 t381) := (blk_cell BK390.out 0).trans rfl; have hcz10_1 : w9.cell? ⟨gb390, 1, none⟩ = some (.int .i64 t382) := (blk_cell BK390.out 1).trans rfl; have hcz10_2 : w9.cell? ⟨gb390, 2, none⟩ = some (.int .i64 t383) := (blk_cell BK390.out 2).trans rfl; have hcz10_3 : w9.cell? ⟨gb390, 3, none⟩ = some (.int .i64 t384) := (blk_cell BK390.out 3).trans rfl; have hcz10_4 : w9.cell? ⟨gb390, 4, none⟩ = some (.int .i64 t385) := (blk_cell BK390.out 4).trans rfl; have hcz10_5 : w9.cell? ⟨gb390, 5, none⟩ = some (.bool t386) := (blk_cell BK390.out 5).trans rfl; have hcz10_6 : w9.cell? ⟨gb390, 6, none⟩ = some (.bool t387) := (blk_cell BK390.out 6).trans rfl; have hcz10_7 : w9.cell? ⟨gb390, 7, none⟩ = some (.int .i64 t388) := (blk_cell BK390.out 7).trans rfl; have hcz10_8 : w9.cell? ⟨gb390, 8, none⟩ = some (.int .u32 t389) := (blk_cell BK390.out 8).trans rfl; have hfz10_0 := blk_frozen BK390.out 0; have hfz10_1 := blk_frozen BK390.out 1; have hfz10_2 := blk_frozen BK390.out 2; have hfz10_3 := blk_frozen BK390.out 3; have hfz10_4 := blk_frozen BK390.out 4; have hfz10_5 := blk_frozen BK390.out 5; have hfz10_6 := blk_frozen BK390.out 6; have hfz10_7 := blk_frozen BK390.out 7; have hfz10_8 := blk_frozen BK390.out 8))
      go_meet
      case rel => exact ⟨_, ((t381 == 0)), (by first | rfl | (simp; done) | (simp [*]; done)), H', ⟨by first | omega | exact Nat.le_refl _⟩, ⟨by (with_reducible repeat (first | refine blk_drewN ?_ _ | refine blk_drew ?_ | refine blk_alloc ?_ _)); exact BK390.out⟩, ⟨by repeat (first | (with_reducible first | exact HB.out | apply below_alloc | apply pw_below_drewN | apply below_drew1 | refine below_set ?_ GE390.out) | exact HB.out)⟩⟩
    · replace c8 := Bool.eq_false_iff.mpr c8
      subst c8
      have H1 : (anvillaw06_EncodeBack.j0 k a0 true t381 t382 t383 t384 t385 t386 t387 t388 t389) = some r := by rw [if_neg (show ¬ (false = true) by decide)] at H; exact H
      clear H
      have H := H1
      clear H1
      have H' := Aside0.mk H
      clear H
      go_wp2_with (first | ((with_reducible refine gate_callee (f := 16) rfl ?_); refine goesL_ (some 14) rfl rfl Tryd.func16 (by kernel_rfl) rfl #[] rfl (by (try simp only [List.map_toArray, List.map_cons, List.map_nil]); first | done | rfl | (simp only [List.length_drop, List.length_take]; rfl)) ?_; (with_reducible refine (anvillaw06_live.calls k  false _ (by exact hT.below (by repeat (first | (with_reducible first | exact HB.out | apply below_alloc | apply pw_below_drewN | apply below_drew1 | refine below_set ?_ GE390.out) | exact HB.out))) A7.out).mono ?_); rintro e w11 ⟨rfl, hb⟩; refine ⟨_, rfl, ?_⟩; have n0_ := Aside0.mk (blk_below (g := gb390) (o := .cells #[.int .i64 t381, .int .i64 t382, .int .i64 t383, .int .i64 t384, .int .i64 t385, .bool t386, .bool t387, .int .i64 t388, .int .u32 t389] 24 (0, 0)) (by (with_reducible repeat (first | refine blk_drewN ?_ _ | refine blk_drew ?_ | refine blk_alloc ?_ _)); refine blk_put (cs := #[.int .i64 t381, .int .i64 t382, .int .i64 t383, .int .i64 t384, .int .i64 t385, .bool t386, .bool t387, .int .i64 t388, .int .u32 0]) ?_ 8 _ rfl; (with_reducible repeat (first | refine blk_drewN ?_ _ | refine blk_drew ?_ | refine blk_alloc ?_ _)); refine blk_put (cs := #[.int .i64 t381, .int .i64 t382, .int .i64 t383, .int .i64 t384, .int .i64 t385, .bool t386, .bool t387, .int .i64 0, .int .u32 0]) ?_ 7 _ rfl; (with_reducible repeat (first | refine blk_drewN ?_ _ | refine blk_drew ?_ | refine blk_alloc ?_ _)); refine blk_put (cs := #[.int .i64 t381, .int .i64 t382, .int .i64 t383, .int .i64 t384, .int .i64 t385, .bool t386, .bool false, .int .i64 0, .int .u32 0]) ?_ 6 _ rfl; (with_reducible repeat (first | refine blk_drewN ?_ _ | refine blk_drew ?_ | refine blk_alloc ?_ _)); refine blk_put (cs := #[.int .i64 t381, .int .i64 t382, .int .i64 t383, .int .i64 t384, .int .i64 t385, .bool false, .bool false, .int .i64 0, .int .u32 0]) ?_ 5 _ rfl; (with_reducible repeat (first | refine blk_drewN ?_ _ | refine blk_drew ?_ | refine blk_alloc ?_ _)); refine blk_put (cs := #[.int .i64 t381, .int .i64 t382, .int .i64 t383, .int .i64 t384, .int .i64 0, .bool false, .bool false, .int .i64 0, .int .u32 0]) ?_ 4 _ rfl; (with_reducible repeat (first | refine blk_drewN ?_ _ | refine blk_drew ?_ | refine blk_alloc ?_ _)); refine blk_put (cs := #[.int .i64 t381, .int .i64 t382, .int .i64 t383, .int .i64 0, .int .i64 0, .bool false, .bool false, .int .i64 0, .int .u32 0]) ?_ 3 _ rfl; (with_reducible repeat (first | refine blk_drewN ?_ _ | refine blk_drew ?_ | refine blk_alloc ?_ _)); refine blk_put (cs := #[.int .i64 t381, .int .i64 t382, .int .i64 0, .int .i64 0, .int .i64 0, .bool false, .bool false, .int .i64 0, .int .u32 0]) ?_ 2 _ rfl; (with_reducible repeat (first | refine blk_drewN ?_ _ | refine blk_drew ?_ | refine blk_alloc ?_ _)); refine blk_put (cs := #[.int .i64 t381, .int .i64 0, .int .i64 0, .int .i64 0, .int .i64 0, .bool false, .bool false, .int .i64 0, .int .u32 0]) ?_ 1 _ rfl; (with_reducible repeat (first | refine blk_drewN ?_ _ | refine blk_drew ?_ | refine blk_alloc ?_ _)); refine blk_put (cs := #[.int .i64 0, .int .i64 0, .int .i64 0, .int .i64 0, .int .i64 0, .bool false, .bool false, .int .i64 0, .int .u32 0]) ?_ 0 _ rfl; (with_reducible repeat (first | refine blk_drewN ?_ _ | refine blk_drew ?_ | refine blk_alloc ?_ _)); exact BK390.out) hb); have n1_ := Aside0.mk (below_step (by repeat (first | (with_reducible first | exact HB.out | apply below_alloc | apply pw_below_drewN | apply below_drew1 | refine below_set ?_ GE390.out) | exact HB.out)) hb); clear BK390; clear HB; have BK390 := n0_; have HB := n1_; clear n0_ n1_; (try clear hb); (try clear hb2); (try clear hk); (try clear hi)))
      go_meet
      case rel => exact ⟨_, (true), (by first | rfl | (simp; done) | (simp [*]; done)), H', ⟨by first | omega | exact Nat.le_refl _⟩, ⟨by (with_reducible repeat (first | refine blk_drewN ?_ _ | refine blk_drew ?_ | refine blk_alloc ?_ _)); exact BK390.out⟩, ⟨by repeat (first | (with_reducible first | exact HB.out | apply below_alloc | apply pw_below_drewN | apply below_drew1 | refine below_set ?_ GE390.out) | exact HB.out)⟩⟩
  case rest =>
    clear HC3
    try clear c1
    try clear p2
    try clear c6
    try clear c8
    try clear hcz10_0
    try clear hcz10_1
    try clear hcz10_2
    try clear hcz10_3
    try clear hcz10_4
    try clear hcz10_5
    try clear hcz10_6
    try clear hcz10_7
    try clear hcz10_8
    try clear hcz6_0
    try clear hcz6_1
    try clear hcz6_2
    try clear hcz6_3
    try clear hcz6_4
    try clear hcz6_5
    try clear hcz6_6
    try clear hcz6_7
    try clear hcz6_8
    try clear hfz10_0
    try clear hfz10_1
    try clear hfz10_2
    try clear hfz10_3
    try clear hfz10_4
    try clear hfz10_5
    try clear hfz10_6
    try clear hfz10_7
    try clear hfz10_8
    try clear hfz6_0
    try clear hfz6_1
    try clear hfz6_2
    try clear hfz6_3
    try clear hfz6_4
    try clear hfz6_5
    try clear hfz6_6
    try clear hfz6_7
    try clear hfz6_8
    obtain ⟨kq, x20_2, rfl, HA, HJ2, BK390, HB⟩ := hcut
    cases kq with
    | zero => exact absurd HA.out (by simp [anvillaw06_EncodeBack.j0])
    | succ kj2 =>
      have H := HA.out
      clear HA
      simp only [anvillaw06_EncodeBack.j0] at H
      by_cases c12 : x20_2 = true
      · subst c12
        have H1 : ((anvillaw06_live.f kj2).bind fun t392 => (if t392 = true then ((encode_Check.f t381 t382 t383 t384 t385 t386 t387 t388 t389).bind fun t393 => (some (t393 == 60))) else (some false))) = some r := by rw [if_pos rfl] at H; exact H
        clear H
        have H := H1
        clear H1
        replace H := Option.bind_eq_some_iff.mp H
        obtain ⟨t392, A130, H⟩ := H
        replace H : (if t392 = true then ((encode_Check.f t381 t382 t383 t384 t385 t386 t387 t388 t389).bind fun t393 => (some (t393 == 60))) else (some false)) = some r := H
        have A13 := Aside0.mk A130
        clear A130
        by_cases c14 : t392 = true
        · subst c14
          have H1 : ((encode_Check.f t381 t382 t383 t384 t385 t386 t387 t388 t389).bind fun t393 => (some (t393 == 60))) = some r := by rw [if_pos rfl] at H; exact H
          clear H
          have H := H1
          clear H1
          replace H := Option.bind_eq_some_iff.mp H
          obtain ⟨t393, A150, H⟩ := H
          replace H : (some (t393 == 60)) = some r := H
          have A15 := Aside0.mk A150
          clear A150
          obtain rfl := Option.some.inj H
          go_wp2_with (first | ((with_reducible refine gate_callee (f := 16) rfl ?_); refine goesL_ (some 21) rfl rfl Tryd.func16 (by kernel_rfl) rfl #[] rfl (by (try simp only [List.map_toArray, List.map_cons, List.map_nil]); first | done | rfl | (simp only [List.length_drop, List.length_take]; rfl)) ?_; (with_reducible refine (anvillaw06_live.calls kj2  true _ (by exact hT.below (by repeat (first | (with_reducible first | exact HB.out | apply below_alloc | apply pw_below_drewN | apply below_drew1 | refine below_set ?_ GE390.out) | exact HB.out))) A13.out).mono ?_); rintro e w16 ⟨rfl, hb⟩; refine ⟨_, rfl, ?_⟩; have n0_ := Aside0.mk (blk_below (g := gb390) (o := .cells #[.int .i64 t381, .int .i64 t382, .int .i64 t383, .int .i64 t384, .int .i64 t385, .bool t386, .bool t387, .int .i64 t388, .int .u32 t389] 24 (0, 0)) (by (with_reducible repeat (first | refine blk_drewN ?_ _ | refine blk_drew ?_ | refine blk_alloc ?_ _)); exact BK390.out) hb); have n1_ := Aside0.mk (below_step (by repeat (first | (with_reducible first | exact HB.out | apply below_alloc | apply pw_below_drewN | apply below_drew1 | refine below_set ?_ GE390.out) | exact HB.out)) hb); clear BK390; clear HB; have BK390 := n0_; have HB := n1_; clear n0_ n1_; (try clear hb); (try clear hb2); (try clear hk); (try clear hi); have hcz17_0 : w16.cell? ⟨gb390, 0, none⟩ = some (.int .i64 t381) := (blk_cell BK390.out 0).trans rfl; have hcz17_1 : w16.cell? ⟨gb390, 1, none⟩ = some (.int .i64 t382) := (blk_cell BK390.out 1).trans rfl; have hcz17_2 : w16.cell? ⟨gb390, 2, none⟩ = some (.int .i64 t383) := (blk_cell BK390.out 2).trans rfl; have hcz17_3 : w16.cell? ⟨gb390, 3, none⟩ = some (.int .i64 t384) := (blk_cell BK390.out 3).trans rfl; have hcz17_4 : w16.cell? ⟨gb390, 4, none⟩ = some (.int .i64 t385) := (blk_cell BK390.out 4).trans rfl; have hcz17_5 : w16.cell? ⟨gb390, 5, none⟩ = some (.bool t386) := (blk_cell BK390.out 5).trans rfl; have hcz17_6 : w16.cell? ⟨gb390, 6, none⟩ = some (.bool t387) := (blk_cell BK390.out 6).trans rfl; have hcz17_7 : w16.cell? ⟨gb390, 7, none⟩ = some (.int .i64 t388) := (blk_cell BK390.out 7).trans rfl; have hcz17_8 : w16.cell? ⟨gb390, 8, none⟩ = some (.int .u32 t389) := (blk_cell BK390.out 8).trans rfl; have hfz17_0 := blk_frozen BK390.out 0; have hfz17_1 := blk_frozen BK390.out 1; have hfz17_2 := blk_frozen BK390.out 2; have hfz17_3 := blk_frozen BK390.out 3; have hfz17_4 := blk_frozen BK390.out 4; have hfz17_5 := blk_frozen BK390.out 5; have hfz17_6 := blk_frozen BK390.out 6; have hfz17_7 := blk_frozen BK390.out 7; have hfz17_8 := blk_frozen BK390.out 8) | (go_at_call 11; (with_reducible refine (encode_Check.calls t381 t382 t383 t384 t385 t386 t387 t388 t389 t393 _ (by exact hT.below (by repeat (first | (with_reducible first | exact HB.out | apply below_alloc | apply pw_below_drewN | apply below_drew1 | refine below_set ?_ GE390.out) | exact HB.out))) A15.out).mono ?_); rintro e w18 ⟨rfl, hb⟩; have n0_ := Aside0.mk (blk_below (g := gb390) (o := .cells #[.int .i64 t381, .int .i64 t382, .int .i64 t383, .int .i64 t384, .int .i64 t385, .bool t386, .bool t387, .int .i64 t388, .int .u32 t389] 24 (0, 0)) (by (with_reducible repeat (first | refine blk_drewN ?_ _ | refine blk_drew ?_ | refine blk_alloc ?_ _)); exact BK390.out) hb); have n1_ := Aside0.mk (below_step (by repeat (first | (with_reducible first | exact HB.out | apply below_alloc | apply pw_below_drewN | apply below_drew1 | refine below_set ?_ GE390.out) | exact HB.out)) hb); clear BK390; clear HB; have BK390 := n0_; have HB := n1_; clear n0_ n1_; (try clear hb); (try clear hb2); (try clear hk); (try clear hi)))
          go_ret
          exact ⟨by first | rfl | (simp [Go.Proofs.YtiibhggjlandmaaDoor.PB.errW_none, Go.Proofs.YtiibhggjlandmaaDoor.PB.errW_some] <;> rfl) | (simp [*, Go.Proofs.YtiibhggjlandmaaDoor.PB.errW_none, Go.Proofs.YtiibhggjlandmaaDoor.PB.errW_some] <;> rfl), by repeat (first | (with_reducible first | exact HB.out | apply below_alloc | apply pw_below_drewN | apply below_drew1 | refine below_set ?_ GE390.out) | exact HB.out)⟩
        · replace c14 := Bool.eq_false_iff.mpr c14
          subst c14
          have H1 : (some false) = some r := by rw [if_neg (show ¬ (false = true) by decide)] at H; exact H
          clear H
          have H := H1
          clear H1
          obtain rfl := Option.some.inj H
          exact absurd hr.out (by decide)
      · replace c12 := Bool.eq_false_iff.mpr c12
        subst c12
        have H1 : ((encode_Check.f t381 t382 t383 t384 t385 t386 t387 t388 t389).bind fun t394 => (if t394 = 0 then ((encode_Encode.f kj2 t381 t382 t383 t384 t385 t386 t387 t388 t389).bind fun bt395 => (if bt395.2 = 0 then (if (Go.bits .and .u32 a0 3) = 3 then (some (bt395.1 == a0)) else ((decode_Expand.f kj2 (IntKind.u16.wrap (a0))).bind fun bt397 => ((encode_Compress.f kj2 t381 t382 t383 t384 t385 t386 t387 t388 t389).bind fun bt399 => (if bt397.2 = true then (if bt397.1 = bt395.1 then (if bt399.2 = true then (anvillaw06_EncodeBack.j1 kj2 bt395.1 bt399.1 (decide (bt399.1 > (IntKind.u16.wrap (a0)))) t381 t382 t383 t384 t385 t386 t387 t388 t389) else (anvillaw06_EncodeBack.j1 kj2 bt395.1 bt399.1 true t381 t382 t383 t384 t385 t386 t387 t388 t389)) else (anvillaw06_EncodeBack.j1 kj2 bt395.1 bt399.1 true t381 t382 t383 t384 t385 t386 t387 t388 t389)) else (anvillaw06_EncodeBack.j1 kj2 bt395.1 bt399.1 true t381 t382 t383 t384 t385 t386 t387 t388 t389))))) else (some false))) else (some false))) = some r := by rw [if_neg (show ¬ (false = true) by decide)] at H; exact H
        clear H
        have H := H1
        clear H1
        replace H := Option.bind_eq_some_iff.mp H
        obtain ⟨t394, A190, H⟩ := H
        replace H : (if t394 = 0 then ((encode_Encode.f kj2 t381 t382 t383 t384 t385 t386 t387 t388 t389).bind fun bt395 => (if bt395.2 = 0 then (if (Go.bits .and .u32 a0 3) = 3 then (some (bt395.1 == a0)) else ((decode_Expand.f kj2 (IntKind.u16.wrap (a0))).bind fun bt397 => ((encode_Compress.f kj2 t381 t382 t383 t384 t385 t386 t387 t388 t389).bind fun bt399 => (if bt397.2 = true then (if bt397.1 = bt395.1 then (if bt399.2 = true then (anvillaw06_EncodeBack.j1 kj2 bt395.1 bt399.1 (decide (bt399.1 > (IntKind.u16.wrap (a0)))) t381 t382 t383 t384 t385 t386 t387 t388 t389) else (anvillaw06_EncodeBack.j1 kj2 bt395.1 bt399.1 true t381 t382 t383 t384 t385 t386 t387 t388 t389)) else (anvillaw06_EncodeBack.j1 kj2 bt395.1 bt399.1 true t381 t382 t383 t384 t385 t386 t387 t388 t389)) else (anvillaw06_EncodeBack.j1 kj2 bt395.1 bt399.1 true t381 t382 t383 t384 t385 t386 t387 t388 t389))))) else (some false))) else (some false)) = some r := H
        have A19 := Aside0.mk A190
        clear A190
        by_cases c20 : t394 = 0
        · rw [if_pos c20] at H
          have c20b0 : (t394 == 0) = true := beq_iff_eq.mpr c20
          have c20b1 : (t394 != 0) = false := bne_eq_false_iff_eq.mpr c20
          clear c20
          replace H := Option.bind_eq_some_iff.mp H
          obtain ⟨⟨t395, t396⟩, A210, H⟩ := H
          replace H : (if t396 = 0 then (if (Go.bits .and .u32 a0 3) = 3 then (some (t395 == a0)) else ((decode_Expand.f kj2 (IntKind.u16.wrap (a0))).bind fun bt397 => ((encode_Compress.f kj2 t381 t382 t383 t384 t385 t386 t387 t388 t389).bind fun bt399 => (if bt397.2 = true then (if bt397.1 = t395 then (if bt399.2 = true then (anvillaw06_EncodeBack.j1 kj2 t395 bt399.1 (decide (bt399.1 > (IntKind.u16.wrap (a0)))) t381 t382 t383 t384 t385 t386 t387 t388 t389) else (anvillaw06_EncodeBack.j1 kj2 t395 bt399.1 true t381 t382 t383 t384 t385 t386 t387 t388 t389)) else (anvillaw06_EncodeBack.j1 kj2 t395 bt399.1 true t381 t382 t383 t384 t385 t386 t387 t388 t389)) else (anvillaw06_EncodeBack.j1 kj2 t395 bt399.1 true t381 t382 t383 t384 t385 t386 t387 t388 t389))))) else (some false)) = some r := H
          have A21 := Aside0.mk A210
          clear A210
          by_cases c22 : t396 = 0
          · rw [if_pos c22] at H
            have c22b0 : (t396 == 0) = true := beq_iff_eq.mpr c22
            have c22b1 : (t396 != 0) = false := bne_eq_false_iff_eq.mpr c22
            clear c22
            by_cases c23 : (Go.bits .and .u32 a0 3) = 3
            · rw [if_pos c23] at H
              have c23b0 : ((Go.bits .and .u32 a0 3) == 3) = true := beq_iff_eq.mpr c23
              have c23b1 : ((Go.bits .and .u32 a0 3) != 3) = false := bne_eq_false_iff_eq.mpr c23
              clear c23
              obtain rfl := Option.some.inj H
              have hcz24_0 : wc.cell? ⟨gb390, 0, none⟩ = some (.int .i64 t381) := (blk_cell BK390.out 0).trans rfl
              have hcz24_1 : wc.cell? ⟨gb390, 1, none⟩ = some (.int .i64 t382) := (blk_cell BK390.out 1).trans rfl
              have hcz24_2 : wc.cell? ⟨gb390, 2, none⟩ = some (.int .i64 t383) := (blk_cell BK390.out 2).trans rfl
              have hcz24_3 : wc.cell? ⟨gb390, 3, none⟩ = some (.int .i64 t384) := (blk_cell BK390.out 3).trans rfl
              have hcz24_4 : wc.cell? ⟨gb390, 4, none⟩ = some (.int .i64 t385) := (blk_cell BK390.out 4).trans rfl
              have hcz24_5 : wc.cell? ⟨gb390, 5, none⟩ = some (.bool t386) := (blk_cell BK390.out 5).trans rfl
              have hcz24_6 : wc.cell? ⟨gb390, 6, none⟩ = some (.bool t387) := (blk_cell BK390.out 6).trans rfl
              have hcz24_7 : wc.cell? ⟨gb390, 7, none⟩ = some (.int .i64 t388) := (blk_cell BK390.out 7).trans rfl
              have hcz24_8 : wc.cell? ⟨gb390, 8, none⟩ = some (.int .u32 t389) := (blk_cell BK390.out 8).trans rfl
              have hfz24_0 := blk_frozen BK390.out 0
              have hfz24_1 := blk_frozen BK390.out 1
              have hfz24_2 := blk_frozen BK390.out 2
              have hfz24_3 := blk_frozen BK390.out 3
              have hfz24_4 := blk_frozen BK390.out 4
              have hfz24_5 := blk_frozen BK390.out 5
              have hfz24_6 := blk_frozen BK390.out 6
              have hfz24_7 := blk_frozen BK390.out 7
              have hfz24_8 := blk_frozen BK390.out 8
              go_wp2_with (first | ((with_reducible refine gate_callee (f := 11) rfl ?_); refine goesL_ (some 28) rfl rfl Tryd.func11 (by kernel_rfl) rfl #[.agg #[.int .i64 t381, .int .i64 t382, .int .i64 t383, .int .i64 t384, .int .i64 t385, .bool t386, .bool t387, .int .i64 t388, .int .u32 t389]] rfl (by (try simp only [List.map_toArray, List.map_cons, List.map_nil]); first | done | rfl | (simp only [List.length_drop, List.length_take]; rfl)) ?_; (with_reducible refine (encode_Check.calls t381 t382 t383 t384 t385 t386 t387 t388 t389 t394 _ (by exact hT.below (by repeat (first | (with_reducible first | exact HB.out | apply below_alloc | apply pw_below_drewN | apply below_drew1 | refine below_set ?_ GE390.out) | exact HB.out))) A19.out).mono ?_); rintro e w25 ⟨rfl, hb⟩; refine ⟨_, rfl, ?_⟩; have n0_ := Aside0.mk (blk_below (g := gb390) (o := .cells #[.int .i64 t381, .int .i64 t382, .int .i64 t383, .int .i64 t384, .int .i64 t385, .bool t386, .bool t387, .int .i64 t388, .int .u32 t389] 24 (0, 0)) (by (with_reducible repeat (first | refine blk_drewN ?_ _ | refine blk_drew ?_ | refine blk_alloc ?_ _)); exact BK390.out) hb); have n1_ := Aside0.mk (below_step (by repeat (first | (with_reducible first | exact HB.out | apply below_alloc | apply pw_below_drewN | apply below_drew1 | refine below_set ?_ GE390.out) | exact HB.out)) hb); clear BK390; clear HB; have BK390 := n0_; have HB := n1_; clear n0_ n1_; (try clear hb); (try clear hb2); (try clear hk); (try clear hi); have hcz26_0 : w25.cell? ⟨gb390, 0, none⟩ = some (.int .i64 t381) := (blk_cell BK390.out 0).trans rfl; have hcz26_1 : w25.cell? ⟨gb390, 1, none⟩ = some (.int .i64 t382) := (blk_cell BK390.out 1).trans rfl; have hcz26_2 : w25.cell? ⟨gb390, 2, none⟩ = some (.int .i64 t383) := (blk_cell BK390.out 2).trans rfl; have hcz26_3 : w25.cell? ⟨gb390, 3, none⟩ = some (.int .i64 t384) := (blk_cell BK390.out 3).trans rfl; have hcz26_4 : w25.cell? ⟨gb390, 4, none⟩ = some (.int .i64 t385) := (blk_cell BK390.out 4).trans rfl; have hcz26_5 : w25.cell? ⟨gb390, 5, none⟩ = some (.bool t386) := (blk_cell BK390.out 5).trans rfl; have hcz26_6 : w25.cell? ⟨gb390, 6, none⟩ = some (.bool t387) := (blk_cell BK390.out 6).trans rfl; have hcz26_7 : w25.cell? ⟨gb390, 7, none⟩ = some (.int .i64 t388) := (blk_cell BK390.out 7).trans rfl; have hcz26_8 : w25.cell? ⟨gb390, 8, none⟩ = some (.int .u32 t389) := (blk_cell BK390.out 8).trans rfl; have hfz26_0 := blk_frozen BK390.out 0; have hfz26_1 := blk_frozen BK390.out 1; have hfz26_2 := blk_frozen BK390.out 2; have hfz26_3 := blk_frozen BK390.out 3; have hfz26_4 := blk_frozen BK390.out 4; have hfz26_5 := blk_frozen BK390.out 5; have hfz26_6 := blk_frozen BK390.out 6; have hfz26_7 := blk_frozen BK390.out 7; have hfz26_8 := blk_frozen BK390.out 8) | ((with_reducible refine gate_callee (f := 13) rfl ?_); refine goesL_ (some 32) rfl rfl Tryd.func13 (by kernel_rfl) rfl #[.agg #[.int .i64 t381, .int .i64 t382, .int .i64 t383, .int .i64 t384, .int .i64 t385, .bool t386, .bool t387, .int .i64 t388, .int .u32 t389]] rfl (by (try simp only [List.map_toArray, List.map_cons, List.map_nil]); first | done | rfl | (simp only [List.length_drop, List.length_take]; rfl)) ?_; (with_reducible refine (encode_Encode.calls kj2 t381 t382 t383 t384 t385 t386 t387 t388 t389 t395 t396 _ (by exact hT.below (by repeat (first | (with_reducible first | exact HB.out | apply below_alloc | apply pw_below_drewN | apply below_drew1 | refine below_set ?_ GE390.out) | exact HB.out))) A21.out).mono ?_); rintro e w27 ⟨rfl, hb⟩; refine ⟨_, rfl, ?_⟩; have n0_ := Aside0.mk (blk_below (g := gb390) (o := .cells #[.int .i64 t381, .int .i64 t382, .int .i64 t383, .int .i64 t384, .int .i64 t385, .bool t386, .bool t387, .int .i64 t388, .int .u32 t389] 24 (0, 0)) (by (with_reducible repeat (first | refine blk_drewN ?_ _ | refine blk_drew ?_ | refine blk_alloc ?_ _)); exact BK390.out) hb); have n1_ := Aside0.mk (below_step (by repeat (first | (with_reducible first | exact HB.out | apply below_alloc | apply pw_below_drewN | apply below_drew1 | refine below_set ?_ GE390.out) | exact HB.out)) hb); clear BK390; clear HB; have BK390 := n0_; have HB := n1_; clear n0_ n1_; (try clear hb); (try clear hb2); (try clear hk); (try clear hi)))
              go_ret
              exact ⟨by first | rfl | (simp [Go.Proofs.YtiibhggjlandmaaDoor.PB.errW_none, Go.Proofs.YtiibhggjlandmaaDoor.PB.errW_some] <;> rfl) | (simp [*, Go.Proofs.YtiibhggjlandmaaDoor.PB.errW_none, Go.Proofs.YtiibhggjlandmaaDoor.PB.errW_some] <;> rfl), by repeat (first | (with_reducible first | exact HB.out | apply below_alloc | apply pw_below_drewN | apply below_drew1 | refine below_set ?_ GE390.out) | exact HB.out)⟩
            · rw [if_neg c23] at H
              have c23b0 : ((Go.bits .and .u32 a0 3) == 3) = false := beq_eq_false_iff_ne.mpr c23
              have c23b1 : ((Go.bits .and .u32 a0 3) != 3) = true := bne_iff_ne.mpr c23
              replace H := Option.bind_eq_some_iff.mp H
              obtain ⟨⟨t397, t398⟩, A280, H⟩ := H
              replace H : ((encode_Compress.f kj2 t381 t382 t383 t384 t385 t386 t387 t388 t389).bind fun bt399 => (if t398 = true then (if t397 = t395 then (if bt399.2 = true then (anvillaw06_EncodeBack.j1 kj2 t395 bt399.1 (decide (bt399.1 > (IntKind.u16.wrap (a0)))) t381 t382 t383 t384 t385 t386 t387 t388 t389) else (anvillaw06_EncodeBack.j1 kj2 t395 bt399.1 true t381 t382 t383 t384 t385 t386 t387 t388 t389)) else (anvillaw06_EncodeBack.j1 kj2 t395 bt399.1 true t381 t382 t383 t384 t385 t386 t387 t388 t389)) else (anvillaw06_EncodeBack.j1 kj2 t395 bt399.1 true t381 t382 t383 t384 t385 t386 t387 t388 t389))) = some r := H
              have A28 := Aside0.mk A280
              clear A280
              replace H := Option.bind_eq_some_iff.mp H
              obtain ⟨⟨t399, t400⟩, A290, H⟩ := H
              replace H : (if t398 = true then (if t397 = t395 then (if t400 = true then (anvillaw06_EncodeBack.j1 kj2 t395 t399 (decide (t399 > (IntKind.u16.wrap (a0)))) t381 t382 t383 t384 t385 t386 t387 t388 t389) else (anvillaw06_EncodeBack.j1 kj2 t395 t399 true t381 t382 t383 t384 t385 t386 t387 t388 t389)) else (anvillaw06_EncodeBack.j1 kj2 t395 t399 true t381 t382 t383 t384 t385 t386 t387 t388 t389)) else (anvillaw06_EncodeBack.j1 kj2 t395 t399 true t381 t382 t383 t384 t385 t386 t387 t388 t389)) = some r := H
              have A29 := Aside0.mk A290
              clear A290
              have HC30 := Aside0.mk H
              clear H
              have hcz31_0 : wc.cell? ⟨gb390, 0, none⟩ = some (.int .i64 t381) := (blk_cell BK390.out 0).trans rfl
              have hcz31_1 : wc.cell? ⟨gb390, 1, none⟩ = some (.int .i64 t382) := (blk_cell BK390.out 1).trans rfl
              have hcz31_2 : wc.cell? ⟨gb390, 2, none⟩ = some (.int .i64 t383) := (blk_cell BK390.out 2).trans rfl
              have hcz31_3 : wc.cell? ⟨gb390, 3, none⟩ = some (.int .i64 t384) := (blk_cell BK390.out 3).trans rfl
              have hcz31_4 : wc.cell? ⟨gb390, 4, none⟩ = some (.int .i64 t385) := (blk_cell BK390.out 4).trans rfl
              have hcz31_5 : wc.cell? ⟨gb390, 5, none⟩ = some (.bool t386) := (blk_cell BK390.out 5).trans rfl
              have hcz31_6 : wc.cell? ⟨gb390, 6, none⟩ = some (.bool t387) := (blk_cell BK390.out 6).trans rfl
              have hcz31_7 : wc.cell? ⟨gb390, 7, none⟩ = some (.int .i64 t388) := (blk_cell BK390.out 7).trans rfl
              have hcz31_8 : wc.cell? ⟨gb390, 8, none⟩ = some (.int .u32 t389) := (blk_cell BK390.out 8).trans rfl
              have hfz31_0 := blk_frozen BK390.out 0
              have hfz31_1 := blk_frozen BK390.out 1
              have hfz31_2 := blk_frozen BK390.out 2
              have hfz31_3 := blk_frozen BK390.out 3
              have hfz31_4 := blk_frozen BK390.out 4
              have hfz31_5 := blk_frozen BK390.out 5
              have hfz31_6 := blk_frozen BK390.out 6
              have hfz31_7 := blk_frozen BK390.out 7
              have hfz31_8 := blk_frozen BK390.out 8
              go_upto_region 13 with (first | ((with_reducible refine gate_callee (f := 11) rfl ?_); refine goesL_ (some 28) rfl rfl Tryd.func11 (by kernel_rfl) rfl #[.agg #[.int .i64 t381, .int .i64 t382, .int .i64 t383, .int .i64 t384, .int .i64 t385, .bool t386, .bool t387, .int .i64 t388, .int .u32 t389]] rfl (by (try simp only [List.map_toArray, List.map_cons, List.map_nil]); first | done | rfl | (simp only [List.length_drop, List.length_take]; rfl)) ?_; (with_reducible refine (encode_Check.calls t381 t382 t383 t384 t385 t386 t387 t388 t389 t394 _ (by exact hT.below (by repeat (first | (with_reducible first | exact HB.out | apply below_alloc | apply pw_below_drewN | apply below_drew1 | refine below_set ?_ GE390.out) | exact HB.out))) A19.out).mono ?_); rintro e w32 ⟨rfl, hb⟩; refine ⟨_, rfl, ?_⟩; have n0_ := Aside0.mk (blk_below (g := gb390) (o := .cells #[.int .i64 t381, .int .i64 t382, .int .i64 t383, .int .i64 t384, .int .i64 t385, .bool t386, .bool t387, .int .i64 t388, .int .u32 t389] 24 (0, 0)) (by (with_reducible repeat (first | refine blk_drewN ?_ _ | refine blk_drew ?_ | refine blk_alloc ?_ _)); exact BK390.out) hb); have n1_ := Aside0.mk (below_step (by repeat (first | (with_reducible first | exact HB.out | apply below_alloc | apply pw_below_drewN | apply below_drew1 | refine below_set ?_ GE390.out) | exact HB.out)) hb); clear BK390; clear HB; have BK390 := n0_; have HB := n1_; clear n0_ n1_; (try clear hb); (try clear hb2); (try clear hk); (try clear hi); have hcz33_0 : w32.cell? ⟨gb390, 0, none⟩ = some (.int .i64 t381) := (blk_cell BK390.out 0).trans rfl; have hcz33_1 : w32.cell? ⟨gb390, 1, none⟩ = some (.int .i64 t382) := (blk_cell BK390.out 1).trans rfl; have hcz33_2 : w32.cell? ⟨gb390, 2, none⟩ = some (.int .i64 t383) := (blk_cell BK390.out 2).trans rfl; have hcz33_3 : w32.cell? ⟨gb390, 3, none⟩ = some (.int .i64 t384) := (blk_cell BK390.out 3).trans rfl; have hcz33_4 : w32.cell? ⟨gb390, 4, none⟩ = some (.int .i64 t385) := (blk_cell BK390.out 4).trans rfl; have hcz33_5 : w32.cell? ⟨gb390, 5, none⟩ = some (.bool t386) := (blk_cell BK390.out 5).trans rfl; have hcz33_6 : w32.cell? ⟨gb390, 6, none⟩ = some (.bool t387) := (blk_cell BK390.out 6).trans rfl; have hcz33_7 : w32.cell? ⟨gb390, 7, none⟩ = some (.int .i64 t388) := (blk_cell BK390.out 7).trans rfl; have hcz33_8 : w32.cell? ⟨gb390, 8, none⟩ = some (.int .u32 t389) := (blk_cell BK390.out 8).trans rfl; have hfz33_0 := blk_frozen BK390.out 0; have hfz33_1 := blk_frozen BK390.out 1; have hfz33_2 := blk_frozen BK390.out 2; have hfz33_3 := blk_frozen BK390.out 3; have hfz33_4 := blk_frozen BK390.out 4; have hfz33_5 := blk_frozen BK390.out 5; have hfz33_6 := blk_frozen BK390.out 6; have hfz33_7 := blk_frozen BK390.out 7; have hfz33_8 := blk_frozen BK390.out 8) | ((with_reducible refine gate_callee (f := 13) rfl ?_); refine goesL_ (some 32) rfl rfl Tryd.func13 (by kernel_rfl) rfl #[.agg #[.int .i64 t381, .int .i64 t382, .int .i64 t383, .int .i64 t384, .int .i64 t385, .bool t386, .bool t387, .int .i64 t388, .int .u32 t389]] rfl (by (try simp only [List.map_toArray, List.map_cons, List.map_nil]); first | done | rfl | (simp only [List.length_drop, List.length_take]; rfl)) ?_; (with_reducible refine (encode_Encode.calls kj2 t381 t382 t383 t384 t385 t386 t387 t388 t389 t395 t396 _ (by exact hT.below (by repeat (first | (with_reducible first | exact HB.out | apply below_alloc | apply pw_below_drewN | apply below_drew1 | refine below_set ?_ GE390.out) | exact HB.out))) A21.out).mono ?_); rintro e w34 ⟨rfl, hb⟩; refine ⟨_, rfl, ?_⟩; have n0_ := Aside0.mk (blk_below (g := gb390) (o := .cells #[.int .i64 t381, .int .i64 t382, .int .i64 t383, .int .i64 t384, .int .i64 t385, .bool t386, .bool t387, .int .i64 t388, .int .u32 t389] 24 (0, 0)) (by (with_reducible repeat (first | refine blk_drewN ?_ _ | refine blk_drew ?_ | refine blk_alloc ?_ _)); exact BK390.out) hb); have n1_ := Aside0.mk (below_step (by repeat (first | (with_reducible first | exact HB.out | apply below_alloc | apply pw_below_drewN | apply below_drew1 | refine below_set ?_ GE390.out) | exact HB.out)) hb); clear BK390; clear HB; have BK390 := n0_; have HB := n1_; clear n0_ n1_; (try clear hb); (try clear hb2); (try clear hk); (try clear hi)) | ((with_reducible refine gate_callee (f := 19) rfl ?_); refine goesL_ (some 46) rfl rfl Tryd.func19 (by kernel_rfl) rfl #[.int .u16 (IntKind.u16.wrap (a0))] rfl (by (try simp only [List.map_toArray, List.map_cons, List.map_nil]); first | done | rfl | (simp only [List.length_drop, List.length_take]; rfl)) ?_; (with_reducible refine (decode_Expand.calls kj2 (IntKind.u16.wrap (a0)) t397 t398 _ A28.out).mono ?_); rintro e w' ⟨rfl, ⟨nd, rfl⟩⟩; refine ⟨_, rfl, ?_⟩; have hcz35_0 : w34.cell? ⟨gb390, 0, none⟩ = some (.int .i64 t381) := (blk_cell BK390.out 0).trans rfl; have hcz35_1 : w34.cell? ⟨gb390, 1, none⟩ = some (.int .i64 t382) := (blk_cell BK390.out 1).trans rfl; have hcz35_2 : w34.cell? ⟨gb390, 2, none⟩ = some (.int .i64 t383) := (blk_cell BK390.out 2).trans rfl; have hcz35_3 : w34.cell? ⟨gb390, 3, none⟩ = some (.int .i64 t384) := (blk_cell BK390.out 3).trans rfl; have hcz35_4 : w34.cell? ⟨gb390, 4, none⟩ = some (.int .i64 t385) := (blk_cell BK390.out 4).trans rfl; have hcz35_5 : w34.cell? ⟨gb390, 5, none⟩ = some (.bool t386) := (blk_cell BK390.out 5).trans rfl; have hcz35_6 : w34.cell? ⟨gb390, 6, none⟩ = some (.bool t387) := (blk_cell BK390.out 6).trans rfl; have hcz35_7 : w34.cell? ⟨gb390, 7, none⟩ = some (.int .i64 t388) := (blk_cell BK390.out 7).trans rfl; have hcz35_8 : w34.cell? ⟨gb390, 8, none⟩ = some (.int .u32 t389) := (blk_cell BK390.out 8).trans rfl; have hfz35_0 := blk_frozen BK390.out 0; have hfz35_1 := blk_frozen BK390.out 1; have hfz35_2 := blk_frozen BK390.out 2; have hfz35_3 := blk_frozen BK390.out 3; have hfz35_4 := blk_frozen BK390.out 4; have hfz35_5 := blk_frozen BK390.out 5; have hfz35_6 := blk_frozen BK390.out 6; have hfz35_7 := blk_frozen BK390.out 7; have hfz35_8 := blk_frozen BK390.out 8) | ((with_reducible refine gate_callee (f := 15) rfl ?_); refine goesL_ (some 51) rfl rfl Tryd.func15 (by kernel_rfl) rfl #[.agg #[.int .i64 t381, .int .i64 t382, .int .i64 t383, .int .i64 t384, .int .i64 t385, .bool t386, .bool t387, .int .i64 t388, .int .u32 t389]] rfl (by (try simp only [List.map_toArray, List.map_cons, List.map_nil]); first | done | rfl | (simp only [List.length_drop, List.length_take]; rfl)) ?_; (with_reducible refine (encode_Compress.calls kj2 t381 t382 t383 t384 t385 t386 t387 t388 t389 t399 t400 _ (by exact hT.below (by repeat (first | (with_reducible first | exact HB.out | apply below_alloc | apply pw_below_drewN | apply below_drew1 | refine below_set ?_ GE390.out) | exact HB.out))) A29.out).mono ?_); rintro e w36 ⟨rfl, hb⟩; refine ⟨_, rfl, ?_⟩; have n0_ := Aside0.mk (blk_below (g := gb390) (o := .cells #[.int .i64 t381, .int .i64 t382, .int .i64 t383, .int .i64 t384, .int .i64 t385, .bool t386, .bool t387, .int .i64 t388, .int .u32 t389] 24 (0, 0)) (by (with_reducible repeat (first | refine blk_drewN ?_ _ | refine blk_drew ?_ | refine blk_alloc ?_ _)); exact BK390.out) hb); have n1_ := Aside0.mk (below_step (by repeat (first | (with_reducible first | exact HB.out | apply below_alloc | apply pw_below_drewN | apply below_drew1 | refine below_set ?_ GE390.out) | exact HB.out)) hb); clear BK390; clear HB; have BK390 := n0_; have HB := n1_; clear n0_ n1_; (try clear hb); (try clear hb2); (try clear hk); (try clear hi)))
              (try simp only [Act.put, List.setIfInBounds_toArray, List.set_cons_zero, List.set_cons_succ])
              go_cut [70] (fun v70 wc => ∃ (kq : Nat) (x70_29 : Bool), v70 = .bool x70_29 ∧ Aside0 (anvillaw06_EncodeBack.j1 kq t395 t399 x70_29 t381 t382 t383 t384 t385 t386 t387 t388 t389 = some r) ∧ Aside0 (kq ≤ kj2) ∧ Aside0 (wc.heap[gb390]? = some (.cells #[.int .i64 t381, .int .i64 t382, .int .i64 t383, .int .i64 t384, .int .i64 t385, .bool t386, .bool t387, .int .i64 t388, .int .u32 t389] 24 (0, 0))) ∧ Aside0 (Below w.heap.size w wc))
              case first =>
                have H := HC30.out
                clear HC30
                by_cases c37 : t398 = true
                · subst c37
                  have H1 : (if t397 = t395 then (if t400 = true then (anvillaw06_EncodeBack.j1 kj2 t395 t399 (decide (t399 > (IntKind.u16.wrap (a0)))) t381 t382 t383 t384 t385 t386 t387 t388 t389) else (anvillaw06_EncodeBack.j1 kj2 t395 t399 true t381 t382 t383 t384 t385 t386 t387 t388 t389)) else (anvillaw06_EncodeBack.j1 kj2 t395 t399 true t381 t382 t383 t384 t385 t386 t387 t388 t389)) = some r := by rw [if_pos rfl] at H; exact H
                  clear H
                  have H := H1
                  clear H1
                  by_cases c38 : t397 = t395
                  · rw [if_pos c38] at H
                    have c38b0 : (t397 == t395) = true := beq_iff_eq.mpr c38
                    have c38b1 : (t397 != t395) = false := bne_eq_false_iff_eq.mpr c38
                    clear c38
                    (first | rw [c38b0] | (simp only [i64_w, i32_w]; rw [c38b0]) | skip)
                    by_cases c39 : t400 = true
                    · subst c39
                      have H1 : (anvillaw06_EncodeBack.j1 kj2 t395 t399 (decide (t399 > (IntKind.u16.wrap (a0)))) t381 t382 t383 t384 t385 t386 t387 t388 t389) = some r := by rw [if_pos rfl] at H; exact H
                      clear H
                      have H := H1
                      clear H1
                      have H' := Aside0.mk H
                      clear H
                      go_wp2
                      go_meet
                      case rel => exact ⟨_, (decide (t399 > (IntKind.u16.wrap (a0)))), (by first | rfl | (simp; done) | (simp [*]; done)), H', ⟨by have := HJ2.out; first | omega | exact Nat.le_refl _⟩, ⟨by (with_reducible repeat (first | refine blk_drewN ?_ _ | refine blk_drew ?_ | refine blk_alloc ?_ _)); exact BK390.out⟩, ⟨by repeat (first | (with_reducible first | exact HB.out | apply below_alloc | apply pw_below_drewN | apply below_drew1 | refine below_set ?_ GE390.out) | exact HB.out)⟩⟩
                    · replace c39 := Bool.eq_false_iff.mpr c39
                      subst c39
                      have H1 : (anvillaw06_EncodeBack.j1 kj2 t395 t399 true t381 t382 t383 t384 t385 t386 t387 t388 t389) = some r := by rw [if_neg (show ¬ (false = true) by decide)] at H; exact H
                      clear H
                      have H := H1
                      clear H1
                      exact absurd (hr.out.symm.trans (by cases kj2 with | zero => simp [anvillaw06_EncodeBack.j1] at H | succ kk_ => (simp [anvillaw06_EncodeBack.j1] at H; first | exact H | exact H.symm) : r = false)) (by decide)
                  · rw [if_neg c38] at H
                    have c38b0 : (t397 == t395) = false := beq_eq_false_iff_ne.mpr c38
                    have c38b1 : (t397 != t395) = true := bne_iff_ne.mpr c38
                    (first | rw [c38b0] | (simp only [i64_w, i32_w]; rw [c38b0]) | skip)
                    exact absurd (hr.out.symm.trans (by cases kj2 with | zero => simp [anvillaw06_EncodeBack.j1] at H | succ kk_ => (simp [anvillaw06_EncodeBack.j1] at H; first | exact H | exact H.symm) : r = false)) (by decide)
                · replace c37 := Bool.eq_false_iff.mpr c37
                  subst c37
                  have H1 : (anvillaw06_EncodeBack.j1 kj2 t395 t399 true t381 t382 t383 t384 t385 t386 t387 t388 t389) = some r := by rw [if_neg (show ¬ (false = true) by decide)] at H; exact H
                  clear H
                  have H := H1
                  clear H1
                  exact absurd (hr.out.symm.trans (by cases kj2 with | zero => simp [anvillaw06_EncodeBack.j1] at H | succ kk_ => (simp [anvillaw06_EncodeBack.j1] at H; first | exact H | exact H.symm) : r = false)) (by decide)
              case rest =>
                clear HC30
                try clear c1
                try clear c2
                try clear p2
                try clear c3
                try clear c6
                try clear c8
                try clear c11
                try clear c12
                try clear c13
                try clear c14
                try clear c15
                try clear c16
                try clear c17
                try clear c19
                try clear c20
                try clear c20b0
                try clear c20b1
                try clear c22
                try clear c22b0
                try clear c22b1
                try clear c23
                try clear c23b0
                try clear c23b1
                try clear c37
                try clear c38
                try clear c38b0
                try clear c38b1
                try clear c39
                try clear hcz10_0
                try clear hcz10_1
                try clear hcz10_2
                try clear hcz10_3
                try clear hcz10_4
                try clear hcz10_5
                try clear hcz10_6
                try clear hcz10_7
                try clear hcz10_8
                try clear hcz17_0
                try clear hcz17_1
                try clear hcz17_2
                try clear hcz17_3
                try clear hcz17_4
                try clear hcz17_5
                try clear hcz17_6
                try clear hcz17_7
                try clear hcz17_8
                try clear hcz24_0
                try clear hcz24_1
                try clear hcz24_2
                try clear hcz24_3
                try clear hcz24_4
                try clear hcz24_5
                try clear hcz24_6
                try clear hcz24_7
                try clear hcz24_8
                try clear hcz26_0
                try clear hcz26_1
                try clear hcz26_2
                try clear hcz26_3
                try clear hcz26_4
                try clear hcz26_5
                try clear hcz26_6
                try clear hcz26_7
                try clear hcz26_8
                try clear hcz31_0
                try clear hcz31_1
                try clear hcz31_2
                try clear hcz31_3
                try clear hcz31_4
                try clear hcz31_5
                try clear hcz31_6
                try clear hcz31_7
                try clear hcz31_8
                try clear hcz33_0
                try clear hcz33_1
                try clear hcz33_2
                try clear hcz33_3
                try clear hcz33_4
                try clear hcz33_5
                try clear hcz33_6
                try clear hcz33_7
                try clear hcz33_8
                try clear hcz35_0
                try clear hcz35_1
                try clear hcz35_2
                try clear hcz35_3
                try clear hcz35_4
                try clear hcz35_5
                try clear hcz35_6
                try clear hcz35_7
                try clear hcz35_8
                try clear hcz6_0
                try clear hcz6_1
                try clear hcz6_2
                try clear hcz6_3
                try clear hcz6_4
                try clear hcz6_5
                try clear hcz6_6
                try clear hcz6_7
                try clear hcz6_8
                try clear hfz10_0
                try clear hfz10_1
                try clear hfz10_2
                try clear hfz10_3
                try clear hfz10_4
                try clear hfz10_5
                try clear hfz10_6
                try clear hfz10_7
                try clear hfz10_8
                try clear hfz17_0
                try clear hfz17_1
                try clear hfz17_2
                try clear hfz17_3
                try clear hfz17_4
                try clear hfz17_5
                try clear hfz17_6
                try clear hfz17_7
                try clear hfz17_8
                try clear hfz24_0
                try clear hfz24_1
                try clear hfz24_2
                try clear hfz24_3
                try clear hfz24_4
                try clear hfz24_5
                try clear hfz24_6
                try clear hfz24_7
                try clear hfz24_8
                try clear hfz26_0
                try clear hfz26_1
                try clear hfz26_2
                try clear hfz26_3
                try clear hfz26_4
                try clear hfz26_5
                try clear hfz26_6
                try clear hfz26_7
                try clear hfz26_8
                try clear hfz31_0
                try clear hfz31_1
                try clear hfz31_2
                try clear hfz31_3
                try clear hfz31_4
                try clear hfz31_5
                try clear hfz31_6
                try clear hfz31_7
                try clear hfz31_8
                try clear hfz33_0
                try clear hfz33_1
                try clear hfz33_2
                try clear hfz33_3
                try clear hfz33_4
                try clear hfz33_5
                try clear hfz33_6
                try clear hfz33_7
                try clear hfz33_8
                try clear hfz35_0
                try clear hfz35_1
                try clear hfz35_2
                try clear hfz35_3
                try clear hfz35_4
                try clear hfz35_5
                try clear hfz35_6
                try clear hfz35_7
                try clear hfz35_8
                try clear hfz6_0
                try clear hfz6_1
                try clear hfz6_2
                try clear hfz6_3
                try clear hfz6_4
                try clear hfz6_5
                try clear hfz6_6
                try clear hfz6_7
                try clear hfz6_8
                try clear p2
                obtain ⟨kq, x70_29, rfl, HA, HJ29, BK390, HB⟩ := hcut
                cases kq with
                | zero => exact absurd HA.out (by simp [anvillaw06_EncodeBack.j1])
                | succ kj29 =>
                  have H := HA.out
                  clear HA
                  simp only [anvillaw06_EncodeBack.j1] at H
                  by_cases c40 : x70_29 = true
                  · subst c40
                    have H1 : (some false) = some r := by rw [if_pos rfl] at H; exact H
                    clear H
                    have H := H1
                    clear H1
                    obtain rfl := Option.some.inj H
                    exact absurd hr.out (by decide)
                  · replace c40 := Bool.eq_false_iff.mpr c40
                    subst c40
                    have H1 : ((decode_Expand.f kj29 t399).bind fun bt401 => (if bt401.2 = true then (if bt401.1 = t395 then ((decode_Decode.f kj29 ((t399) % 4294967296)).bind fun bt403 => ((anvillaw06_bare.f bt403.1 bt403.2.1 bt403.2.2.1 bt403.2.2.2.1 bt403.2.2.2.2.1 bt403.2.2.2.2.2.1 bt403.2.2.2.2.2.2.1 bt403.2.2.2.2.2.2.2.1 bt403.2.2.2.2.2.2.2.2).bind fun bt412 => ((anvillaw06_bare.f t381 t382 t383 t384 t385 t386 t387 t388 t389).bind fun bt421 => (some (bt412.1 == bt421.1 && (bt412.2.1 == bt421.2.1 && (bt412.2.2.1 == bt421.2.2.1 && (bt412.2.2.2.1 == bt421.2.2.2.1 && (bt412.2.2.2.2.1 == bt421.2.2.2.2.1 && (bt412.2.2.2.2.2.1 == bt421.2.2.2.2.2.1 && (bt412.2.2.2.2.2.2.1 == bt421.2.2.2.2.2.2.1 && (bt412.2.2.2.2.2.2.2.1 == bt421.2.2.2.2.2.2.2.1 && (bt412.2.2.2.2.2.2.2.2 == bt421.2.2.2.2.2.2.2.2))))))))))))) else (some false)) else (some false))) = some r := by rw [if_neg (show ¬ (false = true) by decide)] at H; exact H
                    clear H
                    have H := H1
                    clear H1
                    replace H := Option.bind_eq_some_iff.mp H
                    obtain ⟨⟨t401, t402⟩, A410, H⟩ := H
                    replace H : (if t402 = true then (if t401 = t395 then ((decode_Decode.f kj29 ((t399) % 4294967296)).bind fun bt403 => ((anvillaw06_bare.f bt403.1 bt403.2.1 bt403.2.2.1 bt403.2.2.2.1 bt403.2.2.2.2.1 bt403.2.2.2.2.2.1 bt403.2.2.2.2.2.2.1 bt403.2.2.2.2.2.2.2.1 bt403.2.2.2.2.2.2.2.2).bind fun bt412 => ((anvillaw06_bare.f t381 t382 t383 t384 t385 t386 t387 t388 t389).bind fun bt421 => (some (bt412.1 == bt421.1 && (bt412.2.1 == bt421.2.1 && (bt412.2.2.1 == bt421.2.2.1 && (bt412.2.2.2.1 == bt421.2.2.2.1 && (bt412.2.2.2.2.1 == bt421.2.2.2.2.1 && (bt412.2.2.2.2.2.1 == bt421.2.2.2.2.2.1 && (bt412.2.2.2.2.2.2.1 == bt421.2.2.2.2.2.2.1 && (bt412.2.2.2.2.2.2.2.1 == bt421.2.2.2.2.2.2.2.1 && (bt412.2.2.2.2.2.2.2.2 == bt421.2.2.2.2.2.2.2.2))))))))))))) else (some false)) else (some false)) = some r := H
                    have A41 := Aside0.mk A410
                    clear A410
                    by_cases c42 : t402 = true
                    · subst c42
                      have H1 : (if t401 = t395 then ((decode_Decode.f kj29 ((t399) % 4294967296)).bind fun bt403 => ((anvillaw06_bare.f bt403.1 bt403.2.1 bt403.2.2.1 bt403.2.2.2.1 bt403.2.2.2.2.1 bt403.2.2.2.2.2.1 bt403.2.2.2.2.2.2.1 bt403.2.2.2.2.2.2.2.1 bt403.2.2.2.2.2.2.2.2).bind fun bt412 => ((anvillaw06_bare.f t381 t382 t383 t384 t385 t386 t387 t388 t389).bind fun bt421 => (some (bt412.1 == bt421.1 && (bt412.2.1 == bt421.2.1 && (bt412.2.2.1 == bt421.2.2.1 && (bt412.2.2.2.1 == bt421.2.2.2.1 && (bt412.2.2.2.2.1 == bt421.2.2.2.2.1 && (bt412.2.2.2.2.2.1 == bt421.2.2.2.2.2.1 && (bt412.2.2.2.2.2.2.1 == bt421.2.2.2.2.2.2.1 && (bt412.2.2.2.2.2.2.2.1 == bt421.2.2.2.2.2.2.2.1 && (bt412.2.2.2.2.2.2.2.2 == bt421.2.2.2.2.2.2.2.2))))))))))))) else (some false)) = some r := by rw [if_pos rfl] at H; exact H
                      clear H
                      have H := H1
                      clear H1
                      by_cases c43 : t401 = t395
                      · rw [if_pos c43] at H
                        have c43b0 : (t401 == t395) = true := beq_iff_eq.mpr c43
                        have c43b1 : (t401 != t395) = false := bne_eq_false_iff_eq.mpr c43
                        clear c43
                        replace H := Option.bind_eq_some_iff.mp H
                        obtain ⟨⟨t403, t404, t405, t406, t407, t408, t409, t410, t411⟩, A440, H⟩ := H
                        replace H : ((anvillaw06_bare.f t403 t404 t405 t406 t407 t408 t409 t410 t411).bind fun bt412 => ((anvillaw06_bare.f t381 t382 t383 t384 t385 t386 t387 t388 t389).bind fun bt421 => (some (bt412.1 == bt421.1 && (bt412.2.1 == bt421.2.1 && (bt412.2.2.1 == bt421.2.2.1 && (bt412.2.2.2.1 == bt421.2.2.2.1 && (bt412.2.2.2.2.1 == bt421.2.2.2.2.1 && (bt412.2.2.2.2.2.1 == bt421.2.2.2.2.2.1 && (bt412.2.2.2.2.2.2.1 == bt421.2.2.2.2.2.2.1 && (bt412.2.2.2.2.2.2.2.1 == bt421.2.2.2.2.2.2.2.1 && (bt412.2.2.2.2.2.2.2.2 == bt421.2.2.2.2.2.2.2.2)))))))))))) = some r := H
                        have A44 := Aside0.mk A440
                        clear A440
                        replace H := Option.bind_eq_some_iff.mp H
                        obtain ⟨⟨t412, t413, t414, t415, t416, t417, t418, t419, t420⟩, A450, H⟩ := H
                        replace H : ((anvillaw06_bare.f t381 t382 t383 t384 t385 t386 t387 t388 t389).bind fun bt421 => (some (t412 == bt421.1 && (t413 == bt421.2.1 && (t414 == bt421.2.2.1 && (t415 == bt421.2.2.2.1 && (t416 == bt421.2.2.2.2.1 && (t417 == bt421.2.2.2.2.2.1 && (t418 == bt421.2.2.2.2.2.2.1 && (t419 == bt421.2.2.2.2.2.2.2.1 && (t420 == bt421.2.2.2.2.2.2.2.2))))))))))) = some r := H
                        have A45 := Aside0.mk A450
                        clear A450
                        replace H := Option.bind_eq_some_iff.mp H
                        obtain ⟨⟨t421, t422, t423, t424, t425, t426, t427, t428, t429⟩, A460, H⟩ := H
                        replace H : (some (t412 == t421 && (t413 == t422 && (t414 == t423 && (t415 == t424 && (t416 == t425 && (t417 == t426 && (t418 == t427 && (t419 == t428 && (t420 == t429)))))))))) = some r := H
                        have A46 := Aside0.mk A460
                        clear A460
                        obtain rfl := Option.some.inj H
                        try go_wp2_with (first | ((with_reducible refine gate_callee (f := 19) rfl ?_); refine goesL_ (some 73) rfl rfl Tryd.func19 (by kernel_rfl) rfl #[.int .u16 t399] rfl (by (try simp only [List.map_toArray, List.map_cons, List.map_nil]); first | done | rfl | (simp only [List.length_drop, List.length_take]; rfl)) ?_; (with_reducible refine (decode_Expand.calls kj29 t399 t401 true _ A41.out).mono ?_); rintro e w' ⟨rfl, ⟨nd, rfl⟩⟩; refine ⟨_, rfl, ?_⟩))
                        (try (rw [drewN_self wc]; generalize hq_ : World.drewN wc _ = wc; have n0_ : Aside0 (wc.heap[gb390]? = some (.cells #[.int .i64 t381, .int .i64 t382, .int .i64 t383, .int .i64 t384, .int .i64 t385, .bool t386, .bool t387, .int .i64 t388, .int .u32 t389] 24 (0, 0))) := ⟨by rw [← hq_]; exact (by (with_reducible repeat (first | refine blk_drewN ?_ _ | refine blk_drew ?_ | refine blk_alloc ?_ _)); exact BK390.out)⟩; have n1_ : Aside0 (Below w.heap.size w wc) := ⟨by rw [← hq_]; exact (by repeat (first | (with_reducible first | exact HB.out | apply below_alloc | apply pw_below_drewN | apply below_drew1 | refine below_set ?_ GE390.out) | exact HB.out))⟩; clear BK390 HB hq_; have BK390 := n0_; have HB := n1_; clear n0_ n1_))
                        have n0_ := Aside0.mk (blk_drew BK390.out)
                        have n1_ := Aside0.mk (below_drew1 HB.out)
                        clear BK390
                        clear HB
                        have BK390 := n0_
                        have HB := n1_
                        clear n0_ n1_
                        refine start_ (n := 16) (S := fun w' => w'.cell? ⟨gb390, 0, none⟩ = some (.int .i64 t381) ∧ w'.cell? ⟨gb390, 1, none⟩ = some (.int .i64 t382) ∧ w'.cell? ⟨gb390, 2, none⟩ = some (.int .i64 t383) ∧ w'.cell? ⟨gb390, 3, none⟩ = some (.int .i64 t384) ∧ w'.cell? ⟨gb390, 4, none⟩ = some (.int .i64 t385) ∧ w'.cell? ⟨gb390, 5, none⟩ = some (.bool t386) ∧ w'.cell? ⟨gb390, 6, none⟩ = some (.bool t387) ∧ w'.cell? ⟨gb390, 7, none⟩ = some (.int .i64 t388) ∧ w'.cell? ⟨gb390, 8, none⟩ = some (.int .u32 t389)) (ds := []) #[false, false, false, false, false, false, false, false, false, false, false, false, false, false, false, false] (by kernel_rfl) rfl rfl ⟨(blk_cell BK390.out 0).trans rfl, (blk_cell BK390.out 1).trans rfl, (blk_cell BK390.out 2).trans rfl, (blk_cell BK390.out 3).trans rfl, (blk_cell BK390.out 4).trans rfl, (blk_cell BK390.out 5).trans rfl, (blk_cell BK390.out 6).trans rfl, (blk_cell BK390.out 7).trans rfl, (blk_cell BK390.out 8).trans rfl⟩ (fun hHeld => ?_); refine with_tabW anvillaw06_EncodeBack.tab16 anvillaw06_EncodeBack.bits16 (fun HT_ HW_ => ?_)
                        generalize wc.drew = w47 at BK390 HB hHeld ⊢
                        refine pure_ (i := 0) (N := some 76) (v := ?_) (a' := ?_) #[true, false, false, false, false, false, false, false, false, false, false, false, false, false, false, false] rfl rfl (any_of HT_.out (by kernel_rfl)) (fun _ _ _ h => h) (Or.inl ⟨by rfl, ?_⟩) ?_ ?_
                        rotate_left
                        · intro w'
                          go_simp
                          with_reducible rfl
                        rotate_left
                        · simp only [Act.put, List.setIfInBounds_toArray, List.set_cons_zero, List.set_cons_succ, i64_w, i32_w]
                          rfl
                        refine pure_ (i := 1) (N := some 77) (v := ?_) (a' := ?_) #[true, true, false, false, false, false, false, false, false, false, false, false, false, false, false, false] rfl rfl (any_of HT_.out (by kernel_rfl)) (fun _ _ _ h => h) (Or.inl ⟨by rfl, ?_⟩) ?_ ?_
                        rotate_left
                        · intro w'
                          go_simp
                          with_reducible rfl
                        rotate_left
                        · simp only [Act.put, List.setIfInBounds_toArray, List.set_cons_zero, List.set_cons_succ, i64_w, i32_w]
                          rfl
                        refine pure_ (i := 2) (N := some 78) (v := ?_) (a' := ?_) #[true, true, true, false, false, false, false, false, false, false, false, false, false, false, false, false] rfl rfl (any_of HT_.out (by kernel_rfl)) (fun _ _ _ h => h) (Or.inl ⟨by rfl, ?_⟩) ?_ ?_
                        rotate_left
                        · intro w'
                          go_simp
                          with_reducible rfl
                        rotate_left
                        · simp only [Act.put, List.setIfInBounds_toArray, List.set_cons_zero, List.set_cons_succ, i64_w, i32_w]
                          rfl
                        refine pure_ (i := 3) (N := some 79) (v := ?_) (a' := ?_) #[true, true, true, true, false, false, false, false, false, false, false, false, false, false, false, false] rfl rfl (any_of HT_.out (by kernel_rfl)) (fun _ _ _ h => h) (Or.inl ⟨by rfl, ?_⟩) ?_ ?_
                        rotate_left
                        · intro w'
                          go_simp
                          with_reducible rfl
                        rotate_left
                        · simp only [Act.put, List.setIfInBounds_toArray, List.set_cons_zero, List.set_cons_succ, i64_w, i32_w]
                          rfl
                        refine pure_ (i := 4) (N := some 80) (v := ?_) (a' := ?_) #[true, true, true, true, true, false, false, false, false, false, false, false, false, false, false, false] rfl rfl (any_of HT_.out (by kernel_rfl)) (fun _ _ _ h => h) (Or.inl ⟨by rfl, ?_⟩) ?_ ?_
                        rotate_left
                        · intro w'
                          go_simp
                          with_reducible rfl
                        rotate_left
                        · simp only [Act.put, List.setIfInBounds_toArray, List.set_cons_zero, List.set_cons_succ, i64_w, i32_w]
                          rfl
                        refine pure_ (i := 5) (N := some 81) (v := ?_) (a' := ?_) #[true, true, true, true, true, true, false, false, false, false, false, false, false, false, false, false] rfl rfl (any_of HT_.out (by kernel_rfl)) (fun _ _ _ h => h) (Or.inl ⟨by rfl, ?_⟩) ?_ ?_
                        rotate_left
                        · intro w'
                          go_simp
                          with_reducible rfl
                        rotate_left
                        · simp only [Act.put, List.setIfInBounds_toArray, List.set_cons_zero, List.set_cons_succ, i64_w, i32_w]
                          rfl
                        refine pure_ (i := 6) (N := some 82) (v := ?_) (a' := ?_) #[true, true, true, true, true, true, true, false, false, false, false, false, false, false, false, false] rfl rfl (any_of HT_.out (by kernel_rfl)) (fun _ _ _ h => h) (Or.inl ⟨by rfl, ?_⟩) ?_ ?_
                        rotate_left
                        · intro w'
                          go_simp
                          with_reducible rfl
                        rotate_left
                        · simp only [Act.put, List.setIfInBounds_toArray, List.set_cons_zero, List.set_cons_succ, i64_w, i32_w]
                          rfl
                        refine pure_ (i := 7) (N := some 83) (v := ?_) (a' := ?_) #[true, true, true, true, true, true, true, true, false, false, false, false, false, false, false, false] rfl rfl (any_of HT_.out (by kernel_rfl)) (fun _ _ _ h => h) (Or.inl ⟨by rfl, ?_⟩) ?_ ?_
                        rotate_left
                        · intro w'
                          go_simp
                          with_reducible rfl
                        rotate_left
                        · simp only [Act.put, List.setIfInBounds_toArray, List.set_cons_zero, List.set_cons_succ, i64_w, i32_w]
                          rfl
                        refine pure_ (i := 8) (N := some 84) (v := ?_) (a' := ?_) #[true, true, true, true, true, true, true, true, true, false, false, false, false, false, false, false] rfl rfl (any_of HT_.out (by kernel_rfl)) (fun _ _ _ h => h) (Or.inl ⟨by rfl, ?_⟩) ?_ ?_
                        rotate_left
                        · intro w'
                          go_simp
                          with_reducible rfl
                        rotate_left
                        · simp only [Act.put, List.setIfInBounds_toArray, List.set_cons_zero, List.set_cons_succ, i64_w, i32_w]
                          rfl
                        refine take_ (i := 11) (N := some 87) (v := ?_) (a' := ?_) #[true, true, true, true, true, true, true, true, true, false, false, true, false, false, false, false] rfl rfl (take_ofW HT_.out HW_.out (by kernel_rfl)) (fun _ _ _ h => h) (Or.inl ⟨by rfl, ?_⟩) hHeld ?_ ?_
                        rotate_left
                        · rintro w' ⟨s0, s1, s2, s3, s4, s5, s6, s7, s8⟩
                          go_simp
                          with_reducible rfl
                        rotate_left
                        · simp only [Act.put, List.setIfInBounds_toArray, List.set_cons_zero, List.set_cons_succ, i64_w, i32_w]
                          rfl
                        refine one_ (i := 9) (N := some 85) #[true, true, true, true, true, true, true, true, true, true, false, true, false, false, false, false] rfl rfl (one_of HT_.out (by kernel_rfl)) (by decide) (fun K hK => ?_)
                        refine goes_ Tryd.func17 (by kernel_rfl) rfl #[.int .u32 ((t399) % 4294967296)] (by rfl) rfl rfl (by (try simp only [List.map_toArray, List.map_cons, List.map_nil]); first | done | rfl | (simp only [List.length_drop, List.length_take]; rfl)) ?_
                        with_reducible refine (decode_Decode.calls kj29 ((t399) % 4294967296) t403 t404 t405 t406 t407 t408 t409 t410 t411 _ A44.out).mono ?_
                        rintro e w48 ⟨rfl, hb⟩
                        refine ⟨_, rfl, ?_⟩
                        have n0_ := Aside0.mk (blk_below (g := gb390) (o := .cells #[.int .i64 t381, .int .i64 t382, .int .i64 t383, .int .i64 t384, .int .i64 t385, .bool t386, .bool t387, .int .i64 t388, .int .u32 t389] 24 (0, 0)) (by (with_reducible repeat (first | refine blk_drewN ?_ _ | refine blk_drew ?_ | refine blk_alloc ?_ _)); exact BK390.out) hb)
                        have n1_ := Aside0.mk (below_step (by repeat (first | (with_reducible first | exact HB.out | apply below_alloc | apply pw_below_drewN | apply below_drew1 | refine below_set ?_ GE390.out) | exact HB.out)) hb)
                        clear BK390
                        clear HB
                        have BK390 := n0_
                        have HB := n1_
                        clear n0_ n1_
                        (try clear hb)
                        (try clear hb2)
                        (try clear hk)
                        (try clear hi)
                        refine hK.out _ _ ⟨(blk_cell BK390.out 0).trans rfl, (blk_cell BK390.out 1).trans rfl, (blk_cell BK390.out 2).trans rfl, (blk_cell BK390.out 3).trans rfl, (blk_cell BK390.out 4).trans rfl, (blk_cell BK390.out 5).trans rfl, (blk_cell BK390.out 6).trans rfl, (blk_cell BK390.out 7).trans rfl, (blk_cell BK390.out 8).trans rfl⟩ (fun hHeld => ?_)
                        clear hK K
                        refine norm_ (a' := ?_) ?_ ?_
                        rotate_left
                        · show Act.put _ (some 85) _ = _
                          simp only [Act.put, List.setIfInBounds_toArray, List.set_cons_zero, List.set_cons_succ, i64_w, i32_w]
                          rfl
                        refine one_ (i := 10) (N := some 86) #[true, true, true, true, true, true, true, true, true, true, true, true, false, false, false, false] rfl rfl (one_of HT_.out (by kernel_rfl)) (by decide) (fun K hK => ?_)
                        refine goes_ Tryd.func18 (by kernel_rfl) rfl #[.agg #[.int .i64 t403, .int .i64 t404, .int .i64 t405, .int .i64 t406, .int .i64 t407, .bool t408, .bool t409, .int .i64 t410, .int .u32 t411]] (by rfl) rfl rfl (by (try simp only [List.map_toArray, List.map_cons, List.map_nil]); first | done | rfl | (simp only [List.length_drop, List.length_take]; rfl)) ?_
                        with_reducible refine (anvillaw06_bare.calls t403 t404 t405 t406 t407 t408 t409 t410 t411 t412 t413 t414 t415 t416 t417 t418 t419 t420 _ A45.out).mono ?_
                        rintro e w49 ⟨rfl, hb⟩
                        refine ⟨_, rfl, ?_⟩
                        have n0_ := Aside0.mk (blk_below (g := gb390) (o := .cells #[.int .i64 t381, .int .i64 t382, .int .i64 t383, .int .i64 t384, .int .i64 t385, .bool t386, .bool t387, .int .i64 t388, .int .u32 t389] 24 (0, 0)) (by (with_reducible repeat (first | refine blk_drewN ?_ _ | refine blk_drew ?_ | refine blk_alloc ?_ _)); exact BK390.out) hb)
                        have n1_ := Aside0.mk (below_step (by repeat (first | (with_reducible first | exact HB.out | apply below_alloc | apply pw_below_drewN | apply below_drew1 | refine below_set ?_ GE390.out) | exact HB.out)) hb)
                        clear BK390
                        clear HB
                        have BK390 := n0_
                        have HB := n1_
                        clear n0_ n1_
                        (try clear hb)
                        (try clear hb2)
                        (try clear hk)
                        (try clear hi)
                        refine hK.out _ _ ⟨(blk_cell BK390.out 0).trans rfl, (blk_cell BK390.out 1).trans rfl, (blk_cell BK390.out 2).trans rfl, (blk_cell BK390.out 3).trans rfl, (blk_cell BK390.out 4).trans rfl, (blk_cell BK390.out 5).trans rfl, (blk_cell BK390.out 6).trans rfl, (blk_cell BK390.out 7).trans rfl, (blk_cell BK390.out 8).trans rfl⟩ (fun hHeld => ?_)
                        clear hK K
                        refine norm_ (a' := ?_) ?_ ?_
                        rotate_left
                        · show Act.put _ (some 86) _ = _
                          simp only [Act.put, List.setIfInBounds_toArray, List.set_cons_zero, List.set_cons_succ, i64_w, i32_w]
                          rfl
                        refine one_ (i := 12) (N := some 88) #[true, true, true, true, true, true, true, true, true, true, true, true, true, false, false, false] rfl rfl (one_of HT_.out (by kernel_rfl)) (by decide) (fun K hK => ?_)
                        refine goes_ Tryd.func18 (by kernel_rfl) rfl #[.agg #[.int .i64 t381, .int .i64 t382, .int .i64 t383, .int .i64 t384, .int .i64 t385, .bool t386, .bool t387, .int .i64 t388, .int .u32 t389]] (by rfl) rfl rfl (by (try simp only [List.map_toArray, List.map_cons, List.map_nil]); first | done | rfl | (simp only [List.length_drop, List.length_take]; rfl)) ?_
                        with_reducible refine (anvillaw06_bare.calls t381 t382 t383 t384 t385 t386 t387 t388 t389 t421 t422 t423 t424 t425 t426 t427 t428 t429 _ A46.out).mono ?_
                        rintro e w50 ⟨rfl, hb⟩
                        refine ⟨_, rfl, ?_⟩
                        have n0_ := Aside0.mk (blk_below (g := gb390) (o := .cells #[.int .i64 t381, .int .i64 t382, .int .i64 t383, .int .i64 t384, .int .i64 t385, .bool t386, .bool t387, .int .i64 t388, .int .u32 t389] 24 (0, 0)) (by (with_reducible repeat (first | refine blk_drewN ?_ _ | refine blk_drew ?_ | refine blk_alloc ?_ _)); exact BK390.out) hb)
                        have n1_ := Aside0.mk (below_step (by repeat (first | (with_reducible first | exact HB.out | apply below_alloc | apply pw_below_drewN | apply below_drew1 | refine below_set ?_ GE390.out) | exact HB.out)) hb)
                        clear BK390
                        clear HB
                        have BK390 := n0_
                        have HB := n1_
                        clear n0_ n1_
                        (try clear hb)
                        (try clear hb2)
                        (try clear hk)
                        (try clear hi)
                        refine hK.out _ _ ⟨(blk_cell BK390.out 0).trans rfl, (blk_cell BK390.out 1).trans rfl, (blk_cell BK390.out 2).trans rfl, (blk_cell BK390.out 3).trans rfl, (blk_cell BK390.out 4).trans rfl, (blk_cell BK390.out 5).trans rfl, (blk_cell BK390.out 6).trans rfl, (blk_cell BK390.out 7).trans rfl, (blk_cell BK390.out 8).trans rfl⟩ (fun hHeld => ?_)
                        clear hK K
                        refine norm_ (a' := ?_) ?_ ?_
                        rotate_left
                        · show Act.put _ (some 88) _ = _
                          simp only [Act.put, List.setIfInBounds_toArray, List.set_cons_zero, List.set_cons_succ, i64_w, i32_w]
                          rfl
                        refine pure_ (i := 13) (N := some 89) (v := ?_) (a' := ?_) #[true, true, true, true, true, true, true, true, true, true, true, true, true, true, false, false] rfl rfl (any_of HT_.out (by kernel_rfl)) (fun _ _ _ h => h) (Or.inl ⟨by rfl, ?_⟩) ?_ ?_
                        rotate_left
                        · intro w'
                          go_simp
                          with_reducible rfl
                        rotate_left
                        · simp only [Act.put, List.setIfInBounds_toArray, List.set_cons_zero, List.set_cons_succ, i64_w, i32_w]
                          rfl
                        refine pure_ (i := 14) (N := some 90) (v := ?_) (a' := ?_) #[true, true, true, true, true, true, true, true, true, true, true, true, true, true, true, false] rfl rfl (any_of HT_.out (by kernel_rfl)) (fun _ _ _ h => h) (Or.inl ⟨by rfl, ?_⟩) ?_ ?_
                        rotate_left
                        · intro w'
                          go_simp
                          with_reducible rfl
                        rotate_left
                        · simp only [Act.put, List.setIfInBounds_toArray, List.set_cons_zero, List.set_cons_succ, i64_w, i32_w]
                          rfl
                        refine pure_ (i := 15) (N := some 2) (v := ?_) (a' := ?_) #[true, true, true, true, true, true, true, true, true, true, true, true, true, true, true, true] rfl rfl (any_of HT_.out (by kernel_rfl)) (fun _ _ _ h => h) (Or.inl ⟨by rfl, ?_⟩) ?_ ?_
                        rotate_left
                        · intro w'
                          go_simp
                          with_reducible rfl
                        rotate_left
                        · simp only [Act.put, List.setIfInBounds_toArray, List.set_cons_zero, List.set_cons_succ, i64_w, i32_w]
                          rfl
                        refine done_ (done_of HT_.out (by kernel_rfl)) ?_
                        try go_wp2
                        go_ret
                        exact ⟨by first | rfl | (simp [Go.Proofs.YtiibhggjlandmaaDoor.PB.errW_none, Go.Proofs.YtiibhggjlandmaaDoor.PB.errW_some] <;> rfl) | (simp [*, Go.Proofs.YtiibhggjlandmaaDoor.PB.errW_none, Go.Proofs.YtiibhggjlandmaaDoor.PB.errW_some] <;> rfl), by repeat (first | (with_reducible first | exact HB.out | apply below_alloc | apply pw_below_drewN | apply below_drew1 | refine below_set ?_ GE390.out) | exact HB.out)⟩
                      · rw [if_neg c43] at H
                        have c43b0 : (t401 == t395) = false := beq_eq_false_iff_ne.mpr c43
                        have c43b1 : (t401 != t395) = true := bne_iff_ne.mpr c43
                        obtain rfl := Option.some.inj H
                        exact absurd hr.out (by decide)
                    · replace c42 := Bool.eq_false_iff.mpr c42
                      subst c42
                      have H1 : (some false) = some r := by rw [if_neg (show ¬ (false = true) by decide)] at H; exact H
                      clear H
                      have H := H1
                      clear H1
                      obtain rfl := Option.some.inj H
                      exact absurd hr.out (by decide)
          · rw [if_neg c22] at H
            have c22b0 : (t396 == 0) = false := beq_eq_false_iff_ne.mpr c22
            have c22b1 : (t396 != 0) = true := bne_iff_ne.mpr c22
            obtain rfl := Option.some.inj H
            exact absurd hr.out (by decide)
        · rw [if_neg c20] at H
          have c20b0 : (t394 == 0) = false := beq_eq_false_iff_ne.mpr c20
          have c20b1 : (t394 != 0) = true := bne_iff_ne.mpr c20
          obtain rfl := Option.some.inj H
          exact absurd hr.out (by decide)

end Go.Proofs.YtiibhggjlandmaaDoor.PK
