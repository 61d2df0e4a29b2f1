/- Texts of this claim, put together by a program: PLThere. -/
import Derived.Test.YtiibhggjlandmaaDoorProg
import Derived.Below
import Derived.Deep.Draws
import Derived.Deep.AppendLies
import Derived.Maps.AppendAt
import Derived.OwnWalk
import Derived.Laws.BytesArg
import Derived.Laws.MakeOwn
import Derived.Laws.OwnMore
import Derived.Deep.OwnRows
import Derived.Tactics
import Derived.Lib.ConvBytes
import Derived.Laws.Slices
import Derived.WalkKit
import Derived.KernelRfl
import Derived.RowKit3
import Derived.Deep.LoopGhost
import Derived.Deep.QuietTactic
import Derived.BigQuiet
import Derived.WideLaws
import Derived.Deep.DeepCutAuto
import Derived.Deep.CutBlock
import Derived.Deep.RegionHeld3
import Derived.Laws.Rows
import Derived.Lib.AppendStr
import Derived.ArgAppend
import Derived.Laws.IdiomCopy
import Derived.OrdersHeld
import Derived.Laws.BitsLemmas
import Derived.RowKit
import Derived.Test.YtiibhggjlandmaaDoorMT14
import Derived.Test.YtiibhggjlandmaaDoorMT15
import Derived.Test.YtiibhggjlandmaaDoorMT0
import Derived.Test.YtiibhggjlandmaaDoorMTxPK
-- Written by a program (a turned copy of the kit's print.py) for this claim. Lean checks it.
namespace Go.Proofs.YtiibhggjlandmaaDoor.PK
open Go.RowKit Go.Proofs.YtiibhggjlandmaaDoorW.PrintWords Go.Proofs.YtiibhggjlandmaaDoorW.PrintLast Go.Proofs.YtiibhggjlandmaaDoorW.PrintMore Go.Proofs.YtiibhggjlandmaaDoor.PF Go.Proofs.YtiibhggjlandmaaDoor.PL Go.Proofs.YtiibhggjlandmaaDoor.PB Go.Proofs.YtiibhggjlandmaaDoor.TR
attribute [local go_sem] max2_int min2_int max_two min_two max_three min_three max_four min_four   -- for this text's walks alone
set_option linter.unusedVariables false
set_option linter.unusedSimpArgs false

attribute [local go_sem high] eqA24
/-! ### anvillaw06_EncodeThere: function 5 -/
mutual
def anvillaw06_EncodeThere.j0 : Nat → Int → Int → Int → Bool → Bool → Int → Int → Int → Int → Int → Bool → Bool → Int → Int → Option (Bool)
  | 0, _, _, _, _, _, _, _, _, _, _, _, _, _, _ => none
  | k + 1, x3, x4, x5, x6, x26, x382000, x382001, x382002, x382003, x382004, x382005, x382006, x382007, x382008 => if x26 = true then (some false) else (if x4 = 0 then ((decode_Decode.f k x3).bind fun bt388 => ((anvillaw06_bare.f bt388.1 bt388.2.1 bt388.2.2.1 bt388.2.2.2.1 bt388.2.2.2.2.1 bt388.2.2.2.2.2.1 bt388.2.2.2.2.2.2.1 bt388.2.2.2.2.2.2.2.1 bt388.2.2.2.2.2.2.2.2).bind fun bt398 => ((anvillaw06_bare.f x382000 x382001 x382002 x382003 x382004 x382005 x382006 x382007 x382008).bind fun bt407 => (if (!(bt398.1 == bt407.1) || (!(bt398.2.1 == bt407.2.1) || (!(bt398.2.2.1 == bt407.2.2.1) || (!(bt398.2.2.2.1 == bt407.2.2.2.1) || (!(bt398.2.2.2.2.1 == bt407.2.2.2.2.1) || (!(bt398.2.2.2.2.2.1 == bt407.2.2.2.2.2.1) || (!(bt398.2.2.2.2.2.2.1 == bt407.2.2.2.2.2.2.1) || (!(bt398.2.2.2.2.2.2.2.1 == bt407.2.2.2.2.2.2.2.1) || (!(bt398.2.2.2.2.2.2.2.2 == bt407.2.2.2.2.2.2.2.2)))))))))) = true then (anvillaw06_EncodeThere.j1 k x5 x6 true x382000 x382001 x382002 x382003 x382004 x382005 x382006 x382007 x382008) else (if bt388.2.2.2.2.2.2.2.1 = 4 then (if bt388.2.2.2.2.2.2.2.2 = x3 then (anvillaw06_EncodeThere.j1 k x5 x6 ((Go.bits .and .u32 x3 3) != 3) x382000 x382001 x382002 x382003 x382004 x382005 x382006 x382007 x382008) else (anvillaw06_EncodeThere.j1 k x5 x6 true x382000 x382001 x382002 x382003 x382004 x382005 x382006 x382007 x382008)) else (anvillaw06_EncodeThere.j1 k x5 x6 true x382000 x382001 x382002 x382003 x382004 x382005 x382006 x382007 x382008)))))) else (if x3 = 0 then (if x6 = true then (some false) else (if x5 = 0 then (if x4 = 60 then (some true) else (some (x4 == 61))) else (some false))) else (some false)))
def anvillaw06_EncodeThere.j1 : Nat → Int → Bool → Bool → Int → Int → Int → Int → Int → Bool → Bool → Int → Int → Option (Bool)
  | 0, _, _, _, _, _, _, _, _, _, _, _, _ => none
  | k + 1, x5, x6, x69, x382000, x382001, x382002, x382003, x382004, x382005, x382006, x382007, x382008 => if x69 = true then (some false) else (if x6 = true then ((decode_Decode.f k ((x5) % 4294967296)).bind fun bt416 => ((anvillaw06_bare.f bt416.1 bt416.2.1 bt416.2.2.1 bt416.2.2.2.1 bt416.2.2.2.2.1 bt416.2.2.2.2.2.1 bt416.2.2.2.2.2.2.1 bt416.2.2.2.2.2.2.2.1 bt416.2.2.2.2.2.2.2.2).bind fun bt426 => ((anvillaw06_bare.f x382000 x382001 x382002 x382003 x382004 x382005 x382006 x382007 x382008).bind fun bt435 => (if (bt426.1 == bt435.1 && (bt426.2.1 == bt435.2.1 && (bt426.2.2.1 == bt435.2.2.1 && (bt426.2.2.2.1 == bt435.2.2.2.1 && (bt426.2.2.2.2.1 == bt435.2.2.2.2.1 && (bt426.2.2.2.2.2.1 == bt435.2.2.2.2.2.1 && (bt426.2.2.2.2.2.2.1 == bt435.2.2.2.2.2.2.1 && (bt426.2.2.2.2.2.2.2.1 == bt435.2.2.2.2.2.2.2.1 && (bt426.2.2.2.2.2.2.2.2 == bt435.2.2.2.2.2.2.2.2))))))))) = true then (if bt416.2.2.2.2.2.2.2.1 = 2 then (if bt416.2.2.2.2.2.2.2.2 = ((x5) % 4294967296) then (some ((Go.bits .and .u16 x5 3) != 3)) else (some false)) else (some false)) else (some false))))) else (some (x5 == 0)))
end
def anvillaw06_EncodeThere.f (k : Nat) (a0_0 : Int) (a0_1 : Int) (a0_2 : Int) (a0_3 : Int) (a0_4 : Int) (a0_5 : Bool) (a0_6 : Bool) (a0_7 : Int) (a0_8 : Int) : Option (Bool) := (encode_Encode.f k a0_0 a0_1 a0_2 a0_3 a0_4 a0_5 a0_6 a0_7 a0_8).bind fun bt382 => ((encode_Compress.f k a0_0 a0_1 a0_2 a0_3 a0_4 a0_5 a0_6 a0_7 a0_8).bind fun bt384 => ((encode_Check.f a0_0 a0_1 a0_2 a0_3 a0_4 a0_5 a0_6 a0_7 a0_8).bind fun t386 => (if t386 = bt382.2 then ((anvillaw06_live.f k).bind fun t387 => (anvillaw06_EncodeThere.j0 k bt382.1 bt382.2 bt384.1 bt384.2 (!t387) a0_0 a0_1 a0_2 a0_3 a0_4 a0_5 a0_6 a0_7 a0_8)) else (anvillaw06_EncodeThere.j0 k bt382.1 bt382.2 bt384.1 bt384.2 true a0_0 a0_1 a0_2 a0_3 a0_4 a0_5 a0_6 a0_7 a0_8))))
def anvillaw06_EncodeThere.T8 : Bool × List (List Nat × List Nat) := (true, [([], []), ([0], [0]), ([], []), ([2, 1], [2]), ([1, 3], [1, 3]), ([4, 3], [4]), ([5], [5]), ([6, 5], [5, 6]), ([7, 5], [5, 7]), ([5, 8], [5, 8]), ([9, 5], [9]), ([10], [10]), ([11, 10], [10, 11]), ([10], [10]), ([12, 13, 10], [10, 12, 13]), ([10, 14], [10, 14]), ([15, 10], [15]), ([16], [16]), ([17, 16], [16, 17]), ([18, 16], [16, 18]), ([16, 19], [16, 19])])
def anvillaw06_EncodeThere.B8 : List Nat := [0, 1, 0, 7, 15, 31, 63, 127, 255, 511, 1023, 2047, 4095, 2047, 16383, 32767, 65535, 131071, 262143, 524287, 1048575]
theorem anvillaw06_EncodeThere.tab8 : rtab .any (opsOf Tryd.f5 8) = anvillaw06_EncodeThere.T8 := by kernel_rfl
theorem anvillaw06_EncodeThere.bits8 : waitsOk anvillaw06_EncodeThere.T8.2 anvillaw06_EncodeThere.B8 = true := by kernel_rfl
def anvillaw06_EncodeThere.T13 : Bool × List (List Nat × List Nat) := (true, [([], []), ([0], [0]), ([], []), ([2, 1], [2]), ([1, 3], [1, 3]), ([4, 3], [4]), ([5], [5]), ([6, 5], [5, 6]), ([7, 5], [5, 7]), ([5, 8], [5, 8]), ([9, 5], [9]), ([10], [10]), ([11, 10], [10, 11]), ([10], [10]), ([13, 10], [10, 13]), ([12, 14, 10], [10, 12, 14]), ([10, 15], [10, 15]), ([16, 10], [16]), ([17], [17]), ([18, 17], [17, 18]), ([19, 17], [17, 19]), ([17, 20], [17, 20]), ([21, 17, 0, 1, 2, 3, 4, 5, 6, 7, 8, 9, 10, 11, 12, 13, 14, 15, 16, 17, 18, 19, 20, 21], [21])])
def anvillaw06_EncodeThere.B13 : List Nat := [0, 1, 0, 7, 15, 31, 63, 127, 255, 511, 1023, 2047, 4095, 2047, 10239, 32767, 65535, 131071, 262143, 524287, 1048575, 2097151, 4194303]
theorem anvillaw06_EncodeThere.tab13 : rtab .any (opsOf Tryd.f5 13) = anvillaw06_EncodeThere.T13 := by kernel_rfl
theorem anvillaw06_EncodeThere.bits13 : waitsOk anvillaw06_EncodeThere.T13.2 anvillaw06_EncodeThere.B13 = true := by kernel_rfl
set_option maxHeartbeats 8000000 in
set_option maxRecDepth 100000 in
theorem anvillaw06_EncodeThere.calls (k : Nat) (a0_0 : Int) (a0_1 : Int) (a0_2 : Int) (a0_3 : Int) (a0_4 : Int) (a0_5 : Bool) (a0_6 : Bool) (a0_7 : Int) (a0_8 : Int) (r : Bool) (hr : Aside0 (r = true)) (w : World) (hT : TabOk w) (h : anvillaw06_EncodeThere.f k a0_0 a0_1 a0_2 a0_3 a0_4 a0_5 a0_6 a0_7 a0_8 = some r) :
    Calls Tryd.prog 5 #[.agg #[.int .i64 a0_0, .int .i64 a0_1, .int .i64 a0_2, .int .i64 a0_3, .int .i64 a0_4, .bool a0_5, .bool a0_6, .int .i64 a0_7, .int .u32 a0_8]] w fun e w' => e = .returned (.bool r) ∧ Below w.heap.size w w' := by
  have hu24 := Tryd.underlying24
  have HB := Aside0.mk (Below.refl w.heap.size w)
  have H : ((encode_Encode.f k a0_0 a0_1 a0_2 a0_3 a0_4 a0_5 a0_6 a0_7 a0_8).bind fun bt382 => ((encode_Compress.f k a0_0 a0_1 a0_2 a0_3 a0_4 a0_5 a0_6 a0_7 a0_8).bind fun bt384 => ((encode_Check.f a0_0 a0_1 a0_2 a0_3 a0_4 a0_5 a0_6 a0_7 a0_8).bind fun t386 => (if t386 = bt382.2 then ((anvillaw06_live.f k).bind fun t387 => (anvillaw06_EncodeThere.j0 k bt382.1 bt382.2 bt384.1 bt384.2 (!t387) a0_0 a0_1 a0_2 a0_3 a0_4 a0_5 a0_6 a0_7 a0_8)) else (anvillaw06_EncodeThere.j0 k bt382.1 bt382.2 bt384.1 bt384.2 true a0_0 a0_1 a0_2 a0_3 a0_4 a0_5 a0_6 a0_7 a0_8))))) = some r := h
  clear h
  replace H := Option.bind_eq_some_iff.mp H
  obtain ⟨⟨t382, t383⟩, A20, H⟩ := H
  replace H : ((encode_Compress.f k a0_0 a0_1 a0_2 a0_3 a0_4 a0_5 a0_6 a0_7 a0_8).bind fun bt384 => ((encode_Check.f a0_0 a0_1 a0_2 a0_3 a0_4 a0_5 a0_6 a0_7 a0_8).bind fun t386 => (if t386 = t383 then ((anvillaw06_live.f k).bind fun t387 => (anvillaw06_EncodeThere.j0 k t382 t383 bt384.1 bt384.2 (!t387) a0_0 a0_1 a0_2 a0_3 a0_4 a0_5 a0_6 a0_7 a0_8)) else (anvillaw06_EncodeThere.j0 k t382 t383 bt384.1 bt384.2 true a0_0 a0_1 a0_2 a0_3 a0_4 a0_5 a0_6 a0_7 a0_8)))) = some r := H
  have A2 := Aside0.mk A20
  clear A20
  replace H := Option.bind_eq_some_iff.mp H
  obtain ⟨⟨t384, t385⟩, A30, H⟩ := H
  replace H : ((encode_Check.f a0_0 a0_1 a0_2 a0_3 a0_4 a0_5 a0_6 a0_7 a0_8).bind fun t386 => (if t386 = t383 then ((anvillaw06_live.f k).bind fun t387 => (anvillaw06_EncodeThere.j0 k t382 t383 t384 t385 (!t387) a0_0 a0_1 a0_2 a0_3 a0_4 a0_5 a0_6 a0_7 a0_8)) else (anvillaw06_EncodeThere.j0 k t382 t383 t384 t385 true a0_0 a0_1 a0_2 a0_3 a0_4 a0_5 a0_6 a0_7 a0_8))) = some r := H
  have A3 := Aside0.mk A30
  clear A30
  have HC4 := Aside0.mk H
  clear H
  go_enter Tryd.func5, Tryd.ntmps5
  go_upto_region 3 with (first | ((with_reducible refine gate_dst (N := 1) rfl ?_); refine box_event ?hg (N := 1) ?hd (cs := #[.int .i64 a0_0, .int .i64 a0_1, .int .i64 a0_2, .int .i64 a0_3, .int .i64 a0_4, .bool a0_5, .bool a0_6, .int .i64 a0_7, .int .u32 a0_8]) (t := 24) ?hr ?_; (case hd => rfl); (case hg => rfl); (case hr => first | (go_simp; done) | (go_simp; rfl)); intro gb381 hg w5 hbox hb; have n0_ := Aside0.mk (below_step (by repeat (first | (with_reducible first | exact HB.out | apply below_alloc | apply pw_below_drewN | apply below_drew1) | exact HB.out)) hb); have n1_ := Aside0.mk (hbox); have n2_ := Aside0.mk ((by rw [hg]; exact (below_size (by repeat (first | (with_reducible first | exact HB.out | apply below_alloc | apply pw_below_drewN | apply below_drew1) | exact HB.out))) : w.heap.size ≤ gb381)); have n3_ := Aside0.mk ((by rw [hg]; exact (below_size (by repeat (first | (with_reducible first | exact HB.out | apply below_alloc | apply pw_below_drewN | apply below_drew1) | exact HB.out))) : w.heap.size ≤ gb381)); clear HB; have HB := n0_; have BK381 := n1_; have GW381 := n2_; have GE381 := n3_; clear n0_ n1_ n2_ n3_; clear hb hbox hg; have hcz6_0 : w5.cell? ⟨gb381, 0, none⟩ = some (.int .i64 a0_0) := (blk_cell BK381.out 0).trans rfl; have hcz6_1 : w5.cell? ⟨gb381, 1, none⟩ = some (.int .i64 a0_1) := (blk_cell BK381.out 1).trans rfl; have hcz6_2 : w5.cell? ⟨gb381, 2, none⟩ = some (.int .i64 a0_2) := (blk_cell BK381.out 2).trans rfl; have hcz6_3 : w5.cell? ⟨gb381, 3, none⟩ = some (.int .i64 a0_3) := (blk_cell BK381.out 3).trans rfl; have hcz6_4 : w5.cell? ⟨gb381, 4, none⟩ = some (.int .i64 a0_4) := (blk_cell BK381.out 4).trans rfl; have hcz6_5 : w5.cell? ⟨gb381, 5, none⟩ = some (.bool a0_5) := (blk_cell BK381.out 5).trans rfl; have hcz6_6 : w5.cell? ⟨gb381, 6, none⟩ = some (.bool a0_6) := (blk_cell BK381.out 6).trans rfl; have hcz6_7 : w5.cell? ⟨gb381, 7, none⟩ = some (.int .i64 a0_7) := (blk_cell BK381.out 7).trans rfl; have hcz6_8 : w5.cell? ⟨gb381, 8, none⟩ = some (.int .u32 a0_8) := (blk_cell BK381.out 8).trans rfl; have hfz6_0 := blk_frozen BK381.out 0; have hfz6_1 := blk_frozen BK381.out 1; have hfz6_2 := blk_frozen BK381.out 2; have hfz6_3 := blk_frozen BK381.out 3; have hfz6_4 := blk_frozen BK381.out 4; have hfz6_5 := blk_frozen BK381.out 5; have hfz6_6 := blk_frozen BK381.out 6; have hfz6_7 := blk_frozen BK381.out 7; have hfz6_8 := blk_frozen BK381.out 8) | ((with_reducible refine gate_callee (f := 13) rfl ?_); refine goesL_ (some 11) rfl rfl Tryd.func13 (by kernel_rfl) rfl #[.agg #[.int .i64 a0_0, .int .i64 a0_1, .int .i64 a0_2, .int .i64 a0_3, .int .i64 a0_4, .bool a0_5, .bool a0_6, .int .i64 a0_7, .int .u32 a0_8]] rfl (by (try simp only [List.map_toArray, List.map_cons, List.map_nil]); first | done | rfl | (simp only [List.length_drop, List.length_take]; rfl)) ?_; (with_reducible refine (encode_Encode.calls k a0_0 a0_1 a0_2 a0_3 a0_4 a0_5 a0_6 a0_7 a0_8 t382 t383 _ (by exact hT.below (by repeat (first | (with_reducible first | exact HB.out | apply below_alloc | apply pw_below_drewN | apply below_drew1) | exact HB.out))) A2.out).mono ?_); rintro e w7 ⟨rfl, hb⟩; refine ⟨_, rfl, ?_⟩; have n0_ := Aside0.mk (blk_below (g := gb381) (o := .cells #[.int .i64 a0_0, .int .i64 a0_1, .int .i64 a0_2, .int .i64 a0_3, .int .i64 a0_4, .bool a0_5, .bool a0_6, .int .i64 a0_7, .int .u32 a0_8] 24 (0, 0)) (by (with_reducible repeat (first | refine blk_drewN ?_ _ | refine blk_drew ?_ | refine blk_alloc ?_ _)); exact BK381.out) hb); have n1_ := Aside0.mk (below_step (by repeat (first | (with_reducible first | exact HB.out | apply below_alloc | apply pw_below_drewN | apply below_drew1 | refine below_set ?_ GE381.out) | exact HB.out)) hb); clear BK381; clear HB; have BK381 := n0_; have HB := n1_; clear n0_ n1_; (try clear hb); (try clear hb2); (try clear hk); (try clear hi); have hcz8_0 : w7.cell? ⟨gb381, 0, none⟩ = some (.int .i64 a0_0) := (blk_cell BK381.out 0).trans rfl; have hcz8_1 : w7.cell? ⟨gb381, 1, none⟩ = some (.int .i64 a0_1) := (blk_cell BK381.out 1).trans rfl; have hcz8_2 : w7.cell? ⟨gb381, 2, none⟩ = some (.int .i64 a0_2) := (blk_cell BK381.out 2).trans rfl; have hcz8_3 : w7.cell? ⟨gb381, 3, none⟩ = some (.int .i64 a0_3) := (blk_cell BK381.out 3).trans rfl; have hcz8_4 : w7.cell? ⟨gb381, 4, none⟩ = some (.int .i64 a0_4) := (blk_cell BK381.out 4).trans rfl; have hcz8_5 : w7.cell? ⟨gb381, 5, none⟩ = some (.bool a0_5) := (blk_cell BK381.out 5).trans rfl; have hcz8_6 : w7.cell? ⟨gb381, 6, none⟩ = some (.bool a0_6) := (blk_cell BK381.out 6).trans rfl; have hcz8_7 : w7.cell? ⟨gb381, 7, none⟩ = some (.int .i64 a0_7) := (blk_cell BK381.out 7).trans rfl; have hcz8_8 : w7.cell? ⟨gb381, 8, none⟩ = some (.int .u32 a0_8) := (blk_cell BK381.out 8).trans rfl; have hfz8_0 := blk_frozen BK381.out 0; have hfz8_1 := blk_frozen BK381.out 1; have hfz8_2 := blk_frozen BK381.out 2; have hfz8_3 := blk_frozen BK381.out 3; have hfz8_4 := blk_frozen BK381.out 4; have hfz8_5 := blk_frozen BK381.out 5; have hfz8_6 := blk_frozen BK381.out 6; have hfz8_7 := blk_frozen BK381.out 7; have hfz8_8 := blk_frozen BK381.out 8) | ((with_reducible refine gate_callee (f := 15) rfl ?_); refine goesL_ (some 16) rfl rfl Tryd.func15 (by kernel_rfl) rfl #[.agg #[.int .i64 a0_0, .int .i64 a0_1, .int .i64 a0_2, .int .i64 a0_3, .int .i64 a0_4, .bool a0_5, .bool a0_6, .int .i64 a0_7, .int .u32 a0_8]] rfl (by (try simp only [List.map_toArray, List.map_cons, List.map_nil]); first | done | rfl | (simp only [List.length_drop, List.length_take]; rfl)) ?_; (with_reducible refine (encode_Compress.calls k a0_0 a0_1 a0_2 a0_3 a0_4 a0_5 a0_6 a0_7 a0_8 t384 t385 _ (by exact hT.below (by repeat (first | (with_reducible first | exact HB.out | apply below_alloc | apply pw_below_drewN | apply below_drew1) | exact HB.out))) A3.out).mono ?_); rintro e w9 ⟨rfl, hb⟩; refine ⟨_, rfl, ?_⟩; have n0_ := Aside0.mk (blk_below (g := gb381) (o := .cells #[.int .i64 a0_0, .int .i64 a0_1, .int .i64 a0_2, .int .i64 a0_3, .int .i64 a0_4, .bool a0_5, .bool a0_6, .int .i64 a0_7, .int .u32 a0_8] 24 (0, 0)) (by (with_reducible repeat (first | refine blk_drewN ?_ _ | refine blk_drew ?_ | refine blk_alloc ?_ _)); exact BK381.out) hb); have n1_ := Aside0.mk (below_step (by repeat (first | (with_reducible first | exact HB.out | apply below_alloc | apply pw_below_drewN | apply below_drew1 | refine below_set ?_ GE381.out) | exact HB.out)) hb); clear BK381; clear HB; have BK381 := n0_; have HB := n1_; clear n0_ n1_; (try clear hb); (try clear hb2); (try clear hk); (try clear hi)))
  (try simp only [Act.put, List.setIfInBounds_toArray, List.set_cons_zero, List.set_cons_succ])
  go_cut [26] (fun v26 wc => ∃ (kq : Nat) (x26_3 : Bool), v26 = .bool x26_3 ∧ Aside0 (anvillaw06_EncodeThere.j0 kq t382 t383 t384 t385 x26_3 a0_0 a0_1 a0_2 a0_3 a0_4 a0_5 a0_6 a0_7 a0_8 = some r) ∧ Aside0 (kq ≤ k) ∧ Aside0 (wc.heap[gb381]? = some (.cells #[.int .i64 a0_0, .int .i64 a0_1, .int .i64 a0_2, .int .i64 a0_3, .int .i64 a0_4, .bool a0_5, .bool a0_6, .int .i64 a0_7, .int .u32 a0_8] 24 (0, 0))) ∧ Aside0 (Below w.heap.size w wc))
  case first =>
    have H := HC4.out
    clear HC4
    replace H := Option.bind_eq_some_iff.mp H
    obtain ⟨t386, A100, H⟩ := H
    replace H : (if t386 = t383 then ((anvillaw06_live.f k).bind fun t387 => (anvillaw06_EncodeThere.j0 k t382 t383 t384 t385 (!t387) a0_0 a0_1 a0_2 a0_3 a0_4 a0_5 a0_6 a0_7 a0_8)) else (anvillaw06_EncodeThere.j0 k t382 t383 t384 t385 true a0_0 a0_1 a0_2 a0_3 a0_4 a0_5 a0_6 a0_7 a0_8)) = some r := H
    have A10 := Aside0.mk A100
    clear A100
    by_cases c11 : t386 = t383
    · rw [if_pos c11] at H
      have c11b0 : (t386 == t383) = true := beq_iff_eq.mpr c11
      have c11b1 : (t386 != t383) = false := bne_eq_false_iff_eq.mpr c11
      clear c11
      (first | rw [c11b0] | (simp only [i64_w, i32_w]; rw [c11b0]) | skip)
      replace H := Option.bind_eq_some_iff.mp H
      obtain ⟨t387, A120, H⟩ := H
      replace H : (anvillaw06_EncodeThere.j0 k t382 t383 t384 t385 (!t387) a0_0 a0_1 a0_2 a0_3 a0_4 a0_5 a0_6 a0_7 a0_8) = some r := H
      have A12 := Aside0.mk A120
      clear A120
      have H' := Aside0.mk H
      clear H
      have hcz13_0 : w9.cell? ⟨gb381, 0, none⟩ = some (.int .i64 a0_0) := (blk_cell BK381.out 0).trans rfl
      have hcz13_1 : w9.cell? ⟨gb381, 1, none⟩ = some (.int .i64 a0_1) := (blk_cell BK381.out 1).trans rfl
      have hcz13_2 : w9.cell? ⟨gb381, 2, none⟩ = some (.int .i64 a0_2) := (blk_cell BK381.out 2).trans rfl
      have hcz13_3 : w9.cell? ⟨gb381, 3, none⟩ = some (.int .i64 a0_3) := (blk_cell BK381.out 3).trans rfl
      have hcz13_4 : w9.cell? ⟨gb381, 4, none⟩ = some (.int .i64 a0_4) := (blk_cell BK381.out 4).trans rfl
      have hcz13_5 : w9.cell? ⟨gb381, 5, none⟩ = some (.bool a0_5) := (blk_cell BK381.out 5).trans rfl
      have hcz13_6 : w9.cell? ⟨gb381, 6, none⟩ = some (.bool a0_6) := (blk_cell BK381.out 6).trans rfl
      have hcz13_7 : w9.cell? ⟨gb381, 7, none⟩ = some (.int .i64 a0_7) := (blk_cell BK381.out 7).trans rfl
      have hcz13_8 : w9.cell? ⟨gb381, 8, none⟩ = some (.int .u32 a0_8) := (blk_cell BK381.out 8).trans rfl
      have hfz13_0 := blk_frozen BK381.out 0
      have hfz13_1 := blk_frozen BK381.out 1
      have hfz13_2 := blk_frozen BK381.out 2
      have hfz13_3 := blk_frozen BK381.out 3
      have hfz13_4 := blk_frozen BK381.out 4
      have hfz13_5 := blk_frozen BK381.out 5
      have hfz13_6 := blk_frozen BK381.out 6
      have hfz13_7 := blk_frozen BK381.out 7
      have hfz13_8 := blk_frozen BK381.out 8
      go_wp2_with (first | ((with_reducible refine gate_callee (f := 11) rfl ?_); refine goesL_ (some 20) rfl rfl Tryd.func11 (by kernel_rfl) rfl #[.agg #[.int .i64 a0_0, .int .i64 a0_1, .int .i64 a0_2, .int .i64 a0_3, .int .i64 a0_4, .bool a0_5, .bool a0_6, .int .i64 a0_7, .int .u32 a0_8]] rfl (by (try simp only [List.map_toArray, List.map_cons, List.map_nil]); first | done | rfl | (simp only [List.length_drop, List.length_take]; rfl)) ?_; (with_reducible refine (encode_Check.calls a0_0 a0_1 a0_2 a0_3 a0_4 a0_5 a0_6 a0_7 a0_8 t386 _ (by exact hT.below (by repeat (first | (with_reducible first | exact HB.out | apply below_alloc | apply pw_below_drewN | apply below_drew1) | exact HB.out))) A10.out).mono ?_); rintro e w14 ⟨rfl, hb⟩; refine ⟨_, rfl, ?_⟩; have n0_ := Aside0.mk (blk_below (g := gb381) (o := .cells #[.int .i64 a0_0, .int .i64 a0_1, .int .i64 a0_2, .int .i64 a0_3, .int .i64 a0_4, .bool a0_5, .bool a0_6, .int .i64 a0_7, .int .u32 a0_8] 24 (0, 0)) (by (with_reducible repeat (first | refine blk_drewN ?_ _ | refine blk_drew ?_ | refine blk_alloc ?_ _)); exact BK381.out) hb); have n1_ := Aside0.mk (below_step (by repeat (first | (with_reducible first | exact HB.out | apply below_alloc | apply pw_below_drewN | apply below_drew1 | refine below_set ?_ GE381.out) | exact HB.out)) hb); clear BK381; clear HB; have BK381 := n0_; have HB := n1_; clear n0_ n1_; (try clear hb); (try clear hb2); (try clear hk); (try clear hi)) | (go_at_call 16; (with_reducible refine (anvillaw06_live.calls k  t387 _ (by exact hT.below (by repeat (first | (with_reducible first | exact HB.out | apply below_alloc | apply pw_below_drewN | apply below_drew1) | exact HB.out))) A12.out).mono ?_); rintro e w15 ⟨rfl, hb⟩; have n0_ := Aside0.mk (blk_below (g := gb381) (o := .cells #[.int .i64 a0_0, .int .i64 a0_1, .int .i64 a0_2, .int .i64 a0_3, .int .i64 a0_4, .bool a0_5, .bool a0_6, .int .i64 a0_7, .int .u32 a0_8] 24 (0, 0)) (by (with_reducible repeat (first | refine blk_drewN ?_ _ | refine blk_drew ?_ | refine blk_alloc ?_ _)); exact BK381.out) hb); have n1_ := Aside0.mk (below_step (by repeat (first | (with_reducible first | exact HB.out | apply below_alloc | apply pw_below_drewN | apply below_drew1 | refine below_set ?_ GE381.out) | exact HB.out)) hb); clear BK381; clear HB; have BK381 := n0_; have HB := n1_; clear n0_ n1_; (try clear hb); (try clear hb2); (try clear hk); (try clear hi)))
      go_meet
      case rel => exact ⟨_, (!t387), (by first | rfl | (simp; done) | (simp [*]; done)), H', ⟨by first | omega | exact Nat.le_refl _⟩, ⟨by (with_reducible repeat (first | refine blk_drewN ?_ _ | refine blk_drew ?_ | refine blk_alloc ?_ _)); exact BK381.out⟩, ⟨by repeat (first | (with_reducible first | exact HB.out | apply below_alloc | apply pw_below_drewN | apply below_drew1 | refine below_set ?_ GE381.out) | exact HB.out)⟩⟩
    · rw [if_neg c11] at H
      have c11b0 : (t386 == t383) = false := beq_eq_false_iff_ne.mpr c11
      have c11b1 : (t386 != t383) = true := bne_iff_ne.mpr c11
      (first | rw [c11b0] | (simp only [i64_w, i32_w]; rw [c11b0]) | skip)
      exact absurd (hr.out.symm.trans (by cases k with | zero => simp [anvillaw06_EncodeThere.j0] at H | succ kk_ => (simp [anvillaw06_EncodeThere.j0] at H; first | exact H | exact H.symm) : r = false)) (by decide)
  case rest =>
    clear HC4
    try clear c1
    try clear p2
    try clear c5
    try clear c11
    try clear c11b0
    try clear c11b1
    try clear c13
    try clear c15
    try clear hcz13_0
    try clear hcz13_1
    try clear hcz13_2
    try clear hcz13_3
    try clear hcz13_4
    try clear hcz13_5
    try clear hcz13_6
    try clear hcz13_7
    try clear hcz13_8
    try clear hcz6_0
    try clear hcz6_1
    try clear hcz6_2
    try clear hcz6_3
    try clear hcz6_4
    try clear hcz6_5
    try clear hcz6_6
    try clear hcz6_7
    try clear hcz6_8
    try clear hcz8_0
    try clear hcz8_1
    try clear hcz8_2
    try clear hcz8_3
    try clear hcz8_4
    try clear hcz8_5
    try clear hcz8_6
    try clear hcz8_7
    try clear hcz8_8
    try clear hfz13_0
    try clear hfz13_1
    try clear hfz13_2
    try clear hfz13_3
    try clear hfz13_4
    try clear hfz13_5
    try clear hfz13_6
    try clear hfz13_7
    try clear hfz13_8
    try clear hfz6_0
    try clear hfz6_1
    try clear hfz6_2
    try clear hfz6_3
    try clear hfz6_4
    try clear hfz6_5
    try clear hfz6_6
    try clear hfz6_7
    try clear hfz6_8
    try clear hfz8_0
    try clear hfz8_1
    try clear hfz8_2
    try clear hfz8_3
    try clear hfz8_4
    try clear hfz8_5
    try clear hfz8_6
    try clear hfz8_7
    try clear hfz8_8
    obtain ⟨kq, x26_3, rfl, HA, HJ3, BK381, HB⟩ := hcut
    cases kq with
    | zero => exact absurd HA.out (by simp [anvillaw06_EncodeThere.j0])
    | succ kj3 =>
      have H := HA.out
      clear HA
      simp only [anvillaw06_EncodeThere.j0] at H
      by_cases c16 : x26_3 = true
      · subst c16
        have H1 : (some false) = some r := by rw [if_pos rfl] at H; exact H
        clear H
        have H := H1
        clear H1
        obtain rfl := Option.some.inj H
        exact absurd hr.out (by decide)
      · replace c16 := Bool.eq_false_iff.mpr c16
        subst c16
        have H1 : (if t383 = 0 then ((decode_Decode.f kj3 t382).bind fun bt388 => ((anvillaw06_bare.f bt388.1 bt388.2.1 bt388.2.2.1 bt388.2.2.2.1 bt388.2.2.2.2.1 bt388.2.2.2.2.2.1 bt388.2.2.2.2.2.2.1 bt388.2.2.2.2.2.2.2.1 bt388.2.2.2.2.2.2.2.2).bind fun bt398 => ((anvillaw06_bare.f a0_0 a0_1 a0_2 a0_3 a0_4 a0_5 a0_6 a0_7 a0_8).bind fun bt407 => (if (!(bt398.1 == bt407.1) || (!(bt398.2.1 == bt407.2.1) || (!(bt398.2.2.1 == bt407.2.2.1) || (!(bt398.2.2.2.1 == bt407.2.2.2.1) || (!(bt398.2.2.2.2.1 == bt407.2.2.2.2.1) || (!(bt398.2.2.2.2.2.1 == bt407.2.2.2.2.2.1) || (!(bt398.2.2.2.2.2.2.1 == bt407.2.2.2.2.2.2.1) || (!(bt398.2.2.2.2.2.2.2.1 == bt407.2.2.2.2.2.2.2.1) || (!(bt398.2.2.2.2.2.2.2.2 == bt407.2.2.2.2.2.2.2.2)))))))))) = true then (anvillaw06_EncodeThere.j1 kj3 t384 t385 true a0_0 a0_1 a0_2 a0_3 a0_4 a0_5 a0_6 a0_7 a0_8) else (if bt388.2.2.2.2.2.2.2.1 = 4 then (if bt388.2.2.2.2.2.2.2.2 = t382 then (anvillaw06_EncodeThere.j1 kj3 t384 t385 ((Go.bits .and .u32 t382 3) != 3) a0_0 a0_1 a0_2 a0_3 a0_4 a0_5 a0_6 a0_7 a0_8) else (anvillaw06_EncodeThere.j1 kj3 t384 t385 true a0_0 a0_1 a0_2 a0_3 a0_4 a0_5 a0_6 a0_7 a0_8)) else (anvillaw06_EncodeThere.j1 kj3 t384 t385 true a0_0 a0_1 a0_2 a0_3 a0_4 a0_5 a0_6 a0_7 a0_8)))))) else (if t382 = 0 then (if t385 = true then (some false) else (if t384 = 0 then (if t383 = 60 then (some true) else (some (t383 == 61))) else (some false))) else (some false))) = some r := by rw [if_neg (show ¬ (false = true) by decide)] at H; exact H
        clear H
        have H := H1
        clear H1
        by_cases c17 : t383 = 0
        · rw [if_pos c17] at H
          have c17b0 : (t383 == 0) = true := beq_iff_eq.mpr c17
          have c17b1 : (t383 != 0) = false := bne_eq_false_iff_eq.mpr c17
          clear c17
          replace H := Option.bind_eq_some_iff.mp H
          obtain ⟨⟨t388, t389, t390, t391, t392, t393, t394, t395, t396⟩, A180, H⟩ := H
          replace H : ((anvillaw06_bare.f t388 t389 t390 t391 t392 t393 t394 t395 t396).bind fun bt398 => ((anvillaw06_bare.f a0_0 a0_1 a0_2 a0_3 a0_4 a0_5 a0_6 a0_7 a0_8).bind fun bt407 => (if (!(bt398.1 == bt407.1) || (!(bt398.2.1 == bt407.2.1) || (!(bt398.2.2.1 == bt407.2.2.1) || (!(bt398.2.2.2.1 == bt407.2.2.2.1) || (!(bt398.2.2.2.2.1 == bt407.2.2.2.2.1) || (!(bt398.2.2.2.2.2.1 == bt407.2.2.2.2.2.1) || (!(bt398.2.2.2.2.2.2.1 == bt407.2.2.2.2.2.2.1) || (!(bt398.2.2.2.2.2.2.2.1 == bt407.2.2.2.2.2.2.2.1) || (!(bt398.2.2.2.2.2.2.2.2 == bt407.2.2.2.2.2.2.2.2)))))))))) = true then (anvillaw06_EncodeThere.j1 kj3 t384 t385 true a0_0 a0_1 a0_2 a0_3 a0_4 a0_5 a0_6 a0_7 a0_8) else (if t395 = 4 then (if t396 = t382 then (anvillaw06_EncodeThere.j1 kj3 t384 t385 ((Go.bits .and .u32 t382 3) != 3) a0_0 a0_1 a0_2 a0_3 a0_4 a0_5 a0_6 a0_7 a0_8) else (anvillaw06_EncodeThere.j1 kj3 t384 t385 true a0_0 a0_1 a0_2 a0_3 a0_4 a0_5 a0_6 a0_7 a0_8)) else (anvillaw06_EncodeThere.j1 kj3 t384 t385 true a0_0 a0_1 a0_2 a0_3 a0_4 a0_5 a0_6 a0_7 a0_8))))) = some r := H
          have A18 := Aside0.mk A180
          clear A180
          have HC19 := Aside0.mk H
          clear H
          go_upto_region 8 with (first | ((with_reducible refine gate_callee (f := 17) rfl ?_); refine goesL_ (some 48) rfl rfl Tryd.func17 (by kernel_rfl) rfl #[.int .u32 t382] rfl (by (try simp only [List.map_toArray, List.map_cons, List.map_nil]); first | done | rfl | (simp only [List.length_drop, List.length_take]; rfl)) ?_; (with_reducible refine (decode_Decode.calls kj3 t382 t388 t389 t390 t391 t392 t393 t394 t395 t396 _ A18.out).mono ?_); rintro e w20 ⟨rfl, hb⟩; refine ⟨_, rfl, ?_⟩; have n0_ := Aside0.mk (blk_below (g := gb381) (o := .cells #[.int .i64 a0_0, .int .i64 a0_1, .int .i64 a0_2, .int .i64 a0_3, .int .i64 a0_4, .bool a0_5, .bool a0_6, .int .i64 a0_7, .int .u32 a0_8] 24 (0, 0)) (by (with_reducible repeat (first | refine blk_drewN ?_ _ | refine blk_drew ?_ | refine blk_alloc ?_ _)); exact BK381.out) hb); have n1_ := Aside0.mk (below_step (by repeat (first | (with_reducible first | exact HB.out | apply below_alloc | apply pw_below_drewN | apply below_drew1 | refine below_set ?_ GE381.out) | exact HB.out)) hb); clear BK381; clear HB; have BK381 := n0_; have HB := n1_; clear n0_ n1_; (try clear hb); (try clear hb2); (try clear hk); (try clear hi)) | ((with_reducible refine gate_dst (N := 7) rfl ?_); refine box_event ?hg (N := 7) ?hd (cs := #[.int .i64 0, .int .i64 0, .int .i64 0, .int .i64 0, .int .i64 0, .bool false, .bool false, .int .i64 0, .int .u32 0]) (t := 24) ?hr ?_; (case hd => rfl); (case hg => rfl); (case hr => first | (go_simp; done) | (go_simp; rfl)); intro gb397 hg w21 hbox hb; have n0_ := Aside0.mk (blk_below (g := gb381) (o := .cells #[.int .i64 a0_0, .int .i64 a0_1, .int .i64 a0_2, .int .i64 a0_3, .int .i64 a0_4, .bool a0_5, .bool a0_6, .int .i64 a0_7, .int .u32 a0_8] 24 (0, 0)) (by (with_reducible repeat (first | refine blk_drewN ?_ _ | refine blk_drew ?_ | refine blk_alloc ?_ _)); exact BK381.out) hb); have n1_ := Aside0.mk (below_step (by repeat (first | (with_reducible first | exact HB.out | apply below_alloc | apply pw_below_drewN | apply below_drew1 | refine below_set ?_ GE381.out) | exact HB.out)) hb); have n2_ := Aside0.mk (hbox); have n3_ := Aside0.mk ((by rw [hg]; exact (below_size (by repeat (first | (with_reducible first | exact HB.out | apply below_alloc | apply pw_below_drewN | apply below_drew1 | refine below_set ?_ GE381.out) | exact HB.out))) : w.heap.size ≤ gb397)); have n4_ := Aside0.mk ((by rw [hg]; exact (below_size (by repeat (first | (with_reducible first | exact HB.out | apply below_alloc | apply pw_below_drewN | apply below_drew1 | refine below_set ?_ GE381.out) | exact HB.out))) : w.heap.size ≤ gb397)); have n5_ := Aside0.mk ((by rw [hg]; exact Nat.ne_of_lt (blk_lt (g := gb381) (o := .cells #[.int .i64 a0_0, .int .i64 a0_1, .int .i64 a0_2, .int .i64 a0_3, .int .i64 a0_4, .bool a0_5, .bool a0_6, .int .i64 a0_7, .int .u32 a0_8] 24 (0, 0)) (by (with_reducible repeat (first | refine blk_drewN ?_ _ | refine blk_drew ?_ | refine blk_alloc ?_ _)); exact BK381.out)) : gb381 ≠ gb397)); have n6_ := Aside0.mk ((by rw [hg]; exact Nat.ne_of_gt (blk_lt (g := gb381) (o := .cells #[.int .i64 a0_0, .int .i64 a0_1, .int .i64 a0_2, .int .i64 a0_3, .int .i64 a0_4, .bool a0_5, .bool a0_6, .int .i64 a0_7, .int .u32 a0_8] 24 (0, 0)) (by (with_reducible repeat (first | refine blk_drewN ?_ _ | refine blk_drew ?_ | refine blk_alloc ?_ _)); exact BK381.out)) : gb397 ≠ gb381)); clear BK381; clear HB; have BK381 := n0_; have HB := n1_; have BK397 := n2_; have GW397 := n3_; have GE397 := n4_; have NB381_397 := n5_; have NB397_381 := n6_; clear n0_ n1_ n2_ n3_ n4_ n5_ n6_; clear hb hbox hg; have hnb22 := NB397_381.out; have hnc22 := NB381_397.out; have hcz23_0 : w21.cell? ⟨gb397, 0, none⟩ = some (.int .i64 0) := (blk_cell BK397.out 0).trans rfl; have hcz23_1 : w21.cell? ⟨gb397, 1, none⟩ = some (.int .i64 0) := (blk_cell BK397.out 1).trans rfl; have hcz23_2 : w21.cell? ⟨gb397, 2, none⟩ = some (.int .i64 0) := (blk_cell BK397.out 2).trans rfl; have hcz23_3 : w21.cell? ⟨gb397, 3, none⟩ = some (.int .i64 0) := (blk_cell BK397.out 3).trans rfl; have hcz23_4 : w21.cell? ⟨gb397, 4, none⟩ = some (.int .i64 0) := (blk_cell BK397.out 4).trans rfl; have hcz23_5 : w21.cell? ⟨gb397, 5, none⟩ = some (.bool false) := (blk_cell BK397.out 5).trans rfl; have hcz23_6 : w21.cell? ⟨gb397, 6, none⟩ = some (.bool false) := (blk_cell BK397.out 6).trans rfl; have hcz23_7 : w21.cell? ⟨gb397, 7, none⟩ = some (.int .i64 0) := (blk_cell BK397.out 7).trans rfl; have hcz23_8 : w21.cell? ⟨gb397, 8, none⟩ = some (.int .u32 0) := (blk_cell BK397.out 8).trans rfl; have hfz23_0 := blk_frozen BK397.out 0; have hfz23_1 := blk_frozen BK397.out 1; have hfz23_2 := blk_frozen BK397.out 2; have hfz23_3 := blk_frozen BK397.out 3; have hfz23_4 := blk_frozen BK397.out 4; have hfz23_5 := blk_frozen BK397.out 5; have hfz23_6 := blk_frozen BK397.out 6; have hfz23_7 := blk_frozen BK397.out 7; have hfz23_8 := blk_frozen BK397.out 8))
          (try simp only [Act.put, List.setIfInBounds_toArray, List.set_cons_zero, List.set_cons_succ])
          go_cut [69] (fun v69 wc => ∃ (kq : Nat) (x69_18 : Bool), v69 = .bool x69_18 ∧ Aside0 (anvillaw06_EncodeThere.j1 kq t384 t385 x69_18 a0_0 a0_1 a0_2 a0_3 a0_4 a0_5 a0_6 a0_7 a0_8 = some r) ∧ Aside0 (kq ≤ kj3) ∧ Aside0 (wc.heap[gb381]? = some (.cells #[.int .i64 a0_0, .int .i64 a0_1, .int .i64 a0_2, .int .i64 a0_3, .int .i64 a0_4, .bool a0_5, .bool a0_6, .int .i64 a0_7, .int .u32 a0_8] 24 (0, 0))) ∧ Aside0 (wc.heap[gb397]? = some (.cells #[.int .i64 t388, .int .i64 t389, .int .i64 t390, .int .i64 t391, .int .i64 t392, .bool t393, .bool t394, .int .i64 t395, .int .u32 t396] 24 (0, 0))) ∧ Aside0 (Below w.heap.size w wc))
          case first =>
            have H := HC19.out
            clear HC19
            replace H := Option.bind_eq_some_iff.mp H
            obtain ⟨⟨t398, t399, t400, t401, t402, t403, t404, t405, t406⟩, A240, H⟩ := H
            replace H : ((anvillaw06_bare.f a0_0 a0_1 a0_2 a0_3 a0_4 a0_5 a0_6 a0_7 a0_8).bind fun bt407 => (if (!(t398 == bt407.1) || (!(t399 == bt407.2.1) || (!(t400 == bt407.2.2.1) || (!(t401 == bt407.2.2.2.1) || (!(t402 == bt407.2.2.2.2.1) || (!(t403 == bt407.2.2.2.2.2.1) || (!(t404 == bt407.2.2.2.2.2.2.1) || (!(t405 == bt407.2.2.2.2.2.2.2.1) || (!(t406 == bt407.2.2.2.2.2.2.2.2)))))))))) = true then (anvillaw06_EncodeThere.j1 kj3 t384 t385 true a0_0 a0_1 a0_2 a0_3 a0_4 a0_5 a0_6 a0_7 a0_8) else (if t395 = 4 then (if t396 = t382 then (anvillaw06_EncodeThere.j1 kj3 t384 t385 ((Go.bits .and .u32 t382 3) != 3) a0_0 a0_1 a0_2 a0_3 a0_4 a0_5 a0_6 a0_7 a0_8) else (anvillaw06_EncodeThere.j1 kj3 t384 t385 true a0_0 a0_1 a0_2 a0_3 a0_4 a0_5 a0_6 a0_7 a0_8)) else (anvillaw06_EncodeThere.j1 kj3 t384 t385 true a0_0 a0_1 a0_2 a0_3 a0_4 a0_5 a0_6 a0_7 a0_8)))) = some r := H
            have A24 := Aside0.mk A240
            clear A240
            replace H := Option.bind_eq_some_iff.mp H
            obtain ⟨⟨t407, t408, t409, t410, t411, t412, t413, t414, t415⟩, A250, H⟩ := H
            replace H : (if (!(t398 == t407) || (!(t399 == t408) || (!(t400 == t409) || (!(t401 == t410) || (!(t402 == t411) || (!(t403 == t412) || (!(t404 == t413) || (!(t405 == t414) || (!(t406 == t415)))))))))) = true then (anvillaw06_EncodeThere.j1 kj3 t384 t385 true a0_0 a0_1 a0_2 a0_3 a0_4 a0_5 a0_6 a0_7 a0_8) else (if t395 = 4 then (if t396 = t382 then (anvillaw06_EncodeThere.j1 kj3 t384 t385 ((Go.bits .and .u32 t382 3) != 3) a0_0 a0_1 a0_2 a0_3 a0_4 a0_5 a0_6 a0_7 a0_8) else (anvillaw06_EncodeThere.j1 kj3 t384 t385 true a0_0 a0_1 a0_2 a0_3 a0_4 a0_5 a0_6 a0_7 a0_8)) else (anvillaw06_EncodeThere.j1 kj3 t384 t385 true a0_0 a0_1 a0_2 a0_3 a0_4 a0_5 a0_6 a0_7 a0_8))) = some r := H
            have A25 := Aside0.mk A250
            clear A250
            by_cases c26 : (!(t398 == t407) || (!(t399 == t408) || (!(t400 == t409) || (!(t401 == t410) || (!(t402 == t411) || (!(t403 == t412) || (!(t404 == t413) || (!(t405 == t414) || (!(t406 == t415)))))))))) = true
            · rw [if_pos c26] at H
              have c26b0 : (!(t398 == t407) || (!(t399 == t408) || (!(t400 == t409) || (!(t401 == t410) || (!(t402 == t411) || (!(t403 == t412) || (!(t404 == t413) || (!(t405 == t414) || (!(t406 == t415)))))))))) = true := c26
              clear c26
              (first | rw [c26b0] | (simp only [i64_w, i32_w]; rw [c26b0]) | skip)
              exact absurd (hr.out.symm.trans (by cases kj3 with | zero => simp [anvillaw06_EncodeThere.j1] at H | succ kk_ => (simp [anvillaw06_EncodeThere.j1] at H; first | exact H | exact H.symm) : r = false)) (by decide)
            · rw [if_neg c26] at H
              have c26b0 : (!(t398 == t407) || (!(t399 == t408) || (!(t400 == t409) || (!(t401 == t410) || (!(t402 == t411) || (!(t403 == t412) || (!(t404 == t413) || (!(t405 == t414) || (!(t406 == t415)))))))))) = false := by simpa using c26
              clear c26
              (first | rw [c26b0] | (simp only [i64_w, i32_w]; rw [c26b0]) | skip)
              by_cases c27 : t395 = 4
              · rw [if_pos c27] at H
                have c27b0 : (t395 == 4) = true := beq_iff_eq.mpr c27
                have c27b1 : (t395 != 4) = false := bne_eq_false_iff_eq.mpr c27
                clear c27
                by_cases c28 : t396 = t382
                · rw [if_pos c28] at H
                  have c28b0 : (t396 == t382) = true := beq_iff_eq.mpr c28
                  have c28b1 : (t396 != t382) = false := bne_eq_false_iff_eq.mpr c28
                  clear c28
                  have H' := Aside0.mk H
                  clear H
                  try go_wp2
                  have n0_ : Aside0 ((((((((((w21.setCell ⟨gb397, 0, none⟩ (.int .i64 t388)).setCell ⟨gb397, 1, none⟩ (.int .i64 t389)).setCell ⟨gb397, 2, none⟩ (.int .i64 t390)).setCell ⟨gb397, 3, none⟩ (.int .i64 t391)).setCell ⟨gb397, 4, none⟩ (.int .i64 t392)).setCell ⟨gb397, 5, none⟩ (.bool t393)).setCell ⟨gb397, 6, none⟩ (.bool t394)).setCell ⟨gb397, 7, none⟩ (.int .i64 t395)).setCell ⟨gb397, 8, none⟩ (.int .u32 t396)).heap[gb381]? = some (.cells #[.int .i64 a0_0, .int .i64 a0_1, .int .i64 a0_2, .int .i64 a0_3, .int .i64 a0_4, .bool a0_5, .bool a0_6, .int .i64 a0_7, .int .u32 a0_8] 24 (0, 0))) := ⟨by (with_reducible repeat (first | refine blk_drewN ?_ _ | refine blk_drew ?_ | refine blk_alloc ?_ _)); refine blk_far ?_ NB381_397.out _; (with_reducible repeat (first | refine blk_drewN ?_ _ | refine blk_drew ?_ | refine blk_alloc ?_ _)); refine blk_far ?_ NB381_397.out _; (with_reducible repeat (first | refine blk_drewN ?_ _ | refine blk_drew ?_ | refine blk_alloc ?_ _)); refine blk_far ?_ NB381_397.out _; (with_reducible repeat (first | refine blk_drewN ?_ _ | refine blk_drew ?_ | refine blk_alloc ?_ _)); refine blk_far ?_ NB381_397.out _; (with_reducible repeat (first | refine blk_drewN ?_ _ | refine blk_drew ?_ | refine blk_alloc ?_ _)); refine blk_far ?_ NB381_397.out _; (with_reducible repeat (first | refine blk_drewN ?_ _ | refine blk_drew ?_ | refine blk_alloc ?_ _)); refine blk_far ?_ NB381_397.out _; (with_reducible repeat (first | refine blk_drewN ?_ _ | refine blk_drew ?_ | refine blk_alloc ?_ _)); refine blk_far ?_ NB381_397.out _; (with_reducible repeat (first | refine blk_drewN ?_ _ | refine blk_drew ?_ | refine blk_alloc ?_ _)); refine blk_far ?_ NB381_397.out _; (with_reducible repeat (first | refine blk_drewN ?_ _ | refine blk_drew ?_ | refine blk_alloc ?_ _)); refine blk_far ?_ NB381_397.out _; (with_reducible repeat (first | refine blk_drewN ?_ _ | refine blk_drew ?_ | refine blk_alloc ?_ _)); exact BK381.out⟩
                  have n1_ : Aside0 ((((((((((w21.setCell ⟨gb397, 0, none⟩ (.int .i64 t388)).setCell ⟨gb397, 1, none⟩ (.int .i64 t389)).setCell ⟨gb397, 2, none⟩ (.int .i64 t390)).setCell ⟨gb397, 3, none⟩ (.int .i64 t391)).setCell ⟨gb397, 4, none⟩ (.int .i64 t392)).setCell ⟨gb397, 5, none⟩ (.bool t393)).setCell ⟨gb397, 6, none⟩ (.bool t394)).setCell ⟨gb397, 7, none⟩ (.int .i64 t395)).setCell ⟨gb397, 8, none⟩ (.int .u32 t396)).heap[gb397]? = some (.cells #[.int .i64 t388, .int .i64 t389, .int .i64 t390, .int .i64 t391, .int .i64 t392, .bool t393, .bool t394, .int .i64 t395, .int .u32 t396] 24 (0, 0))) := ⟨by (with_reducible repeat (first | refine blk_drewN ?_ _ | refine blk_drew ?_ | refine blk_alloc ?_ _)); refine blk_put (cs := #[.int .i64 t388, .int .i64 t389, .int .i64 t390, .int .i64 t391, .int .i64 t392, .bool t393, .bool t394, .int .i64 t395, .int .u32 0]) ?_ 8 _ rfl; (with_reducible repeat (first | refine blk_drewN ?_ _ | refine blk_drew ?_ | refine blk_alloc ?_ _)); refine blk_put (cs := #[.int .i64 t388, .int .i64 t389, .int .i64 t390, .int .i64 t391, .int .i64 t392, .bool t393, .bool t394, .int .i64 0, .int .u32 0]) ?_ 7 _ rfl; (with_reducible repeat (first | refine blk_drewN ?_ _ | refine blk_drew ?_ | refine blk_alloc ?_ _)); refine blk_put (cs := #[.int .i64 t388, .int .i64 t389, .int .i64 t390, .int .i64 t391, .int .i64 t392, .bool t393, .bool false, .int .i64 0, .int .u32 0]) ?_ 6 _ rfl; (with_reducible repeat (first | refine blk_drewN ?_ _ | refine blk_drew ?_ | refine blk_alloc ?_ _)); refine blk_put (cs := #[.int .i64 t388, .int .i64 t389, .int .i64 t390, .int .i64 t391, .int .i64 t392, .bool false, .bool false, .int .i64 0, .int .u32 0]) ?_ 5 _ rfl; (with_reducible repeat (first | refine blk_drewN ?_ _ | refine blk_drew ?_ | refine blk_alloc ?_ _)); refine blk_put (cs := #[.int .i64 t388, .int .i64 t389, .int .i64 t390, .int .i64 t391, .int .i64 0, .bool false, .bool false, .int .i64 0, .int .u32 0]) ?_ 4 _ rfl; (with_reducible repeat (first | refine blk_drewN ?_ _ | refine blk_drew ?_ | refine blk_alloc ?_ _)); refine blk_put (cs := #[.int .i64 t388, .int .i64 t389, .int .i64 t390, .int .i64 0, .int .i64 0, .bool false, .bool false, .int .i64 0, .int .u32 0]) ?_ 3 _ rfl; (with_reducible repeat (first | refine blk_drewN ?_ _ | refine blk_drew ?_ | refine blk_alloc ?_ _)); refine blk_put (cs := #[.int .i64 t388, .int .i64 t389, .int .i64 0, .int .i64 0, .int .i64 0, .bool false, .bool false, .int .i64 0, .int .u32 0]) ?_ 2 _ rfl; (with_reducible repeat (first | refine blk_drewN ?_ _ | refine blk_drew ?_ | refine blk_alloc ?_ _)); refine blk_put (cs := #[.int .i64 t388, .int .i64 0, .int .i64 0, .int .i64 0, .int .i64 0, .bool false, .bool false, .int .i64 0, .int .u32 0]) ?_ 1 _ rfl; (with_reducible repeat (first | refine blk_drewN ?_ _ | refine blk_drew ?_ | refine blk_alloc ?_ _)); refine blk_put (cs := #[.int .i64 0, .int .i64 0, .int .i64 0, .int .i64 0, .int .i64 0, .bool false, .bool false, .int .i64 0, .int .u32 0]) ?_ 0 _ rfl; (with_reducible repeat (first | refine blk_drewN ?_ _ | refine blk_drew ?_ | refine blk_alloc ?_ _)); exact BK397.out⟩
                  have n2_ : Aside0 (Below w.heap.size w (((((((((w21.setCell ⟨gb397, 0, none⟩ (.int .i64 t388)).setCell ⟨gb397, 1, none⟩ (.int .i64 t389)).setCell ⟨gb397, 2, none⟩ (.int .i64 t390)).setCell ⟨gb397, 3, none⟩ (.int .i64 t391)).setCell ⟨gb397, 4, none⟩ (.int .i64 t392)).setCell ⟨gb397, 5, none⟩ (.bool t393)).setCell ⟨gb397, 6, none⟩ (.bool t394)).setCell ⟨gb397, 7, none⟩ (.int .i64 t395)).setCell ⟨gb397, 8, none⟩ (.int .u32 t396))) := ⟨by repeat (first | (with_reducible first | exact HB.out | apply below_alloc | apply pw_below_drewN | apply below_drew1 | refine below_set ?_ GE381.out | refine below_set ?_ GE397.out) | exact HB.out)⟩
                  (try clear BK381)
                  (try clear BK397)
                  (try clear HB)
                  generalize (((((((((w21.setCell ⟨gb397, 0, none⟩ (.int .i64 t388)).setCell ⟨gb397, 1, none⟩ (.int .i64 t389)).setCell ⟨gb397, 2, none⟩ (.int .i64 t390)).setCell ⟨gb397, 3, none⟩ (.int .i64 t391)).setCell ⟨gb397, 4, none⟩ (.int .i64 t392)).setCell ⟨gb397, 5, none⟩ (.bool t393)).setCell ⟨gb397, 6, none⟩ (.bool t394)).setCell ⟨gb397, 7, none⟩ (.int .i64 t395)).setCell ⟨gb397, 8, none⟩ (.int .u32 t396)) = w29 at n0_ n1_ n2_ ⊢
                  have BK381 := n0_
                  have BK397 := n1_
                  have HB := n2_
                  clear n0_ n1_ n2_
                  have n0_ := Aside0.mk (blk_drew BK381.out)
                  have n1_ := Aside0.mk (blk_drew BK397.out)
                  have n2_ := Aside0.mk (below_drew1 HB.out)
                  clear BK381
                  clear BK397
                  clear HB
                  have BK381 := n0_
                  have BK397 := n1_
                  have HB := n2_
                  clear n0_ n1_ n2_
                  refine start_ (n := 21) (S := fun w' => w'.cell? ⟨gb397, 0, none⟩ = some (.int .i64 t388) ∧ w'.cell? ⟨gb397, 1, none⟩ = some (.int .i64 t389) ∧ w'.cell? ⟨gb397, 2, none⟩ = some (.int .i64 t390) ∧ w'.cell? ⟨gb397, 3, none⟩ = some (.int .i64 t391) ∧ w'.cell? ⟨gb397, 4, none⟩ = some (.int .i64 t392) ∧ w'.cell? ⟨gb397, 5, none⟩ = some (.bool t393) ∧ w'.cell? ⟨gb397, 6, none⟩ = some (.bool t394) ∧ w'.cell? ⟨gb397, 7, none⟩ = some (.int .i64 t395) ∧ w'.cell? ⟨gb397, 8, none⟩ = some (.int .u32 t396) ∧ w'.cell? ⟨gb381, 0, none⟩ = some (.int .i64 a0_0) ∧ w'.cell? ⟨gb381, 1, none⟩ = some (.int .i64 a0_1) ∧ w'.cell? ⟨gb381, 2, none⟩ = some (.int .i64 a0_2) ∧ w'.cell? ⟨gb381, 3, none⟩ = some (.int .i64 a0_3) ∧ w'.cell? ⟨gb381, 4, none⟩ = some (.int .i64 a0_4) ∧ w'.cell? ⟨gb381, 5, none⟩ = some (.bool a0_5) ∧ w'.cell? ⟨gb381, 6, none⟩ = some (.bool a0_6) ∧ w'.cell? ⟨gb381, 7, none⟩ = some (.int .i64 a0_7) ∧ w'.cell? ⟨gb381, 8, none⟩ = some (.int .u32 a0_8)) (ds := []) #[false, false, false, false, false, false, false, false, false, false, false, false, false, false, false, false, false, false, false, false, false] (by kernel_rfl) rfl rfl ⟨(blk_cell BK397.out 0).trans rfl, (blk_cell BK397.out 1).trans rfl, (blk_cell BK397.out 2).trans rfl, (blk_cell BK397.out 3).trans rfl, (blk_cell BK397.out 4).trans rfl, (blk_cell BK397.out 5).trans rfl, (blk_cell BK397.out 6).trans rfl, (blk_cell BK397.out 7).trans rfl, (blk_cell BK397.out 8).trans rfl, (blk_cell BK381.out 0).trans rfl, (blk_cell BK381.out 1).trans rfl, (blk_cell BK381.out 2).trans rfl, (blk_cell BK381.out 3).trans rfl, (blk_cell BK381.out 4).trans rfl, (blk_cell BK381.out 5).trans rfl, (blk_cell BK381.out 6).trans rfl, (blk_cell BK381.out 7).trans rfl, (blk_cell BK381.out 8).trans rfl⟩ (fun hHeld => ?_); refine with_tabW anvillaw06_EncodeThere.tab8 anvillaw06_EncodeThere.bits8 (fun HT_ HW_ => ?_)
                  generalize w29.drew = w30 at BK381 BK397 HB hHeld ⊢
                  refine take_ (i := 0) (N := some 49) (v := ?_) (a' := ?_) #[true, false, false, false, false, false, false, false, false, false, false, false, false, false, false, false, false, false, false, false, false] rfl rfl (take_ofW HT_.out HW_.out (by kernel_rfl)) (fun _ _ _ h => h) (Or.inl ⟨by rfl, ?_⟩) hHeld ?_ ?_
                  rotate_left
                  · rintro w' ⟨s0, s1, s2, s3, s4, s5, s6, s7, s8, s9, s10, s11, s12, s13, s14, s15, s16, s17⟩
                    go_simp
                    with_reducible rfl
                  rotate_left
                  · simp only [Act.put, List.setIfInBounds_toArray, List.set_cons_zero, List.set_cons_succ, i64_w, i32_w]
                    rfl
                  refine take_ (i := 2) (N := some 51) (v := ?_) (a' := ?_) #[true, false, true, false, false, false, false, false, false, false, false, false, false, false, false, false, false, false, false, false, false] rfl rfl (take_ofW HT_.out HW_.out (by kernel_rfl)) (fun _ _ _ h => h) (Or.inl ⟨by rfl, ?_⟩) hHeld ?_ ?_
                  rotate_left
                  · rintro w' ⟨s0, s1, s2, s3, s4, s5, s6, s7, s8, s9, s10, s11, s12, s13, s14, s15, s16, s17⟩
                    go_simp
                    with_reducible rfl
                  rotate_left
                  · simp only [Act.put, List.setIfInBounds_toArray, List.set_cons_zero, List.set_cons_succ, i64_w, i32_w]
                    rfl
                  refine one_ (i := 1) (N := some 50) #[true, true, true, false, false, false, false, false, false, false, false, false, false, false, false, false, false, false, false, false, false] rfl rfl (one_of HT_.out (by kernel_rfl)) (by decide) (fun K hK => ?_)
                  refine goes_ Tryd.func18 (by kernel_rfl) rfl #[.agg #[.int .i64 t388, .int .i64 t389, .int .i64 t390, .int .i64 t391, .int .i64 t392, .bool t393, .bool t394, .int .i64 t395, .int .u32 t396]] (by rfl) rfl rfl (by (try simp only [List.map_toArray, List.map_cons, List.map_nil]); first | done | rfl | (simp only [List.length_drop, List.length_take]; rfl)) ?_
                  with_reducible refine (anvillaw06_bare.calls t388 t389 t390 t391 t392 t393 t394 t395 t396 t398 t399 t400 t401 t402 t403 t404 t405 t406 _ A24.out).mono ?_
                  rintro e w31 ⟨rfl, hb⟩
                  refine ⟨_, rfl, ?_⟩
                  have n0_ := Aside0.mk (blk_below (g := gb381) (o := .cells #[.int .i64 a0_0, .int .i64 a0_1, .int .i64 a0_2, .int .i64 a0_3, .int .i64 a0_4, .bool a0_5, .bool a0_6, .int .i64 a0_7, .int .u32 a0_8] 24 (0, 0)) (by (with_reducible repeat (first | refine blk_drewN ?_ _ | refine blk_drew ?_ | refine blk_alloc ?_ _)); exact BK381.out) hb)
                  have n1_ := Aside0.mk (blk_below (g := gb397) (o := .cells #[.int .i64 t388, .int .i64 t389, .int .i64 t390, .int .i64 t391, .int .i64 t392, .bool t393, .bool t394, .int .i64 t395, .int .u32 t396] 24 (0, 0)) (by (with_reducible repeat (first | refine blk_drewN ?_ _ | refine blk_drew ?_ | refine blk_alloc ?_ _)); exact BK397.out) hb)
                  have n2_ := Aside0.mk (below_step (by repeat (first | (with_reducible first | exact HB.out | apply below_alloc | apply pw_below_drewN | apply below_drew1 | refine below_set ?_ GE381.out | refine below_set ?_ GE397.out) | exact HB.out)) hb)
                  clear BK381
                  clear BK397
                  clear HB
                  have BK381 := n0_
                  have BK397 := n1_
                  have HB := n2_
                  clear n0_ n1_ n2_
                  (try clear hb)
                  (try clear hb2)
                  (try clear hk)
                  (try clear hi)
                  refine hK.out _ _ ⟨(blk_cell BK397.out 0).trans rfl, (blk_cell BK397.out 1).trans rfl, (blk_cell BK397.out 2).trans rfl, (blk_cell BK397.out 3).trans rfl, (blk_cell BK397.out 4).trans rfl, (blk_cell BK397.out 5).trans rfl, (blk_cell BK397.out 6).trans rfl, (blk_cell BK397.out 7).trans rfl, (blk_cell BK397.out 8).trans rfl, (blk_cell BK381.out 0).trans rfl, (blk_cell BK381.out 1).trans rfl, (blk_cell BK381.out 2).trans rfl, (blk_cell BK381.out 3).trans rfl, (blk_cell BK381.out 4).trans rfl, (blk_cell BK381.out 5).trans rfl, (blk_cell BK381.out 6).trans rfl, (blk_cell BK381.out 7).trans rfl, (blk_cell BK381.out 8).trans rfl⟩ (fun hHeld => ?_)
                  clear hK K
                  refine norm_ (a' := ?_) ?_ ?_
                  rotate_left
                  · show Act.put _ (some 50) _ = _
                    simp only [Act.put, List.setIfInBounds_toArray, List.set_cons_zero, List.set_cons_succ, i64_w, i32_w]
                    rfl
                  refine one_ (i := 3) (N := some 52) #[true, true, true, true, false, false, false, false, false, false, false, false, false, false, false, false, false, false, false, false, false] rfl rfl (one_of HT_.out (by kernel_rfl)) (by decide) (fun K hK => ?_)
                  refine goes_ Tryd.func18 (by kernel_rfl) rfl #[.agg #[.int .i64 a0_0, .int .i64 a0_1, .int .i64 a0_2, .int .i64 a0_3, .int .i64 a0_4, .bool a0_5, .bool a0_6, .int .i64 a0_7, .int .u32 a0_8]] (by rfl) rfl rfl (by (try simp only [List.map_toArray, List.map_cons, List.map_nil]); first | done | rfl | (simp only [List.length_drop, List.length_take]; rfl)) ?_
                  with_reducible refine (anvillaw06_bare.calls a0_0 a0_1 a0_2 a0_3 a0_4 a0_5 a0_6 a0_7 a0_8 t407 t408 t409 t410 t411 t412 t413 t414 t415 _ A25.out).mono ?_
                  rintro e w32 ⟨rfl, hb⟩
                  refine ⟨_, rfl, ?_⟩
                  have n0_ := Aside0.mk (blk_below (g := gb381) (o := .cells #[.int .i64 a0_0, .int .i64 a0_1, .int .i64 a0_2, .int .i64 a0_3, .int .i64 a0_4, .bool a0_5, .bool a0_6, .int .i64 a0_7, .int .u32 a0_8] 24 (0, 0)) (by (with_reducible repeat (first | refine blk_drewN ?_ _ | refine blk_drew ?_ | refine blk_alloc ?_ _)); exact BK381.out) hb)
                  have n1_ := Aside0.mk (blk_below (g := gb397) (o := .cells #[.int .i64 t388, .int .i64 t389, .int .i64 t390, .int .i64 t391, .int .i64 t392, .bool t393, .bool t394, .int .i64 t395, .int .u32 t396] 24 (0, 0)) (by (with_reducible repeat (first | refine blk_drewN ?_ _ | refine blk_drew ?_ | refine blk_alloc ?_ _)); exact BK397.out) hb)
                  have n2_ := Aside0.mk (below_step (by repeat (first | (with_reducible first | exact HB.out | apply below_alloc | apply pw_below_drewN | apply below_drew1 | refine below_set ?_ GE381.out | refine below_set ?_ GE397.out) | exact HB.out)) hb)
                  clear BK381
                  clear BK397
                  clear HB
                  have BK381 := n0_
                  have BK397 := n1_
                  have HB := n2_
                  clear n0_ n1_ n2_
                  (try clear hb)
                  (try clear hb2)
                  (try clear hk)
                  (try clear hi)
                  refine hK.out _ _ ⟨(blk_cell BK397.out 0).trans rfl, (blk_cell BK397.out 1).trans rfl, (blk_cell BK397.out 2).trans rfl, (blk_cell BK397.out 3).trans rfl, (blk_cell BK397.out 4).trans rfl, (blk_cell BK397.out 5).trans rfl, (blk_cell BK397.out 6).trans rfl, (blk_cell BK397.out 7).trans rfl, (blk_cell BK397.out 8).trans rfl, (blk_cell BK381.out 0).trans rfl, (blk_cell BK381.out 1).trans rfl, (blk_cell BK381.out 2).trans rfl, (blk_cell BK381.out 3).trans rfl, (blk_cell BK381.out 4).trans rfl, (blk_cell BK381.out 5).trans rfl, (blk_cell BK381.out 6).trans rfl, (blk_cell BK381.out 7).trans rfl, (blk_cell BK381.out 8).trans rfl⟩ (fun hHeld => ?_)
                  clear hK K
                  refine norm_ (a' := ?_) ?_ ?_
                  rotate_left
                  · show Act.put _ (some 52) _ = _
                    simp only [Act.put, List.setIfInBounds_toArray, List.set_cons_zero, List.set_cons_succ, i64_w, i32_w]
                    rfl
                  refine pure_ (i := 4) (N := some 53) (v := ?_) (a' := ?_) #[true, true, true, true, true, false, false, false, false, false, false, false, false, false, false, false, false, false, false, false, false] rfl rfl (any_of HT_.out (by kernel_rfl)) (fun _ _ _ h => h) (Or.inl ⟨by rfl, ?_⟩) ?_ ?_
                  rotate_left
                  · intro w'
                    go_simp
                    with_reducible rfl
                  rotate_left
                  · simp only [Act.put, List.setIfInBounds_toArray, List.set_cons_zero, List.set_cons_succ, i64_w, i32_w]
                    rfl
                  refine pure_ (i := 5) (N := some 54) (v := ?_) (a' := ?_) #[true, true, true, true, true, true, false, false, false, false, false, false, false, false, false, false, false, false, false, false, false] rfl rfl (any_of HT_.out (by kernel_rfl)) (fun _ _ _ h => h) (Or.inl ⟨by rfl, ?_⟩) ?_ ?_
                  rotate_left
                  · intro w'
                    go_simp
                    with_reducible rfl
                  rotate_left
                  · simp only [Act.put, List.setIfInBounds_toArray, List.set_cons_zero, List.set_cons_succ, i64_w, i32_w]
                    rfl
                  refine pure_ (i := 6) (N := some 55) (v := ?_) (a' := ?_) #[true, true, true, true, true, true, true, false, false, false, false, false, false, false, false, false, false, false, false, false, false] rfl rfl (any_of HT_.out (by kernel_rfl)) (fun _ _ _ h => h) (Or.inl ⟨by rfl, ?_⟩) ?_ ?_
                  rotate_left
                  · intro w'
                    go_simp
                    with_reducible rfl
                  rotate_left
                  · simp only [Act.put, List.setIfInBounds_toArray, List.set_cons_zero, List.set_cons_succ, i64_w, i32_w]
                    rfl
                  refine take_ (i := 7) (N := some 56) (v := ?_) (a' := ?_) #[true, true, true, true, true, true, true, true, false, false, false, false, false, false, false, false, false, false, false, false, false] rfl rfl (take_ofW HT_.out HW_.out (by kernel_rfl)) (fun _ _ _ h => h) (Or.inl ⟨by rfl, ?_⟩) hHeld ?_ ?_
                  rotate_left
                  · rintro w' ⟨s0, s1, s2, s3, s4, s5, s6, s7, s8, s9, s10, s11, s12, s13, s14, s15, s16, s17⟩
                    go_simp
                    with_reducible rfl
                  rotate_left
                  · simp only [Act.put, List.setIfInBounds_toArray, List.set_cons_zero, List.set_cons_succ, i64_w, i32_w]
                    rfl
                  refine pure_ (i := 8) (N := some 57) (v := ?_) (a' := ?_) #[true, true, true, true, true, true, true, true, true, false, false, false, false, false, false, false, false, false, false, false, false] rfl rfl (any_of HT_.out (by kernel_rfl)) (fun _ _ _ h => h) (Or.inl ⟨by rfl, ?_⟩) ?_ ?_
                  rotate_left
                  · intro w'
                    go_simp
                    with_reducible rfl
                  rotate_left
                  · simp only [Act.put, List.setIfInBounds_toArray, List.set_cons_zero, List.set_cons_succ, i64_w, i32_w]
                    rfl
                  refine pure_ (i := 9) (N := some 58) (v := ?_) (a' := ?_) #[true, true, true, true, true, true, true, true, true, true, false, false, false, false, false, false, false, false, false, false, false] rfl rfl (any_of HT_.out (by kernel_rfl)) (fun _ _ _ h => h) (Or.inl ⟨by rfl, ?_⟩) ?_ ?_
                  rotate_left
                  · intro w'
                    go_simp
                    with_reducible rfl
                  rotate_left
                  · simp only [Act.put, List.setIfInBounds_toArray, List.set_cons_zero, List.set_cons_succ, i64_w, i32_w]
                    rfl
                  refine pure_ (i := 10) (N := some 59) (v := ?_) (a' := ?_) #[true, true, true, true, true, true, true, true, true, true, true, false, false, false, false, false, false, false, false, false, false] rfl rfl (any_of HT_.out (by kernel_rfl)) (fun _ _ _ h => h) (Or.inl ⟨by rfl, ?_⟩) ?_ ?_
                  rotate_left
                  · intro w'
                    go_simp
                    with_reducible rfl
                  rotate_left
                  · simp only [Act.put, List.setIfInBounds_toArray, List.set_cons_zero, List.set_cons_succ, i64_w, i32_w]
                    rfl
                  refine pure_ (i := 11) (N := some 60) (v := ?_) (a' := ?_) #[true, true, true, true, true, true, true, true, true, true, true, true, false, false, false, false, false, false, false, false, false] rfl rfl (any_of HT_.out (by kernel_rfl)) (fun _ _ _ h => h) (Or.inl ⟨by rfl, ?_⟩) ?_ ?_
                  rotate_left
                  · intro w'
                    go_simp
                    with_reducible rfl
                  rotate_left
                  · simp only [Act.put, List.setIfInBounds_toArray, List.set_cons_zero, List.set_cons_succ, i64_w, i32_w]
                    rfl
                  refine pure_ (i := 13) (N := some 62) (v := ?_) (a' := ?_) #[true, true, true, true, true, true, true, true, true, true, true, true, false, true, false, false, false, false, false, false, false] rfl rfl (any_of HT_.out (by kernel_rfl)) (fun _ _ _ h => h) (Or.inl ⟨by rfl, ?_⟩) ?_ ?_
                  rotate_left
                  · intro w'
                    go_simp
                    with_reducible rfl
                  rotate_left
                  · simp only [Act.put, List.setIfInBounds_toArray, List.set_cons_zero, List.set_cons_succ, i64_w, i32_w]
                    rfl
                  refine take_ (i := 12) (N := some 61) (v := ?_) (a' := ?_) #[true, true, true, true, true, true, true, true, true, true, true, true, true, true, false, false, false, false, false, false, false] rfl rfl (take_ofW HT_.out HW_.out (by kernel_rfl)) (fun _ _ _ h => h) (Or.inl ⟨by rfl, ?_⟩) hHeld ?_ ?_
                  rotate_left
                  · rintro w' ⟨s0, s1, s2, s3, s4, s5, s6, s7, s8, s9, s10, s11, s12, s13, s14, s15, s16, s17⟩
                    go_simp
                    with_reducible rfl
                  rotate_left
                  · simp only [Act.put, List.setIfInBounds_toArray, List.set_cons_zero, List.set_cons_succ, i64_w, i32_w]
                    rfl
                  refine pure_ (i := 14) (N := some 63) (v := ?_) (a' := ?_) #[true, true, true, true, true, true, true, true, true, true, true, true, true, true, true, false, false, false, false, false, false] rfl rfl (any_of HT_.out (by kernel_rfl)) (fun _ _ _ h => h) (Or.inl ⟨by rfl, ?_⟩) ?_ ?_
                  rotate_left
                  · intro w'
                    go_simp
                    with_reducible rfl
                  rotate_left
                  · simp only [Act.put, List.setIfInBounds_toArray, List.set_cons_zero, List.set_cons_succ, i64_w, i32_w]
                    rfl
                  refine pure_ (i := 15) (N := some 64) (v := ?_) (a' := ?_) #[true, true, true, true, true, true, true, true, true, true, true, true, true, true, true, true, false, false, false, false, false] rfl rfl (any_of HT_.out (by kernel_rfl)) (fun _ _ _ h => h) (Or.inl ⟨by rfl, ?_⟩) ?_ ?_
                  rotate_left
                  · intro w'
                    go_simp
                    with_reducible rfl
                  rotate_left
                  · simp only [Act.put, List.setIfInBounds_toArray, List.set_cons_zero, List.set_cons_succ, i64_w, i32_w]
                    rfl
                  refine pure_ (i := 16) (N := some 65) (v := ?_) (a' := ?_) #[true, true, true, true, true, true, true, true, true, true, true, true, true, true, true, true, true, false, false, false, false] rfl rfl (any_of HT_.out (by kernel_rfl)) (fun _ _ _ h => h) (Or.inl ⟨by rfl, ?_⟩) ?_ ?_
                  rotate_left
                  · intro w'
                    go_simp
                    with_reducible rfl
                  rotate_left
                  · simp only [Act.put, List.setIfInBounds_toArray, List.set_cons_zero, List.set_cons_succ, i64_w, i32_w]
                    rfl
                  refine pure_ (i := 17) (N := some 66) (v := ?_) (a' := ?_) #[true, true, true, true, true, true, true, true, true, true, true, true, true, true, true, true, true, true, false, false, false] rfl rfl (any_of HT_.out (by kernel_rfl)) (fun _ _ _ h => h) (Or.inl ⟨by rfl, ?_⟩) ?_ ?_
                  rotate_left
                  · intro w'
                    go_simp
                    with_reducible rfl
                  rotate_left
                  · simp only [Act.put, List.setIfInBounds_toArray, List.set_cons_zero, List.set_cons_succ, i64_w, i32_w]
                    rfl
                  refine pure_ (i := 18) (N := some 67) (v := ?_) (a' := ?_) #[true, true, true, true, true, true, true, true, true, true, true, true, true, true, true, true, true, true, true, false, false] rfl rfl (any_of HT_.out (by kernel_rfl)) (fun _ _ _ h => h) (Or.inl ⟨by rfl, ?_⟩) ?_ ?_
                  rotate_left
                  · intro w'
                    go_simp
                    with_reducible rfl
                  rotate_left
                  · simp only [Act.put, List.setIfInBounds_toArray, List.set_cons_zero, List.set_cons_succ, i64_w, i32_w]
                    rfl
                  refine pure_ (i := 19) (N := some 68) (v := ?_) (a' := ?_) #[true, true, true, true, true, true, true, true, true, true, true, true, true, true, true, true, true, true, true, true, false] rfl rfl (any_of HT_.out (by kernel_rfl)) (fun _ _ _ h => h) (Or.inl ⟨by rfl, ?_⟩) ?_ ?_
                  rotate_left
                  · intro w'
                    go_simp
                    with_reducible rfl
                  rotate_left
                  · simp only [Act.put, List.setIfInBounds_toArray, List.set_cons_zero, List.set_cons_succ, i64_w, i32_w]
                    rfl
                  refine pure_ (i := 20) (N := some 69) (v := ?_) (a' := ?_) #[true, true, true, true, true, true, true, true, true, true, true, true, true, true, true, true, true, true, true, true, true] rfl rfl (any_of HT_.out (by kernel_rfl)) (fun _ _ _ h => h) (Or.inl ⟨by rfl, ?_⟩) ?_ ?_
                  rotate_left
                  · intro w'
                    go_simp
                    with_reducible rfl
                  rotate_left
                  · simp only [Act.put, List.setIfInBounds_toArray, List.set_cons_zero, List.set_cons_succ, i64_w, i32_w]
                    rfl
                  refine done_ (done_of HT_.out (by kernel_rfl)) ?_
                  try go_wp2
                  go_meet
                  case rel => exact ⟨_, (((Go.bits .and .u32 t382 3) != 3)), (by first | rfl | (simp; done) | (simp [*]; done)), H', ⟨by have := HJ3.out; first | omega | exact Nat.le_refl _⟩, ⟨by (with_reducible repeat (first | refine blk_drewN ?_ _ | refine blk_drew ?_ | refine blk_alloc ?_ _)); exact BK381.out⟩, ⟨by (with_reducible repeat (first | refine blk_drewN ?_ _ | refine blk_drew ?_ | refine blk_alloc ?_ _)); exact BK397.out⟩, ⟨by repeat (first | (with_reducible first | exact HB.out | apply below_alloc | apply pw_below_drewN | apply below_drew1 | refine below_set ?_ GE381.out | refine below_set ?_ GE397.out) | exact HB.out)⟩⟩
                · rw [if_neg c28] at H
                  have c28b0 : (t396 == t382) = false := beq_eq_false_iff_ne.mpr c28
                  have c28b1 : (t396 != t382) = true := bne_iff_ne.mpr c28
                  exact absurd (hr.out.symm.trans (by cases kj3 with | zero => simp [anvillaw06_EncodeThere.j1] at H | succ kk_ => (simp [anvillaw06_EncodeThere.j1] at H; first | exact H | exact H.symm) : r = false)) (by decide)
              · rw [if_neg c27] at H
                have c27b0 : (t395 == 4) = false := beq_eq_false_iff_ne.mpr c27
                have c27b1 : (t395 != 4) = true := bne_iff_ne.mpr c27
                exact absurd (hr.out.symm.trans (by cases kj3 with | zero => simp [anvillaw06_EncodeThere.j1] at H | succ kk_ => (simp [anvillaw06_EncodeThere.j1] at H; first | exact H | exact H.symm) : r = false)) (by decide)
          case rest =>
            clear HC19
            try clear c1
            try clear c2
            try clear p2
            try clear c5
            try clear c11
            try clear c11b0
            try clear c11b1
            try clear c13
            try clear c15
            try clear c16
            try clear c17
            try clear c17b0
            try clear c17b1
            try clear c18
            try clear c22
            try clear c26
            try clear c26b0
            try clear c27
            try clear c27b0
            try clear c27b1
            try clear c28
            try clear c28b0
            try clear c28b1
            try clear hcz13_0
            try clear hcz13_1
            try clear hcz13_2
            try clear hcz13_3
            try clear hcz13_4
            try clear hcz13_5
            try clear hcz13_6
            try clear hcz13_7
            try clear hcz13_8
            try clear hcz23_0
            try clear hcz23_1
            try clear hcz23_2
            try clear hcz23_3
            try clear hcz23_4
            try clear hcz23_5
            try clear hcz23_6
            try clear hcz23_7
            try clear hcz23_8
            try clear hcz6_0
            try clear hcz6_1
            try clear hcz6_2
            try clear hcz6_3
            try clear hcz6_4
            try clear hcz6_5
            try clear hcz6_6
            try clear hcz6_7
            try clear hcz6_8
            try clear hcz8_0
            try clear hcz8_1
            try clear hcz8_2
            try clear hcz8_3
            try clear hcz8_4
            try clear hcz8_5
            try clear hcz8_6
            try clear hcz8_7
            try clear hcz8_8
            try clear hfz13_0
            try clear hfz13_1
            try clear hfz13_2
            try clear hfz13_3
            try clear hfz13_4
            try clear hfz13_5
            try clear hfz13_6
            try clear hfz13_7
            try clear hfz13_8
            try clear hfz23_0
            try clear hfz23_1
            try clear hfz23_2
            try clear hfz23_3
            try clear hfz23_4
            try clear hfz23_5
            try clear hfz23_6
            try clear hfz23_7
            try clear hfz23_8
            try clear hfz6_0
            try clear hfz6_1
            try clear hfz6_2
            try clear hfz6_3
            try clear hfz6_4
            try clear hfz6_5
            try clear hfz6_6
            try clear hfz6_7
            try clear hfz6_8
            try clear hfz8_0
            try clear hfz8_1
            try clear hfz8_2
            try clear hfz8_3
            try clear hfz8_4
            try clear hfz8_5
            try clear hfz8_6
            try clear hfz8_7
            try clear hfz8_8
            try clear p2
            obtain ⟨kq, x69_18, rfl, HA, HJ18, BK381, BK397, HB⟩ := hcut
            cases kq with
            | zero => exact absurd HA.out (by simp [anvillaw06_EncodeThere.j1])
            | succ kj18 =>
              have H := HA.out
              clear HA
              simp only [anvillaw06_EncodeThere.j1] at H
              by_cases c33 : x69_18 = true
              · subst c33
                have H1 : (some false) = some r := by rw [if_pos rfl] at H; exact H
                clear H
                have H := H1
                clear H1
                obtain rfl := Option.some.inj H
                exact absurd hr.out (by decide)
              · replace c33 := Bool.eq_false_iff.mpr c33
                subst c33
                have H1 : (if t385 = true then ((decode_Decode.f kj18 ((t384) % 4294967296)).bind fun bt416 => ((anvillaw06_bare.f bt416.1 bt416.2.1 bt416.2.2.1 bt416.2.2.2.1 bt416.2.2.2.2.1 bt416.2.2.2.2.2.1 bt416.2.2.2.2.2.2.1 bt416.2.2.2.2.2.2.2.1 bt416.2.2.2.2.2.2.2.2).bind fun bt426 => ((anvillaw06_bare.f a0_0 a0_1 a0_2 a0_3 a0_4 a0_5 a0_6 a0_7 a0_8).bind fun bt435 => (if (bt426.1 == bt435.1 && (bt426.2.1 == bt435.2.1 && (bt426.2.2.1 == bt435.2.2.1 && (bt426.2.2.2.1 == bt435.2.2.2.1 && (bt426.2.2.2.2.1 == bt435.2.2.2.2.1 && (bt426.2.2.2.2.2.1 == bt435.2.2.2.2.2.1 && (bt426.2.2.2.2.2.2.1 == bt435.2.2.2.2.2.2.1 && (bt426.2.2.2.2.2.2.2.1 == bt435.2.2.2.2.2.2.2.1 && (bt426.2.2.2.2.2.2.2.2 == bt435.2.2.2.2.2.2.2.2))))))))) = true then (if bt416.2.2.2.2.2.2.2.1 = 2 then (if bt416.2.2.2.2.2.2.2.2 = ((t384) % 4294967296) then (some ((Go.bits .and .u16 t384 3) != 3)) else (some false)) else (some false)) else (some false))))) else (some (t384 == 0))) = some r := by rw [if_neg (show ¬ (false = true) by decide)] at H; exact H
                clear H
                have H := H1
                clear H1
                by_cases c34 : t385 = true
                · subst c34
                  have H1 : ((decode_Decode.f kj18 ((t384) % 4294967296)).bind fun bt416 => ((anvillaw06_bare.f bt416.1 bt416.2.1 bt416.2.2.1 bt416.2.2.2.1 bt416.2.2.2.2.1 bt416.2.2.2.2.2.1 bt416.2.2.2.2.2.2.1 bt416.2.2.2.2.2.2.2.1 bt416.2.2.2.2.2.2.2.2).bind fun bt426 => ((anvillaw06_bare.f a0_0 a0_1 a0_2 a0_3 a0_4 a0_5 a0_6 a0_7 a0_8).bind fun bt435 => (if (bt426.1 == bt435.1 && (bt426.2.1 == bt435.2.1 && (bt426.2.2.1 == bt435.2.2.1 && (bt426.2.2.2.1 == bt435.2.2.2.1 && (bt426.2.2.2.2.1 == bt435.2.2.2.2.1 && (bt426.2.2.2.2.2.1 == bt435.2.2.2.2.2.1 && (bt426.2.2.2.2.2.2.1 == bt435.2.2.2.2.2.2.1 && (bt426.2.2.2.2.2.2.2.1 == bt435.2.2.2.2.2.2.2.1 && (bt426.2.2.2.2.2.2.2.2 == bt435.2.2.2.2.2.2.2.2))))))))) = true then (if bt416.2.2.2.2.2.2.2.1 = 2 then (if bt416.2.2.2.2.2.2.2.2 = ((t384) % 4294967296) then (some ((Go.bits .and .u16 t384 3) != 3)) else (some false)) else (some false)) else (some false))))) = some r := by rw [if_pos rfl] at H; exact H
                  clear H
                  have H := H1
                  clear H1
                  replace H := Option.bind_eq_some_iff.mp H
                  obtain ⟨⟨t416, t417, t418, t419, t420, t421, t422, t423, t424⟩, A350, H⟩ := H
                  replace H : ((anvillaw06_bare.f t416 t417 t418 t419 t420 t421 t422 t423 t424).bind fun bt426 => ((anvillaw06_bare.f a0_0 a0_1 a0_2 a0_3 a0_4 a0_5 a0_6 a0_7 a0_8).bind fun bt435 => (if (bt426.1 == bt435.1 && (bt426.2.1 == bt435.2.1 && (bt426.2.2.1 == bt435.2.2.1 && (bt426.2.2.2.1 == bt435.2.2.2.1 && (bt426.2.2.2.2.1 == bt435.2.2.2.2.1 && (bt426.2.2.2.2.2.1 == bt435.2.2.2.2.2.1 && (bt426.2.2.2.2.2.2.1 == bt435.2.2.2.2.2.2.1 && (bt426.2.2.2.2.2.2.2.1 == bt435.2.2.2.2.2.2.2.1 && (bt426.2.2.2.2.2.2.2.2 == bt435.2.2.2.2.2.2.2.2))))))))) = true then (if t423 = 2 then (if t424 = ((t384) % 4294967296) then (some ((Go.bits .and .u16 t384 3) != 3)) else (some false)) else (some false)) else (some false)))) = some r := H
                  have A35 := Aside0.mk A350
                  clear A350
                  replace H := Option.bind_eq_some_iff.mp H
                  obtain ⟨⟨t426, t427, t428, t429, t430, t431, t432, t433, t434⟩, A360, H⟩ := H
                  replace H : ((anvillaw06_bare.f a0_0 a0_1 a0_2 a0_3 a0_4 a0_5 a0_6 a0_7 a0_8).bind fun bt435 => (if (t426 == bt435.1 && (t427 == bt435.2.1 && (t428 == bt435.2.2.1 && (t429 == bt435.2.2.2.1 && (t430 == bt435.2.2.2.2.1 && (t431 == bt435.2.2.2.2.2.1 && (t432 == bt435.2.2.2.2.2.2.1 && (t433 == bt435.2.2.2.2.2.2.2.1 && (t434 == bt435.2.2.2.2.2.2.2.2))))))))) = true then (if t423 = 2 then (if t424 = ((t384) % 4294967296) then (some ((Go.bits .and .u16 t384 3) != 3)) else (some false)) else (some false)) else (some false))) = some r := H
                  have A36 := Aside0.mk A360
                  clear A360
                  replace H := Option.bind_eq_some_iff.mp H
                  obtain ⟨⟨t435, t436, t437, t438, t439, t440, t441, t442, t443⟩, A370, H⟩ := H
                  replace H : (if (t426 == t435 && (t427 == t436 && (t428 == t437 && (t429 == t438 && (t430 == t439 && (t431 == t440 && (t432 == t441 && (t433 == t442 && (t434 == t443))))))))) = true then (if t423 = 2 then (if t424 = ((t384) % 4294967296) then (some ((Go.bits .and .u16 t384 3) != 3)) else (some false)) else (some false)) else (some false)) = some r := H
                  have A37 := Aside0.mk A370
                  clear A370
                  by_cases c38 : (t426 == t435 && (t427 == t436 && (t428 == t437 && (t429 == t438 && (t430 == t439 && (t431 == t440 && (t432 == t441 && (t433 == t442 && (t434 == t443))))))))) = true
                  · rw [if_pos c38] at H
                    have c38b0 : (t426 == t435 && (t427 == t436 && (t428 == t437 && (t429 == t438 && (t430 == t439 && (t431 == t440 && (t432 == t441 && (t433 == t442 && (t434 == t443))))))))) = true := c38
                    (try (have c38b1 : decide (t426 = t435 && (t427 == t436 && (t428 == t437 && (t429 == t438 && (t430 == t439 && (t431 == t440 && (t432 == t441 && (t433 == t442 && (t434 == t443))))))))) = true := by simpa using c38))
                    (try (have c38b2 : (t426 == t435 && (t427 == t436 && (t428 == t437 && (t429 == t438 && (t430 == t439 && (t431 == t440 && (t432 == t441 && (t433 == t442 && (t434 == t443))))))))) = true := by simpa using c38))
                    clear c38
                    by_cases c39 : t423 = 2
                    · rw [if_pos c39] at H
                      have c39b0 : (t423 == 2) = true := beq_iff_eq.mpr c39
                      have c39b1 : (t423 != 2) = false := bne_eq_false_iff_eq.mpr c39
                      clear c39
                      by_cases c40 : t424 = ((t384) % 4294967296)
                      · rw [if_pos c40] at H
                        have c40b0 : (t424 == ((t384) % 4294967296)) = true := beq_iff_eq.mpr c40
                        have c40b0w : (t424 == IntKind.u32.wrap t384) = true := by rw [IntKind.wrap_u32]; exact c40b0
                        have c40b1 : (t424 != ((t384) % 4294967296)) = false := bne_eq_false_iff_eq.mpr c40
                        clear c40
                        obtain rfl := Option.some.inj H
                        try go_wp2_with (first | ((with_reducible refine gate_callee (f := 17) rfl ?_); refine goesL_ (some 76) rfl rfl Tryd.func17 (by kernel_rfl) rfl #[.int .u32 ((t384) % 4294967296)] rfl (by (try simp only [List.map_toArray, List.map_cons, List.map_nil]); first | done | rfl | (simp only [List.length_drop, List.length_take]; rfl)) ?_; (with_reducible refine (decode_Decode.calls kj18 ((t384) % 4294967296) t416 t417 t418 t419 t420 t421 t422 t423 t424 _ A35.out).mono ?_); rintro e w41 ⟨rfl, hb⟩; refine ⟨_, rfl, ?_⟩; have n0_ := Aside0.mk (blk_below (g := gb381) (o := .cells #[.int .i64 a0_0, .int .i64 a0_1, .int .i64 a0_2, .int .i64 a0_3, .int .i64 a0_4, .bool a0_5, .bool a0_6, .int .i64 a0_7, .int .u32 a0_8] 24 (0, 0)) (by (with_reducible repeat (first | refine blk_drewN ?_ _ | refine blk_drew ?_ | refine blk_alloc ?_ _)); exact BK381.out) hb); have n1_ := Aside0.mk (blk_below (g := gb397) (o := .cells #[.int .i64 t388, .int .i64 t389, .int .i64 t390, .int .i64 t391, .int .i64 t392, .bool t393, .bool t394, .int .i64 t395, .int .u32 t396] 24 (0, 0)) (by (with_reducible repeat (first | refine blk_drewN ?_ _ | refine blk_drew ?_ | refine blk_alloc ?_ _)); exact BK397.out) hb); have n2_ := Aside0.mk (below_step (by repeat (first | (with_reducible first | exact HB.out | apply below_alloc | apply pw_below_drewN | apply below_drew1 | refine below_set ?_ GE381.out | refine below_set ?_ GE397.out) | exact HB.out)) hb); clear BK381; clear BK397; clear HB; have BK381 := n0_; have BK397 := n1_; have HB := n2_; clear n0_ n1_ n2_; (try clear hb); (try clear hb2); (try clear hk); (try clear hi)) | ((with_reducible refine gate_dst (N := 8) rfl ?_); refine box_event ?hg (N := 8) ?hd (cs := #[.int .i64 0, .int .i64 0, .int .i64 0, .int .i64 0, .int .i64 0, .bool false, .bool false, .int .i64 0, .int .u32 0]) (t := 24) ?hr ?_; (case hd => rfl); (case hg => rfl); (case hr => first | (go_simp; done) | (go_simp; rfl)); intro gb425 hg w42 hbox hb; have n0_ := Aside0.mk (blk_below (g := gb381) (o := .cells #[.int .i64 a0_0, .int .i64 a0_1, .int .i64 a0_2, .int .i64 a0_3, .int .i64 a0_4, .bool a0_5, .bool a0_6, .int .i64 a0_7, .int .u32 a0_8] 24 (0, 0)) (by (with_reducible repeat (first | refine blk_drewN ?_ _ | refine blk_drew ?_ | refine blk_alloc ?_ _)); exact BK381.out) hb); have n1_ := Aside0.mk (blk_below (g := gb397) (o := .cells #[.int .i64 t388, .int .i64 t389, .int .i64 t390, .int .i64 t391, .int .i64 t392, .bool t393, .bool t394, .int .i64 t395, .int .u32 t396] 24 (0, 0)) (by (with_reducible repeat (first | refine blk_drewN ?_ _ | refine blk_drew ?_ | refine blk_alloc ?_ _)); exact BK397.out) hb); have n2_ := Aside0.mk (below_step (by repeat (first | (with_reducible first | exact HB.out | apply below_alloc | apply pw_below_drewN | apply below_drew1 | refine below_set ?_ GE381.out | refine below_set ?_ GE397.out) | exact HB.out)) hb); have n3_ := Aside0.mk (hbox); have n4_ := Aside0.mk ((by rw [hg]; exact (below_size (by repeat (first | (with_reducible first | exact HB.out | apply below_alloc | apply pw_below_drewN | apply below_drew1 | refine below_set ?_ GE381.out | refine below_set ?_ GE397.out) | exact HB.out))) : w.heap.size ≤ gb425)); have n5_ := Aside0.mk ((by rw [hg]; exact (below_size (by repeat (first | (with_reducible first | exact HB.out | apply below_alloc | apply pw_below_drewN | apply below_drew1 | refine below_set ?_ GE381.out | refine below_set ?_ GE397.out) | exact HB.out))) : w.heap.size ≤ gb425)); have n6_ := Aside0.mk ((by rw [hg]; exact Nat.ne_of_lt (blk_lt (g := gb381) (o := .cells #[.int .i64 a0_0, .int .i64 a0_1, .int .i64 a0_2, .int .i64 a0_3, .int .i64 a0_4, .bool a0_5, .bool a0_6, .int .i64 a0_7, .int .u32 a0_8] 24 (0, 0)) (by (with_reducible repeat (first | refine blk_drewN ?_ _ | refine blk_drew ?_ | refine blk_alloc ?_ _)); exact BK381.out)) : gb381 ≠ gb425)); have n7_ := Aside0.mk ((by rw [hg]; exact Nat.ne_of_gt (blk_lt (g := gb381) (o := .cells #[.int .i64 a0_0, .int .i64 a0_1, .int .i64 a0_2, .int .i64 a0_3, .int .i64 a0_4, .bool a0_5, .bool a0_6, .int .i64 a0_7, .int .u32 a0_8] 24 (0, 0)) (by (with_reducible repeat (first | refine blk_drewN ?_ _ | refine blk_drew ?_ | refine blk_alloc ?_ _)); exact BK381.out)) : gb425 ≠ gb381)); have n8_ := Aside0.mk ((by rw [hg]; exact Nat.ne_of_lt (blk_lt (g := gb397) (o := .cells #[.int .i64 t388, .int .i64 t389, .int .i64 t390, .int .i64 t391, .int .i64 t392, .bool t393, .bool t394, .int .i64 t395, .int .u32 t396] 24 (0, 0)) (by (with_reducible repeat (first | refine blk_drewN ?_ _ | refine blk_drew ?_ | refine blk_alloc ?_ _)); exact BK397.out)) : gb397 ≠ gb425)); have n9_ := Aside0.mk ((by rw [hg]; exact Nat.ne_of_gt (blk_lt (g := gb397) (o := .cells #[.int .i64 t388, .int .i64 t389, .int .i64 t390, .int .i64 t391, .int .i64 t392, .bool t393, .bool t394, .int .i64 t395, .int .u32 t396] 24 (0, 0)) (by (with_reducible repeat (first | refine blk_drewN ?_ _ | refine blk_drew ?_ | refine blk_alloc ?_ _)); exact BK397.out)) : gb425 ≠ gb397)); clear BK381; clear BK397; clear HB; have BK381 := n0_; have BK397 := n1_; have HB := n2_; have BK425 := n3_; have GW425 := n4_; have GE425 := n5_; have NB381_425 := n6_; have NB425_381 := n7_; have NB397_425 := n8_; have NB425_397 := n9_; clear n0_ n1_ n2_ n3_ n4_ n5_ n6_ n7_ n8_ n9_; clear hb hbox hg; have hnb43 := NB425_381.out; have hnc43 := NB381_425.out; have hnb44 := NB425_397.out; have hnc44 := NB397_425.out; have hcz45_0 : w42.cell? ⟨gb425, 0, none⟩ = some (.int .i64 0) := (blk_cell BK425.out 0).trans rfl; have hcz45_1 : w42.cell? ⟨gb425, 1, none⟩ = some (.int .i64 0) := (blk_cell BK425.out 1).trans rfl; have hcz45_2 : w42.cell? ⟨gb425, 2, none⟩ = some (.int .i64 0) := (blk_cell BK425.out 2).trans rfl; have hcz45_3 : w42.cell? ⟨gb425, 3, none⟩ = some (.int .i64 0) := (blk_cell BK425.out 3).trans rfl; have hcz45_4 : w42.cell? ⟨gb425, 4, none⟩ = some (.int .i64 0) := (blk_cell BK425.out 4).trans rfl; have hcz45_5 : w42.cell? ⟨gb425, 5, none⟩ = some (.bool false) := (blk_cell BK425.out 5).trans rfl; have hcz45_6 : w42.cell? ⟨gb425, 6, none⟩ = some (.bool false) := (blk_cell BK425.out 6).trans rfl; have hcz45_7 : w42.cell? ⟨gb425, 7, none⟩ = some (.int .i64 0) := (blk_cell BK425.out 7).trans rfl; have hcz45_8 : w42.cell? ⟨gb425, 8, none⟩ = some (.int .u32 0) := (blk_cell BK425.out 8).trans rfl; have hfz45_0 := blk_frozen BK425.out 0; have hfz45_1 := blk_frozen BK425.out 1; have hfz45_2 := blk_frozen BK425.out 2; have hfz45_3 := blk_frozen BK425.out 3; have hfz45_4 := blk_frozen BK425.out 4; have hfz45_5 := blk_frozen BK425.out 5; have hfz45_6 := blk_frozen BK425.out 6; have hfz45_7 := blk_frozen BK425.out 7; have hfz45_8 := blk_frozen BK425.out 8))
                        have n0_ : Aside0 ((((((((((w42.setCell ⟨gb425, 0, none⟩ (.int .i64 t416)).setCell ⟨gb425, 1, none⟩ (.int .i64 t417)).setCell ⟨gb425, 2, none⟩ (.int .i64 t418)).setCell ⟨gb425, 3, none⟩ (.int .i64 t419)).setCell ⟨gb425, 4, none⟩ (.int .i64 t420)).setCell ⟨gb425, 5, none⟩ (.bool t421)).setCell ⟨gb425, 6, none⟩ (.bool t422)).setCell ⟨gb425, 7, none⟩ (.int .i64 t423)).setCell ⟨gb425, 8, none⟩ (.int .u32 t424)).heap[gb381]? = some (.cells #[.int .i64 a0_0, .int .i64 a0_1, .int .i64 a0_2, .int .i64 a0_3, .int .i64 a0_4, .bool a0_5, .bool a0_6, .int .i64 a0_7, .int .u32 a0_8] 24 (0, 0))) := ⟨by (with_reducible repeat (first | refine blk_drewN ?_ _ | refine blk_drew ?_ | refine blk_alloc ?_ _)); refine blk_far ?_ NB381_425.out _; (with_reducible repeat (first | refine blk_drewN ?_ _ | refine blk_drew ?_ | refine blk_alloc ?_ _)); refine blk_far ?_ NB381_425.out _; (with_reducible repeat (first | refine blk_drewN ?_ _ | refine blk_drew ?_ | refine blk_alloc ?_ _)); refine blk_far ?_ NB381_425.out _; (with_reducible repeat (first | refine blk_drewN ?_ _ | refine blk_drew ?_ | refine blk_alloc ?_ _)); refine blk_far ?_ NB381_425.out _; (with_reducible repeat (first | refine blk_drewN ?_ _ | refine blk_drew ?_ | refine blk_alloc ?_ _)); refine blk_far ?_ NB381_425.out _; (with_reducible repeat (first | refine blk_drewN ?_ _ | refine blk_drew ?_ | refine blk_alloc ?_ _)); refine blk_far ?_ NB381_425.out _; (with_reducible repeat (first | refine blk_drewN ?_ _ | refine blk_drew ?_ | refine blk_alloc ?_ _)); refine blk_far ?_ NB381_425.out _; (with_reducible repeat (first | refine blk_drewN ?_ _ | refine blk_drew ?_ | refine blk_alloc ?_ _)); refine blk_far ?_ NB381_425.out _; (with_reducible repeat (first | refine blk_drewN ?_ _ | refine blk_drew ?_ | refine blk_alloc ?_ _)); refine blk_far ?_ NB381_425.out _; (with_reducible repeat (first | refine blk_drewN ?_ _ | refine blk_drew ?_ | refine blk_alloc ?_ _)); exact BK381.out⟩
                        have n1_ : Aside0 ((((((((((w42.setCell ⟨gb425, 0, none⟩ (.int .i64 t416)).setCell ⟨gb425, 1, none⟩ (.int .i64 t417)).setCell ⟨gb425, 2, none⟩ (.int .i64 t418)).setCell ⟨gb425, 3, none⟩ (.int .i64 t419)).setCell ⟨gb425, 4, none⟩ (.int .i64 t420)).setCell ⟨gb425, 5, none⟩ (.bool t421)).setCell ⟨gb425, 6, none⟩ (.bool t422)).setCell ⟨gb425, 7, none⟩ (.int .i64 t423)).setCell ⟨gb425, 8, none⟩ (.int .u32 t424)).heap[gb397]? = some (.cells #[.int .i64 t388, .int .i64 t389, .int .i64 t390, .int .i64 t391, .int .i64 t392, .bool t393, .bool t394, .int .i64 t395, .int .u32 t396] 24 (0, 0))) := ⟨by (with_reducible repeat (first | refine blk_drewN ?_ _ | refine blk_drew ?_ | refine blk_alloc ?_ _)); refine blk_far ?_ NB397_425.out _; (with_reducible repeat (first | refine blk_drewN ?_ _ | refine blk_drew ?_ | refine blk_alloc ?_ _)); refine blk_far ?_ NB397_425.out _; (with_reducible repeat (first | refine blk_drewN ?_ _ | refine blk_drew ?_ | refine blk_alloc ?_ _)); refine blk_far ?_ NB397_425.out _; (with_reducible repeat (first | refine blk_drewN ?_ _ | refine blk_drew ?_ | refine blk_alloc ?_ _)); refine blk_far ?_ NB397_425.out _; (with_reducible repeat (first | refine blk_drewN ?_ _ | refine blk_drew ?_ | refine blk_alloc ?_ _)); refine blk_far ?_ NB397_425.out _; (with_reducible repeat (first | refine blk_drewN ?_ _ | refine blk_drew ?_ | refine blk_alloc ?_ _)); refine blk_far ?_ NB397_425.out _; (with_reducible repeat (first | refine blk_drewN ?_ _ | refine blk_drew ?_ | refine blk_alloc ?_ _)); refine blk_far ?_ NB397_425.out _; (with_reducible repeat (first | refine blk_drewN ?_ _ | refine blk_drew ?_ | refine blk_alloc ?_ _)); refine blk_far ?_ NB397_425.out _; (with_reducible repeat (first | refine blk_drewN ?_ _ | refine blk_drew ?_ | refine blk_alloc ?_ _)); refine blk_far ?_ NB397_425.out _; (with_reducible repeat (first | refine blk_drewN ?_ _ | refine blk_drew ?_ | refine blk_alloc ?_ _)); exact BK397.out⟩
                        have n2_ : Aside0 ((((((((((w42.setCell ⟨gb425, 0, none⟩ (.int .i64 t416)).setCell ⟨gb425, 1, none⟩ (.int .i64 t417)).setCell ⟨gb425, 2, none⟩ (.int .i64 t418)).setCell ⟨gb425, 3, none⟩ (.int .i64 t419)).setCell ⟨gb425, 4, none⟩ (.int .i64 t420)).setCell ⟨gb425, 5, none⟩ (.bool t421)).setCell ⟨gb425, 6, none⟩ (.bool t422)).setCell ⟨gb425, 7, none⟩ (.int .i64 t423)).setCell ⟨gb425, 8, none⟩ (.int .u32 t424)).heap[gb425]? = some (.cells #[.int .i64 t416, .int .i64 t417, .int .i64 t418, .int .i64 t419, .int .i64 t420, .bool t421, .bool t422, .int .i64 t423, .int .u32 t424] 24 (0, 0))) := ⟨by (with_reducible repeat (first | refine blk_drewN ?_ _ | refine blk_drew ?_ | refine blk_alloc ?_ _)); refine blk_put (cs := #[.int .i64 t416, .int .i64 t417, .int .i64 t418, .int .i64 t419, .int .i64 t420, .bool t421, .bool t422, .int .i64 t423, .int .u32 0]) ?_ 8 _ rfl; (with_reducible repeat (first | refine blk_drewN ?_ _ | refine blk_drew ?_ | refine blk_alloc ?_ _)); refine blk_put (cs := #[.int .i64 t416, .int .i64 t417, .int .i64 t418, .int .i64 t419, .int .i64 t420, .bool t421, .bool t422, .int .i64 0, .int .u32 0]) ?_ 7 _ rfl; (with_reducible repeat (first | refine blk_drewN ?_ _ | refine blk_drew ?_ | refine blk_alloc ?_ _)); refine blk_put (cs := #[.int .i64 t416, .int .i64 t417, .int .i64 t418, .int .i64 t419, .int .i64 t420, .bool t421, .bool false, .int .i64 0, .int .u32 0]) ?_ 6 _ rfl; (with_reducible repeat (first | refine blk_drewN ?_ _ | refine blk_drew ?_ | refine blk_alloc ?_ _)); refine blk_put (cs := #[.int .i64 t416, .int .i64 t417, .int .i64 t418, .int .i64 t419, .int .i64 t420, .bool false, .bool false, .int .i64 0, .int .u32 0]) ?_ 5 _ rfl; (with_reducible repeat (first | refine blk_drewN ?_ _ | refine blk_drew ?_ | refine blk_alloc ?_ _)); refine blk_put (cs := #[.int .i64 t416, .int .i64 t417, .int .i64 t418, .int .i64 t419, .int .i64 0, .bool false, .bool false, .int .i64 0, .int .u32 0]) ?_ 4 _ rfl; (with_reducible repeat (first | refine blk_drewN ?_ _ | refine blk_drew ?_ | refine blk_alloc ?_ _)); refine blk_put (cs := #[.int .i64 t416, .int .i64 t417, .int .i64 t418, .int .i64 0, .int .i64 0, .bool false, .bool false, .int .i64 0, .int .u32 0]) ?_ 3 _ rfl; (with_reducible repeat (first | refine blk_drewN ?_ _ | refine blk_drew ?_ | refine blk_alloc ?_ _)); refine blk_put (cs := #[.int .i64 t416, .int .i64 t417, .int .i64 0, .int .i64 0, .int .i64 0, .bool false, .bool false, .int .i64 0, .int .u32 0]) ?_ 2 _ rfl; (with_reducible repeat (first | refine blk_drewN ?_ _ | refine blk_drew ?_ | refine blk_alloc ?_ _)); refine blk_put (cs := #[.int .i64 t416, .int .i64 0, .int .i64 0, .int .i64 0, .int .i64 0, .bool false, .bool false, .int .i64 0, .int .u32 0]) ?_ 1 _ rfl; (with_reducible repeat (first | refine blk_drewN ?_ _ | refine blk_drew ?_ | refine blk_alloc ?_ _)); refine blk_put (cs := #[.int .i64 0, .int .i64 0, .int .i64 0, .int .i64 0, .int .i64 0, .bool false, .bool false, .int .i64 0, .int .u32 0]) ?_ 0 _ rfl; (with_reducible repeat (first | refine blk_drewN ?_ _ | refine blk_drew ?_ | refine blk_alloc ?_ _)); exact BK425.out⟩
                        have n3_ : Aside0 (Below w.heap.size w (((((((((w42.setCell ⟨gb425, 0, none⟩ (.int .i64 t416)).setCell ⟨gb425, 1, none⟩ (.int .i64 t417)).setCell ⟨gb425, 2, none⟩ (.int .i64 t418)).setCell ⟨gb425, 3, none⟩ (.int .i64 t419)).setCell ⟨gb425, 4, none⟩ (.int .i64 t420)).setCell ⟨gb425, 5, none⟩ (.bool t421)).setCell ⟨gb425, 6, none⟩ (.bool t422)).setCell ⟨gb425, 7, none⟩ (.int .i64 t423)).setCell ⟨gb425, 8, none⟩ (.int .u32 t424))) := ⟨by repeat (first | (with_reducible first | exact HB.out | apply below_alloc | apply pw_below_drewN | apply below_drew1 | refine below_set ?_ GE381.out | refine below_set ?_ GE397.out | refine below_set ?_ GE425.out) | exact HB.out)⟩
                        (try clear BK381)
                        (try clear BK397)
                        (try clear BK425)
                        (try clear HB)
                        generalize (((((((((w42.setCell ⟨gb425, 0, none⟩ (.int .i64 t416)).setCell ⟨gb425, 1, none⟩ (.int .i64 t417)).setCell ⟨gb425, 2, none⟩ (.int .i64 t418)).setCell ⟨gb425, 3, none⟩ (.int .i64 t419)).setCell ⟨gb425, 4, none⟩ (.int .i64 t420)).setCell ⟨gb425, 5, none⟩ (.bool t421)).setCell ⟨gb425, 6, none⟩ (.bool t422)).setCell ⟨gb425, 7, none⟩ (.int .i64 t423)).setCell ⟨gb425, 8, none⟩ (.int .u32 t424)) = w46 at n0_ n1_ n2_ n3_ ⊢
                        have BK381 := n0_
                        have BK397 := n1_
                        have BK425 := n2_
                        have HB := n3_
                        clear n0_ n1_ n2_ n3_
                        have n0_ := Aside0.mk (blk_drew BK381.out)
                        have n1_ := Aside0.mk (blk_drew BK397.out)
                        have n2_ := Aside0.mk (blk_drew BK425.out)
                        have n3_ := Aside0.mk (below_drew1 HB.out)
                        clear BK381
                        clear BK397
                        clear BK425
                        clear HB
                        have BK381 := n0_
                        have BK397 := n1_
                        have BK425 := n2_
                        have HB := n3_
                        clear n0_ n1_ n2_ n3_
                        refine start_ (n := 23) (S := fun w' => w'.cell? ⟨gb425, 0, none⟩ = some (.int .i64 t416) ∧ w'.cell? ⟨gb425, 1, none⟩ = some (.int .i64 t417) ∧ w'.cell? ⟨gb425, 2, none⟩ = some (.int .i64 t418) ∧ w'.cell? ⟨gb425, 3, none⟩ = some (.int .i64 t419) ∧ w'.cell? ⟨gb425, 4, none⟩ = some (.int .i64 t420) ∧ w'.cell? ⟨gb425, 5, none⟩ = some (.bool t421) ∧ w'.cell? ⟨gb425, 6, none⟩ = some (.bool t422) ∧ w'.cell? ⟨gb425, 7, none⟩ = some (.int .i64 t423) ∧ w'.cell? ⟨gb425, 8, none⟩ = some (.int .u32 t424) ∧ w'.cell? ⟨gb381, 0, none⟩ = some (.int .i64 a0_0) ∧ w'.cell? ⟨gb381, 1, none⟩ = some (.int .i64 a0_1) ∧ w'.cell? ⟨gb381, 2, none⟩ = some (.int .i64 a0_2) ∧ w'.cell? ⟨gb381, 3, none⟩ = some (.int .i64 a0_3) ∧ w'.cell? ⟨gb381, 4, none⟩ = some (.int .i64 a0_4) ∧ w'.cell? ⟨gb381, 5, none⟩ = some (.bool a0_5) ∧ w'.cell? ⟨gb381, 6, none⟩ = some (.bool a0_6) ∧ w'.cell? ⟨gb381, 7, none⟩ = some (.int .i64 a0_7) ∧ w'.cell? ⟨gb381, 8, none⟩ = some (.int .u32 a0_8)) (ds := []) #[false, false, false, false, false, false, false, false, false, false, false, false, false, false, false, false, false, false, false, false, false, false, false] (by kernel_rfl) rfl rfl ⟨(blk_cell BK425.out 0).trans rfl, (blk_cell BK425.out 1).trans rfl, (blk_cell BK425.out 2).trans rfl, (blk_cell BK425.out 3).trans rfl, (blk_cell BK425.out 4).trans rfl, (blk_cell BK425.out 5).trans rfl, (blk_cell BK425.out 6).trans rfl, (blk_cell BK425.out 7).trans rfl, (blk_cell BK425.out 8).trans rfl, (blk_cell BK381.out 0).trans rfl, (blk_cell BK381.out 1).trans rfl, (blk_cell BK381.out 2).trans rfl, (blk_cell BK381.out 3).trans rfl, (blk_cell BK381.out 4).trans rfl, (blk_cell BK381.out 5).trans rfl, (blk_cell BK381.out 6).trans rfl, (blk_cell BK381.out 7).trans rfl, (blk_cell BK381.out 8).trans rfl⟩ (fun hHeld => ?_); refine with_tabW anvillaw06_EncodeThere.tab13 anvillaw06_EncodeThere.bits13 (fun HT_ HW_ => ?_)
                        generalize w46.drew = w47 at BK381 BK397 BK425 HB hHeld ⊢
                        refine take_ (i := 0) (N := some 77) (v := ?_) (a' := ?_) #[true, false, false, false, false, false, false, false, false, false, false, false, false, false, false, false, false, false, false, false, false, false, false] rfl rfl (take_ofW HT_.out HW_.out (by kernel_rfl)) (fun _ _ _ h => h) (Or.inl ⟨by rfl, ?_⟩) hHeld ?_ ?_
                        rotate_left
                        · rintro w' ⟨s0, s1, s2, s3, s4, s5, s6, s7, s8, s9, s10, s11, s12, s13, s14, s15, s16, s17⟩
                          go_simp
                          with_reducible rfl
                        rotate_left
                        · simp only [Act.put, List.setIfInBounds_toArray, List.set_cons_zero, List.set_cons_succ, i64_w, i32_w]
                          rfl
                        refine take_ (i := 2) (N := some 79) (v := ?_) (a' := ?_) #[true, false, true, false, false, false, false, false, false, false, false, false, false, false, false, false, false, false, false, false, false, false, false] rfl rfl (take_ofW HT_.out HW_.out (by kernel_rfl)) (fun _ _ _ h => h) (Or.inl ⟨by rfl, ?_⟩) hHeld ?_ ?_
                        rotate_left
                        · rintro w' ⟨s0, s1, s2, s3, s4, s5, s6, s7, s8, s9, s10, s11, s12, s13, s14, s15, s16, s17⟩
                          go_simp
                          with_reducible rfl
                        rotate_left
                        · simp only [Act.put, List.setIfInBounds_toArray, List.set_cons_zero, List.set_cons_succ, i64_w, i32_w]
                          rfl
                        refine one_ (i := 1) (N := some 78) #[true, true, true, false, false, false, false, false, false, false, false, false, false, false, false, false, false, false, false, false, false, false, false] rfl rfl (one_of HT_.out (by kernel_rfl)) (by decide) (fun K hK => ?_)
                        refine goes_ Tryd.func18 (by kernel_rfl) rfl #[.agg #[.int .i64 t416, .int .i64 t417, .int .i64 t418, .int .i64 t419, .int .i64 t420, .bool t421, .bool t422, .int .i64 t423, .int .u32 t424]] (by rfl) rfl rfl (by (try simp only [List.map_toArray, List.map_cons, List.map_nil]); first | done | rfl | (simp only [List.length_drop, List.length_take]; rfl)) ?_
                        with_reducible refine (anvillaw06_bare.calls t416 t417 t418 t419 t420 t421 t422 t423 t424 t426 t427 t428 t429 t430 t431 t432 t433 t434 _ A36.out).mono ?_
                        rintro e w48 ⟨rfl, hb⟩
                        refine ⟨_, rfl, ?_⟩
                        have n0_ := Aside0.mk (blk_below (g := gb381) (o := .cells #[.int .i64 a0_0, .int .i64 a0_1, .int .i64 a0_2, .int .i64 a0_3, .int .i64 a0_4, .bool a0_5, .bool a0_6, .int .i64 a0_7, .int .u32 a0_8] 24 (0, 0)) (by (with_reducible repeat (first | refine blk_drewN ?_ _ | refine blk_drew ?_ | refine blk_alloc ?_ _)); exact BK381.out) hb)
                        have n1_ := Aside0.mk (blk_below (g := gb397) (o := .cells #[.int .i64 t388, .int .i64 t389, .int .i64 t390, .int .i64 t391, .int .i64 t392, .bool t393, .bool t394, .int .i64 t395, .int .u32 t396] 24 (0, 0)) (by (with_reducible repeat (first | refine blk_drewN ?_ _ | refine blk_drew ?_ | refine blk_alloc ?_ _)); exact BK397.out) hb)
                        have n2_ := Aside0.mk (blk_below (g := gb425) (o := .cells #[.int .i64 t416, .int .i64 t417, .int .i64 t418, .int .i64 t419, .int .i64 t420, .bool t421, .bool t422, .int .i64 t423, .int .u32 t424] 24 (0, 0)) (by (with_reducible repeat (first | refine blk_drewN ?_ _ | refine blk_drew ?_ | refine blk_alloc ?_ _)); exact BK425.out) hb)
                        have n3_ := Aside0.mk (below_step (by repeat (first | (with_reducible first | exact HB.out | apply below_alloc | apply pw_below_drewN | apply below_drew1 | refine below_set ?_ GE381.out | refine below_set ?_ GE397.out | refine below_set ?_ GE425.out) | exact HB.out)) hb)
                        clear BK381
                        clear BK397
                        clear BK425
                        clear HB
                        have BK381 := n0_
                        have BK397 := n1_
                        have BK425 := n2_
                        have HB := n3_
                        clear n0_ n1_ n2_ n3_
                        (try clear hb)
                        (try clear hb2)
                        (try clear hk)
                        (try clear hi)
                        refine hK.out _ _ ⟨(blk_cell BK425.out 0).trans rfl, (blk_cell BK425.out 1).trans rfl, (blk_cell BK425.out 2).trans rfl, (blk_cell BK425.out 3).trans rfl, (blk_cell BK425.out 4).trans rfl, (blk_cell BK425.out 5).trans rfl, (blk_cell BK425.out 6).trans rfl, (blk_cell BK425.out 7).trans rfl, (blk_cell BK425.out 8).trans rfl, (blk_cell BK381.out 0).trans rfl, (blk_cell BK381.out 1).trans rfl, (blk_cell BK381.out 2).trans rfl, (blk_cell BK381.out 3).trans rfl, (blk_cell BK381.out 4).trans rfl, (blk_cell BK381.out 5).trans rfl, (blk_cell BK381.out 6).trans rfl, (blk_cell BK381.out 7).trans rfl, (blk_cell BK381.out 8).trans rfl⟩ (fun hHeld => ?_)
                        clear hK K
                        refine norm_ (a' := ?_) ?_ ?_
                        rotate_left
                        · show Act.put _ (some 78) _ = _
                          simp only [Act.put, List.setIfInBounds_toArray, List.set_cons_zero, List.set_cons_succ, i64_w, i32_w]
                          rfl
                        refine one_ (i := 3) (N := some 80) #[true, true, true, true, false, false, false, false, false, false, false, false, false, false, false, false, false, false, false, false, false, false, false] rfl rfl (one_of HT_.out (by kernel_rfl)) (by decide) (fun K hK => ?_)
                        refine goes_ Tryd.func18 (by kernel_rfl) rfl #[.agg #[.int .i64 a0_0, .int .i64 a0_1, .int .i64 a0_2, .int .i64 a0_3, .int .i64 a0_4, .bool a0_5, .bool a0_6, .int .i64 a0_7, .int .u32 a0_8]] (by rfl) rfl rfl (by (try simp only [List.map_toArray, List.map_cons, List.map_nil]); first | done | rfl | (simp only [List.length_drop, List.length_take]; rfl)) ?_
                        with_reducible refine (anvillaw06_bare.calls a0_0 a0_1 a0_2 a0_3 a0_4 a0_5 a0_6 a0_7 a0_8 t435 t436 t437 t438 t439 t440 t441 t442 t443 _ A37.out).mono ?_
                        rintro e w49 ⟨rfl, hb⟩
                        refine ⟨_, rfl, ?_⟩
                        have n0_ := Aside0.mk (blk_below (g := gb381) (o := .cells #[.int .i64 a0_0, .int .i64 a0_1, .int .i64 a0_2, .int .i64 a0_3, .int .i64 a0_4, .bool a0_5, .bool a0_6, .int .i64 a0_7, .int .u32 a0_8] 24 (0, 0)) (by (with_reducible repeat (first | refine blk_drewN ?_ _ | refine blk_drew ?_ | refine blk_alloc ?_ _)); exact BK381.out) hb)
                        have n1_ := Aside0.mk (blk_below (g := gb397) (o := .cells #[.int .i64 t388, .int .i64 t389, .int .i64 t390, .int .i64 t391, .int .i64 t392, .bool t393, .bool t394, .int .i64 t395, .int .u32 t396] 24 (0, 0)) (by (with_reducible repeat (first | refine blk_drewN ?_ _ | refine blk_drew ?_ | refine blk_alloc ?_ _)); exact BK397.out) hb)
                        have n2_ := Aside0.mk (blk_below (g := gb425) (o := .cells #[.int .i64 t416, .int .i64 t417, .int .i64 t418, .int .i64 t419, .int .i64 t420, .bool t421, .bool t422, .int .i64 t423, .int .u32 t424] 24 (0, 0)) (by (with_reducible repeat (first | refine blk_drewN ?_ _ | refine blk_drew ?_ | refine blk_alloc ?_ _)); exact BK425.out) hb)
                        have n3_ := Aside0.mk (below_step (by repeat (first | (with_reducible first | exact HB.out | apply below_alloc | apply pw_below_drewN | apply below_drew1 | refine below_set ?_ GE381.out | refine below_set ?_ GE397.out | refine below_set ?_ GE425.out) | exact HB.out)) hb)
                        clear BK381
                        clear BK397
                        clear BK425
                        clear HB
                        have BK381 := n0_
                        have BK397 := n1_
                        have BK425 := n2_
                        have HB := n3_
                        clear n0_ n1_ n2_ n3_
                        (try clear hb)
                        (try clear hb2)
                        (try clear hk)
                        (try clear hi)
                        refine hK.out _ _ ⟨(blk_cell BK425.out 0).trans rfl, (blk_cell BK425.out 1).trans rfl, (blk_cell BK425.out 2).trans rfl, (blk_cell BK425.out 3).trans rfl, (blk_cell BK425.out 4).trans rfl, (blk_cell BK425.out 5).trans rfl, (blk_cell BK425.out 6).trans rfl, (blk_cell BK425.out 7).trans rfl, (blk_cell BK425.out 8).trans rfl, (blk_cell BK381.out 0).trans rfl, (blk_cell BK381.out 1).trans rfl, (blk_cell BK381.out 2).trans rfl, (blk_cell BK381.out 3).trans rfl, (blk_cell BK381.out 4).trans rfl, (blk_cell BK381.out 5).trans rfl, (blk_cell BK381.out 6).trans rfl, (blk_cell BK381.out 7).trans rfl, (blk_cell BK381.out 8).trans rfl⟩ (fun hHeld => ?_)
                        clear hK K
                        refine norm_ (a' := ?_) ?_ ?_
                        rotate_left
                        · show Act.put _ (some 80) _ = _
                          simp only [Act.put, List.setIfInBounds_toArray, List.set_cons_zero, List.set_cons_succ, i64_w, i32_w]
                          rfl
                        refine pure_ (i := 4) (N := some 81) (v := ?_) (a' := ?_) #[true, true, true, true, true, false, false, false, false, false, false, false, false, false, false, false, false, false, false, false, false, false, false] rfl rfl (any_of HT_.out (by kernel_rfl)) (fun _ _ _ h => h) (Or.inl ⟨by rfl, ?_⟩) ?_ ?_
                        rotate_left
                        · intro w'
                          go_simp
                          with_reducible rfl
                        rotate_left
                        · simp only [Act.put, List.setIfInBounds_toArray, List.set_cons_zero, List.set_cons_succ, i64_w, i32_w]
                          rfl
                        refine pure_ (i := 5) (N := some 82) (v := ?_) (a' := ?_) #[true, true, true, true, true, true, false, false, false, false, false, false, false, false, false, false, false, false, false, false, false, false, false] rfl rfl (any_of HT_.out (by kernel_rfl)) (fun _ _ _ h => h) (Or.inl ⟨by rfl, ?_⟩) ?_ ?_
                        rotate_left
                        · intro w'
                          go_simp
                          with_reducible rfl
                        rotate_left
                        · simp only [Act.put, List.setIfInBounds_toArray, List.set_cons_zero, List.set_cons_succ, i64_w, i32_w]
                          rfl
                        refine pure_ (i := 6) (N := some 83) (v := ?_) (a' := ?_) #[true, true, true, true, true, true, true, false, false, false, false, false, false, false, false, false, false, false, false, false, false, false, false] rfl rfl (any_of HT_.out (by kernel_rfl)) (fun _ _ _ h => h) (Or.inl ⟨by rfl, ?_⟩) ?_ ?_
                        rotate_left
                        · intro w'
                          go_simp
                          with_reducible rfl
                        rotate_left
                        · simp only [Act.put, List.setIfInBounds_toArray, List.set_cons_zero, List.set_cons_succ, i64_w, i32_w]
                          rfl
                        refine take_ (i := 7) (N := some 84) (v := ?_) (a' := ?_) #[true, true, true, true, true, true, true, true, false, false, false, false, false, false, false, false, false, false, false, false, false, false, false] rfl rfl (take_ofW HT_.out HW_.out (by kernel_rfl)) (fun _ _ _ h => h) (Or.inl ⟨by rfl, ?_⟩) hHeld ?_ ?_
                        rotate_left
                        · rintro w' ⟨s0, s1, s2, s3, s4, s5, s6, s7, s8, s9, s10, s11, s12, s13, s14, s15, s16, s17⟩
                          go_simp
                          with_reducible rfl
                        rotate_left
                        · simp only [Act.put, List.setIfInBounds_toArray, List.set_cons_zero, List.set_cons_succ, i64_w, i32_w]
                          rfl
                        refine pure_ (i := 8) (N := some 85) (v := ?_) (a' := ?_) #[true, true, true, true, true, true, true, true, true, false, false, false, false, false, false, false, false, false, false, false, false, false, false] rfl rfl (any_of HT_.out (by kernel_rfl)) (fun _ _ _ h => h) (Or.inl ⟨by rfl, ?_⟩) ?_ ?_
                        rotate_left
                        · intro w'
                          go_simp
                          with_reducible rfl
                        rotate_left
                        · simp only [Act.put, List.setIfInBounds_toArray, List.set_cons_zero, List.set_cons_succ, i64_w, i32_w]
                          rfl
                        refine pure_ (i := 9) (N := some 86) (v := ?_) (a' := ?_) #[true, true, true, true, true, true, true, true, true, true, false, false, false, false, false, false, false, false, false, false, false, false, false] rfl rfl (any_of HT_.out (by kernel_rfl)) (fun _ _ _ h => h) (Or.inl ⟨by rfl, ?_⟩) ?_ ?_
                        rotate_left
                        · intro w'
                          go_simp
                          with_reducible rfl
                        rotate_left
                        · simp only [Act.put, List.setIfInBounds_toArray, List.set_cons_zero, List.set_cons_succ, i64_w, i32_w]
                          rfl
                        refine pure_ (i := 10) (N := some 87) (v := ?_) (a' := ?_) #[true, true, true, true, true, true, true, true, true, true, true, false, false, false, false, false, false, false, false, false, false, false, false] rfl rfl (any_of HT_.out (by kernel_rfl)) (fun _ _ _ h => h) (Or.inl ⟨by rfl, ?_⟩) ?_ ?_
                        rotate_left
                        · intro w'
                          go_simp
                          with_reducible rfl
                        rotate_left
                        · simp only [Act.put, List.setIfInBounds_toArray, List.set_cons_zero, List.set_cons_succ, i64_w, i32_w]
                          rfl
                        refine pure_ (i := 11) (N := some 88) (v := ?_) (a' := ?_) #[true, true, true, true, true, true, true, true, true, true, true, true, false, false, false, false, false, false, false, false, false, false, false] rfl rfl (any_of HT_.out (by kernel_rfl)) (fun _ _ _ h => h) (Or.inl ⟨by rfl, ?_⟩) ?_ ?_
                        rotate_left
                        · intro w'
                          go_simp
                          with_reducible rfl
                        rotate_left
                        · simp only [Act.put, List.setIfInBounds_toArray, List.set_cons_zero, List.set_cons_succ, i64_w, i32_w]
                          rfl
                        refine pure_ (i := 13) (N := some 90) (v := ?_) (a' := ?_) #[true, true, true, true, true, true, true, true, true, true, true, true, false, true, false, false, false, false, false, false, false, false, false] rfl rfl (any_of HT_.out (by kernel_rfl)) (fun _ _ _ h => h) (Or.inl ⟨by rfl, ?_⟩) ?_ ?_
                        rotate_left
                        · intro w'
                          go_simp
                          with_reducible rfl
                        rotate_left
                        · simp only [Act.put, List.setIfInBounds_toArray, List.set_cons_zero, List.set_cons_succ, i64_w, i32_w]
                          rfl
                        refine pure_ (i := 14) (N := some 91) (v := ?_) (a' := ?_) #[true, true, true, true, true, true, true, true, true, true, true, true, false, true, true, false, false, false, false, false, false, false, false] rfl rfl (any_of HT_.out (by kernel_rfl)) (fun _ _ _ h => h) (Or.inl ⟨by rfl, ?_⟩) ?_ ?_
                        rotate_left
                        · intro w'
                          go_simp
                          with_reducible rfl
                        rotate_left
                        · simp only [Act.put, List.setIfInBounds_toArray, List.set_cons_zero, List.set_cons_succ, i64_w, i32_w]
                          rfl
                        refine take_ (i := 12) (N := some 89) (v := ?_) (a' := ?_) #[true, true, true, true, true, true, true, true, true, true, true, true, true, true, true, false, false, false, false, false, false, false, false] rfl rfl (take_ofW HT_.out HW_.out (by kernel_rfl)) (fun _ _ _ h => h) (Or.inl ⟨by rfl, ?_⟩) hHeld ?_ ?_
                        rotate_left
                        · rintro w' ⟨s0, s1, s2, s3, s4, s5, s6, s7, s8, s9, s10, s11, s12, s13, s14, s15, s16, s17⟩
                          go_simp
                          with_reducible rfl
                        rotate_left
                        · simp only [Act.put, List.setIfInBounds_toArray, List.set_cons_zero, List.set_cons_succ, i64_w, i32_w]
                          rfl
                        refine pure_ (i := 15) (N := some 92) (v := ?_) (a' := ?_) #[true, true, true, true, true, true, true, true, true, true, true, true, true, true, true, true, false, false, false, false, false, false, false] rfl rfl (any_of HT_.out (by kernel_rfl)) (fun _ _ _ h => h) (Or.inl ⟨by rfl, ?_⟩) ?_ ?_
                        rotate_left
                        · intro w'
                          go_simp
                          with_reducible rfl
                        rotate_left
                        · simp only [Act.put, List.setIfInBounds_toArray, List.set_cons_zero, List.set_cons_succ, i64_w, i32_w]
                          rfl
                        refine pure_ (i := 16) (N := some 93) (v := ?_) (a' := ?_) #[true, true, true, true, true, true, true, true, true, true, true, true, true, true, true, true, true, false, false, false, false, false, false] rfl rfl (any_of HT_.out (by kernel_rfl)) (fun _ _ _ h => h) (Or.inl ⟨by rfl, ?_⟩) ?_ ?_
                        rotate_left
                        · intro w'
                          go_simp
                          with_reducible rfl
                        rotate_left
                        · simp only [Act.put, List.setIfInBounds_toArray, List.set_cons_zero, List.set_cons_succ, i64_w, i32_w]
                          rfl
                        refine pure_ (i := 17) (N := some 94) (v := ?_) (a' := ?_) #[true, true, true, true, true, true, true, true, true, true, true, true, true, true, true, true, true, true, false, false, false, false, false] rfl rfl (any_of HT_.out (by kernel_rfl)) (fun _ _ _ h => h) (Or.inl ⟨by rfl, ?_⟩) ?_ ?_
                        rotate_left
                        · intro w'
                          go_simp
                          with_reducible rfl
                        rotate_left
                        · simp only [Act.put, List.setIfInBounds_toArray, List.set_cons_zero, List.set_cons_succ, i64_w, i32_w]
                          rfl
                        refine pure_ (i := 18) (N := some 95) (v := ?_) (a' := ?_) #[true, true, true, true, true, true, true, true, true, true, true, true, true, true, true, true, true, true, true, false, false, false, false] rfl rfl (any_of HT_.out (by kernel_rfl)) (fun _ _ _ h => h) (Or.inl ⟨by rfl, ?_⟩) ?_ ?_
                        rotate_left
                        · intro w'
                          go_simp
                          with_reducible rfl
                        rotate_left
                        · simp only [Act.put, List.setIfInBounds_toArray, List.set_cons_zero, List.set_cons_succ, i64_w, i32_w]
                          rfl
                        refine pure_ (i := 19) (N := some 96) (v := ?_) (a' := ?_) #[true, true, true, true, true, true, true, true, true, true, true, true, true, true, true, true, true, true, true, true, false, false, false] rfl rfl (any_of HT_.out (by kernel_rfl)) (fun _ _ _ h => h) (Or.inl ⟨by rfl, ?_⟩) ?_ ?_
                        rotate_left
                        · intro w'
                          go_simp
                          with_reducible rfl
                        rotate_left
                        · simp only [Act.put, List.setIfInBounds_toArray, List.set_cons_zero, List.set_cons_succ, i64_w, i32_w]
                          rfl
                        refine pure_ (i := 20) (N := some 97) (v := ?_) (a' := ?_) #[true, true, true, true, true, true, true, true, true, true, true, true, true, true, true, true, true, true, true, true, true, false, false] rfl rfl (any_of HT_.out (by kernel_rfl)) (fun _ _ _ h => h) (Or.inl ⟨by rfl, ?_⟩) ?_ ?_
                        rotate_left
                        · intro w'
                          go_simp
                          with_reducible rfl
                        rotate_left
                        · simp only [Act.put, List.setIfInBounds_toArray, List.set_cons_zero, List.set_cons_succ, i64_w, i32_w]
                          rfl
                        refine pure_ (i := 21) (N := some 98) (v := ?_) (a' := ?_) #[true, true, true, true, true, true, true, true, true, true, true, true, true, true, true, true, true, true, true, true, true, true, false] rfl rfl (any_of HT_.out (by kernel_rfl)) (fun _ _ _ h => h) (Or.inl ⟨by rfl, ?_⟩) ?_ ?_
                        rotate_left
                        · intro w'
                          go_simp
                          with_reducible rfl
                        rotate_left
                        · simp only [Act.put, List.setIfInBounds_toArray, List.set_cons_zero, List.set_cons_succ, i64_w, i32_w]
                          rfl
                        refine pure_ (i := 22) (N := some 2) (v := ?_) (a' := ?_) #[true, true, true, true, true, true, true, true, true, true, true, true, true, true, true, true, true, true, true, true, true, true, true] rfl rfl (any_of HT_.out (by kernel_rfl)) (fun _ _ _ h => h) (Or.inl ⟨by rfl, ?_⟩) ?_ ?_
                        rotate_left
                        · intro w'
                          go_simp
                          with_reducible rfl
                        rotate_left
                        · simp only [Act.put, List.setIfInBounds_toArray, List.set_cons_zero, List.set_cons_succ, i64_w, i32_w]
                          rfl
                        refine done_ (done_of HT_.out (by kernel_rfl)) ?_
                        try go_wp2
                        go_ret
                        exact ⟨by first | rfl | (simp [Go.Proofs.YtiibhggjlandmaaDoor.PB.errW_none, Go.Proofs.YtiibhggjlandmaaDoor.PB.errW_some] <;> rfl) | (simp [*, Go.Proofs.YtiibhggjlandmaaDoor.PB.errW_none, Go.Proofs.YtiibhggjlandmaaDoor.PB.errW_some] <;> rfl), by repeat (first | (with_reducible first | exact HB.out | apply below_alloc | apply pw_below_drewN | apply below_drew1 | refine below_set ?_ GE381.out | refine below_set ?_ GE397.out | refine below_set ?_ GE425.out) | exact HB.out)⟩
                      · rw [if_neg c40] at H
                        have c40b0 : (t424 == ((t384) % 4294967296)) = false := beq_eq_false_iff_ne.mpr c40
                        have c40b0w : (t424 == IntKind.u32.wrap t384) = false := by rw [IntKind.wrap_u32]; exact c40b0
                        have c40b1 : (t424 != ((t384) % 4294967296)) = true := bne_iff_ne.mpr c40
                        obtain rfl := Option.some.inj H
                        exact absurd hr.out (by decide)
                    · rw [if_neg c39] at H
                      have c39b0 : (t423 == 2) = false := beq_eq_false_iff_ne.mpr c39
                      have c39b1 : (t423 != 2) = true := bne_iff_ne.mpr c39
                      obtain rfl := Option.some.inj H
                      exact absurd hr.out (by decide)
                  · rw [if_neg c38] at H
                    have c38b0 : (t426 == t435 && (t427 == t436 && (t428 == t437 && (t429 == t438 && (t430 == t439 && (t431 == t440 && (t432 == t441 && (t433 == t442 && (t434 == t443))))))))) = false := by simpa using c38
                    (try (have c38b1 : decide (t426 = t435 && (t427 == t436 && (t428 == t437 && (t429 == t438 && (t430 == t439 && (t431 == t440 && (t432 == t441 && (t433 == t442 && (t434 == t443))))))))) = false := by simpa using c38))
                    (try (have c38b2 : (t426 == t435 && (t427 == t436 && (t428 == t437 && (t429 == t438 && (t430 == t439 && (t431 == t440 && (t432 == t441 && (t433 == t442 && (t434 == t443))))))))) = false := by simpa using c38))
                    (try (have c38b3 : ¬ (t426 = t435 && (t427 == t436 && (t428 == t437 && (t429 == t438 && (t430 == t439 && (t431 == t440 && (t432 == t441 && (t433 == t442 && (t434 == t443))))))))) := by simpa using c38))
                    clear c38
                    obtain rfl := Option.some.inj H
                    exact absurd hr.out (by decide)
                · replace c34 := Bool.eq_false_iff.mpr c34
                  subst c34
                  have H1 : (some (t384 == 0)) = some r := by rw [if_neg (show ¬ (false = true) by decide)] at H; exact H
                  clear H
                  have H := H1
                  clear H1
                  obtain rfl := Option.some.inj H
                  go_wp2
                  go_ret
                  exact ⟨by first | rfl | (simp [Go.Proofs.YtiibhggjlandmaaDoor.PB.errW_none, Go.Proofs.YtiibhggjlandmaaDoor.PB.errW_some] <;> rfl) | (simp [*, Go.Proofs.YtiibhggjlandmaaDoor.PB.errW_none, Go.Proofs.YtiibhggjlandmaaDoor.PB.errW_some] <;> rfl), by repeat (first | (with_reducible first | exact HB.out | apply below_alloc | apply pw_below_drewN | apply below_drew1 | refine below_set ?_ GE381.out | refine below_set ?_ GE397.out) | exact HB.out)⟩
        · rw [if_neg c17] at H
          have c17b0 : (t383 == 0) = false := beq_eq_false_iff_ne.mpr c17
          have c17b1 : (t383 != 0) = true := bne_iff_ne.mpr c17
          by_cases c50 : t382 = 0
          · rw [if_pos c50] at H
            have c50b0 : (t382 == 0) = true := beq_iff_eq.mpr c50
            have c50b1 : (t382 != 0) = false := bne_eq_false_iff_eq.mpr c50
            clear c50
            by_cases c51 : t385 = true
            · subst c51
              have H1 : (some false) = some r := by rw [if_pos rfl] at H; exact H
              clear H
              have H := H1
              clear H1
              obtain rfl := Option.some.inj H
              exact absurd hr.out (by decide)
            · replace c51 := Bool.eq_false_iff.mpr c51
              subst c51
              have H1 : (if t384 = 0 then (if t383 = 60 then (some true) else (some (t383 == 61))) else (some false)) = some r := by rw [if_neg (show ¬ (false = true) by decide)] at H; exact H
              clear H
              have H := H1
              clear H1
              by_cases c52 : t384 = 0
              · rw [if_pos c52] at H
                have c52b0 : (t384 == 0) = true := beq_iff_eq.mpr c52
                have c52b1 : (t384 != 0) = false := bne_eq_false_iff_eq.mpr c52
                clear c52
                by_cases c53 : t383 = 60
                · rw [if_pos c53] at H
                  have c53b0 : (t383 == 60) = true := beq_iff_eq.mpr c53
                  have c53b1 : (t383 != 60) = false := bne_eq_false_iff_eq.mpr c53
                  clear c53
                  obtain rfl := Option.some.inj H
                  go_wp2
                  go_ret
                  exact ⟨by first | rfl | (simp [Go.Proofs.YtiibhggjlandmaaDoor.PB.errW_none, Go.Proofs.YtiibhggjlandmaaDoor.PB.errW_some] <;> rfl) | (simp [*, Go.Proofs.YtiibhggjlandmaaDoor.PB.errW_none, Go.Proofs.YtiibhggjlandmaaDoor.PB.errW_some] <;> rfl), by repeat (first | (with_reducible first | exact HB.out | apply below_alloc | apply pw_below_drewN | apply below_drew1 | refine below_set ?_ GE381.out) | exact HB.out)⟩
                · rw [if_neg c53] at H
                  have c53b0 : (t383 == 60) = false := beq_eq_false_iff_ne.mpr c53
                  have c53b1 : (t383 != 60) = true := bne_iff_ne.mpr c53
                  obtain rfl := Option.some.inj H
                  go_wp2
                  go_ret
                  exact ⟨by first | rfl | (simp [Go.Proofs.YtiibhggjlandmaaDoor.PB.errW_none, Go.Proofs.YtiibhggjlandmaaDoor.PB.errW_some] <;> rfl) | (simp [*, Go.Proofs.YtiibhggjlandmaaDoor.PB.errW_none, Go.Proofs.YtiibhggjlandmaaDoor.PB.errW_some] <;> rfl), by repeat (first | (with_reducible first | exact HB.out | apply below_alloc | apply pw_below_drewN | apply below_drew1 | refine below_set ?_ GE381.out) | exact HB.out)⟩
              · rw [if_neg c52] at H
                have c52b0 : (t384 == 0) = false := beq_eq_false_iff_ne.mpr c52
                have c52b1 : (t384 != 0) = true := bne_iff_ne.mpr c52
                obtain rfl := Option.some.inj H
                exact absurd hr.out (by decide)
          · rw [if_neg c50] at H
            have c50b0 : (t382 == 0) = false := beq_eq_false_iff_ne.mpr c50
            have c50b1 : (t382 != 0) = true := bne_iff_ne.mpr c50
            obtain rfl := Option.some.inj H
            exact absurd hr.out (by decide)

end Go.Proofs.YtiibhggjlandmaaDoor.PK
