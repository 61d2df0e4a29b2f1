/- Texts of this claim, put together by a program: TriesC0. -/
import Derived.Test.YtiibhggjlandmaaDoorMBxTries
/- encode.tries: its cases, by operation. No condition. -/
namespace Go.Proofs.YtiibhggjlandmaaDoor.TR
open Go.RowKit Go.Proofs.YtiibhggjlandmaaDoorW.PrintWords Go.Proofs.YtiibhggjlandmaaDoorW.PrintMore Go.Proofs.YtiibhggjlandmaaDoor.PT Go.Proofs.YtiibhggjlandmaaDoor.PL
set_option linter.unusedVariables false
set_option linter.unusedSimpArgs false
set_option maxHeartbeats 16000000 in
set_option maxRecDepth 1000000 in
theorem case_22 (w W0 W : World) (rd rs1 rs2 n : Int) (aq rl : Bool) (len raw : Int) (u22 u23 u24 u25 u26 u27 u28 u29 u30 u31 u32 u33 u34 u35 u36 u37 u38 u39 u40 u41 u42 u43 u44 u45 u46 u47 u48 u49 u50 u51 u52 u53 u54 u55 u56 u57 u58 u59 u60 u61 u62 u63 u64 u65 u66 u67 u68 u69 u70 u71 u72 u73 u74 u75 u76 u77 u78 u79 u80 : Value) (hP : Pre w W0 22 rd rs1 rs2 n aq rl len raw) (hT : TS W0 (w.heap.size + 1 + 1 + 1 + 1 + 1 + 1 + 1 + 1 + 1 + 1 + 1 + 1) [] W) :
    rest15.wp Tryd.prog (bodyPost Tryd.prog Tryd.f32 (TPost w ([IntKind.u16.wrap (orAll [(hd 0 0), (lo rd 2), (sc n a_spn)]), IntKind.u16.wrap (orAll [(hd 1 0), (wh rd 7), (sc n a_six)]), IntKind.u16.wrap (orAll [(hd 1 2), (wh rd 7), (sc n a_six)]), IntKind.u16.wrap (orAll [(hd 1 3), (wh 2 7), (sc n a_sp16)])]))) (fr15 w 22 rd rs1 rs2 n aq rl len raw u22 u23 u24 u25 u26 u27 u28 u29 u30 u31 u32 u33 u34 u35 u36 u37 u38 u39 u40 u41 u42 u43 u44 u45 u46 u47 u48 u49 u50 u51 u52 u53 u54 u55 u56 u57 u58 u59 u60 u61 u62 u63 u64 u65 u66 u67 u68 u69 u70 u71 u72 u73 u74 u75 u76 u77 u78 u79 u80) W := by
  unfold fr15
  have hI : W.heap[w.heap.size]? = some (.cells #[.int .i64 22, .int .i64 rd, .int .i64 rs1, .int .i64 rs2, .int .i64 n, .bool aq, .bool rl, .int .i64 len, .int .u32 raw] 24 (0, 0)) := (hT.old (by omega)).trans hP.inn
  have p0 := row_cell hI 0 (.int .i64 22) rfl
  have HT := Lib.hid hT
  have HA := Lib.hid hP.arr
  have HI := Lib.hid hP.inn
  have HB := Lib.hid hP.below
  clear hT hP hI
  conv => arg 2; whnf
  go_wp2
  go_region_with (first
    | (go_at_call 45; refine (encode_head.calls 0 0 (hd 0 0) _ (hd_ok 0 0)).mono ?_; rintro e x17_0 ⟨rfl, ⟨k17_0, rfl⟩⟩)
    | (go_at_call 46; refine (encode_low.calls rd 2 (lo rd 2) _ (lo_ok rd 2 (by decide))).mono ?_; rintro e x17_1 ⟨rfl, ⟨k17_1, rfl⟩⟩)
    | (go_at_call 30; refine (encode_scatter.calls 20 n _ _ a_spn (sc n a_spn) _ ?hC ?hc (sc_spn n)).mono ?_; (case hC => exact arr_C ((TS.old (by with_reducible (repeat (first | exact HT.out | apply TS.drew | apply TS.drewN | apply TS.alloc))) (by omega)).trans HA.out.spn) (by decide)); (case hc => decide); rintro e x17_2 ⟨rfl, hb⟩; have HT17_2 := Lib.hid (TS.keep (by with_reducible (repeat (first | exact HT.out | apply TS.drew | apply TS.drewN | apply TS.alloc))) hb); clear hb)
    | (go_at_call 44; refine (try_any W0 _ (w.heap.size + 1 + 1 + 1 + 1 + 1 + 1 + 1 + 1 + 1 + 1 + 1 + 1) _ [] [(hd 0 0), (lo rd 2), (sc n a_spn)] 3 ?t1 ?t2 rfl (by decide) (Nat.le_of_ble_eq_true rfl)).mono ?_; (case t1 => exact (by with_reducible (repeat (first | exact HT17_2.out | apply TS.drew | apply TS.drewN | apply TS.alloc)))); (case t2 => exact parts_new _ [(hd 0 0), (lo rd 2), (sc n a_spn)] _); rintro e y17 ⟨rfl, hT⟩; have HU17 := Lib.hid (show TS W0 (w.heap.size + 1 + 1 + 1 + 1 + 1 + 1 + 1 + 1 + 1 + 1 + 1 + 1) [IntKind.u16.wrap (orAll [(hd 0 0), (lo rd 2), (sc n a_spn)])] y17 from hT); clear hT))
  go_wp2
  go_region_with (first
    | (go_at_call 45; refine (encode_head.calls 1 0 (hd 1 0) _ (hd_ok 1 0)).mono ?_; rintro e x18_0 ⟨rfl, ⟨k18_0, rfl⟩⟩)
    | (go_at_call 47; refine (encode_whole.calls rd 7 (wh rd 7) _ (wh_ok rd 7 (by decide))).mono ?_; rintro e x18_1 ⟨rfl, ⟨k18_1, rfl⟩⟩)
    | (go_at_call 30; refine (encode_scatter.calls 20 n _ _ a_six (sc n a_six) _ ?hC ?hc (sc_six n)).mono ?_; (case hC => exact arr_C ((TS.old (by with_reducible (repeat (first | exact HU17.out | apply TS.drew | apply TS.drewN | apply TS.alloc))) (by omega)).trans HA.out.six) (by decide)); (case hc => decide); rintro e x18_2 ⟨rfl, hb⟩; have HT18_2 := Lib.hid (TS.keep (by with_reducible (repeat (first | exact HU17.out | apply TS.drew | apply TS.drewN | apply TS.alloc))) hb); clear hb)
    | (go_at_call 44; refine (try_any W0 _ (w.heap.size + 1 + 1 + 1 + 1 + 1 + 1 + 1 + 1 + 1 + 1 + 1 + 1) _ [IntKind.u16.wrap (orAll [(hd 0 0), (lo rd 2), (sc n a_spn)])] [(hd 1 0), (wh rd 7), (sc n a_six)] 3 ?t1 ?t2 rfl (by decide) (Nat.le_of_ble_eq_true rfl)).mono ?_; (case t1 => exact (by with_reducible (repeat (first | exact HT18_2.out | apply TS.drew | apply TS.drewN | apply TS.alloc)))); (case t2 => exact parts_new _ [(hd 1 0), (wh rd 7), (sc n a_six)] _); rintro e y18 ⟨rfl, hT⟩; have HU18 := Lib.hid (show TS W0 (w.heap.size + 1 + 1 + 1 + 1 + 1 + 1 + 1 + 1 + 1 + 1 + 1 + 1) [IntKind.u16.wrap (orAll [(hd 0 0), (lo rd 2), (sc n a_spn)]), IntKind.u16.wrap (orAll [(hd 1 0), (wh rd 7), (sc n a_six)])] y18 from hT); clear hT))
  go_wp2
  go_region_with (first
    | (go_at_call 45; refine (encode_head.calls 1 2 (hd 1 2) _ (hd_ok 1 2)).mono ?_; rintro e x19_0 ⟨rfl, ⟨k19_0, rfl⟩⟩)
    | (go_at_call 47; refine (encode_whole.calls rd 7 (wh rd 7) _ (wh_ok rd 7 (by decide))).mono ?_; rintro e x19_1 ⟨rfl, ⟨k19_1, rfl⟩⟩)
    | (go_at_call 30; refine (encode_scatter.calls 20 n _ _ a_six (sc n a_six) _ ?hC ?hc (sc_six n)).mono ?_; (case hC => exact arr_C ((TS.old (by with_reducible (repeat (first | exact HU18.out | apply TS.drew | apply TS.drewN | apply TS.alloc))) (by omega)).trans HA.out.six) (by decide)); (case hc => decide); rintro e x19_2 ⟨rfl, hb⟩; have HT19_2 := Lib.hid (TS.keep (by with_reducible (repeat (first | exact HU18.out | apply TS.drew | apply TS.drewN | apply TS.alloc))) hb); clear hb)
    | (go_at_call 44; refine (try_any W0 _ (w.heap.size + 1 + 1 + 1 + 1 + 1 + 1 + 1 + 1 + 1 + 1 + 1 + 1) _ [IntKind.u16.wrap (orAll [(hd 0 0), (lo rd 2), (sc n a_spn)]), IntKind.u16.wrap (orAll [(hd 1 0), (wh rd 7), (sc n a_six)])] [(hd 1 2), (wh rd 7), (sc n a_six)] 3 ?t1 ?t2 rfl (by decide) (Nat.le_of_ble_eq_true rfl)).mono ?_; (case t1 => exact (by with_reducible (repeat (first | exact HT19_2.out | apply TS.drew | apply TS.drewN | apply TS.alloc)))); (case t2 => exact parts_new _ [(hd 1 2), (wh rd 7), (sc n a_six)] _); rintro e y19 ⟨rfl, hT⟩; have HU19 := Lib.hid (show TS W0 (w.heap.size + 1 + 1 + 1 + 1 + 1 + 1 + 1 + 1 + 1 + 1 + 1 + 1) [IntKind.u16.wrap (orAll [(hd 0 0), (lo rd 2), (sc n a_spn)]), IntKind.u16.wrap (orAll [(hd 1 0), (wh rd 7), (sc n a_six)]), IntKind.u16.wrap (orAll [(hd 1 2), (wh rd 7), (sc n a_six)])] y19 from hT); clear hT))
  go_wp2
  go_region_with (first
    | (go_at_call 45; refine (encode_head.calls 1 3 (hd 1 3) _ (hd_ok 1 3)).mono ?_; rintro e x20_0 ⟨rfl, ⟨k20_0, rfl⟩⟩)
    | (go_at_call 47; refine (encode_whole.calls 2 7 (wh 2 7) _ (wh_ok 2 7 (by decide))).mono ?_; rintro e x20_1 ⟨rfl, ⟨k20_1, rfl⟩⟩)
    | (go_at_call 30; refine (encode_scatter.calls 20 n _ _ a_sp16 (sc n a_sp16) _ ?hC ?hc (sc_sp16 n)).mono ?_; (case hC => exact arr_C ((TS.old (by with_reducible (repeat (first | exact HU19.out | apply TS.drew | apply TS.drewN | apply TS.alloc))) (by omega)).trans HA.out.sp16) (by decide)); (case hc => decide); rintro e x20_2 ⟨rfl, hb⟩; have HT20_2 := Lib.hid (TS.keep (by with_reducible (repeat (first | exact HU19.out | apply TS.drew | apply TS.drewN | apply TS.alloc))) hb); clear hb)
    | (go_at_call 44; refine (try_any W0 _ (w.heap.size + 1 + 1 + 1 + 1 + 1 + 1 + 1 + 1 + 1 + 1 + 1 + 1) _ [IntKind.u16.wrap (orAll [(hd 0 0), (lo rd 2), (sc n a_spn)]), IntKind.u16.wrap (orAll [(hd 1 0), (wh rd 7), (sc n a_six)]), IntKind.u16.wrap (orAll [(hd 1 2), (wh rd 7), (sc n a_six)])] [(hd 1 3), (wh 2 7), (sc n a_sp16)] 3 ?t1 ?t2 rfl (by decide) (Nat.le_of_ble_eq_true rfl)).mono ?_; (case t1 => exact (by with_reducible (repeat (first | exact HT20_2.out | apply TS.drew | apply TS.drewN | apply TS.alloc)))); (case t2 => exact parts_new _ [(hd 1 3), (wh 2 7), (sc n a_sp16)] _); rintro e y20 ⟨rfl, hT⟩; have HU20 := Lib.hid (show TS W0 (w.heap.size + 1 + 1 + 1 + 1 + 1 + 1 + 1 + 1 + 1 + 1 + 1 + 1) [IntKind.u16.wrap (orAll [(hd 0 0), (lo rd 2), (sc n a_spn)]), IntKind.u16.wrap (orAll [(hd 1 0), (wh rd 7), (sc n a_six)]), IntKind.u16.wrap (orAll [(hd 1 2), (wh rd 7), (sc n a_six)]), IntKind.u16.wrap (orAll [(hd 1 3), (wh 2 7), (sc n a_sp16)])] y20 from hT); clear hT))
  go_wp2
  have hm1 : y20.drew.heap[w.heap.size]? = some (.cells #[.int .i64 22, .int .i64 rd, .int .i64 rs1, .int .i64 rs2, .int .i64 n, .bool aq, .bool rl, .int .i64 len, .int .u32 raw] 24 (0, 0)) := (TS.old (by with_reducible (repeat (first | exact HU20.out | apply TS.drew | apply TS.drewN | apply TS.alloc))) (by omega)).trans HI.out
  have hm2 : (y20.drew.alloc midO).heap[w.heap.size]? = some (.cells #[.int .i64 22, .int .i64 rd, .int .i64 rs1, .int .i64 rs2, .int .i64 n, .bool aq, .bool rl, .int .i64 len, .int .u32 raw] 24 (0, 0)) := (TS.old (by with_reducible (repeat (first | exact HU20.out | apply TS.drew | apply TS.drewN | apply TS.alloc))) (by omega)).trans HI.out
  have m1 := row_cell hm1 0 (.int .i64 22) rfl
  have m2 := row_cell hm2 0 (.int .i64 22) rfl
  clear hm1 hm2
  have m0 : y20.cell? ⟨w.heap.size, 0, none⟩ = some (.int .i64 22) := m1
  have e3 : w.heap.size < y20.heap.size := by have := TS.size HU20.out; omega
  have e1 : ¬ (w.heap.size = y20.heap.size) := by omega
  have hlk : (Instr.lookup 107 (.map (some y20.heap.size)) (.int .i64 22) true).run Tryd.prog ((y20.alloc midO).drew) = .ok (.tuple #[.int .u32 0, .bool false]) ((y20.alloc midO).drew) := (run_lookup_mid ((y20.alloc midO).drew) y20.heap.size 22 (heap_alloc_new y20 _)).trans rfl
  go_region_with (go_at_call 48; refine (middle_calls _).mono ?_; rintro e x ⟨rfl, rfl⟩; dsimp only [midV])
  all_goals
    clear hlk m0 m1 m2 e1 e3
    obtain ⟨A, c, e1, e2, e3⟩ := TS.post HU20.out HB.out (by omega)
    have l1 := TS.size HU20.out
    have l2 : ¬ (w.heap.size + 1 + 1 + 1 + 1 + 1 + 1 + 1 + 1 + 1 + 1 + 1 + 1 = y20.heap.size) := by omega
    have HE2 := Lib.hid (ownsRow_alloc e2 midO)
    have HE3 := Lib.hid (below_drew (below_alloc e3 midO))
    clear e2 e3
    go_wp2
    go_ret
    exact ⟨_, rfl, HE2.out, HE3.out⟩
set_option maxHeartbeats 16000000 in
set_option maxRecDepth 1000000 in
theorem case_14 (w W0 W : World) (rd rs1 rs2 n : Int) (aq rl : Bool) (len raw : Int) (u22 u23 u24 u25 u26 u27 u28 u29 u30 u31 u32 u33 u34 u35 u36 u37 u38 u39 u40 u41 u42 u43 u44 u45 u46 u47 u48 u49 u50 u51 u52 u53 u54 u55 u56 u57 u58 u59 u60 u61 u62 u63 u64 u65 u66 u67 u68 u69 u70 u71 u72 u73 u74 u75 u76 u77 u78 u79 u80 : Value) (hP : Pre w W0 14 rd rs1 rs2 n aq rl len raw) (hT : TS W0 (w.heap.size + 1 + 1 + 1 + 1 + 1 + 1 + 1 + 1 + 1 + 1 + 1 + 1) [] W) :
    rest15.wp Tryd.prog (bodyPost Tryd.prog Tryd.f32 (TPost w ([IntKind.u16.wrap (orAll [(hd 0 3), (lo rd 2), (lo rs1 7), (sc n a_ld)]), IntKind.u16.wrap (orAll [(hd 2 3), (wh rd 7), (sc n a_ldsp)])]))) (fr15 w 14 rd rs1 rs2 n aq rl len raw u22 u23 u24 u25 u26 u27 u28 u29 u30 u31 u32 u33 u34 u35 u36 u37 u38 u39 u40 u41 u42 u43 u44 u45 u46 u47 u48 u49 u50 u51 u52 u53 u54 u55 u56 u57 u58 u59 u60 u61 u62 u63 u64 u65 u66 u67 u68 u69 u70 u71 u72 u73 u74 u75 u76 u77 u78 u79 u80) W := by
  unfold fr15
  have hI : W.heap[w.heap.size]? = some (.cells #[.int .i64 14, .int .i64 rd, .int .i64 rs1, .int .i64 rs2, .int .i64 n, .bool aq, .bool rl, .int .i64 len, .int .u32 raw] 24 (0, 0)) := (hT.old (by omega)).trans hP.inn
  have p0 := row_cell hI 0 (.int .i64 14) rfl
  have HT := Lib.hid hT
  have HA := Lib.hid hP.arr
  have HI := Lib.hid hP.inn
  have HB := Lib.hid hP.below
  clear hT hP hI
  conv => arg 2; whnf
  go_wp2
  go_region_with (first
    | (go_at_call 45; refine (encode_head.calls 0 3 (hd 0 3) _ (hd_ok 0 3)).mono ?_; rintro e x29_0 ⟨rfl, ⟨k29_0, rfl⟩⟩)
    | (go_at_call 46; refine (encode_low.calls rd 2 (lo rd 2) _ (lo_ok rd 2 (by decide))).mono ?_; rintro e x29_1 ⟨rfl, ⟨k29_1, rfl⟩⟩)
    | (go_at_call 46; refine (encode_low.calls rs1 7 (lo rs1 7) _ (lo_ok rs1 7 (by decide))).mono ?_; rintro e x29_2 ⟨rfl, ⟨k29_2, rfl⟩⟩)
    | (go_at_call 30; refine (encode_scatter.calls 20 n _ _ a_ld (sc n a_ld) _ ?hC ?hc (sc_ld n)).mono ?_; (case hC => exact arr_C ((TS.old (by with_reducible (repeat (first | exact HT.out | apply TS.drew | apply TS.drewN | apply TS.alloc))) (by omega)).trans HA.out.ld) (by decide)); (case hc => decide); rintro e x29_3 ⟨rfl, hb⟩; have HT29_3 := Lib.hid (TS.keep (by with_reducible (repeat (first | exact HT.out | apply TS.drew | apply TS.drewN | apply TS.alloc))) hb); clear hb)
    | (go_at_call 44; refine (try_any W0 _ (w.heap.size + 1 + 1 + 1 + 1 + 1 + 1 + 1 + 1 + 1 + 1 + 1 + 1) _ [] [(hd 0 3), (lo rd 2), (lo rs1 7), (sc n a_ld)] 4 ?t1 ?t2 rfl (by decide) (Nat.le_of_ble_eq_true rfl)).mono ?_; (case t1 => exact (by with_reducible (repeat (first | exact HT29_3.out | apply TS.drew | apply TS.drewN | apply TS.alloc)))); (case t2 => exact parts_new _ [(hd 0 3), (lo rd 2), (lo rs1 7), (sc n a_ld)] _); rintro e y29 ⟨rfl, hT⟩; have HU29 := Lib.hid (show TS W0 (w.heap.size + 1 + 1 + 1 + 1 + 1 + 1 + 1 + 1 + 1 + 1 + 1 + 1) [IntKind.u16.wrap (orAll [(hd 0 3), (lo rd 2), (lo rs1 7), (sc n a_ld)])] y29 from hT); clear hT))
  go_wp2
  go_region_with (first
    | (go_at_call 45; refine (encode_head.calls 2 3 (hd 2 3) _ (hd_ok 2 3)).mono ?_; rintro e x30_0 ⟨rfl, ⟨k30_0, rfl⟩⟩)
    | (go_at_call 47; refine (encode_whole.calls rd 7 (wh rd 7) _ (wh_ok rd 7 (by decide))).mono ?_; rintro e x30_1 ⟨rfl, ⟨k30_1, rfl⟩⟩)
    | (go_at_call 30; refine (encode_scatter.calls 20 n _ _ a_ldsp (sc n a_ldsp) _ ?hC ?hc (sc_ldsp n)).mono ?_; (case hC => exact arr_C ((TS.old (by with_reducible (repeat (first | exact HU29.out | apply TS.drew | apply TS.drewN | apply TS.alloc))) (by omega)).trans HA.out.ldsp) (by decide)); (case hc => decide); rintro e x30_2 ⟨rfl, hb⟩; have HT30_2 := Lib.hid (TS.keep (by with_reducible (repeat (first | exact HU29.out | apply TS.drew | apply TS.drewN | apply TS.alloc))) hb); clear hb)
    | (go_at_call 44; refine (try_any W0 _ (w.heap.size + 1 + 1 + 1 + 1 + 1 + 1 + 1 + 1 + 1 + 1 + 1 + 1) _ [IntKind.u16.wrap (orAll [(hd 0 3), (lo rd 2), (lo rs1 7), (sc n a_ld)])] [(hd 2 3), (wh rd 7), (sc n a_ldsp)] 3 ?t1 ?t2 rfl (by decide) (Nat.le_of_ble_eq_true rfl)).mono ?_; (case t1 => exact (by with_reducible (repeat (first | exact HT30_2.out | apply TS.drew | apply TS.drewN | apply TS.alloc)))); (case t2 => exact parts_new _ [(hd 2 3), (wh rd 7), (sc n a_ldsp)] _); rintro e y30 ⟨rfl, hT⟩; have HU30 := Lib.hid (show TS W0 (w.heap.size + 1 + 1 + 1 + 1 + 1 + 1 + 1 + 1 + 1 + 1 + 1 + 1) [IntKind.u16.wrap (orAll [(hd 0 3), (lo rd 2), (lo rs1 7), (sc n a_ld)]), IntKind.u16.wrap (orAll [(hd 2 3), (wh rd 7), (sc n a_ldsp)])] y30 from hT); clear hT))
  go_wp2
  have hm1 : y30.drew.heap[w.heap.size]? = some (.cells #[.int .i64 14, .int .i64 rd, .int .i64 rs1, .int .i64 rs2, .int .i64 n, .bool aq, .bool rl, .int .i64 len, .int .u32 raw] 24 (0, 0)) := (TS.old (by with_reducible (repeat (first | exact HU30.out | apply TS.drew | apply TS.drewN | apply TS.alloc))) (by omega)).trans HI.out
  have hm2 : (y30.drew.alloc midO).heap[w.heap.size]? = some (.cells #[.int .i64 14, .int .i64 rd, .int .i64 rs1, .int .i64 rs2, .int .i64 n, .bool aq, .bool rl, .int .i64 len, .int .u32 raw] 24 (0, 0)) := (TS.old (by with_reducible (repeat (first | exact HU30.out | apply TS.drew | apply TS.drewN | apply TS.alloc))) (by omega)).trans HI.out
  have m1 := row_cell hm1 0 (.int .i64 14) rfl
  have m2 := row_cell hm2 0 (.int .i64 14) rfl
  clear hm1 hm2
  have m0 : y30.cell? ⟨w.heap.size, 0, none⟩ = some (.int .i64 14) := m1
  have e3 : w.heap.size < y30.heap.size := by have := TS.size HU30.out; omega
  have e1 : ¬ (w.heap.size = y30.heap.size) := by omega
  have hlk : (Instr.lookup 107 (.map (some y30.heap.size)) (.int .i64 14) true).run Tryd.prog ((y30.alloc midO).drew) = .ok (.tuple #[.int .u32 0, .bool false]) ((y30.alloc midO).drew) := (run_lookup_mid ((y30.alloc midO).drew) y30.heap.size 14 (heap_alloc_new y30 _)).trans rfl
  go_region_with (go_at_call 48; refine (middle_calls _).mono ?_; rintro e x ⟨rfl, rfl⟩; dsimp only [midV])
  all_goals
    clear hlk m0 m1 m2 e1 e3
    obtain ⟨A, c, e1, e2, e3⟩ := TS.post HU30.out HB.out (by omega)
    have l1 := TS.size HU30.out
    have l2 : ¬ (w.heap.size + 1 + 1 + 1 + 1 + 1 + 1 + 1 + 1 + 1 + 1 + 1 + 1 = y30.heap.size) := by omega
    have HE2 := Lib.hid (ownsRow_alloc e2 midO)
    have HE3 := Lib.hid (below_drew (below_alloc e3 midO))
    clear e2 e3
    go_wp2
    go_ret
    exact ⟨_, rfl, HE2.out, HE3.out⟩
set_option maxHeartbeats 16000000 in
set_option maxRecDepth 1000000 in
theorem case_30 (w W0 W : World) (rd rs1 rs2 n : Int) (aq rl : Bool) (len raw : Int) (u22 u23 u24 u25 u26 u27 u28 u29 u30 u31 u32 u33 u34 u35 u36 u37 u38 u39 u40 u41 u42 u43 u44 u45 u46 u47 u48 u49 u50 u51 u52 u53 u54 u55 u56 u57 u58 u59 u60 u61 u62 u63 u64 u65 u66 u67 u68 u69 u70 u71 u72 u73 u74 u75 u76 u77 u78 u79 u80 : Value) (hP : Pre w W0 30 rd rs1 rs2 n aq rl len raw) (hT : TS W0 (w.heap.size + 1 + 1 + 1 + 1 + 1 + 1 + 1 + 1 + 1 + 1 + 1 + 1) [] W) :
    rest15.wp Tryd.prog (bodyPost Tryd.prog Tryd.f32 (TPost w ([IntKind.u16.wrap (orAll [(hd 1 4), 1024, (lo rd 7), (sc n a_six)])]))) (fr15 w 30 rd rs1 rs2 n aq rl len raw u22 u23 u24 u25 u26 u27 u28 u29 u30 u31 u32 u33 u34 u35 u36 u37 u38 u39 u40 u41 u42 u43 u44 u45 u46 u47 u48 u49 u50 u51 u52 u53 u54 u55 u56 u57 u58 u59 u60 u61 u62 u63 u64 u65 u66 u67 u68 u69 u70 u71 u72 u73 u74 u75 u76 u77 u78 u79 u80) W := by
  unfold fr15
  have hI : W.heap[w.heap.size]? = some (.cells #[.int .i64 30, .int .i64 rd, .int .i64 rs1, .int .i64 rs2, .int .i64 n, .bool aq, .bool rl, .int .i64 len, .int .u32 raw] 24 (0, 0)) := (hT.old (by omega)).trans hP.inn
  have p0 := row_cell hI 0 (.int .i64 30) rfl
  have HT := Lib.hid hT
  have HA := Lib.hid hP.arr
  have HI := Lib.hid hP.inn
  have HB := Lib.hid hP.below
  clear hT hP hI
  conv => arg 2; whnf
  go_wp2
  go_region_with (first
    | (go_at_call 45; refine (encode_head.calls 1 4 (hd 1 4) _ (hd_ok 1 4)).mono ?_; rintro e x40_0 ⟨rfl, ⟨k40_0, rfl⟩⟩)
    | (go_at_call 46; refine (encode_low.calls rd 7 (lo rd 7) _ (lo_ok rd 7 (by decide))).mono ?_; rintro e x40_1 ⟨rfl, ⟨k40_1, rfl⟩⟩)
    | (go_at_call 30; refine (encode_scatter.calls 20 n _ _ a_six (sc n a_six) _ ?hC ?hc (sc_six n)).mono ?_; (case hC => exact arr_C ((TS.old (by with_reducible (repeat (first | exact HT.out | apply TS.drew | apply TS.drewN | apply TS.alloc))) (by omega)).trans HA.out.six) (by decide)); (case hc => decide); rintro e x40_2 ⟨rfl, hb⟩; have HT40_2 := Lib.hid (TS.keep (by with_reducible (repeat (first | exact HT.out | apply TS.drew | apply TS.drewN | apply TS.alloc))) hb); clear hb)
    | (go_at_call 44; refine (try_any W0 _ (w.heap.size + 1 + 1 + 1 + 1 + 1 + 1 + 1 + 1 + 1 + 1 + 1 + 1) _ [] [(hd 1 4), 1024, (lo rd 7), (sc n a_six)] 4 ?t1 ?t2 rfl (by decide) (Nat.le_of_ble_eq_true rfl)).mono ?_; (case t1 => exact (by with_reducible (repeat (first | exact HT40_2.out | apply TS.drew | apply TS.drewN | apply TS.alloc)))); (case t2 => exact parts_new _ [(hd 1 4), 1024, (lo rd 7), (sc n a_six)] _); rintro e y40 ⟨rfl, hT⟩; have HU40 := Lib.hid (show TS W0 (w.heap.size + 1 + 1 + 1 + 1 + 1 + 1 + 1 + 1 + 1 + 1 + 1 + 1) [IntKind.u16.wrap (orAll [(hd 1 4), 1024, (lo rd 7), (sc n a_six)])] y40 from hT); clear hT))
  go_wp2
  have hm1 : y40.drew.heap[w.heap.size]? = some (.cells #[.int .i64 30, .int .i64 rd, .int .i64 rs1, .int .i64 rs2, .int .i64 n, .bool aq, .bool rl, .int .i64 len, .int .u32 raw] 24 (0, 0)) := (TS.old (by with_reducible (repeat (first | exact HU40.out | apply TS.drew | apply TS.drewN | apply TS.alloc))) (by omega)).trans HI.out
  have hm2 : (y40.drew.alloc midO).heap[w.heap.size]? = some (.cells #[.int .i64 30, .int .i64 rd, .int .i64 rs1, .int .i64 rs2, .int .i64 n, .bool aq, .bool rl, .int .i64 len, .int .u32 raw] 24 (0, 0)) := (TS.old (by with_reducible (repeat (first | exact HU40.out | apply TS.drew | apply TS.drewN | apply TS.alloc))) (by omega)).trans HI.out
  have m1 := row_cell hm1 0 (.int .i64 30) rfl
  have m2 := row_cell hm2 0 (.int .i64 30) rfl
  clear hm1 hm2
  have m0 : y40.cell? ⟨w.heap.size, 0, none⟩ = some (.int .i64 30) := m1
  have e3 : w.heap.size < y40.heap.size := by have := TS.size HU40.out; omega
  have e1 : ¬ (w.heap.size = y40.heap.size) := by omega
  have hlk : (Instr.lookup 107 (.map (some y40.heap.size)) (.int .i64 30) true).run Tryd.prog ((y40.alloc midO).drew) = .ok (.tuple #[.int .u32 0, .bool false]) ((y40.alloc midO).drew) := (run_lookup_mid ((y40.alloc midO).drew) y40.heap.size 30 (heap_alloc_new y40 _)).trans rfl
  go_region_with (go_at_call 48; refine (middle_calls _).mono ?_; rintro e x ⟨rfl, rfl⟩; dsimp only [midV])
  all_goals
    clear hlk m0 m1 m2 e1 e3
    obtain ⟨A, c, e1, e2, e3⟩ := TS.post HU40.out HB.out (by omega)
    have l1 := TS.size HU40.out
    have l2 : ¬ (w.heap.size + 1 + 1 + 1 + 1 + 1 + 1 + 1 + 1 + 1 + 1 + 1 + 1 = y40.heap.size) := by omega
    have HE2 := Lib.hid (ownsRow_alloc e2 midO)
    have HE3 := Lib.hid (below_drew (below_alloc e3 midO))
    clear e2 e3
    go_wp2
    go_ret
    exact ⟨_, rfl, HE2.out, HE3.out⟩
set_option maxHeartbeats 16000000 in
set_option maxRecDepth 1000000 in
theorem case_5 (w W0 W : World) (rd rs1 rs2 n : Int) (aq rl : Bool) (len raw : Int) (u22 u23 u24 u25 u26 u27 u28 u29 u30 u31 u32 u33 u34 u35 u36 u37 u38 u39 u40 u41 u42 u43 u44 u45 u46 u47 u48 u49 u50 u51 u52 u53 u54 u55 u56 u57 u58 u59 u60 u61 u62 u63 u64 u65 u66 u67 u68 u69 u70 u71 u72 u73 u74 u75 u76 u77 u78 u79 u80 : Value) (hP : Pre w W0 5 rd rs1 rs2 n aq rl len raw) (hT : TS W0 (w.heap.size + 1 + 1 + 1 + 1 + 1 + 1 + 1 + 1 + 1 + 1 + 1 + 1) [] W) :
    rest15.wp Tryd.prog (bodyPost Tryd.prog Tryd.f32 (TPost w ([IntKind.u16.wrap (orAll [(hd 1 6), (lo rs1 7), (sc n a_branch)])]))) (fr15 w 5 rd rs1 rs2 n aq rl len raw u22 u23 u24 u25 u26 u27 u28 u29 u30 u31 u32 u33 u34 u35 u36 u37 u38 u39 u40 u41 u42 u43 u44 u45 u46 u47 u48 u49 u50 u51 u52 u53 u54 u55 u56 u57 u58 u59 u60 u61 u62 u63 u64 u65 u66 u67 u68 u69 u70 u71 u72 u73 u74 u75 u76 u77 u78 u79 u80) W := by
  unfold fr15
  have hI : W.heap[w.heap.size]? = some (.cells #[.int .i64 5, .int .i64 rd, .int .i64 rs1, .int .i64 rs2, .int .i64 n, .bool aq, .bool rl, .int .i64 len, .int .u32 raw] 24 (0, 0)) := (hT.old (by omega)).trans hP.inn
  have p0 := row_cell hI 0 (.int .i64 5) rfl
  have HT := Lib.hid hT
  have HA := Lib.hid hP.arr
  have HI := Lib.hid hP.inn
  have HB := Lib.hid hP.below
  clear hT hP hI
  conv => arg 2; whnf
  go_wp2
  go_region_with (first
    | (go_at_call 45; refine (encode_head.calls 1 6 (hd 1 6) _ (hd_ok 1 6)).mono ?_; rintro e x48_0 ⟨rfl, ⟨k48_0, rfl⟩⟩)
    | (go_at_call 46; refine (encode_low.calls rs1 7 (lo rs1 7) _ (lo_ok rs1 7 (by decide))).mono ?_; rintro e x48_1 ⟨rfl, ⟨k48_1, rfl⟩⟩)
    | (go_at_call 30; refine (encode_scatter.calls 20 n _ _ a_branch (sc n a_branch) _ ?hC ?hc (sc_branch n)).mono ?_; (case hC => exact arr_C ((TS.old (by with_reducible (repeat (first | exact HT.out | apply TS.drew | apply TS.drewN | apply TS.alloc))) (by omega)).trans HA.out.branch) (by decide)); (case hc => decide); rintro e x48_2 ⟨rfl, hb⟩; have HT48_2 := Lib.hid (TS.keep (by with_reducible (repeat (first | exact HT.out | apply TS.drew | apply TS.drewN | apply TS.alloc))) hb); clear hb)
    | (go_at_call 44; refine (try_any W0 _ (w.heap.size + 1 + 1 + 1 + 1 + 1 + 1 + 1 + 1 + 1 + 1 + 1 + 1) _ [] [(hd 1 6), (lo rs1 7), (sc n a_branch)] 3 ?t1 ?t2 rfl (by decide) (Nat.le_of_ble_eq_true rfl)).mono ?_; (case t1 => exact (by with_reducible (repeat (first | exact HT48_2.out | apply TS.drew | apply TS.drewN | apply TS.alloc)))); (case t2 => exact parts_new _ [(hd 1 6), (lo rs1 7), (sc n a_branch)] _); rintro e y48 ⟨rfl, hT⟩; have HU48 := Lib.hid (show TS W0 (w.heap.size + 1 + 1 + 1 + 1 + 1 + 1 + 1 + 1 + 1 + 1 + 1 + 1) [IntKind.u16.wrap (orAll [(hd 1 6), (lo rs1 7), (sc n a_branch)])] y48 from hT); clear hT))
  go_wp2
  have hm1 : y48.drew.heap[w.heap.size]? = some (.cells #[.int .i64 5, .int .i64 rd, .int .i64 rs1, .int .i64 rs2, .int .i64 n, .bool aq, .bool rl, .int .i64 len, .int .u32 raw] 24 (0, 0)) := (TS.old (by with_reducible (repeat (first | exact HU48.out | apply TS.drew | apply TS.drewN | apply TS.alloc))) (by omega)).trans HI.out
  have hm2 : (y48.drew.alloc midO).heap[w.heap.size]? = some (.cells #[.int .i64 5, .int .i64 rd, .int .i64 rs1, .int .i64 rs2, .int .i64 n, .bool aq, .bool rl, .int .i64 len, .int .u32 raw] 24 (0, 0)) := (TS.old (by with_reducible (repeat (first | exact HU48.out | apply TS.drew | apply TS.drewN | apply TS.alloc))) (by omega)).trans HI.out
  have m1 := row_cell hm1 0 (.int .i64 5) rfl
  have m2 := row_cell hm2 0 (.int .i64 5) rfl
  clear hm1 hm2
  have m0 : y48.cell? ⟨w.heap.size, 0, none⟩ = some (.int .i64 5) := m1
  have e3 : w.heap.size < y48.heap.size := by have := TS.size HU48.out; omega
  have e1 : ¬ (w.heap.size = y48.heap.size) := by omega
  have hlk : (Instr.lookup 107 (.map (some y48.heap.size)) (.int .i64 5) true).run Tryd.prog ((y48.alloc midO).drew) = .ok (.tuple #[.int .u32 0, .bool false]) ((y48.alloc midO).drew) := (run_lookup_mid ((y48.alloc midO).drew) y48.heap.size 5 (heap_alloc_new y48 _)).trans rfl
  go_region_with (go_at_call 48; refine (middle_calls _).mono ?_; rintro e x ⟨rfl, rfl⟩; dsimp only [midV])
  all_goals
    clear hlk m0 m1 m2 e1 e3
    obtain ⟨A, c, e1, e2, e3⟩ := TS.post HU48.out HB.out (by omega)
    have l1 := TS.size HU48.out
    have l2 : ¬ (w.heap.size + 1 + 1 + 1 + 1 + 1 + 1 + 1 + 1 + 1 + 1 + 1 + 1 = y48.heap.size) := by omega
    have HE2 := Lib.hid (ownsRow_alloc e2 midO)
    have HE3 := Lib.hid (below_drew (below_alloc e3 midO))
    clear e2 e3
    go_wp2
    go_ret
    exact ⟨_, rfl, HE2.out, HE3.out⟩
set_option maxHeartbeats 16000000 in
set_option maxRecDepth 1000000 in
theorem case_35 (w W0 W : World) (rd rs1 rs2 n : Int) (aq rl : Bool) (len raw : Int) (u22 u23 u24 u25 u26 u27 u28 u29 u30 u31 u32 u33 u34 u35 u36 u37 u38 u39 u40 u41 u42 u43 u44 u45 u46 u47 u48 u49 u50 u51 u52 u53 u54 u55 u56 u57 u58 u59 u60 u61 u62 u63 u64 u65 u66 u67 u68 u69 u70 u71 u72 u73 u74 u75 u76 u77 u78 u79 u80 : Value) (hP : Pre w W0 35 rd rs1 rs2 n aq rl len raw) (hT : TS W0 (w.heap.size + 1 + 1 + 1 + 1 + 1 + 1 + 1 + 1 + 1 + 1 + 1 + 1) [] W) :
    rest15.wp Tryd.prog (bodyPost Tryd.prog Tryd.f32 (TPost w ([IntKind.u16.wrap (orAll [(hd 2 4), (wh rd 7), (wh rs2 2)]), IntKind.u16.wrap (orAll [(hd 2 4), 4096, (wh rd 7), (wh rs2 2)])]))) (fr15 w 35 rd rs1 rs2 n aq rl len raw u22 u23 u24 u25 u26 u27 u28 u29 u30 u31 u32 u33 u34 u35 u36 u37 u38 u39 u40 u41 u42 u43 u44 u45 u46 u47 u48 u49 u50 u51 u52 u53 u54 u55 u56 u57 u58 u59 u60 u61 u62 u63 u64 u65 u66 u67 u68 u69 u70 u71 u72 u73 u74 u75 u76 u77 u78 u79 u80) W := by
  unfold fr15
  have hI : W.heap[w.heap.size]? = some (.cells #[.int .i64 35, .int .i64 rd, .int .i64 rs1, .int .i64 rs2, .int .i64 n, .bool aq, .bool rl, .int .i64 len, .int .u32 raw] 24 (0, 0)) := (hT.old (by omega)).trans hP.inn
  have p0 := row_cell hI 0 (.int .i64 35) rfl
  have HT := Lib.hid hT
  have HA := Lib.hid hP.arr
  have HI := Lib.hid hP.inn
  have HB := Lib.hid hP.below
  clear hT hP hI
  conv => arg 2; whnf
  go_upto_region 58 with (first
    | (go_at_call 45; refine (encode_head.calls 2 4 (hd 2 4) _ (hd_ok 2 4)).mono ?_; rintro e x57_0 ⟨rfl, ⟨k57_0, rfl⟩⟩)
    | (go_at_call 47; refine (encode_whole.calls rd 7 (wh rd 7) _ (wh_ok rd 7 (by decide))).mono ?_; rintro e x57_1 ⟨rfl, ⟨k57_1, rfl⟩⟩)
    | (go_at_call 47; refine (encode_whole.calls rs2 2 (wh rs2 2) _ (wh_ok rs2 2 (by decide))).mono ?_; rintro e x57_2 ⟨rfl, ⟨k57_2, rfl⟩⟩)
    | (go_at_call 44; refine (try_any W0 _ (w.heap.size + 1 + 1 + 1 + 1 + 1 + 1 + 1 + 1 + 1 + 1 + 1 + 1) _ [] [(hd 2 4), (wh rd 7), (wh rs2 2)] 3 ?t1 ?t2 rfl (by decide) (Nat.le_of_ble_eq_true rfl)).mono ?_; (case t1 => exact (by with_reducible (repeat (first | exact HT.out | apply TS.drew | apply TS.drewN | apply TS.alloc)))); (case t2 => exact parts_new _ [(hd 2 4), (wh rd 7), (wh rs2 2)] _); rintro e y57 ⟨rfl, hT⟩; have HU57 := Lib.hid (show TS W0 (w.heap.size + 1 + 1 + 1 + 1 + 1 + 1 + 1 + 1 + 1 + 1 + 1 + 1) [IntKind.u16.wrap (orAll [(hd 2 4), (wh rd 7), (wh rs2 2)])] y57 from hT); clear hT))
  go_wp2_with (first
    | (go_at_call 45; refine (encode_head.calls 2 4 (hd 2 4) _ (hd_ok 2 4)).mono ?_; rintro e x58_0 ⟨rfl, ⟨k58_0, rfl⟩⟩)
    | (go_at_call 47; refine (encode_whole.calls rd 7 (wh rd 7) _ (wh_ok rd 7 (by decide))).mono ?_; rintro e x58_1 ⟨rfl, ⟨k58_1, rfl⟩⟩)
    | (go_at_call 47; refine (encode_whole.calls rs2 2 (wh rs2 2) _ (wh_ok rs2 2 (by decide))).mono ?_; rintro e x58_2 ⟨rfl, ⟨k58_2, rfl⟩⟩)
    | (go_at_call 44; refine (try_any W0 _ (w.heap.size + 1 + 1 + 1 + 1 + 1 + 1 + 1 + 1 + 1 + 1 + 1 + 1) _ [IntKind.u16.wrap (orAll [(hd 2 4), (wh rd 7), (wh rs2 2)])] [(hd 2 4), 4096, (wh rd 7), (wh rs2 2)] 4 ?t1 ?t2 rfl (by decide) (Nat.le_of_ble_eq_true rfl)).mono ?_; (case t1 => exact (by with_reducible (repeat (first | exact HU57.out | apply TS.drew | apply TS.drewN | apply TS.alloc)))); (case t2 => exact parts_new _ [(hd 2 4), 4096, (wh rd 7), (wh rs2 2)] _); rintro e y58 ⟨rfl, hT⟩; have HU58 := Lib.hid (show TS W0 (w.heap.size + 1 + 1 + 1 + 1 + 1 + 1 + 1 + 1 + 1 + 1 + 1 + 1) [IntKind.u16.wrap (orAll [(hd 2 4), (wh rd 7), (wh rs2 2)]), IntKind.u16.wrap (orAll [(hd 2 4), 4096, (wh rd 7), (wh rs2 2)])] y58 from hT); clear hT))
  go_wp2
  have hm1 : y58.drew.heap[w.heap.size]? = some (.cells #[.int .i64 35, .int .i64 rd, .int .i64 rs1, .int .i64 rs2, .int .i64 n, .bool aq, .bool rl, .int .i64 len, .int .u32 raw] 24 (0, 0)) := (TS.old (by with_reducible (repeat (first | exact HU58.out | apply TS.drew | apply TS.drewN | apply TS.alloc))) (by omega)).trans HI.out
  have hm2 : (y58.drew.alloc midO).heap[w.heap.size]? = some (.cells #[.int .i64 35, .int .i64 rd, .int .i64 rs1, .int .i64 rs2, .int .i64 n, .bool aq, .bool rl, .int .i64 len, .int .u32 raw] 24 (0, 0)) := (TS.old (by with_reducible (repeat (first | exact HU58.out | apply TS.drew | apply TS.drewN | apply TS.alloc))) (by omega)).trans HI.out
  have m1 := row_cell hm1 0 (.int .i64 35) rfl
  have m2 := row_cell hm2 0 (.int .i64 35) rfl
  clear hm1 hm2
  have m0 : y58.cell? ⟨w.heap.size, 0, none⟩ = some (.int .i64 35) := m1
  have e3 : w.heap.size < y58.heap.size := by have := TS.size HU58.out; omega
  have e1 : ¬ (w.heap.size = y58.heap.size) := by omega
  have hlk : (Instr.lookup 107 (.map (some y58.heap.size)) (.int .i64 35) true).run Tryd.prog ((y58.alloc midO).drew) = .ok (.tuple #[.int .u32 0, .bool false]) ((y58.alloc midO).drew) := (run_lookup_mid ((y58.alloc midO).drew) y58.heap.size 35 (heap_alloc_new y58 _)).trans rfl
  go_region_with (go_at_call 48; refine (middle_calls _).mono ?_; rintro e x ⟨rfl, rfl⟩; dsimp only [midV])
  all_goals
    clear hlk m0 m1 m2 e1 e3
    obtain ⟨A, c, e1, e2, e3⟩ := TS.post HU58.out HB.out (by omega)
    have l1 := TS.size HU58.out
    have l2 : ¬ (w.heap.size + 1 + 1 + 1 + 1 + 1 + 1 + 1 + 1 + 1 + 1 + 1 + 1 = y58.heap.size) := by omega
    have HE2 := Lib.hid (ownsRow_alloc e2 midO)
    have HE3 := Lib.hid (below_drew (below_alloc e3 midO))
    clear e2 e3
    go_wp2
    go_ret
    exact ⟨_, rfl, HE2.out, HE3.out⟩
end Go.Proofs.YtiibhggjlandmaaDoor.TR
