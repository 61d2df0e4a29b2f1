/- Texts of this claim, put together by a program: TriesC1. -/
import Derived.Test.YtiibhggjlandmaaDoorMBxTries
/- encode.tries: its cases, by operation. No condition. -/
namespace Go.Proofs.YtiibhggjlandmaaDoor.TR
open Go.RowKit Go.Proofs.YtiibhggjlandmaaDoorW.PrintWords Go.Proofs.YtiibhggjlandmaaDoorW.PrintMore Go.Proofs.YtiibhggjlandmaaDoor.PT Go.Proofs.YtiibhggjlandmaaDoor.PL
set_option linter.unusedVariables false
set_option linter.unusedSimpArgs false
set_option maxHeartbeats 16000000 in
set_option maxRecDepth 1000000 in
theorem case_31 (w W0 W : World) (rd rs1 rs2 n : Int) (aq rl : Bool) (len raw : Int) (u22 u23 u24 u25 u26 u27 u28 u29 u30 u31 u32 u33 u34 u35 u36 u37 u38 u39 u40 u41 u42 u43 u44 u45 u46 u47 u48 u49 u50 u51 u52 u53 u54 u55 u56 u57 u58 u59 u60 u61 u62 u63 u64 u65 u66 u67 u68 u69 u70 u71 u72 u73 u74 u75 u76 u77 u78 u79 u80 : Value) (hP : Pre w W0 31 rd rs1 rs2 n aq rl len raw) (hT : TS W0 (w.heap.size + 1 + 1 + 1 + 1 + 1 + 1 + 1 + 1 + 1 + 1 + 1 + 1) [] W) :
    rest15.wp Tryd.prog (bodyPost Tryd.prog Tryd.f32 (TPost w ([IntKind.u16.wrap (orAll [(hd 1 1), (wh rd 7), (sc n a_six)])]))) (fr15 w 31 rd rs1 rs2 n aq rl len raw u22 u23 u24 u25 u26 u27 u28 u29 u30 u31 u32 u33 u34 u35 u36 u37 u38 u39 u40 u41 u42 u43 u44 u45 u46 u47 u48 u49 u50 u51 u52 u53 u54 u55 u56 u57 u58 u59 u60 u61 u62 u63 u64 u65 u66 u67 u68 u69 u70 u71 u72 u73 u74 u75 u76 u77 u78 u79 u80) W := by
  unfold fr15
  have hI : W.heap[w.heap.size]? = some (.cells #[.int .i64 31, .int .i64 rd, .int .i64 rs1, .int .i64 rs2, .int .i64 n, .bool aq, .bool rl, .int .i64 len, .int .u32 raw] 24 (0, 0)) := (hT.old (by omega)).trans hP.inn
  have p0 := row_cell hI 0 (.int .i64 31) rfl
  have HT := Lib.hid hT
  have HA := Lib.hid hP.arr
  have HI := Lib.hid hP.inn
  have HB := Lib.hid hP.below
  clear hT hP hI
  conv => arg 2; whnf
  go_wp2
  go_region_with (first
    | (go_at_call 45; refine (encode_head.calls 1 1 (hd 1 1) _ (hd_ok 1 1)).mono ?_; rintro e x22_0 ⟨rfl, ⟨k22_0, rfl⟩⟩)
    | (go_at_call 47; refine (encode_whole.calls rd 7 (wh rd 7) _ (wh_ok rd 7 (by decide))).mono ?_; rintro e x22_1 ⟨rfl, ⟨k22_1, rfl⟩⟩)
    | (go_at_call 30; refine (encode_scatter.calls 20 n _ _ a_six (sc n a_six) _ ?hC ?hc (sc_six n)).mono ?_; (case hC => exact arr_C ((TS.old (by with_reducible (repeat (first | exact HT.out | apply TS.drew | apply TS.drewN | apply TS.alloc))) (by omega)).trans HA.out.six) (by decide)); (case hc => decide); rintro e x22_2 ⟨rfl, hb⟩; have HT22_2 := Lib.hid (TS.keep (by with_reducible (repeat (first | exact HT.out | apply TS.drew | apply TS.drewN | apply TS.alloc))) hb); clear hb)
    | (go_at_call 44; refine (try_any W0 _ (w.heap.size + 1 + 1 + 1 + 1 + 1 + 1 + 1 + 1 + 1 + 1 + 1 + 1) _ [] [(hd 1 1), (wh rd 7), (sc n a_six)] 3 ?t1 ?t2 rfl (by decide) (Nat.le_of_ble_eq_true rfl)).mono ?_; (case t1 => exact (by with_reducible (repeat (first | exact HT22_2.out | apply TS.drew | apply TS.drewN | apply TS.alloc)))); (case t2 => exact parts_new _ [(hd 1 1), (wh rd 7), (sc n a_six)] _); rintro e y22 ⟨rfl, hT⟩; have HU22 := Lib.hid (show TS W0 (w.heap.size + 1 + 1 + 1 + 1 + 1 + 1 + 1 + 1 + 1 + 1 + 1 + 1) [IntKind.u16.wrap (orAll [(hd 1 1), (wh rd 7), (sc n a_six)])] y22 from hT); clear hT))
  go_wp2
  have hm1 : y22.drew.heap[w.heap.size]? = some (.cells #[.int .i64 31, .int .i64 rd, .int .i64 rs1, .int .i64 rs2, .int .i64 n, .bool aq, .bool rl, .int .i64 len, .int .u32 raw] 24 (0, 0)) := (TS.old (by with_reducible (repeat (first | exact HU22.out | apply TS.drew | apply TS.drewN | apply TS.alloc))) (by omega)).trans HI.out
  have hm2 : (y22.drew.alloc midO).heap[w.heap.size]? = some (.cells #[.int .i64 31, .int .i64 rd, .int .i64 rs1, .int .i64 rs2, .int .i64 n, .bool aq, .bool rl, .int .i64 len, .int .u32 raw] 24 (0, 0)) := (TS.old (by with_reducible (repeat (first | exact HU22.out | apply TS.drew | apply TS.drewN | apply TS.alloc))) (by omega)).trans HI.out
  have m1 := row_cell hm1 0 (.int .i64 31) rfl
  have m2 := row_cell hm2 0 (.int .i64 31) rfl
  clear hm1 hm2
  have m0 : y22.cell? ⟨w.heap.size, 0, none⟩ = some (.int .i64 31) := m1
  have e3 : w.heap.size < y22.heap.size := by have := TS.size HU22.out; omega
  have e1 : ¬ (w.heap.size = y22.heap.size) := by omega
  have hlk : (Instr.lookup 107 (.map (some y22.heap.size)) (.int .i64 31) true).run Tryd.prog ((y22.alloc midO).drew) = .ok (.tuple #[.int .u32 0, .bool false]) ((y22.alloc midO).drew) := (run_lookup_mid ((y22.alloc midO).drew) y22.heap.size 31 (heap_alloc_new y22 _)).trans rfl
  go_region_with (go_at_call 48; refine (middle_calls _).mono ?_; rintro e x ⟨rfl, rfl⟩; dsimp only [midV])
  all_goals
    clear hlk m0 m1 m2 e1 e3
    obtain ⟨A, c, e1, e2, e3⟩ := TS.post HU22.out HB.out (by omega)
    have l1 := TS.size HU22.out
    have l2 : ¬ (w.heap.size + 1 + 1 + 1 + 1 + 1 + 1 + 1 + 1 + 1 + 1 + 1 + 1 = y22.heap.size) := by omega
    have HE2 := Lib.hid (ownsRow_alloc e2 midO)
    have HE3 := Lib.hid (below_drew (below_alloc e3 midO))
    clear e2 e3
    go_wp2
    go_ret
    exact ⟨_, rfl, HE2.out, HE3.out⟩
set_option maxHeartbeats 16000000 in
set_option maxRecDepth 1000000 in
theorem case_20 (w W0 W : World) (rd rs1 rs2 n : Int) (aq rl : Bool) (len raw : Int) (u22 u23 u24 u25 u26 u27 u28 u29 u30 u31 u32 u33 u34 u35 u36 u37 u38 u39 u40 u41 u42 u43 u44 u45 u46 u47 u48 u49 u50 u51 u52 u53 u54 u55 u56 u57 u58 u59 u60 u61 u62 u63 u64 u65 u66 u67 u68 u69 u70 u71 u72 u73 u74 u75 u76 u77 u78 u79 u80 : Value) (hP : Pre w W0 20 rd rs1 rs2 n aq rl len raw) (hT : TS W0 (w.heap.size + 1 + 1 + 1 + 1 + 1 + 1 + 1 + 1 + 1 + 1 + 1 + 1) [] W) :
    rest15.wp Tryd.prog (bodyPost Tryd.prog Tryd.f32 (TPost w ([IntKind.u16.wrap (orAll [(hd 0 6), (lo rs2 2), (lo rs1 7), (sc n a_lw)]), IntKind.u16.wrap (orAll [(hd 2 6), (wh rs2 2), (sc n a_swsp)])]))) (fr15 w 20 rd rs1 rs2 n aq rl len raw u22 u23 u24 u25 u26 u27 u28 u29 u30 u31 u32 u33 u34 u35 u36 u37 u38 u39 u40 u41 u42 u43 u44 u45 u46 u47 u48 u49 u50 u51 u52 u53 u54 u55 u56 u57 u58 u59 u60 u61 u62 u63 u64 u65 u66 u67 u68 u69 u70 u71 u72 u73 u74 u75 u76 u77 u78 u79 u80) W := by
  unfold fr15
  have hI : W.heap[w.heap.size]? = some (.cells #[.int .i64 20, .int .i64 rd, .int .i64 rs1, .int .i64 rs2, .int .i64 n, .bool aq, .bool rl, .int .i64 len, .int .u32 raw] 24 (0, 0)) := (hT.old (by omega)).trans hP.inn
  have p0 := row_cell hI 0 (.int .i64 20) rfl
  have HT := Lib.hid hT
  have HA := Lib.hid hP.arr
  have HI := Lib.hid hP.inn
  have HB := Lib.hid hP.below
  clear hT hP hI
  conv => arg 2; whnf
  go_wp2
  go_region_with (first
    | (go_at_call 45; refine (encode_head.calls 0 6 (hd 0 6) _ (hd_ok 0 6)).mono ?_; rintro e x32_0 ⟨rfl, ⟨k32_0, rfl⟩⟩)
    | (go_at_call 46; refine (encode_low.calls rs2 2 (lo rs2 2) _ (lo_ok rs2 2 (by decide))).mono ?_; rintro e x32_1 ⟨rfl, ⟨k32_1, rfl⟩⟩)
    | (go_at_call 46; refine (encode_low.calls rs1 7 (lo rs1 7) _ (lo_ok rs1 7 (by decide))).mono ?_; rintro e x32_2 ⟨rfl, ⟨k32_2, rfl⟩⟩)
    | (go_at_call 30; refine (encode_scatter.calls 20 n _ _ a_lw (sc n a_lw) _ ?hC ?hc (sc_lw n)).mono ?_; (case hC => exact arr_C ((TS.old (by with_reducible (repeat (first | exact HT.out | apply TS.drew | apply TS.drewN | apply TS.alloc))) (by omega)).trans HA.out.lw) (by decide)); (case hc => decide); rintro e x32_3 ⟨rfl, hb⟩; have HT32_3 := Lib.hid (TS.keep (by with_reducible (repeat (first | exact HT.out | apply TS.drew | apply TS.drewN | apply TS.alloc))) hb); clear hb)
    | (go_at_call 44; refine (try_any W0 _ (w.heap.size + 1 + 1 + 1 + 1 + 1 + 1 + 1 + 1 + 1 + 1 + 1 + 1) _ [] [(hd 0 6), (lo rs2 2), (lo rs1 7), (sc n a_lw)] 4 ?t1 ?t2 rfl (by decide) (Nat.le_of_ble_eq_true rfl)).mono ?_; (case t1 => exact (by with_reducible (repeat (first | exact HT32_3.out | apply TS.drew | apply TS.drewN | apply TS.alloc)))); (case t2 => exact parts_new _ [(hd 0 6), (lo rs2 2), (lo rs1 7), (sc n a_lw)] _); rintro e y32 ⟨rfl, hT⟩; have HU32 := Lib.hid (show TS W0 (w.heap.size + 1 + 1 + 1 + 1 + 1 + 1 + 1 + 1 + 1 + 1 + 1 + 1) [IntKind.u16.wrap (orAll [(hd 0 6), (lo rs2 2), (lo rs1 7), (sc n a_lw)])] y32 from hT); clear hT))
  go_wp2
  go_region_with (first
    | (go_at_call 45; refine (encode_head.calls 2 6 (hd 2 6) _ (hd_ok 2 6)).mono ?_; rintro e x33_0 ⟨rfl, ⟨k33_0, rfl⟩⟩)
    | (go_at_call 47; refine (encode_whole.calls rs2 2 (wh rs2 2) _ (wh_ok rs2 2 (by decide))).mono ?_; rintro e x33_1 ⟨rfl, ⟨k33_1, rfl⟩⟩)
    | (go_at_call 30; refine (encode_scatter.calls 20 n _ _ a_swsp (sc n a_swsp) _ ?hC ?hc (sc_swsp n)).mono ?_; (case hC => exact arr_C ((TS.old (by with_reducible (repeat (first | exact HU32.out | apply TS.drew | apply TS.drewN | apply TS.alloc))) (by omega)).trans HA.out.swsp) (by decide)); (case hc => decide); rintro e x33_2 ⟨rfl, hb⟩; have HT33_2 := Lib.hid (TS.keep (by with_reducible (repeat (first | exact HU32.out | apply TS.drew | apply TS.drewN | apply TS.alloc))) hb); clear hb)
    | (go_at_call 44; refine (try_any W0 _ (w.heap.size + 1 + 1 + 1 + 1 + 1 + 1 + 1 + 1 + 1 + 1 + 1 + 1) _ [IntKind.u16.wrap (orAll [(hd 0 6), (lo rs2 2), (lo rs1 7), (sc n a_lw)])] [(hd 2 6), (wh rs2 2), (sc n a_swsp)] 3 ?t1 ?t2 rfl (by decide) (Nat.le_of_ble_eq_true rfl)).mono ?_; (case t1 => exact (by with_reducible (repeat (first | exact HT33_2.out | apply TS.drew | apply TS.drewN | apply TS.alloc)))); (case t2 => exact parts_new _ [(hd 2 6), (wh rs2 2), (sc n a_swsp)] _); rintro e y33 ⟨rfl, hT⟩; have HU33 := Lib.hid (show TS W0 (w.heap.size + 1 + 1 + 1 + 1 + 1 + 1 + 1 + 1 + 1 + 1 + 1 + 1) [IntKind.u16.wrap (orAll [(hd 0 6), (lo rs2 2), (lo rs1 7), (sc n a_lw)]), IntKind.u16.wrap (orAll [(hd 2 6), (wh rs2 2), (sc n a_swsp)])] y33 from hT); clear hT))
  go_wp2
  have hm1 : y33.drew.heap[w.heap.size]? = some (.cells #[.int .i64 20, .int .i64 rd, .int .i64 rs1, .int .i64 rs2, .int .i64 n, .bool aq, .bool rl, .int .i64 len, .int .u32 raw] 24 (0, 0)) := (TS.old (by with_reducible (repeat (first | exact HU33.out | apply TS.drew | apply TS.drewN | apply TS.alloc))) (by omega)).trans HI.out
  have hm2 : (y33.drew.alloc midO).heap[w.heap.size]? = some (.cells #[.int .i64 20, .int .i64 rd, .int .i64 rs1, .int .i64 rs2, .int .i64 n, .bool aq, .bool rl, .int .i64 len, .int .u32 raw] 24 (0, 0)) := (TS.old (by with_reducible (repeat (first | exact HU33.out | apply TS.drew | apply TS.drewN | apply TS.alloc))) (by omega)).trans HI.out
  have m1 := row_cell hm1 0 (.int .i64 20) rfl
  have m2 := row_cell hm2 0 (.int .i64 20) rfl
  clear hm1 hm2
  have m0 : y33.cell? ⟨w.heap.size, 0, none⟩ = some (.int .i64 20) := m1
  have e3 : w.heap.size < y33.heap.size := by have := TS.size HU33.out; omega
  have e1 : ¬ (w.heap.size = y33.heap.size) := by omega
  have hlk : (Instr.lookup 107 (.map (some y33.heap.size)) (.int .i64 20) true).run Tryd.prog ((y33.alloc midO).drew) = .ok (.tuple #[.int .u32 0, .bool false]) ((y33.alloc midO).drew) := (run_lookup_mid ((y33.alloc midO).drew) y33.heap.size 20 (heap_alloc_new y33 _)).trans rfl
  go_region_with (go_at_call 48; refine (middle_calls _).mono ?_; rintro e x ⟨rfl, rfl⟩; dsimp only [midV])
  all_goals
    clear hlk m0 m1 m2 e1 e3
    obtain ⟨A, c, e1, e2, e3⟩ := TS.post HU33.out HB.out (by omega)
    have l1 := TS.size HU33.out
    have l2 : ¬ (w.heap.size + 1 + 1 + 1 + 1 + 1 + 1 + 1 + 1 + 1 + 1 + 1 + 1 = y33.heap.size) := by omega
    have HE2 := Lib.hid (ownsRow_alloc e2 midO)
    have HE3 := Lib.hid (below_drew (below_alloc e3 midO))
    clear e2 e3
    go_wp2
    go_ret
    exact ⟨_, rfl, HE2.out, HE3.out⟩
set_option maxHeartbeats 16000000 in
set_option maxRecDepth 1000000 in
theorem case_27 (w W0 W : World) (rd rs1 rs2 n : Int) (aq rl : Bool) (len raw : Int) (u22 u23 u24 u25 u26 u27 u28 u29 u30 u31 u32 u33 u34 u35 u36 u37 u38 u39 u40 u41 u42 u43 u44 u45 u46 u47 u48 u49 u50 u51 u52 u53 u54 u55 u56 u57 u58 u59 u60 u61 u62 u63 u64 u65 u66 u67 u68 u69 u70 u71 u72 u73 u74 u75 u76 u77 u78 u79 u80 : Value) (hP : Pre w W0 27 rd rs1 rs2 n aq rl len raw) (hT : TS W0 (w.heap.size + 1 + 1 + 1 + 1 + 1 + 1 + 1 + 1 + 1 + 1 + 1 + 1) [] W) :
    rest15.wp Tryd.prog (bodyPost Tryd.prog Tryd.f32 (TPost w ([IntKind.u16.wrap (orAll [(hd 1 4), 2048, (lo rd 7), (sc n a_six)])]))) (fr15 w 27 rd rs1 rs2 n aq rl len raw u22 u23 u24 u25 u26 u27 u28 u29 u30 u31 u32 u33 u34 u35 u36 u37 u38 u39 u40 u41 u42 u43 u44 u45 u46 u47 u48 u49 u50 u51 u52 u53 u54 u55 u56 u57 u58 u59 u60 u61 u62 u63 u64 u65 u66 u67 u68 u69 u70 u71 u72 u73 u74 u75 u76 u77 u78 u79 u80) W := by
  unfold fr15
  have hI : W.heap[w.heap.size]? = some (.cells #[.int .i64 27, .int .i64 rd, .int .i64 rs1, .int .i64 rs2, .int .i64 n, .bool aq, .bool rl, .int .i64 len, .int .u32 raw] 24 (0, 0)) := (hT.old (by omega)).trans hP.inn
  have p0 := row_cell hI 0 (.int .i64 27) rfl
  have HT := Lib.hid hT
  have HA := Lib.hid hP.arr
  have HI := Lib.hid hP.inn
  have HB := Lib.hid hP.below
  clear hT hP hI
  conv => arg 2; whnf
  go_wp2
  go_region_with (first
    | (go_at_call 45; refine (encode_head.calls 1 4 (hd 1 4) _ (hd_ok 1 4)).mono ?_; rintro e x42_0 ⟨rfl, ⟨k42_0, rfl⟩⟩)
    | (go_at_call 46; refine (encode_low.calls rd 7 (lo rd 7) _ (lo_ok rd 7 (by decide))).mono ?_; rintro e x42_1 ⟨rfl, ⟨k42_1, rfl⟩⟩)
    | (go_at_call 30; refine (encode_scatter.calls 20 n _ _ a_six (sc n a_six) _ ?hC ?hc (sc_six n)).mono ?_; (case hC => exact arr_C ((TS.old (by with_reducible (repeat (first | exact HT.out | apply TS.drew | apply TS.drewN | apply TS.alloc))) (by omega)).trans HA.out.six) (by decide)); (case hc => decide); rintro e x42_2 ⟨rfl, hb⟩; have HT42_2 := Lib.hid (TS.keep (by with_reducible (repeat (first | exact HT.out | apply TS.drew | apply TS.drewN | apply TS.alloc))) hb); clear hb)
    | (go_at_call 44; refine (try_any W0 _ (w.heap.size + 1 + 1 + 1 + 1 + 1 + 1 + 1 + 1 + 1 + 1 + 1 + 1) _ [] [(hd 1 4), 2048, (lo rd 7), (sc n a_six)] 4 ?t1 ?t2 rfl (by decide) (Nat.le_of_ble_eq_true rfl)).mono ?_; (case t1 => exact (by with_reducible (repeat (first | exact HT42_2.out | apply TS.drew | apply TS.drewN | apply TS.alloc)))); (case t2 => exact parts_new _ [(hd 1 4), 2048, (lo rd 7), (sc n a_six)] _); rintro e y42 ⟨rfl, hT⟩; have HU42 := Lib.hid (show TS W0 (w.heap.size + 1 + 1 + 1 + 1 + 1 + 1 + 1 + 1 + 1 + 1 + 1 + 1) [IntKind.u16.wrap (orAll [(hd 1 4), 2048, (lo rd 7), (sc n a_six)])] y42 from hT); clear hT))
  go_wp2
  have hm1 : y42.drew.heap[w.heap.size]? = some (.cells #[.int .i64 27, .int .i64 rd, .int .i64 rs1, .int .i64 rs2, .int .i64 n, .bool aq, .bool rl, .int .i64 len, .int .u32 raw] 24 (0, 0)) := (TS.old (by with_reducible (repeat (first | exact HU42.out | apply TS.drew | apply TS.drewN | apply TS.alloc))) (by omega)).trans HI.out
  have hm2 : (y42.drew.alloc midO).heap[w.heap.size]? = some (.cells #[.int .i64 27, .int .i64 rd, .int .i64 rs1, .int .i64 rs2, .int .i64 n, .bool aq, .bool rl, .int .i64 len, .int .u32 raw] 24 (0, 0)) := (TS.old (by with_reducible (repeat (first | exact HU42.out | apply TS.drew | apply TS.drewN | apply TS.alloc))) (by omega)).trans HI.out
  have m1 := row_cell hm1 0 (.int .i64 27) rfl
  have m2 := row_cell hm2 0 (.int .i64 27) rfl
  clear hm1 hm2
  have m0 : y42.cell? ⟨w.heap.size, 0, none⟩ = some (.int .i64 27) := m1
  have e3 : w.heap.size < y42.heap.size := by have := TS.size HU42.out; omega
  have e1 : ¬ (w.heap.size = y42.heap.size) := by omega
  have hlk : (Instr.lookup 107 (.map (some y42.heap.size)) (.int .i64 27) true).run Tryd.prog ((y42.alloc midO).drew) = .ok (.tuple #[.int .u32 0, .bool false]) ((y42.alloc midO).drew) := (run_lookup_mid ((y42.alloc midO).drew) y42.heap.size 27 (heap_alloc_new y42 _)).trans rfl
  go_region_with (go_at_call 48; refine (middle_calls _).mono ?_; rintro e x ⟨rfl, rfl⟩; dsimp only [midV])
  all_goals
    clear hlk m0 m1 m2 e1 e3
    obtain ⟨A, c, e1, e2, e3⟩ := TS.post HU42.out HB.out (by omega)
    have l1 := TS.size HU42.out
    have l2 : ¬ (w.heap.size + 1 + 1 + 1 + 1 + 1 + 1 + 1 + 1 + 1 + 1 + 1 + 1 = y42.heap.size) := by omega
    have HE2 := Lib.hid (ownsRow_alloc e2 midO)
    have HE3 := Lib.hid (below_drew (below_alloc e3 midO))
    clear e2 e3
    go_wp2
    go_ret
    exact ⟨_, rfl, HE2.out, HE3.out⟩
set_option maxHeartbeats 16000000 in
set_option maxRecDepth 1000000 in
theorem case_6 (w W0 W : World) (rd rs1 rs2 n : Int) (aq rl : Bool) (len raw : Int) (u22 u23 u24 u25 u26 u27 u28 u29 u30 u31 u32 u33 u34 u35 u36 u37 u38 u39 u40 u41 u42 u43 u44 u45 u46 u47 u48 u49 u50 u51 u52 u53 u54 u55 u56 u57 u58 u59 u60 u61 u62 u63 u64 u65 u66 u67 u68 u69 u70 u71 u72 u73 u74 u75 u76 u77 u78 u79 u80 : Value) (hP : Pre w W0 6 rd rs1 rs2 n aq rl len raw) (hT : TS W0 (w.heap.size + 1 + 1 + 1 + 1 + 1 + 1 + 1 + 1 + 1 + 1 + 1 + 1) [] W) :
    rest15.wp Tryd.prog (bodyPost Tryd.prog Tryd.f32 (TPost w ([IntKind.u16.wrap (orAll [(hd 1 7), (lo rs1 7), (sc n a_branch)])]))) (fr15 w 6 rd rs1 rs2 n aq rl len raw u22 u23 u24 u25 u26 u27 u28 u29 u30 u31 u32 u33 u34 u35 u36 u37 u38 u39 u40 u41 u42 u43 u44 u45 u46 u47 u48 u49 u50 u51 u52 u53 u54 u55 u56 u57 u58 u59 u60 u61 u62 u63 u64 u65 u66 u67 u68 u69 u70 u71 u72 u73 u74 u75 u76 u77 u78 u79 u80) W := by
  unfold fr15
  have hI : W.heap[w.heap.size]? = some (.cells #[.int .i64 6, .int .i64 rd, .int .i64 rs1, .int .i64 rs2, .int .i64 n, .bool aq, .bool rl, .int .i64 len, .int .u32 raw] 24 (0, 0)) := (hT.old (by omega)).trans hP.inn
  have p0 := row_cell hI 0 (.int .i64 6) rfl
  have HT := Lib.hid hT
  have HA := Lib.hid hP.arr
  have HI := Lib.hid hP.inn
  have HB := Lib.hid hP.below
  clear hT hP hI
  conv => arg 2; whnf
  go_wp2
  go_region_with (first
    | (go_at_call 45; refine (encode_head.calls 1 7 (hd 1 7) _ (hd_ok 1 7)).mono ?_; rintro e x50_0 ⟨rfl, ⟨k50_0, rfl⟩⟩)
    | (go_at_call 46; refine (encode_low.calls rs1 7 (lo rs1 7) _ (lo_ok rs1 7 (by decide))).mono ?_; rintro e x50_1 ⟨rfl, ⟨k50_1, rfl⟩⟩)
    | (go_at_call 30; refine (encode_scatter.calls 20 n _ _ a_branch (sc n a_branch) _ ?hC ?hc (sc_branch n)).mono ?_; (case hC => exact arr_C ((TS.old (by with_reducible (repeat (first | exact HT.out | apply TS.drew | apply TS.drewN | apply TS.alloc))) (by omega)).trans HA.out.branch) (by decide)); (case hc => decide); rintro e x50_2 ⟨rfl, hb⟩; have HT50_2 := Lib.hid (TS.keep (by with_reducible (repeat (first | exact HT.out | apply TS.drew | apply TS.drewN | apply TS.alloc))) hb); clear hb)
    | (go_at_call 44; refine (try_any W0 _ (w.heap.size + 1 + 1 + 1 + 1 + 1 + 1 + 1 + 1 + 1 + 1 + 1 + 1) _ [] [(hd 1 7), (lo rs1 7), (sc n a_branch)] 3 ?t1 ?t2 rfl (by decide) (Nat.le_of_ble_eq_true rfl)).mono ?_; (case t1 => exact (by with_reducible (repeat (first | exact HT50_2.out | apply TS.drew | apply TS.drewN | apply TS.alloc)))); (case t2 => exact parts_new _ [(hd 1 7), (lo rs1 7), (sc n a_branch)] _); rintro e y50 ⟨rfl, hT⟩; have HU50 := Lib.hid (show TS W0 (w.heap.size + 1 + 1 + 1 + 1 + 1 + 1 + 1 + 1 + 1 + 1 + 1 + 1) [IntKind.u16.wrap (orAll [(hd 1 7), (lo rs1 7), (sc n a_branch)])] y50 from hT); clear hT))
  go_wp2
  have hm1 : y50.drew.heap[w.heap.size]? = some (.cells #[.int .i64 6, .int .i64 rd, .int .i64 rs1, .int .i64 rs2, .int .i64 n, .bool aq, .bool rl, .int .i64 len, .int .u32 raw] 24 (0, 0)) := (TS.old (by with_reducible (repeat (first | exact HU50.out | apply TS.drew | apply TS.drewN | apply TS.alloc))) (by omega)).trans HI.out
  have hm2 : (y50.drew.alloc midO).heap[w.heap.size]? = some (.cells #[.int .i64 6, .int .i64 rd, .int .i64 rs1, .int .i64 rs2, .int .i64 n, .bool aq, .bool rl, .int .i64 len, .int .u32 raw] 24 (0, 0)) := (TS.old (by with_reducible (repeat (first | exact HU50.out | apply TS.drew | apply TS.drewN | apply TS.alloc))) (by omega)).trans HI.out
  have m1 := row_cell hm1 0 (.int .i64 6) rfl
  have m2 := row_cell hm2 0 (.int .i64 6) rfl
  clear hm1 hm2
  have m0 : y50.cell? ⟨w.heap.size, 0, none⟩ = some (.int .i64 6) := m1
  have e3 : w.heap.size < y50.heap.size := by have := TS.size HU50.out; omega
  have e1 : ¬ (w.heap.size = y50.heap.size) := by omega
  have hlk : (Instr.lookup 107 (.map (some y50.heap.size)) (.int .i64 6) true).run Tryd.prog ((y50.alloc midO).drew) = .ok (.tuple #[.int .u32 0, .bool false]) ((y50.alloc midO).drew) := (run_lookup_mid ((y50.alloc midO).drew) y50.heap.size 6 (heap_alloc_new y50 _)).trans rfl
  go_region_with (go_at_call 48; refine (middle_calls _).mono ?_; rintro e x ⟨rfl, rfl⟩; dsimp only [midV])
  all_goals
    clear hlk m0 m1 m2 e1 e3
    obtain ⟨A, c, e1, e2, e3⟩ := TS.post HU50.out HB.out (by omega)
    have l1 := TS.size HU50.out
    have l2 : ¬ (w.heap.size + 1 + 1 + 1 + 1 + 1 + 1 + 1 + 1 + 1 + 1 + 1 + 1 = y50.heap.size) := by omega
    have HE2 := Lib.hid (ownsRow_alloc e2 midO)
    have HE3 := Lib.hid (below_drew (below_alloc e3 midO))
    clear e2 e3
    go_wp2
    go_ret
    exact ⟨_, rfl, HE2.out, HE3.out⟩
end Go.Proofs.YtiibhggjlandmaaDoor.TR
