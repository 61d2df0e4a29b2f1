/- Texts of this claim, put together by a program: TriesC2. -/
import Derived.Test.YtiibhggjlandmaaDoorMBxTries
/- encode.tries: its cases, by operation. No condition. -/
namespace Go.Proofs.YtiibhggjlandmaaDoor.TR
open Go.RowKit Go.Proofs.YtiibhggjlandmaaDoorW.PrintWords Go.Proofs.YtiibhggjlandmaaDoorW.PrintMore Go.Proofs.YtiibhggjlandmaaDoor.PT Go.Proofs.YtiibhggjlandmaaDoor.PL
set_option linter.unusedVariables false
set_option linter.unusedSimpArgs false
set_option maxHeartbeats 16000000 in
set_option maxRecDepth 1000000 in
theorem case_1 (w W0 W : World) (rd rs1 rs2 n : Int) (aq rl : Bool) (len raw : Int) (u22 u23 u24 u25 u26 u27 u28 u29 u30 u31 u32 u33 u34 u35 u36 u37 u38 u39 u40 u41 u42 u43 u44 u45 u46 u47 u48 u49 u50 u51 u52 u53 u54 u55 u56 u57 u58 u59 u60 u61 u62 u63 u64 u65 u66 u67 u68 u69 u70 u71 u72 u73 u74 u75 u76 u77 u78 u79 u80 : Value) (hP : Pre w W0 1 rd rs1 rs2 n aq rl len raw) (hT : TS W0 (w.heap.size + 1 + 1 + 1 + 1 + 1 + 1 + 1 + 1 + 1 + 1 + 1 + 1) [] W) :
    rest15.wp Tryd.prog (bodyPost Tryd.prog Tryd.f32 (TPost w ([IntKind.u16.wrap (orAll [(hd 1 3), (wh rd 7), (sc (shr .i64 n 12) a_six)])]))) (fr15 w 1 rd rs1 rs2 n aq rl len raw u22 u23 u24 u25 u26 u27 u28 u29 u30 u31 u32 u33 u34 u35 u36 u37 u38 u39 u40 u41 u42 u43 u44 u45 u46 u47 u48 u49 u50 u51 u52 u53 u54 u55 u56 u57 u58 u59 u60 u61 u62 u63 u64 u65 u66 u67 u68 u69 u70 u71 u72 u73 u74 u75 u76 u77 u78 u79 u80) W := by
  unfold fr15
  have hI : W.heap[w.heap.size]? = some (.cells #[.int .i64 1, .int .i64 rd, .int .i64 rs1, .int .i64 rs2, .int .i64 n, .bool aq, .bool rl, .int .i64 len, .int .u32 raw] 24 (0, 0)) := (hT.old (by omega)).trans hP.inn
  have p0 := row_cell hI 0 (.int .i64 1) rfl
  have HT := Lib.hid hT
  have HA := Lib.hid hP.arr
  have HI := Lib.hid hP.inn
  have HB := Lib.hid hP.below
  clear hT hP hI
  conv => arg 2; whnf
  go_wp2
  go_region_with (first
    | (go_at_call 45; refine (encode_head.calls 1 3 (hd 1 3) _ (hd_ok 1 3)).mono ?_; rintro e x24_0 ⟨rfl, ⟨k24_0, rfl⟩⟩)
    | (go_at_call 47; refine (encode_whole.calls rd 7 (wh rd 7) _ (wh_ok rd 7 (by decide))).mono ?_; rintro e x24_1 ⟨rfl, ⟨k24_1, rfl⟩⟩)
    | (go_at_call 30; refine (encode_scatter.calls 20 (shr .i64 n 12) _ _ a_six (sc (shr .i64 n 12) a_six) _ ?hC ?hc (sc_six (shr .i64 n 12))).mono ?_; (case hC => exact arr_C ((TS.old (by with_reducible (repeat (first | exact HT.out | apply TS.drew | apply TS.drewN | apply TS.alloc))) (by omega)).trans HA.out.six) (by decide)); (case hc => decide); rintro e x24_2 ⟨rfl, hb⟩; have HT24_2 := Lib.hid (TS.keep (by with_reducible (repeat (first | exact HT.out | apply TS.drew | apply TS.drewN | apply TS.alloc))) hb); clear hb)
    | (go_at_call 44; refine (try_any W0 _ (w.heap.size + 1 + 1 + 1 + 1 + 1 + 1 + 1 + 1 + 1 + 1 + 1 + 1) _ [] [(hd 1 3), (wh rd 7), (sc (shr .i64 n 12) a_six)] 3 ?t1 ?t2 rfl (by decide) (Nat.le_of_ble_eq_true rfl)).mono ?_; (case t1 => exact (by with_reducible (repeat (first | exact HT24_2.out | apply TS.drew | apply TS.drewN | apply TS.alloc)))); (case t2 => exact parts_new _ [(hd 1 3), (wh rd 7), (sc (shr .i64 n 12) a_six)] _); rintro e y24 ⟨rfl, hT⟩; have HU24 := Lib.hid (show TS W0 (w.heap.size + 1 + 1 + 1 + 1 + 1 + 1 + 1 + 1 + 1 + 1 + 1 + 1) [IntKind.u16.wrap (orAll [(hd 1 3), (wh rd 7), (sc (shr .i64 n 12) a_six)])] y24 from hT); clear hT))
  go_wp2
  have hm1 : y24.drew.heap[w.heap.size]? = some (.cells #[.int .i64 1, .int .i64 rd, .int .i64 rs1, .int .i64 rs2, .int .i64 n, .bool aq, .bool rl, .int .i64 len, .int .u32 raw] 24 (0, 0)) := (TS.old (by with_reducible (repeat (first | exact HU24.out | apply TS.drew | apply TS.drewN | apply TS.alloc))) (by omega)).trans HI.out
  have hm2 : (y24.drew.alloc midO).heap[w.heap.size]? = some (.cells #[.int .i64 1, .int .i64 rd, .int .i64 rs1, .int .i64 rs2, .int .i64 n, .bool aq, .bool rl, .int .i64 len, .int .u32 raw] 24 (0, 0)) := (TS.old (by with_reducible (repeat (first | exact HU24.out | apply TS.drew | apply TS.drewN | apply TS.alloc))) (by omega)).trans HI.out
  have m1 := row_cell hm1 0 (.int .i64 1) rfl
  have m2 := row_cell hm2 0 (.int .i64 1) rfl
  clear hm1 hm2
  have m0 : y24.cell? ⟨w.heap.size, 0, none⟩ = some (.int .i64 1) := m1
  have e3 : w.heap.size < y24.heap.size := by have := TS.size HU24.out; omega
  have e1 : ¬ (w.heap.size = y24.heap.size) := by omega
  have hlk : (Instr.lookup 107 (.map (some y24.heap.size)) (.int .i64 1) true).run Tryd.prog ((y24.alloc midO).drew) = .ok (.tuple #[.int .u32 0, .bool false]) ((y24.alloc midO).drew) := (run_lookup_mid ((y24.alloc midO).drew) y24.heap.size 1 (heap_alloc_new y24 _)).trans rfl
  go_region_with (go_at_call 48; refine (middle_calls _).mono ?_; rintro e x ⟨rfl, rfl⟩; dsimp only [midV])
  all_goals
    clear hlk m0 m1 m2 e1 e3
    obtain ⟨A, c, e1, e2, e3⟩ := TS.post HU24.out HB.out (by omega)
    have l1 := TS.size HU24.out
    have l2 : ¬ (w.heap.size + 1 + 1 + 1 + 1 + 1 + 1 + 1 + 1 + 1 + 1 + 1 + 1 = y24.heap.size) := by omega
    have HE2 := Lib.hid (ownsRow_alloc e2 midO)
    have HE3 := Lib.hid (below_drew (below_alloc e3 midO))
    clear e2 e3
    go_wp2
    go_ret
    exact ⟨_, rfl, HE2.out, HE3.out⟩
set_option maxHeartbeats 16000000 in
set_option maxRecDepth 1000000 in
theorem case_21 (w W0 W : World) (rd rs1 rs2 n : Int) (aq rl : Bool) (len raw : Int) (u22 u23 u24 u25 u26 u27 u28 u29 u30 u31 u32 u33 u34 u35 u36 u37 u38 u39 u40 u41 u42 u43 u44 u45 u46 u47 u48 u49 u50 u51 u52 u53 u54 u55 u56 u57 u58 u59 u60 u61 u62 u63 u64 u65 u66 u67 u68 u69 u70 u71 u72 u73 u74 u75 u76 u77 u78 u79 u80 : Value) (hP : Pre w W0 21 rd rs1 rs2 n aq rl len raw) (hT : TS W0 (w.heap.size + 1 + 1 + 1 + 1 + 1 + 1 + 1 + 1 + 1 + 1 + 1 + 1) [] W) :
    rest15.wp Tryd.prog (bodyPost Tryd.prog Tryd.f32 (TPost w ([IntKind.u16.wrap (orAll [(hd 0 7), (lo rs2 2), (lo rs1 7), (sc n a_ld)]), IntKind.u16.wrap (orAll [(hd 2 7), (wh rs2 2), (sc n a_sdsp)])]))) (fr15 w 21 rd rs1 rs2 n aq rl len raw u22 u23 u24 u25 u26 u27 u28 u29 u30 u31 u32 u33 u34 u35 u36 u37 u38 u39 u40 u41 u42 u43 u44 u45 u46 u47 u48 u49 u50 u51 u52 u53 u54 u55 u56 u57 u58 u59 u60 u61 u62 u63 u64 u65 u66 u67 u68 u69 u70 u71 u72 u73 u74 u75 u76 u77 u78 u79 u80) W := by
  unfold fr15
  have hI : W.heap[w.heap.size]? = some (.cells #[.int .i64 21, .int .i64 rd, .int .i64 rs1, .int .i64 rs2, .int .i64 n, .bool aq, .bool rl, .int .i64 len, .int .u32 raw] 24 (0, 0)) := (hT.old (by omega)).trans hP.inn
  have p0 := row_cell hI 0 (.int .i64 21) rfl
  have HT := Lib.hid hT
  have HA := Lib.hid hP.arr
  have HI := Lib.hid hP.inn
  have HB := Lib.hid hP.below
  clear hT hP hI
  conv => arg 2; whnf
  go_wp2
  go_region_with (first
    | (go_at_call 45; refine (encode_head.calls 0 7 (hd 0 7) _ (hd_ok 0 7)).mono ?_; rintro e x35_0 ⟨rfl, ⟨k35_0, rfl⟩⟩)
    | (go_at_call 46; refine (encode_low.calls rs2 2 (lo rs2 2) _ (lo_ok rs2 2 (by decide))).mono ?_; rintro e x35_1 ⟨rfl, ⟨k35_1, rfl⟩⟩)
    | (go_at_call 46; refine (encode_low.calls rs1 7 (lo rs1 7) _ (lo_ok rs1 7 (by decide))).mono ?_; rintro e x35_2 ⟨rfl, ⟨k35_2, rfl⟩⟩)
    | (go_at_call 30; refine (encode_scatter.calls 20 n _ _ a_ld (sc n a_ld) _ ?hC ?hc (sc_ld n)).mono ?_; (case hC => exact arr_C ((TS.old (by with_reducible (repeat (first | exact HT.out | apply TS.drew | apply TS.drewN | apply TS.alloc))) (by omega)).trans HA.out.ld) (by decide)); (case hc => decide); rintro e x35_3 ⟨rfl, hb⟩; have HT35_3 := Lib.hid (TS.keep (by with_reducible (repeat (first | exact HT.out | apply TS.drew | apply TS.drewN | apply TS.alloc))) hb); clear hb)
    | (go_at_call 44; refine (try_any W0 _ (w.heap.size + 1 + 1 + 1 + 1 + 1 + 1 + 1 + 1 + 1 + 1 + 1 + 1) _ [] [(hd 0 7), (lo rs2 2), (lo rs1 7), (sc n a_ld)] 4 ?t1 ?t2 rfl (by decide) (Nat.le_of_ble_eq_true rfl)).mono ?_; (case t1 => exact (by with_reducible (repeat (first | exact HT35_3.out | apply TS.drew | apply TS.drewN | apply TS.alloc)))); (case t2 => exact parts_new _ [(hd 0 7), (lo rs2 2), (lo rs1 7), (sc n a_ld)] _); rintro e y35 ⟨rfl, hT⟩; have HU35 := Lib.hid (show TS W0 (w.heap.size + 1 + 1 + 1 + 1 + 1 + 1 + 1 + 1 + 1 + 1 + 1 + 1) [IntKind.u16.wrap (orAll [(hd 0 7), (lo rs2 2), (lo rs1 7), (sc n a_ld)])] y35 from hT); clear hT))
  go_wp2
  go_region_with (first
    | (go_at_call 45; refine (encode_head.calls 2 7 (hd 2 7) _ (hd_ok 2 7)).mono ?_; rintro e x36_0 ⟨rfl, ⟨k36_0, rfl⟩⟩)
    | (go_at_call 47; refine (encode_whole.calls rs2 2 (wh rs2 2) _ (wh_ok rs2 2 (by decide))).mono ?_; rintro e x36_1 ⟨rfl, ⟨k36_1, rfl⟩⟩)
    | (go_at_call 30; refine (encode_scatter.calls 20 n _ _ a_sdsp (sc n a_sdsp) _ ?hC ?hc (sc_sdsp n)).mono ?_; (case hC => exact arr_C ((TS.old (by with_reducible (repeat (first | exact HU35.out | apply TS.drew | apply TS.drewN | apply TS.alloc))) (by omega)).trans HA.out.sdsp) (by decide)); (case hc => decide); rintro e x36_2 ⟨rfl, hb⟩; have HT36_2 := Lib.hid (TS.keep (by with_reducible (repeat (first | exact HU35.out | apply TS.drew | apply TS.drewN | apply TS.alloc))) hb); clear hb)
    | (go_at_call 44; refine (try_any W0 _ (w.heap.size + 1 + 1 + 1 + 1 + 1 + 1 + 1 + 1 + 1 + 1 + 1 + 1) _ [IntKind.u16.wrap (orAll [(hd 0 7), (lo rs2 2), (lo rs1 7), (sc n a_ld)])] [(hd 2 7), (wh rs2 2), (sc n a_sdsp)] 3 ?t1 ?t2 rfl (by decide) (Nat.le_of_ble_eq_true rfl)).mono ?_; (case t1 => exact (by with_reducible (repeat (first | exact HT36_2.out | apply TS.drew | apply TS.drewN | apply TS.alloc)))); (case t2 => exact parts_new _ [(hd 2 7), (wh rs2 2), (sc n a_sdsp)] _); rintro e y36 ⟨rfl, hT⟩; have HU36 := Lib.hid (show TS W0 (w.heap.size + 1 + 1 + 1 + 1 + 1 + 1 + 1 + 1 + 1 + 1 + 1 + 1) [IntKind.u16.wrap (orAll [(hd 0 7), (lo rs2 2), (lo rs1 7), (sc n a_ld)]), IntKind.u16.wrap (orAll [(hd 2 7), (wh rs2 2), (sc n a_sdsp)])] y36 from hT); clear hT))
  go_wp2
  have hm1 : y36.drew.heap[w.heap.size]? = some (.cells #[.int .i64 21, .int .i64 rd, .int .i64 rs1, .int .i64 rs2, .int .i64 n, .bool aq, .bool rl, .int .i64 len, .int .u32 raw] 24 (0, 0)) := (TS.old (by with_reducible (repeat (first | exact HU36.out | apply TS.drew | apply TS.drewN | apply TS.alloc))) (by omega)).trans HI.out
  have hm2 : (y36.drew.alloc midO).heap[w.heap.size]? = some (.cells #[.int .i64 21, .int .i64 rd, .int .i64 rs1, .int .i64 rs2, .int .i64 n, .bool aq, .bool rl, .int .i64 len, .int .u32 raw] 24 (0, 0)) := (TS.old (by with_reducible (repeat (first | exact HU36.out | apply TS.drew | apply TS.drewN | apply TS.alloc))) (by omega)).trans HI.out
  have m1 := row_cell hm1 0 (.int .i64 21) rfl
  have m2 := row_cell hm2 0 (.int .i64 21) rfl
  clear hm1 hm2
  have m0 : y36.cell? ⟨w.heap.size, 0, none⟩ = some (.int .i64 21) := m1
  have e3 : w.heap.size < y36.heap.size := by have := TS.size HU36.out; omega
  have e1 : ¬ (w.heap.size = y36.heap.size) := by omega
  have hlk : (Instr.lookup 107 (.map (some y36.heap.size)) (.int .i64 21) true).run Tryd.prog ((y36.alloc midO).drew) = .ok (.tuple #[.int .u32 0, .bool false]) ((y36.alloc midO).drew) := (run_lookup_mid ((y36.alloc midO).drew) y36.heap.size 21 (heap_alloc_new y36 _)).trans rfl
  go_region_with (go_at_call 48; refine (middle_calls _).mono ?_; rintro e x ⟨rfl, rfl⟩; dsimp only [midV])
  all_goals
    clear hlk m0 m1 m2 e1 e3
    obtain ⟨A, c, e1, e2, e3⟩ := TS.post HU36.out HB.out (by omega)
    have l1 := TS.size HU36.out
    have l2 : ¬ (w.heap.size + 1 + 1 + 1 + 1 + 1 + 1 + 1 + 1 + 1 + 1 + 1 + 1 = y36.heap.size) := by omega
    have HE2 := Lib.hid (ownsRow_alloc e2 midO)
    have HE3 := Lib.hid (below_drew (below_alloc e3 midO))
    clear e2 e3
    go_wp2
    go_ret
    exact ⟨_, rfl, HE2.out, HE3.out⟩
set_option maxHeartbeats 16000000 in
set_option maxRecDepth 1000000 in
theorem case_28 (w W0 W : World) (rd rs1 rs2 n : Int) (aq rl : Bool) (len raw : Int) (u22 u23 u24 u25 u26 u27 u28 u29 u30 u31 u32 u33 u34 u35 u36 u37 u38 u39 u40 u41 u42 u43 u44 u45 u46 u47 u48 u49 u50 u51 u52 u53 u54 u55 u56 u57 u58 u59 u60 u61 u62 u63 u64 u65 u66 u67 u68 u69 u70 u71 u72 u73 u74 u75 u76 u77 u78 u79 u80 : Value) (hP : Pre w W0 28 rd rs1 rs2 n aq rl len raw) (hT : TS W0 (w.heap.size + 1 + 1 + 1 + 1 + 1 + 1 + 1 + 1 + 1 + 1 + 1 + 1) [] W) :
    rest15.wp Tryd.prog (bodyPost Tryd.prog Tryd.f32 (TPost w ([IntKind.u16.wrap (orAll [(hd 2 0), (wh rd 7), (sc n a_six)])]))) (fr15 w 28 rd rs1 rs2 n aq rl len raw u22 u23 u24 u25 u26 u27 u28 u29 u30 u31 u32 u33 u34 u35 u36 u37 u38 u39 u40 u41 u42 u43 u44 u45 u46 u47 u48 u49 u50 u51 u52 u53 u54 u55 u56 u57 u58 u59 u60 u61 u62 u63 u64 u65 u66 u67 u68 u69 u70 u71 u72 u73 u74 u75 u76 u77 u78 u79 u80) W := by
  unfold fr15
  have hI : W.heap[w.heap.size]? = some (.cells #[.int .i64 28, .int .i64 rd, .int .i64 rs1, .int .i64 rs2, .int .i64 n, .bool aq, .bool rl, .int .i64 len, .int .u32 raw] 24 (0, 0)) := (hT.old (by omega)).trans hP.inn
  have p0 := row_cell hI 0 (.int .i64 28) rfl
  have HT := Lib.hid hT
  have HA := Lib.hid hP.arr
  have HI := Lib.hid hP.inn
  have HB := Lib.hid hP.below
  clear hT hP hI
  conv => arg 2; whnf
  go_wp2
  go_region_with (first
    | (go_at_call 45; refine (encode_head.calls 2 0 (hd 2 0) _ (hd_ok 2 0)).mono ?_; rintro e x44_0 ⟨rfl, ⟨k44_0, rfl⟩⟩)
    | (go_at_call 47; refine (encode_whole.calls rd 7 (wh rd 7) _ (wh_ok rd 7 (by decide))).mono ?_; rintro e x44_1 ⟨rfl, ⟨k44_1, rfl⟩⟩)
    | (go_at_call 30; refine (encode_scatter.calls 20 n _ _ a_six (sc n a_six) _ ?hC ?hc (sc_six n)).mono ?_; (case hC => exact arr_C ((TS.old (by with_reducible (repeat (first | exact HT.out | apply TS.drew | apply TS.drewN | apply TS.alloc))) (by omega)).trans HA.out.six) (by decide)); (case hc => decide); rintro e x44_2 ⟨rfl, hb⟩; have HT44_2 := Lib.hid (TS.keep (by with_reducible (repeat (first | exact HT.out | apply TS.drew | apply TS.drewN | apply TS.alloc))) hb); clear hb)
    | (go_at_call 44; refine (try_any W0 _ (w.heap.size + 1 + 1 + 1 + 1 + 1 + 1 + 1 + 1 + 1 + 1 + 1 + 1) _ [] [(hd 2 0), (wh rd 7), (sc n a_six)] 3 ?t1 ?t2 rfl (by decide) (Nat.le_of_ble_eq_true rfl)).mono ?_; (case t1 => exact (by with_reducible (repeat (first | exact HT44_2.out | apply TS.drew | apply TS.drewN | apply TS.alloc)))); (case t2 => exact parts_new _ [(hd 2 0), (wh rd 7), (sc n a_six)] _); rintro e y44 ⟨rfl, hT⟩; have HU44 := Lib.hid (show TS W0 (w.heap.size + 1 + 1 + 1 + 1 + 1 + 1 + 1 + 1 + 1 + 1 + 1 + 1) [IntKind.u16.wrap (orAll [(hd 2 0), (wh rd 7), (sc n a_six)])] y44 from hT); clear hT))
  go_wp2
  have hm1 : y44.drew.heap[w.heap.size]? = some (.cells #[.int .i64 28, .int .i64 rd, .int .i64 rs1, .int .i64 rs2, .int .i64 n, .bool aq, .bool rl, .int .i64 len, .int .u32 raw] 24 (0, 0)) := (TS.old (by with_reducible (repeat (first | exact HU44.out | apply TS.drew | apply TS.drewN | apply TS.alloc))) (by omega)).trans HI.out
  have hm2 : (y44.drew.alloc midO).heap[w.heap.size]? = some (.cells #[.int .i64 28, .int .i64 rd, .int .i64 rs1, .int .i64 rs2, .int .i64 n, .bool aq, .bool rl, .int .i64 len, .int .u32 raw] 24 (0, 0)) := (TS.old (by with_reducible (repeat (first | exact HU44.out | apply TS.drew | apply TS.drewN | apply TS.alloc))) (by omega)).trans HI.out
  have m1 := row_cell hm1 0 (.int .i64 28) rfl
  have m2 := row_cell hm2 0 (.int .i64 28) rfl
  clear hm1 hm2
  have m0 : y44.cell? ⟨w.heap.size, 0, none⟩ = some (.int .i64 28) := m1
  have e3 : w.heap.size < y44.heap.size := by have := TS.size HU44.out; omega
  have e1 : ¬ (w.heap.size = y44.heap.size) := by omega
  have hlk : (Instr.lookup 107 (.map (some y44.heap.size)) (.int .i64 28) true).run Tryd.prog ((y44.alloc midO).drew) = .ok (.tuple #[.int .u32 0, .bool false]) ((y44.alloc midO).drew) := (run_lookup_mid ((y44.alloc midO).drew) y44.heap.size 28 (heap_alloc_new y44 _)).trans rfl
  go_region_with (go_at_call 48; refine (middle_calls _).mono ?_; rintro e x ⟨rfl, rfl⟩; dsimp only [midV])
  all_goals
    clear hlk m0 m1 m2 e1 e3
    obtain ⟨A, c, e1, e2, e3⟩ := TS.post HU44.out HB.out (by omega)
    have l1 := TS.size HU44.out
    have l2 : ¬ (w.heap.size + 1 + 1 + 1 + 1 + 1 + 1 + 1 + 1 + 1 + 1 + 1 + 1 = y44.heap.size) := by omega
    have HE2 := Lib.hid (ownsRow_alloc e2 midO)
    have HE3 := Lib.hid (below_drew (below_alloc e3 midO))
    clear e2 e3
    go_wp2
    go_ret
    exact ⟨_, rfl, HE2.out, HE3.out⟩
set_option maxHeartbeats 16000000 in
set_option maxRecDepth 1000000 in
theorem case_4 (w W0 W : World) (rd rs1 rs2 n : Int) (aq rl : Bool) (len raw : Int) (u22 u23 u24 u25 u26 u27 u28 u29 u30 u31 u32 u33 u34 u35 u36 u37 u38 u39 u40 u41 u42 u43 u44 u45 u46 u47 u48 u49 u50 u51 u52 u53 u54 u55 u56 u57 u58 u59 u60 u61 u62 u63 u64 u65 u66 u67 u68 u69 u70 u71 u72 u73 u74 u75 u76 u77 u78 u79 u80 : Value) (hP : Pre w W0 4 rd rs1 rs2 n aq rl len raw) (hT : TS W0 (w.heap.size + 1 + 1 + 1 + 1 + 1 + 1 + 1 + 1 + 1 + 1 + 1 + 1) [] W) :
    rest15.wp Tryd.prog (bodyPost Tryd.prog Tryd.f32 (TPost w ([IntKind.u16.wrap (orAll [(hd 2 4), (wh rs1 7)]), IntKind.u16.wrap (orAll [(hd 2 4), 4096, (wh rs1 7)])]))) (fr15 w 4 rd rs1 rs2 n aq rl len raw u22 u23 u24 u25 u26 u27 u28 u29 u30 u31 u32 u33 u34 u35 u36 u37 u38 u39 u40 u41 u42 u43 u44 u45 u46 u47 u48 u49 u50 u51 u52 u53 u54 u55 u56 u57 u58 u59 u60 u61 u62 u63 u64 u65 u66 u67 u68 u69 u70 u71 u72 u73 u74 u75 u76 u77 u78 u79 u80) W := by
  unfold fr15
  have hI : W.heap[w.heap.size]? = some (.cells #[.int .i64 4, .int .i64 rd, .int .i64 rs1, .int .i64 rs2, .int .i64 n, .bool aq, .bool rl, .int .i64 len, .int .u32 raw] 24 (0, 0)) := (hT.old (by omega)).trans hP.inn
  have p0 := row_cell hI 0 (.int .i64 4) rfl
  have HT := Lib.hid hT
  have HA := Lib.hid hP.arr
  have HI := Lib.hid hP.inn
  have HB := Lib.hid hP.below
  clear hT hP hI
  conv => arg 2; whnf
  go_upto_region 53 with (first
    | (go_at_call 45; refine (encode_head.calls 2 4 (hd 2 4) _ (hd_ok 2 4)).mono ?_; rintro e x52_0 ⟨rfl, ⟨k52_0, rfl⟩⟩)
    | (go_at_call 47; refine (encode_whole.calls rs1 7 (wh rs1 7) _ (wh_ok rs1 7 (by decide))).mono ?_; rintro e x52_1 ⟨rfl, ⟨k52_1, rfl⟩⟩)
    | (go_at_call 44; refine (try_any W0 _ (w.heap.size + 1 + 1 + 1 + 1 + 1 + 1 + 1 + 1 + 1 + 1 + 1 + 1) _ [] [(hd 2 4), (wh rs1 7)] 2 ?t1 ?t2 rfl (by decide) (Nat.le_of_ble_eq_true rfl)).mono ?_; (case t1 => exact (by with_reducible (repeat (first | exact HT.out | apply TS.drew | apply TS.drewN | apply TS.alloc)))); (case t2 => exact parts_new _ [(hd 2 4), (wh rs1 7)] _); rintro e y52 ⟨rfl, hT⟩; have HU52 := Lib.hid (show TS W0 (w.heap.size + 1 + 1 + 1 + 1 + 1 + 1 + 1 + 1 + 1 + 1 + 1 + 1) [IntKind.u16.wrap (orAll [(hd 2 4), (wh rs1 7)])] y52 from hT); clear hT))
  go_wp2_with (first
    | (go_at_call 45; refine (encode_head.calls 2 4 (hd 2 4) _ (hd_ok 2 4)).mono ?_; rintro e x53_0 ⟨rfl, ⟨k53_0, rfl⟩⟩)
    | (go_at_call 47; refine (encode_whole.calls rs1 7 (wh rs1 7) _ (wh_ok rs1 7 (by decide))).mono ?_; rintro e x53_1 ⟨rfl, ⟨k53_1, rfl⟩⟩)
    | (go_at_call 44; refine (try_any W0 _ (w.heap.size + 1 + 1 + 1 + 1 + 1 + 1 + 1 + 1 + 1 + 1 + 1 + 1) _ [IntKind.u16.wrap (orAll [(hd 2 4), (wh rs1 7)])] [(hd 2 4), 4096, (wh rs1 7)] 3 ?t1 ?t2 rfl (by decide) (Nat.le_of_ble_eq_true rfl)).mono ?_; (case t1 => exact (by with_reducible (repeat (first | exact HU52.out | apply TS.drew | apply TS.drewN | apply TS.alloc)))); (case t2 => exact parts_new _ [(hd 2 4), 4096, (wh rs1 7)] _); rintro e y53 ⟨rfl, hT⟩; have HU53 := Lib.hid (show TS W0 (w.heap.size + 1 + 1 + 1 + 1 + 1 + 1 + 1 + 1 + 1 + 1 + 1 + 1) [IntKind.u16.wrap (orAll [(hd 2 4), (wh rs1 7)]), IntKind.u16.wrap (orAll [(hd 2 4), 4096, (wh rs1 7)])] y53 from hT); clear hT))
  go_wp2
  have hm1 : y53.drew.heap[w.heap.size]? = some (.cells #[.int .i64 4, .int .i64 rd, .int .i64 rs1, .int .i64 rs2, .int .i64 n, .bool aq, .bool rl, .int .i64 len, .int .u32 raw] 24 (0, 0)) := (TS.old (by with_reducible (repeat (first | exact HU53.out | apply TS.drew | apply TS.drewN | apply TS.alloc))) (by omega)).trans HI.out
  have hm2 : (y53.drew.alloc midO).heap[w.heap.size]? = some (.cells #[.int .i64 4, .int .i64 rd, .int .i64 rs1, .int .i64 rs2, .int .i64 n, .bool aq, .bool rl, .int .i64 len, .int .u32 raw] 24 (0, 0)) := (TS.old (by with_reducible (repeat (first | exact HU53.out | apply TS.drew | apply TS.drewN | apply TS.alloc))) (by omega)).trans HI.out
  have m1 := row_cell hm1 0 (.int .i64 4) rfl
  have m2 := row_cell hm2 0 (.int .i64 4) rfl
  clear hm1 hm2
  have m0 : y53.cell? ⟨w.heap.size, 0, none⟩ = some (.int .i64 4) := m1
  have e3 : w.heap.size < y53.heap.size := by have := TS.size HU53.out; omega
  have e1 : ¬ (w.heap.size = y53.heap.size) := by omega
  have hlk : (Instr.lookup 107 (.map (some y53.heap.size)) (.int .i64 4) true).run Tryd.prog ((y53.alloc midO).drew) = .ok (.tuple #[.int .u32 0, .bool false]) ((y53.alloc midO).drew) := (run_lookup_mid ((y53.alloc midO).drew) y53.heap.size 4 (heap_alloc_new y53 _)).trans rfl
  go_region_with (go_at_call 48; refine (middle_calls _).mono ?_; rintro e x ⟨rfl, rfl⟩; dsimp only [midV])
  all_goals
    clear hlk m0 m1 m2 e1 e3
    obtain ⟨A, c, e1, e2, e3⟩ := TS.post HU53.out HB.out (by omega)
    have l1 := TS.size HU53.out
    have l2 : ¬ (w.heap.size + 1 + 1 + 1 + 1 + 1 + 1 + 1 + 1 + 1 + 1 + 1 + 1 = y53.heap.size) := by omega
    have HE2 := Lib.hid (ownsRow_alloc e2 midO)
    have HE3 := Lib.hid (below_drew (below_alloc e3 midO))
    clear e2 e3
    go_wp2
    go_ret
    exact ⟨_, rfl, HE2.out, HE3.out⟩
end Go.Proofs.YtiibhggjlandmaaDoor.TR
