/- Texts of this claim, put together by a program: TriesC3. -/
import Derived.Test.YtiibhggjlandmaaDoorMBxTries
/- encode.tries: its cases, by operation. No condition. -/
namespace Go.Proofs.YtiibhggjlandmaaDoor.TR
open Go.RowKit Go.Proofs.YtiibhggjlandmaaDoorW.PrintWords Go.Proofs.YtiibhggjlandmaaDoorW.PrintMore Go.Proofs.YtiibhggjlandmaaDoor.PT Go.Proofs.YtiibhggjlandmaaDoor.PL
set_option linter.unusedVariables false
set_option linter.unusedSimpArgs false
set_option maxHeartbeats 16000000 in
set_option maxRecDepth 1000000 in
theorem case_13 (w W0 W : World) (rd rs1 rs2 n : Int) (aq rl : Bool) (len raw : Int) (u22 u23 u24 u25 u26 u27 u28 u29 u30 u31 u32 u33 u34 u35 u36 u37 u38 u39 u40 u41 u42 u43 u44 u45 u46 u47 u48 u49 u50 u51 u52 u53 u54 u55 u56 u57 u58 u59 u60 u61 u62 u63 u64 u65 u66 u67 u68 u69 u70 u71 u72 u73 u74 u75 u76 u77 u78 u79 u80 : Value) (hP : Pre w W0 13 rd rs1 rs2 n aq rl len raw) (hT : TS W0 (w.heap.size + 1 + 1 + 1 + 1 + 1 + 1 + 1 + 1 + 1 + 1 + 1 + 1) [] W) :
    rest15.wp Tryd.prog (bodyPost Tryd.prog Tryd.f32 (TPost w ([IntKind.u16.wrap (orAll [(hd 0 2), (lo rd 2), (lo rs1 7), (sc n a_lw)]), IntKind.u16.wrap (orAll [(hd 2 2), (wh rd 7), (sc n a_lwsp)])]))) (fr15 w 13 rd rs1 rs2 n aq rl len raw u22 u23 u24 u25 u26 u27 u28 u29 u30 u31 u32 u33 u34 u35 u36 u37 u38 u39 u40 u41 u42 u43 u44 u45 u46 u47 u48 u49 u50 u51 u52 u53 u54 u55 u56 u57 u58 u59 u60 u61 u62 u63 u64 u65 u66 u67 u68 u69 u70 u71 u72 u73 u74 u75 u76 u77 u78 u79 u80) W := by
  unfold fr15
  have hI : W.heap[w.heap.size]? = some (.cells #[.int .i64 13, .int .i64 rd, .int .i64 rs1, .int .i64 rs2, .int .i64 n, .bool aq, .bool rl, .int .i64 len, .int .u32 raw] 24 (0, 0)) := (hT.old (by omega)).trans hP.inn
  have p0 := row_cell hI 0 (.int .i64 13) rfl
  have HT := Lib.hid hT
  have HA := Lib.hid hP.arr
  have HI := Lib.hid hP.inn
  have HB := Lib.hid hP.below
  clear hT hP hI
  conv => arg 2; whnf
  go_wp2
  go_region_with (first
    | (go_at_call 45; refine (encode_head.calls 0 2 (hd 0 2) _ (hd_ok 0 2)).mono ?_; rintro e x26_0 ⟨rfl, ⟨k26_0, rfl⟩⟩)
    | (go_at_call 46; refine (encode_low.calls rd 2 (lo rd 2) _ (lo_ok rd 2 (by decide))).mono ?_; rintro e x26_1 ⟨rfl, ⟨k26_1, rfl⟩⟩)
    | (go_at_call 46; refine (encode_low.calls rs1 7 (lo rs1 7) _ (lo_ok rs1 7 (by decide))).mono ?_; rintro e x26_2 ⟨rfl, ⟨k26_2, rfl⟩⟩)
    | (go_at_call 30; refine (encode_scatter.calls 20 n _ _ a_lw (sc n a_lw) _ ?hC ?hc (sc_lw n)).mono ?_; (case hC => exact arr_C ((TS.old (by with_reducible (repeat (first | exact HT.out | apply TS.drew | apply TS.drewN | apply TS.alloc))) (by omega)).trans HA.out.lw) (by decide)); (case hc => decide); rintro e x26_3 ⟨rfl, hb⟩; have HT26_3 := Lib.hid (TS.keep (by with_reducible (repeat (first | exact HT.out | apply TS.drew | apply TS.drewN | apply TS.alloc))) hb); clear hb)
    | (go_at_call 44; refine (try_any W0 _ (w.heap.size + 1 + 1 + 1 + 1 + 1 + 1 + 1 + 1 + 1 + 1 + 1 + 1) _ [] [(hd 0 2), (lo rd 2), (lo rs1 7), (sc n a_lw)] 4 ?t1 ?t2 rfl (by decide) (Nat.le_of_ble_eq_true rfl)).mono ?_; (case t1 => exact (by with_reducible (repeat (first | exact HT26_3.out | apply TS.drew | apply TS.drewN | apply TS.alloc)))); (case t2 => exact parts_new _ [(hd 0 2), (lo rd 2), (lo rs1 7), (sc n a_lw)] _); rintro e y26 ⟨rfl, hT⟩; have HU26 := Lib.hid (show TS W0 (w.heap.size + 1 + 1 + 1 + 1 + 1 + 1 + 1 + 1 + 1 + 1 + 1 + 1) [IntKind.u16.wrap (orAll [(hd 0 2), (lo rd 2), (lo rs1 7), (sc n a_lw)])] y26 from hT); clear hT))
  go_wp2
  go_region_with (first
    | (go_at_call 45; refine (encode_head.calls 2 2 (hd 2 2) _ (hd_ok 2 2)).mono ?_; rintro e x27_0 ⟨rfl, ⟨k27_0, rfl⟩⟩)
    | (go_at_call 47; refine (encode_whole.calls rd 7 (wh rd 7) _ (wh_ok rd 7 (by decide))).mono ?_; rintro e x27_1 ⟨rfl, ⟨k27_1, rfl⟩⟩)
    | (go_at_call 30; refine (encode_scatter.calls 20 n _ _ a_lwsp (sc n a_lwsp) _ ?hC ?hc (sc_lwsp n)).mono ?_; (case hC => exact arr_C ((TS.old (by with_reducible (repeat (first | exact HU26.out | apply TS.drew | apply TS.drewN | apply TS.alloc))) (by omega)).trans HA.out.lwsp) (by decide)); (case hc => decide); rintro e x27_2 ⟨rfl, hb⟩; have HT27_2 := Lib.hid (TS.keep (by with_reducible (repeat (first | exact HU26.out | apply TS.drew | apply TS.drewN | apply TS.alloc))) hb); clear hb)
    | (go_at_call 44; refine (try_any W0 _ (w.heap.size + 1 + 1 + 1 + 1 + 1 + 1 + 1 + 1 + 1 + 1 + 1 + 1) _ [IntKind.u16.wrap (orAll [(hd 0 2), (lo rd 2), (lo rs1 7), (sc n a_lw)])] [(hd 2 2), (wh rd 7), (sc n a_lwsp)] 3 ?t1 ?t2 rfl (by decide) (Nat.le_of_ble_eq_true rfl)).mono ?_; (case t1 => exact (by with_reducible (repeat (first | exact HT27_2.out | apply TS.drew | apply TS.drewN | apply TS.alloc)))); (case t2 => exact parts_new _ [(hd 2 2), (wh rd 7), (sc n a_lwsp)] _); rintro e y27 ⟨rfl, hT⟩; have HU27 := Lib.hid (show TS W0 (w.heap.size + 1 + 1 + 1 + 1 + 1 + 1 + 1 + 1 + 1 + 1 + 1 + 1) [IntKind.u16.wrap (orAll [(hd 0 2), (lo rd 2), (lo rs1 7), (sc n a_lw)]), IntKind.u16.wrap (orAll [(hd 2 2), (wh rd 7), (sc n a_lwsp)])] y27 from hT); clear hT))
  go_wp2
  have hm1 : y27.drew.heap[w.heap.size]? = some (.cells #[.int .i64 13, .int .i64 rd, .int .i64 rs1, .int .i64 rs2, .int .i64 n, .bool aq, .bool rl, .int .i64 len, .int .u32 raw] 24 (0, 0)) := (TS.old (by with_reducible (repeat (first | exact HU27.out | apply TS.drew | apply TS.drewN | apply TS.alloc))) (by omega)).trans HI.out
  have hm2 : (y27.drew.alloc midO).heap[w.heap.size]? = some (.cells #[.int .i64 13, .int .i64 rd, .int .i64 rs1, .int .i64 rs2, .int .i64 n, .bool aq, .bool rl, .int .i64 len, .int .u32 raw] 24 (0, 0)) := (TS.old (by with_reducible (repeat (first | exact HU27.out | apply TS.drew | apply TS.drewN | apply TS.alloc))) (by omega)).trans HI.out
  have m1 := row_cell hm1 0 (.int .i64 13) rfl
  have m2 := row_cell hm2 0 (.int .i64 13) rfl
  clear hm1 hm2
  have m0 : y27.cell? ⟨w.heap.size, 0, none⟩ = some (.int .i64 13) := m1
  have e3 : w.heap.size < y27.heap.size := by have := TS.size HU27.out; omega
  have e1 : ¬ (w.heap.size = y27.heap.size) := by omega
  have hlk : (Instr.lookup 107 (.map (some y27.heap.size)) (.int .i64 13) true).run Tryd.prog ((y27.alloc midO).drew) = .ok (.tuple #[.int .u32 0, .bool false]) ((y27.alloc midO).drew) := (run_lookup_mid ((y27.alloc midO).drew) y27.heap.size 13 (heap_alloc_new y27 _)).trans rfl
  go_region_with (go_at_call 48; refine (middle_calls _).mono ?_; rintro e x ⟨rfl, rfl⟩; dsimp only [midV])
  all_goals
    clear hlk m0 m1 m2 e1 e3
    obtain ⟨A, c, e1, e2, e3⟩ := TS.post HU27.out HB.out (by omega)
    have l1 := TS.size HU27.out
    have l2 : ¬ (w.heap.size + 1 + 1 + 1 + 1 + 1 + 1 + 1 + 1 + 1 + 1 + 1 + 1 = y27.heap.size) := by omega
    have HE2 := Lib.hid (ownsRow_alloc e2 midO)
    have HE3 := Lib.hid (below_drew (below_alloc e3 midO))
    clear e2 e3
    go_wp2
    go_ret
    exact ⟨_, rfl, HE2.out, HE3.out⟩
set_option maxHeartbeats 16000000 in
set_option maxRecDepth 1000000 in
theorem case_29 (w W0 W : World) (rd rs1 rs2 n : Int) (aq rl : Bool) (len raw : Int) (u22 u23 u24 u25 u26 u27 u28 u29 u30 u31 u32 u33 u34 u35 u36 u37 u38 u39 u40 u41 u42 u43 u44 u45 u46 u47 u48 u49 u50 u51 u52 u53 u54 u55 u56 u57 u58 u59 u60 u61 u62 u63 u64 u65 u66 u67 u68 u69 u70 u71 u72 u73 u74 u75 u76 u77 u78 u79 u80 : Value) (hP : Pre w W0 29 rd rs1 rs2 n aq rl len raw) (hT : TS W0 (w.heap.size + 1 + 1 + 1 + 1 + 1 + 1 + 1 + 1 + 1 + 1 + 1 + 1) [] W) :
    rest15.wp Tryd.prog (bodyPost Tryd.prog Tryd.f32 (TPost w ([IntKind.u16.wrap (orAll [(hd 1 4), (lo rd 7), (sc n a_six)])]))) (fr15 w 29 rd rs1 rs2 n aq rl len raw u22 u23 u24 u25 u26 u27 u28 u29 u30 u31 u32 u33 u34 u35 u36 u37 u38 u39 u40 u41 u42 u43 u44 u45 u46 u47 u48 u49 u50 u51 u52 u53 u54 u55 u56 u57 u58 u59 u60 u61 u62 u63 u64 u65 u66 u67 u68 u69 u70 u71 u72 u73 u74 u75 u76 u77 u78 u79 u80) W := by
  unfold fr15
  have hI : W.heap[w.heap.size]? = some (.cells #[.int .i64 29, .int .i64 rd, .int .i64 rs1, .int .i64 rs2, .int .i64 n, .bool aq, .bool rl, .int .i64 len, .int .u32 raw] 24 (0, 0)) := (hT.old (by omega)).trans hP.inn
  have p0 := row_cell hI 0 (.int .i64 29) rfl
  have HT := Lib.hid hT
  have HA := Lib.hid hP.arr
  have HI := Lib.hid hP.inn
  have HB := Lib.hid hP.below
  clear hT hP hI
  conv => arg 2; whnf
  go_wp2
  go_region_with (first
    | (go_at_call 45; refine (encode_head.calls 1 4 (hd 1 4) _ (hd_ok 1 4)).mono ?_; rintro e x38_0 ⟨rfl, ⟨k38_0, rfl⟩⟩)
    | (go_at_call 46; refine (encode_low.calls rd 7 (lo rd 7) _ (lo_ok rd 7 (by decide))).mono ?_; rintro e x38_1 ⟨rfl, ⟨k38_1, rfl⟩⟩)
    | (go_at_call 30; refine (encode_scatter.calls 20 n _ _ a_six (sc n a_six) _ ?hC ?hc (sc_six n)).mono ?_; (case hC => exact arr_C ((TS.old (by with_reducible (repeat (first | exact HT.out | apply TS.drew | apply TS.drewN | apply TS.alloc))) (by omega)).trans HA.out.six) (by decide)); (case hc => decide); rintro e x38_2 ⟨rfl, hb⟩; have HT38_2 := Lib.hid (TS.keep (by with_reducible (repeat (first | exact HT.out | apply TS.drew | apply TS.drewN | apply TS.alloc))) hb); clear hb)
    | (go_at_call 44; refine (try_any W0 _ (w.heap.size + 1 + 1 + 1 + 1 + 1 + 1 + 1 + 1 + 1 + 1 + 1 + 1) _ [] [(hd 1 4), (lo rd 7), (sc n a_six)] 3 ?t1 ?t2 rfl (by decide) (Nat.le_of_ble_eq_true rfl)).mono ?_; (case t1 => exact (by with_reducible (repeat (first | exact HT38_2.out | apply TS.drew | apply TS.drewN | apply TS.alloc)))); (case t2 => exact parts_new _ [(hd 1 4), (lo rd 7), (sc n a_six)] _); rintro e y38 ⟨rfl, hT⟩; have HU38 := Lib.hid (show TS W0 (w.heap.size + 1 + 1 + 1 + 1 + 1 + 1 + 1 + 1 + 1 + 1 + 1 + 1) [IntKind.u16.wrap (orAll [(hd 1 4), (lo rd 7), (sc n a_six)])] y38 from hT); clear hT))
  go_wp2
  have hm1 : y38.drew.heap[w.heap.size]? = some (.cells #[.int .i64 29, .int .i64 rd, .int .i64 rs1, .int .i64 rs2, .int .i64 n, .bool aq, .bool rl, .int .i64 len, .int .u32 raw] 24 (0, 0)) := (TS.old (by with_reducible (repeat (first | exact HU38.out | apply TS.drew | apply TS.drewN | apply TS.alloc))) (by omega)).trans HI.out
  have hm2 : (y38.drew.alloc midO).heap[w.heap.size]? = some (.cells #[.int .i64 29, .int .i64 rd, .int .i64 rs1, .int .i64 rs2, .int .i64 n, .bool aq, .bool rl, .int .i64 len, .int .u32 raw] 24 (0, 0)) := (TS.old (by with_reducible (repeat (first | exact HU38.out | apply TS.drew | apply TS.drewN | apply TS.alloc))) (by omega)).trans HI.out
  have m1 := row_cell hm1 0 (.int .i64 29) rfl
  have m2 := row_cell hm2 0 (.int .i64 29) rfl
  clear hm1 hm2
  have m0 : y38.cell? ⟨w.heap.size, 0, none⟩ = some (.int .i64 29) := m1
  have e3 : w.heap.size < y38.heap.size := by have := TS.size HU38.out; omega
  have e1 : ¬ (w.heap.size = y38.heap.size) := by omega
  have hlk : (Instr.lookup 107 (.map (some y38.heap.size)) (.int .i64 29) true).run Tryd.prog ((y38.alloc midO).drew) = .ok (.tuple #[.int .u32 0, .bool false]) ((y38.alloc midO).drew) := (run_lookup_mid ((y38.alloc midO).drew) y38.heap.size 29 (heap_alloc_new y38 _)).trans rfl
  go_region_with (go_at_call 48; refine (middle_calls _).mono ?_; rintro e x ⟨rfl, rfl⟩; dsimp only [midV])
  all_goals
    clear hlk m0 m1 m2 e1 e3
    obtain ⟨A, c, e1, e2, e3⟩ := TS.post HU38.out HB.out (by omega)
    have l1 := TS.size HU38.out
    have l2 : ¬ (w.heap.size + 1 + 1 + 1 + 1 + 1 + 1 + 1 + 1 + 1 + 1 + 1 + 1 = y38.heap.size) := by omega
    have HE2 := Lib.hid (ownsRow_alloc e2 midO)
    have HE3 := Lib.hid (below_drew (below_alloc e3 midO))
    clear e2 e3
    go_wp2
    go_ret
    exact ⟨_, rfl, HE2.out, HE3.out⟩
set_option maxHeartbeats 16000000 in
set_option maxRecDepth 1000000 in
theorem case_3 (w W0 W : World) (rd rs1 rs2 n : Int) (aq rl : Bool) (len raw : Int) (u22 u23 u24 u25 u26 u27 u28 u29 u30 u31 u32 u33 u34 u35 u36 u37 u38 u39 u40 u41 u42 u43 u44 u45 u46 u47 u48 u49 u50 u51 u52 u53 u54 u55 u56 u57 u58 u59 u60 u61 u62 u63 u64 u65 u66 u67 u68 u69 u70 u71 u72 u73 u74 u75 u76 u77 u78 u79 u80 : Value) (hP : Pre w W0 3 rd rs1 rs2 n aq rl len raw) (hT : TS W0 (w.heap.size + 1 + 1 + 1 + 1 + 1 + 1 + 1 + 1 + 1 + 1 + 1 + 1) [] W) :
    rest15.wp Tryd.prog (bodyPost Tryd.prog Tryd.f32 (TPost w ([IntKind.u16.wrap (orAll [(hd 1 5), (sc n a_jump)])]))) (fr15 w 3 rd rs1 rs2 n aq rl len raw u22 u23 u24 u25 u26 u27 u28 u29 u30 u31 u32 u33 u34 u35 u36 u37 u38 u39 u40 u41 u42 u43 u44 u45 u46 u47 u48 u49 u50 u51 u52 u53 u54 u55 u56 u57 u58 u59 u60 u61 u62 u63 u64 u65 u66 u67 u68 u69 u70 u71 u72 u73 u74 u75 u76 u77 u78 u79 u80) W := by
  unfold fr15
  have hI : W.heap[w.heap.size]? = some (.cells #[.int .i64 3, .int .i64 rd, .int .i64 rs1, .int .i64 rs2, .int .i64 n, .bool aq, .bool rl, .int .i64 len, .int .u32 raw] 24 (0, 0)) := (hT.old (by omega)).trans hP.inn
  have p0 := row_cell hI 0 (.int .i64 3) rfl
  have HT := Lib.hid hT
  have HA := Lib.hid hP.arr
  have HI := Lib.hid hP.inn
  have HB := Lib.hid hP.below
  clear hT hP hI
  conv => arg 2; whnf
  go_wp2
  go_region_with (first
    | (go_at_call 45; refine (encode_head.calls 1 5 (hd 1 5) _ (hd_ok 1 5)).mono ?_; rintro e x46_0 ⟨rfl, ⟨k46_0, rfl⟩⟩)
    | (go_at_call 30; refine (encode_scatter.calls 20 n _ _ a_jump (sc n a_jump) _ ?hC ?hc (sc_jump n)).mono ?_; (case hC => exact arr_C ((TS.old (by with_reducible (repeat (first | exact HT.out | apply TS.drew | apply TS.drewN | apply TS.alloc))) (by omega)).trans HA.out.jump) (by decide)); (case hc => decide); rintro e x46_1 ⟨rfl, hb⟩; have HT46_1 := Lib.hid (TS.keep (by with_reducible (repeat (first | exact HT.out | apply TS.drew | apply TS.drewN | apply TS.alloc))) hb); clear hb)
    | (go_at_call 44; refine (try_any W0 _ (w.heap.size + 1 + 1 + 1 + 1 + 1 + 1 + 1 + 1 + 1 + 1 + 1 + 1) _ [] [(hd 1 5), (sc n a_jump)] 2 ?t1 ?t2 rfl (by decide) (Nat.le_of_ble_eq_true rfl)).mono ?_; (case t1 => exact (by with_reducible (repeat (first | exact HT46_1.out | apply TS.drew | apply TS.drewN | apply TS.alloc)))); (case t2 => exact parts_new _ [(hd 1 5), (sc n a_jump)] _); rintro e y46 ⟨rfl, hT⟩; have HU46 := Lib.hid (show TS W0 (w.heap.size + 1 + 1 + 1 + 1 + 1 + 1 + 1 + 1 + 1 + 1 + 1 + 1) [IntKind.u16.wrap (orAll [(hd 1 5), (sc n a_jump)])] y46 from hT); clear hT))
  go_wp2
  have hm1 : y46.drew.heap[w.heap.size]? = some (.cells #[.int .i64 3, .int .i64 rd, .int .i64 rs1, .int .i64 rs2, .int .i64 n, .bool aq, .bool rl, .int .i64 len, .int .u32 raw] 24 (0, 0)) := (TS.old (by with_reducible (repeat (first | exact HU46.out | apply TS.drew | apply TS.drewN | apply TS.alloc))) (by omega)).trans HI.out
  have hm2 : (y46.drew.alloc midO).heap[w.heap.size]? = some (.cells #[.int .i64 3, .int .i64 rd, .int .i64 rs1, .int .i64 rs2, .int .i64 n, .bool aq, .bool rl, .int .i64 len, .int .u32 raw] 24 (0, 0)) := (TS.old (by with_reducible (repeat (first | exact HU46.out | apply TS.drew | apply TS.drewN | apply TS.alloc))) (by omega)).trans HI.out
  have m1 := row_cell hm1 0 (.int .i64 3) rfl
  have m2 := row_cell hm2 0 (.int .i64 3) rfl
  clear hm1 hm2
  have m0 : y46.cell? ⟨w.heap.size, 0, none⟩ = some (.int .i64 3) := m1
  have e3 : w.heap.size < y46.heap.size := by have := TS.size HU46.out; omega
  have e1 : ¬ (w.heap.size = y46.heap.size) := by omega
  have hlk : (Instr.lookup 107 (.map (some y46.heap.size)) (.int .i64 3) true).run Tryd.prog ((y46.alloc midO).drew) = .ok (.tuple #[.int .u32 0, .bool false]) ((y46.alloc midO).drew) := (run_lookup_mid ((y46.alloc midO).drew) y46.heap.size 3 (heap_alloc_new y46 _)).trans rfl
  go_region_with (go_at_call 48; refine (middle_calls _).mono ?_; rintro e x ⟨rfl, rfl⟩; dsimp only [midV])
  all_goals
    clear hlk m0 m1 m2 e1 e3
    obtain ⟨A, c, e1, e2, e3⟩ := TS.post HU46.out HB.out (by omega)
    have l1 := TS.size HU46.out
    have l2 : ¬ (w.heap.size + 1 + 1 + 1 + 1 + 1 + 1 + 1 + 1 + 1 + 1 + 1 + 1 = y46.heap.size) := by omega
    have HE2 := Lib.hid (ownsRow_alloc e2 midO)
    have HE3 := Lib.hid (below_drew (below_alloc e3 midO))
    clear e2 e3
    go_wp2
    go_ret
    exact ⟨_, rfl, HE2.out, HE3.out⟩
set_option maxHeartbeats 16000000 in
set_option maxRecDepth 1000000 in
theorem case_53 (w W0 W : World) (rd rs1 rs2 n : Int) (aq rl : Bool) (len raw : Int) (u22 u23 u24 u25 u26 u27 u28 u29 u30 u31 u32 u33 u34 u35 u36 u37 u38 u39 u40 u41 u42 u43 u44 u45 u46 u47 u48 u49 u50 u51 u52 u53 u54 u55 u56 u57 u58 u59 u60 u61 u62 u63 u64 u65 u66 u67 u68 u69 u70 u71 u72 u73 u74 u75 u76 u77 u78 u79 u80 : Value) (hP : Pre w W0 53 rd rs1 rs2 n aq rl len raw) (hT : TS W0 (w.heap.size + 1 + 1 + 1 + 1 + 1 + 1 + 1 + 1 + 1 + 1 + 1 + 1) [] W) :
    rest15.wp Tryd.prog (bodyPost Tryd.prog Tryd.f32 (TPost w ([IntKind.u16.wrap (orAll [(hd 2 4), 4096])]))) (fr15 w 53 rd rs1 rs2 n aq rl len raw u22 u23 u24 u25 u26 u27 u28 u29 u30 u31 u32 u33 u34 u35 u36 u37 u38 u39 u40 u41 u42 u43 u44 u45 u46 u47 u48 u49 u50 u51 u52 u53 u54 u55 u56 u57 u58 u59 u60 u61 u62 u63 u64 u65 u66 u67 u68 u69 u70 u71 u72 u73 u74 u75 u76 u77 u78 u79 u80) W := by
  unfold fr15
  have hI : W.heap[w.heap.size]? = some (.cells #[.int .i64 53, .int .i64 rd, .int .i64 rs1, .int .i64 rs2, .int .i64 n, .bool aq, .bool rl, .int .i64 len, .int .u32 raw] 24 (0, 0)) := (hT.old (by omega)).trans hP.inn
  have p0 := row_cell hI 0 (.int .i64 53) rfl
  have HT := Lib.hid hT
  have HA := Lib.hid hP.arr
  have HI := Lib.hid hP.inn
  have HB := Lib.hid hP.below
  clear hT hP hI
  conv => arg 2; whnf
  go_wp2_with (first
    | (go_at_call 45; refine (encode_head.calls 2 4 (hd 2 4) _ (hd_ok 2 4)).mono ?_; rintro e x55_0 ⟨rfl, ⟨k55_0, rfl⟩⟩)
    | (go_at_call 44; refine (try_any W0 _ (w.heap.size + 1 + 1 + 1 + 1 + 1 + 1 + 1 + 1 + 1 + 1 + 1 + 1) _ [] [(hd 2 4), 4096] 2 ?t1 ?t2 rfl (by decide) (Nat.le_of_ble_eq_true rfl)).mono ?_; (case t1 => exact (by with_reducible (repeat (first | exact HT.out | apply TS.drew | apply TS.drewN | apply TS.alloc)))); (case t2 => exact parts_new _ [(hd 2 4), 4096] _); rintro e y55 ⟨rfl, hT⟩; have HU55 := Lib.hid (show TS W0 (w.heap.size + 1 + 1 + 1 + 1 + 1 + 1 + 1 + 1 + 1 + 1 + 1 + 1) [IntKind.u16.wrap (orAll [(hd 2 4), 4096])] y55 from hT); clear hT))
  go_wp2
  have hm1 : y55.drew.heap[w.heap.size]? = some (.cells #[.int .i64 53, .int .i64 rd, .int .i64 rs1, .int .i64 rs2, .int .i64 n, .bool aq, .bool rl, .int .i64 len, .int .u32 raw] 24 (0, 0)) := (TS.old (by with_reducible (repeat (first | exact HU55.out | apply TS.drew | apply TS.drewN | apply TS.alloc))) (by omega)).trans HI.out
  have hm2 : (y55.drew.alloc midO).heap[w.heap.size]? = some (.cells #[.int .i64 53, .int .i64 rd, .int .i64 rs1, .int .i64 rs2, .int .i64 n, .bool aq, .bool rl, .int .i64 len, .int .u32 raw] 24 (0, 0)) := (TS.old (by with_reducible (repeat (first | exact HU55.out | apply TS.drew | apply TS.drewN | apply TS.alloc))) (by omega)).trans HI.out
  have m1 := row_cell hm1 0 (.int .i64 53) rfl
  have m2 := row_cell hm2 0 (.int .i64 53) rfl
  clear hm1 hm2
  have m0 : y55.cell? ⟨w.heap.size, 0, none⟩ = some (.int .i64 53) := m1
  have e3 : w.heap.size < y55.heap.size := by have := TS.size HU55.out; omega
  have e1 : ¬ (w.heap.size = y55.heap.size) := by omega
  have hlk : (Instr.lookup 107 (.map (some y55.heap.size)) (.int .i64 53) true).run Tryd.prog ((y55.alloc midO).drew) = .ok (.tuple #[.int .u32 0, .bool false]) ((y55.alloc midO).drew) := (run_lookup_mid ((y55.alloc midO).drew) y55.heap.size 53 (heap_alloc_new y55 _)).trans rfl
  go_region_with (go_at_call 48; refine (middle_calls _).mono ?_; rintro e x ⟨rfl, rfl⟩; dsimp only [midV])
  all_goals
    clear hlk m0 m1 m2 e1 e3
    obtain ⟨A, c, e1, e2, e3⟩ := TS.post HU55.out HB.out (by omega)
    have l1 := TS.size HU55.out
    have l2 : ¬ (w.heap.size + 1 + 1 + 1 + 1 + 1 + 1 + 1 + 1 + 1 + 1 + 1 + 1 = y55.heap.size) := by omega
    have HE2 := Lib.hid (ownsRow_alloc e2 midO)
    have HE3 := Lib.hid (below_drew (below_alloc e3 midO))
    clear e2 e3
    go_wp2
    go_ret
    exact ⟨_, rfl, HE2.out, HE3.out⟩
end Go.Proofs.YtiibhggjlandmaaDoor.TR
