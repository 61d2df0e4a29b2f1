/- Texts of this claim, put together by a program: TriesC5. -/
import Derived.Test.YtiibhggjlandmaaDoorMB11
/- encode.tries: its cases, by operation. No condition. -/
namespace Go.Proofs.YtiibhggjlandmaaDoor.TR
open Go.RowKit Go.Proofs.YtiibhggjlandmaaDoorW.PrintWords Go.Proofs.YtiibhggjlandmaaDoorW.PrintMore Go.Proofs.YtiibhggjlandmaaDoor.PT Go.Proofs.YtiibhggjlandmaaDoor.PL
set_option linter.unusedVariables false
set_option linter.unusedSimpArgs false
structure OtherOp (op : Int) : Prop where
  n22 : (op == 22) = false
  n31 : (op == 31) = false
  n1 : (op == 1) = false
  n13 : (op == 13) = false
  n14 : (op == 14) = false
  n20 : (op == 20) = false
  n21 : (op == 21) = false
  n29 : (op == 29) = false
  n30 : (op == 30) = false
  n27 : (op == 27) = false
  n28 : (op == 28) = false
  n3 : (op == 3) = false
  n5 : (op == 5) = false
  n6 : (op == 6) = false
  n4 : (op == 4) = false
  n53 : (op == 53) = false
  n35 : (op == 35) = false
  mid : findM op midT = none
set_option maxHeartbeats 16000000 in
set_option maxRecDepth 1000000 in
theorem case_46 (w W0 W : World) (rd rs1 rs2 n : Int) (aq rl : Bool) (len raw : Int) (u22 u23 u24 u25 u26 u27 u28 u29 u30 u31 u32 u33 u34 u35 u36 u37 u38 u39 u40 u41 u42 u43 u44 u45 u46 u47 u48 u49 u50 u51 u52 u53 u54 u55 u56 u57 u58 u59 u60 u61 u62 u63 u64 u65 u66 u67 u68 u69 u70 u71 u72 u73 u74 u75 u76 u77 u78 u79 u80 : Value) (hP : Pre w W0 46 rd rs1 rs2 n aq rl len raw) (hT : TS W0 (w.heap.size + 1 + 1 + 1 + 1 + 1 + 1 + 1 + 1 + 1 + 1 + 1 + 1) [] W) :
    rest15.wp Tryd.prog (bodyPost Tryd.prog Tryd.f32 (TPost w ([IntKind.u16.wrap (orAll [(hd 1 4), 3072, 4096, (lo rd 7), (lo rs2 2)])]))) (fr15 w 46 rd rs1 rs2 n aq rl len raw u22 u23 u24 u25 u26 u27 u28 u29 u30 u31 u32 u33 u34 u35 u36 u37 u38 u39 u40 u41 u42 u43 u44 u45 u46 u47 u48 u49 u50 u51 u52 u53 u54 u55 u56 u57 u58 u59 u60 u61 u62 u63 u64 u65 u66 u67 u68 u69 u70 u71 u72 u73 u74 u75 u76 u77 u78 u79 u80) W := by
  unfold fr15
  have hI : W.heap[w.heap.size]? = some (.cells #[.int .i64 46, .int .i64 rd, .int .i64 rs1, .int .i64 rs2, .int .i64 n, .bool aq, .bool rl, .int .i64 len, .int .u32 raw] 24 (0, 0)) := (hT.old (by omega)).trans hP.inn
  have p0 := row_cell hI 0 (.int .i64 46) rfl
  have HT := Lib.hid hT
  have HA := Lib.hid hP.arr
  have HI := Lib.hid hP.inn
  have HB := Lib.hid hP.below
  clear hT hP hI
  conv => arg 2; whnf
  go_wp2
  have hm1 : W.drew.heap[w.heap.size]? = some (.cells #[.int .i64 46, .int .i64 rd, .int .i64 rs1, .int .i64 rs2, .int .i64 n, .bool aq, .bool rl, .int .i64 len, .int .u32 raw] 24 (0, 0)) := (TS.old (by with_reducible (repeat (first | exact HT.out | apply TS.drew | apply TS.drewN | apply TS.alloc))) (by omega)).trans HI.out
  have hm2 : (W.drew.alloc midO).heap[w.heap.size]? = some (.cells #[.int .i64 46, .int .i64 rd, .int .i64 rs1, .int .i64 rs2, .int .i64 n, .bool aq, .bool rl, .int .i64 len, .int .u32 raw] 24 (0, 0)) := (TS.old (by with_reducible (repeat (first | exact HT.out | apply TS.drew | apply TS.drewN | apply TS.alloc))) (by omega)).trans HI.out
  have m1 := row_cell hm1 0 (.int .i64 46) rfl
  have m2 := row_cell hm2 0 (.int .i64 46) rfl
  clear hm1 hm2
  have m0 : W.cell? ⟨w.heap.size, 0, none⟩ = some (.int .i64 46) := m1
  have e3 : w.heap.size < W.heap.size := by have := TS.size HT.out; omega
  have e1 : ¬ (w.heap.size = W.heap.size) := by omega
  have hlk : (Instr.lookup 107 (.map (some W.heap.size)) (.int .i64 46) true).run Tryd.prog ((W.alloc midO).drew) = .ok (.tuple #[.int .u32 4096, .bool true]) ((W.alloc midO).drew) := (run_lookup_mid ((W.alloc midO).drew) W.heap.size 46 (heap_alloc_new W _)).trans rfl
  go_region_with (go_at_call 48; refine (middle_calls _).mono ?_; rintro e x ⟨rfl, rfl⟩; dsimp only [midV])
  all_goals
    clear hlk m0 m1 m2 e1 e3
    go_wp2_with (first
    | (go_at_call 45; refine (encode_head.calls 1 4 (hd 1 4) _ (hd_ok 1 4)).mono ?_; rintro e x61_0 ⟨rfl, ⟨k61_0, rfl⟩⟩)
    | (go_at_call 46; refine (encode_low.calls rd 7 (lo rd 7) _ (lo_ok rd 7 (by decide))).mono ?_; rintro e x61_1 ⟨rfl, ⟨k61_1, rfl⟩⟩)
    | (go_at_call 46; refine (encode_low.calls rs2 2 (lo rs2 2) _ (lo_ok rs2 2 (by decide))).mono ?_; rintro e x61_2 ⟨rfl, ⟨k61_2, rfl⟩⟩)
    | (go_at_call 44; refine (try_any W0 _ (w.heap.size + 1 + 1 + 1 + 1 + 1 + 1 + 1 + 1 + 1 + 1 + 1 + 1) _ [] [(hd 1 4), 3072, 4096, (lo rd 7), (lo rs2 2)] 5 ?t1 ?t2 rfl (by decide) (Nat.le_of_ble_eq_true rfl)).mono ?_; (case t1 => exact (by with_reducible (repeat (first | exact HT.out | apply TS.drew | apply TS.drewN | apply TS.alloc)))); (case t2 => refine parts_at [(hd 1 4), 3072, 4096, (lo rd 7), (lo rs2 2)] 22 ?_; (try simp only [hdN, hd1]); first | exact heap_alloc_new _ _ | exact heap_at _ _ _ (by simp)); rintro e y61 ⟨rfl, hT⟩; have HU61 := Lib.hid (show TS W0 (w.heap.size + 1 + 1 + 1 + 1 + 1 + 1 + 1 + 1 + 1 + 1 + 1 + 1) [IntKind.u16.wrap (orAll [(hd 1 4), 3072, 4096, (lo rd 7), (lo rs2 2)])] y61 from hT); clear hT; obtain ⟨A, c, e1, e2, e3⟩ := TS.post HU61.out HB.out (by omega); have HE2 := Lib.hid e2; have HE3 := Lib.hid e3; clear e2 e3))
    go_ret
    exact ⟨_, rfl, HE2.out, HE3.out⟩
set_option maxHeartbeats 16000000 in
set_option maxRecDepth 1000000 in
theorem case_45 (w W0 W : World) (rd rs1 rs2 n : Int) (aq rl : Bool) (len raw : Int) (u22 u23 u24 u25 u26 u27 u28 u29 u30 u31 u32 u33 u34 u35 u36 u37 u38 u39 u40 u41 u42 u43 u44 u45 u46 u47 u48 u49 u50 u51 u52 u53 u54 u55 u56 u57 u58 u59 u60 u61 u62 u63 u64 u65 u66 u67 u68 u69 u70 u71 u72 u73 u74 u75 u76 u77 u78 u79 u80 : Value) (hP : Pre w W0 45 rd rs1 rs2 n aq rl len raw) (hT : TS W0 (w.heap.size + 1 + 1 + 1 + 1 + 1 + 1 + 1 + 1 + 1 + 1 + 1 + 1) [] W) :
    rest15.wp Tryd.prog (bodyPost Tryd.prog Tryd.f32 (TPost w ([IntKind.u16.wrap (orAll [(hd 1 4), 3072, 4128, (lo rd 7), (lo rs2 2)])]))) (fr15 w 45 rd rs1 rs2 n aq rl len raw u22 u23 u24 u25 u26 u27 u28 u29 u30 u31 u32 u33 u34 u35 u36 u37 u38 u39 u40 u41 u42 u43 u44 u45 u46 u47 u48 u49 u50 u51 u52 u53 u54 u55 u56 u57 u58 u59 u60 u61 u62 u63 u64 u65 u66 u67 u68 u69 u70 u71 u72 u73 u74 u75 u76 u77 u78 u79 u80) W := by
  unfold fr15
  have hI : W.heap[w.heap.size]? = some (.cells #[.int .i64 45, .int .i64 rd, .int .i64 rs1, .int .i64 rs2, .int .i64 n, .bool aq, .bool rl, .int .i64 len, .int .u32 raw] 24 (0, 0)) := (hT.old (by omega)).trans hP.inn
  have p0 := row_cell hI 0 (.int .i64 45) rfl
  have HT := Lib.hid hT
  have HA := Lib.hid hP.arr
  have HI := Lib.hid hP.inn
  have HB := Lib.hid hP.below
  clear hT hP hI
  conv => arg 2; whnf
  go_wp2
  have hm1 : W.drew.heap[w.heap.size]? = some (.cells #[.int .i64 45, .int .i64 rd, .int .i64 rs1, .int .i64 rs2, .int .i64 n, .bool aq, .bool rl, .int .i64 len, .int .u32 raw] 24 (0, 0)) := (TS.old (by with_reducible (repeat (first | exact HT.out | apply TS.drew | apply TS.drewN | apply TS.alloc))) (by omega)).trans HI.out
  have hm2 : (W.drew.alloc midO).heap[w.heap.size]? = some (.cells #[.int .i64 45, .int .i64 rd, .int .i64 rs1, .int .i64 rs2, .int .i64 n, .bool aq, .bool rl, .int .i64 len, .int .u32 raw] 24 (0, 0)) := (TS.old (by with_reducible (repeat (first | exact HT.out | apply TS.drew | apply TS.drewN | apply TS.alloc))) (by omega)).trans HI.out
  have m1 := row_cell hm1 0 (.int .i64 45) rfl
  have m2 := row_cell hm2 0 (.int .i64 45) rfl
  clear hm1 hm2
  have m0 : W.cell? ⟨w.heap.size, 0, none⟩ = some (.int .i64 45) := m1
  have e3 : w.heap.size < W.heap.size := by have := TS.size HT.out; omega
  have e1 : ¬ (w.heap.size = W.heap.size) := by omega
  have hlk : (Instr.lookup 107 (.map (some W.heap.size)) (.int .i64 45) true).run Tryd.prog ((W.alloc midO).drew) = .ok (.tuple #[.int .u32 4128, .bool true]) ((W.alloc midO).drew) := (run_lookup_mid ((W.alloc midO).drew) W.heap.size 45 (heap_alloc_new W _)).trans rfl
  go_region_with (go_at_call 48; refine (middle_calls _).mono ?_; rintro e x ⟨rfl, rfl⟩; dsimp only [midV])
  all_goals
    clear hlk m0 m1 m2 e1 e3
    go_wp2_with (first
    | (go_at_call 45; refine (encode_head.calls 1 4 (hd 1 4) _ (hd_ok 1 4)).mono ?_; rintro e x61_0 ⟨rfl, ⟨k61_0, rfl⟩⟩)
    | (go_at_call 46; refine (encode_low.calls rd 7 (lo rd 7) _ (lo_ok rd 7 (by decide))).mono ?_; rintro e x61_1 ⟨rfl, ⟨k61_1, rfl⟩⟩)
    | (go_at_call 46; refine (encode_low.calls rs2 2 (lo rs2 2) _ (lo_ok rs2 2 (by decide))).mono ?_; rintro e x61_2 ⟨rfl, ⟨k61_2, rfl⟩⟩)
    | (go_at_call 44; refine (try_any W0 _ (w.heap.size + 1 + 1 + 1 + 1 + 1 + 1 + 1 + 1 + 1 + 1 + 1 + 1) _ [] [(hd 1 4), 3072, 4128, (lo rd 7), (lo rs2 2)] 5 ?t1 ?t2 rfl (by decide) (Nat.le_of_ble_eq_true rfl)).mono ?_; (case t1 => exact (by with_reducible (repeat (first | exact HT.out | apply TS.drew | apply TS.drewN | apply TS.alloc)))); (case t2 => refine parts_at [(hd 1 4), 3072, 4128, (lo rd 7), (lo rs2 2)] 22 ?_; (try simp only [hdN, hd1]); first | exact heap_alloc_new _ _ | exact heap_at _ _ _ (by simp)); rintro e y61 ⟨rfl, hT⟩; have HU61 := Lib.hid (show TS W0 (w.heap.size + 1 + 1 + 1 + 1 + 1 + 1 + 1 + 1 + 1 + 1 + 1 + 1) [IntKind.u16.wrap (orAll [(hd 1 4), 3072, 4128, (lo rd 7), (lo rs2 2)])] y61 from hT); clear hT; obtain ⟨A, c, e1, e2, e3⟩ := TS.post HU61.out HB.out (by omega); have HE2 := Lib.hid e2; have HE3 := Lib.hid e3; clear e2 e3))
    go_ret
    exact ⟨_, rfl, HE2.out, HE3.out⟩
set_option maxHeartbeats 16000000 in
set_option maxRecDepth 1000000 in
theorem case_other (w W0 W : World) (op rd rs1 rs2 n : Int) (aq rl : Bool) (len raw : Int) (u22 u23 u24 u25 u26 u27 u28 u29 u30 u31 u32 u33 u34 u35 u36 u37 u38 u39 u40 u41 u42 u43 u44 u45 u46 u47 u48 u49 u50 u51 u52 u53 u54 u55 u56 u57 u58 u59 u60 u61 u62 u63 u64 u65 u66 u67 u68 u69 u70 u71 u72 u73 u74 u75 u76 u77 u78 u79 u80 : Value) (ho : OtherOp op) (hP : Pre w W0 op rd rs1 rs2 n aq rl len raw) (hT : TS W0 (w.heap.size + 1 + 1 + 1 + 1 + 1 + 1 + 1 + 1 + 1 + 1 + 1 + 1) [] W) :
    rest15.wp Tryd.prog (bodyPost Tryd.prog Tryd.f32 (TPost w ([]))) (fr15 w op rd rs1 rs2 n aq rl len raw u22 u23 u24 u25 u26 u27 u28 u29 u30 u31 u32 u33 u34 u35 u36 u37 u38 u39 u40 u41 u42 u43 u44 u45 u46 u47 u48 u49 u50 u51 u52 u53 u54 u55 u56 u57 u58 u59 u60 u61 u62 u63 u64 u65 u66 u67 u68 u69 u70 u71 u72 u73 u74 u75 u76 u77 u78 u79 u80) W := by
  unfold fr15
  have hI : W.heap[w.heap.size]? = some (.cells #[.int .i64 op, .int .i64 rd, .int .i64 rs1, .int .i64 rs2, .int .i64 n, .bool aq, .bool rl, .int .i64 len, .int .u32 raw] 24 (0, 0)) := (hT.old (by omega)).trans hP.inn
  have p0 := row_cell hI 0 (.int .i64 op) rfl
  have HT := Lib.hid hT
  have HA := Lib.hid hP.arr
  have HI := Lib.hid hP.inn
  have HB := Lib.hid hP.below
  clear hT hP hI
  have n22 := ho.n22; have n31 := ho.n31; have n1 := ho.n1; have n13 := ho.n13; have n14 := ho.n14; have n20 := ho.n20; have n21 := ho.n21; have n29 := ho.n29; have n30 := ho.n30; have n27 := ho.n27; have n28 := ho.n28; have n3 := ho.n3; have n5 := ho.n5; have n6 := ho.n6; have n4 := ho.n4; have n53 := ho.n53; have n35 := ho.n35
  conv => arg 2; whnf
  have hm : findM op midT = none := ho.mid
  go_wp2
  have hm1 : W.drew.heap[w.heap.size]? = some (.cells #[.int .i64 op, .int .i64 rd, .int .i64 rs1, .int .i64 rs2, .int .i64 n, .bool aq, .bool rl, .int .i64 len, .int .u32 raw] 24 (0, 0)) := (TS.old (by with_reducible (repeat (first | exact HT.out | apply TS.drew | apply TS.drewN | apply TS.alloc))) (by omega)).trans HI.out
  have hm2 : (W.drew.alloc midO).heap[w.heap.size]? = some (.cells #[.int .i64 op, .int .i64 rd, .int .i64 rs1, .int .i64 rs2, .int .i64 n, .bool aq, .bool rl, .int .i64 len, .int .u32 raw] 24 (0, 0)) := (TS.old (by with_reducible (repeat (first | exact HT.out | apply TS.drew | apply TS.drewN | apply TS.alloc))) (by omega)).trans HI.out
  have m1 := row_cell hm1 0 (.int .i64 op) rfl
  have m2 := row_cell hm2 0 (.int .i64 op) rfl
  clear hm1 hm2
  have m0 : W.cell? ⟨w.heap.size, 0, none⟩ = some (.int .i64 op) := m1
  have e3 : w.heap.size < W.heap.size := by have := TS.size HT.out; omega
  have e1 : ¬ (w.heap.size = W.heap.size) := by omega
  have hlk : (Instr.lookup 107 (.map (some W.heap.size)) (.int .i64 op) true).run Tryd.prog ((W.alloc midO).drew) = .ok (.tuple #[.int .u32 0, .bool false]) ((W.alloc midO).drew) := by rw [run_lookup_mid ((W.alloc midO).drew) W.heap.size op (heap_alloc_new W _), hm]; rfl
  clear hm
  go_region_with (go_at_call 48; refine (middle_calls _).mono ?_; rintro e x ⟨rfl, rfl⟩; dsimp only [midV])
  all_goals
    clear hlk m0 m1 m2 e1 e3
    obtain ⟨A, c, e1, e2, e3⟩ := TS.post HT.out HB.out (by omega)
    have l1 := TS.size HT.out
    have l2 : ¬ (w.heap.size + 1 + 1 + 1 + 1 + 1 + 1 + 1 + 1 + 1 + 1 + 1 + 1 = W.heap.size) := by omega
    have HE2 := Lib.hid (ownsRow_alloc e2 midO)
    have HE3 := Lib.hid (below_drew (below_alloc e3 midO))
    clear e2 e3
    go_wp2
    go_ret
    exact ⟨_, rfl, HE2.out, HE3.out⟩
end Go.Proofs.YtiibhggjlandmaaDoor.TR
