/- The statements' word 'changes': both buses answer alike and are alike behind it. Premise: both lie there, of one state. -/
import Derived.Test.YtkocfcgdjjdnhaaPairB
namespace Go.Proofs.Ytkocfcgdjjdnhaa.BW
open Go.RowKit
set_option linter.unusedVariables false
set_option linter.unusedSimpArgs false
/-- One call of a story, as it lies in memory. -/
structure OpV where
  kind : Int
  addr : Int
  n : Int
  v : Int
  vb : Value
  b : List Int
  tick : Bool
  ext : Bool
  soft : Bool
  vw : Value
  l : List Int
def OpV.cells (o : OpV) : Array Value := #[.int .i64 o.kind, .int .u64 o.addr, .int .i64 o.n, .int .u64 o.v, o.vb, .bool o.tick, .bool o.ext, .bool o.soft, o.vw]
structure OpV.At (w : World) (o : OpV) : Prop where
  kd : -9223372036854775808 ≤ o.kind ∧ o.kind ≤ 9223372036854775807
  ad : 0 ≤ o.addr ∧ o.addr ≤ 18446744073709551615
  nn : -9223372036854775808 ≤ o.n ∧ o.n ≤ 9223372036854775807
  vv : 0 ≤ o.v ∧ o.v ≤ 18446744073709551615
  rb : RdW w o.vb o.b
  bb : Byts o.b
  bl : o.b.length ≤ 140737488351232
  rw : RdW w o.vw o.l
  lb : Byts o.l
  ll : o.l.length ≤ 140737488351232
/-- What a call makes of a state. -/
def OpV.next (o : OpV) (s : St) : St :=
  if o.kind = 1 then (s.load o.addr o.n).2 else if o.kind = 2 then (s.store o.addr o.n o.v).2 else if o.kind = 3 then s.begin o.tick o.ext o.soft o.l else if o.kind = 7 then (s.poke o.addr o.b).2 else s
theorem OpV.At.ok {w : World} {o : OpV} (h : o.At w) {s : St} (hs : s.Ok) : (o.next s).Ok := by
  unfold OpV.next
  split
  · exact ok_load hs _ _
  split
  · exact ok_store hs _ _ _ h.vv.1 h.vv.2
  split
  · exact ok_begin hs _ _ _ _ h.lb
  split
  · exact ok_poke hs _ _ h.bb
  · exact hs
def ChPost (w0 : World) (X : List Nat) (w : World) (pb rb : Nat) (s' : St) (e : Ending) (w' : World) : Prop :=
  e = .returned (.bool true) ∧ DuoE w0 X w' pb rb s' s' ∧ SameX X w w'
section
variable {w0 w w' : World} {X : List Nat} {pb rb : Nat} {s t : St}
theorem ChPost.of {Y : List Nat} {w1 : World} {s' : St} (h1 : SameX X w w1) (h2 : SameX Y w1 w') (hY : ∀ x ∈ X, x ∈ Y) (D : DuoE w0 Y w' pb rb s' s') : ChPost w0 X w pb rb s' (.returned (.bool true)) w' :=
  ⟨rfl, D.pop hY, h1.trans (h2.sub hY)⟩
abbrev pairCells (pb rb : Nat) : Array Value := #[.pointer (some ⟨pb, 0, none⟩), .pointer (some ⟨rb, 0, none⟩)]
/-- The two boxes that changes and asks lay. -/
abbrev B2 (w : World) (pb rb : Nat) (oc : Array Value) : World := (w.alloc (.cells (pairCells pb rb) 37)).alloc (.cells oc 54)
set_option maxHeartbeats 8000000 in
set_option maxRecDepth 100000 in
theorem changes_1 (D : DuoE w0 X w pb rb s s) (hs : s.Ok) (o : OpV) (ho : o.At w0) (hk : o.kind = 1) :
    Calls Try.prog 34 #[.agg (pairCells pb rb), .agg o.cells] w (ChPost w0 X w pb rb (o.next s)) := by
  rw [show o.next s = (s.load o.addr o.n).2 by unfold OpV.next; rw [if_pos hk]]
  obtain ⟨DB, R0, R1, SX⟩ := D.push2 (pairCells pb rb) o.cells 37 54
  have HR0 := Lib.hid R0
  have HR1 := Lib.hid R1
  have HSX := Lib.hid SX
  have HDB := Lib.hid DB
  have HS := Lib.hid hs
  have a0 := ho.ad.1
  have a1 := ho.ad.2
  have s0 := ho.nn.1
  have s1 := ho.nn.2
  have v0 := ho.vv.1
  have v1 := ho.vv.2
  have HO := Lib.hid ho
  have HK := Lib.hid (ok_load hs o.addr o.n)
  have HL := Lib.hid (p_load DB hs o.addr o.n a0 a1 s0 s1)
  obtain ⟨kind, addr, n, v, vb, b, tick, ext, soft, vw, l⟩ := o
  dsimp only at hk
  subst hk
  dsimp only [OpV.cells] at *
  obtain ⟨x, hx1⟩ : ∃ x, (s.load addr n).1.1 = x := ⟨_, rfl⟩
  obtain ⟨y, hy1⟩ : ∃ y, (s.load addr n).1.2 = y := ⟨_, rfl⟩
  have HX1 := Lib.hid hx1
  have HY1 := Lib.hid hy1
  rw [hx1, hy1] at HL
  clear hx1 hy1
  clear D R0 R1 SX DB hs ho
  go_enter Try.func34, Try.ntmps34
  go_wp2_with (first
    | (go_at_call 29; refine HL.out.mono ?_; rintro e w2 ⟨rfl, D2, hx⟩; have R0a := Lib.hid ((hx w.heap.size (by simp)).trans HR0.out); have R1a := Lib.hid ((hx (w.heap.size + 1) (by simp)).trans HR1.out); have qa0 : w2.cell? ⟨w.heap.size, 1, none⟩ = some (.pointer (some ⟨rb, 0, none⟩)) := (row_cell R0a.out 1 _ rfl); have qa1 : w2.cell? ⟨w.heap.size + 1, 1, none⟩ = some (.int .u64 addr) := (row_cell R1a.out 1 _ rfl); have qa2 : w2.cell? ⟨w.heap.size + 1, 2, none⟩ = some (.int .i64 n) := (row_cell R1a.out 2 _ rfl); have HD2 := Lib.hid D2; have HX2 := Lib.hid hx; clear D2 hx)
    | (go_at_call 47; refine (d_load HD2.out HS.out addr n a0 a1).mono ?_; rw [HX1.out, HY1.out]; rintro e w3 ⟨rfl, D3, hx⟩; have HD3 := Lib.hid D3; have HX3 := Lib.hid hx; clear D3 hx))
  go_ret
  first | exact ChPost.of HSX.out (HX2.out.trans HX3.out) (by simp; exact fun x hx => .inr (.inr hx)) HD3.out | skip
set_option maxHeartbeats 8000000 in
set_option maxRecDepth 100000 in
theorem changes_2 (D : DuoE w0 X w pb rb s s) (hs : s.Ok) (o : OpV) (ho : o.At w0) (hk : o.kind = 2) :
    Calls Try.prog 34 #[.agg (pairCells pb rb), .agg o.cells] w (ChPost w0 X w pb rb (o.next s)) := by
  rw [show o.next s = (s.store o.addr o.n o.v).2 by unfold OpV.next; rw [if_neg (by omega), if_pos hk]]
  obtain ⟨DB, R0, R1, SX⟩ := D.push2 (pairCells pb rb) o.cells 37 54
  have HR0 := Lib.hid R0
  have HR1 := Lib.hid R1
  have HSX := Lib.hid SX
  have HDB := Lib.hid DB
  have HS := Lib.hid hs
  have a0 := ho.ad.1
  have a1 := ho.ad.2
  have s0 := ho.nn.1
  have s1 := ho.nn.2
  have v0 := ho.vv.1
  have v1 := ho.vv.2
  have HO := Lib.hid ho
  have HL := Lib.hid (p_store DB hs o.addr o.n o.v a0 a1 s0 s1 v0 v1)
  obtain ⟨kind, addr, n, v, vb, b, tick, ext, soft, vw, l⟩ := o
  dsimp only at hk
  subst hk
  dsimp only [OpV.cells] at *
  obtain ⟨x, hx1⟩ : ∃ x, (s.store addr n v).1 = x := ⟨_, rfl⟩
  have HX1 := Lib.hid hx1
  rw [hx1] at HL
  clear hx1
  clear D R0 R1 SX DB hs ho
  go_enter Try.func34, Try.ntmps34
  go_wp2_with (first
    | (go_at_call 30; refine HL.out.mono ?_; rintro e w2 ⟨rfl, D2, hx⟩; have R0a := Lib.hid ((hx w.heap.size (by simp)).trans HR0.out); have R1a := Lib.hid ((hx (w.heap.size + 1) (by simp)).trans HR1.out); have qa0 : w2.cell? ⟨w.heap.size, 1, none⟩ = some (.pointer (some ⟨rb, 0, none⟩)) := (row_cell R0a.out 1 _ rfl); have qa1 : w2.cell? ⟨w.heap.size + 1, 1, none⟩ = some (.int .u64 addr) := (row_cell R1a.out 1 _ rfl); have qa2 : w2.cell? ⟨w.heap.size + 1, 2, none⟩ = some (.int .i64 n) := (row_cell R1a.out 2 _ rfl); have qa3 : w2.cell? ⟨w.heap.size + 1, 3, none⟩ = some (.int .u64 v) := (row_cell R1a.out 3 _ rfl); have HD2 := Lib.hid D2; have HX2 := Lib.hid hx; clear D2 hx)
    | (go_at_call 48; refine (d_store HD2.out HS.out addr n v a0 a1 v0 v1).mono ?_; rw [HX1.out]; rintro e w3 ⟨rfl, D3, hx⟩; have HD3 := Lib.hid D3; have HX3 := Lib.hid hx; clear D3 hx))
  all_goals
    go_ret
    first | exact ChPost.of HSX.out (HX2.out.trans HX3.out) (by simp; exact fun x hx => .inr (.inr hx)) HD3.out | skip
set_option maxHeartbeats 8000000 in
set_option maxRecDepth 100000 in
theorem changes_0 (D : DuoE w0 X w pb rb s s) (hs : s.Ok) (o : OpV) (ho : o.At w0) (h1 : ¬ o.kind = 1) (h2 : ¬ o.kind = 2) (h3 : ¬ o.kind = 3) (h7 : ¬ o.kind = 7) :
    Calls Try.prog 34 #[.agg (pairCells pb rb), .agg o.cells] w (ChPost w0 X w pb rb (o.next s)) := by
  rw [show o.next s = s by unfold OpV.next; rw [if_neg h1, if_neg h2, if_neg h3, if_neg h7]]
  obtain ⟨DB, R0, R1, SX⟩ := D.push2 (pairCells pb rb) o.cells 37 54
  have HR0 := Lib.hid R0
  have HR1 := Lib.hid R1
  have HSX := Lib.hid SX
  have HDB := Lib.hid DB
  have HS := Lib.hid hs
  have a0 := ho.ad.1
  have a1 := ho.ad.2
  have s0 := ho.nn.1
  have s1 := ho.nn.2
  have v0 := ho.vv.1
  have v1 := ho.vv.2
  have HO := Lib.hid ho
  have b1 : (o.kind == 1) = false := by simpa using h1
  have b2 : (o.kind == 2) = false := by simpa using h2
  have b3 : (o.kind == 3) = false := by simpa using h3
  have b7 : (o.kind == 7) = false := by simpa using h7
  obtain ⟨kind, addr, n, v, vb, b, tick, ext, soft, vw, l⟩ := o
  dsimp only [OpV.cells] at *
  clear h1 h2 h3 h7
  clear D R0 R1 SX DB hs ho
  go_enter Try.func34, Try.ntmps34
  go_wp2
  go_ret
  exact ChPost.of HSX.out (SameX.of_kept HDB.out.xl (Kept.refl [] _)) (by simp; exact fun x hx => .inr (.inr hx)) HDB.out
theorem Grew.new {v' : Value} {l : List Int} (hg : Grew w w' (.slice none 0 0) v' l) : ∀ y, v'.ownBlock = some y → w.heap.size ≤ y := fun y hy => (hg.blk y hy).elim (fun e => by simp [Value.ownBlock] at e) id
theorem DuoE.claim (D : DuoE w0 X w pb rb s t) (hk : Kept [] w w') (Y : List Nat) (hY : ∀ x ∈ Y, w.heap.size ≤ x ∧ x < w'.heap.size) : DuoE w0 (Y ++ X) w' pb rb s t := by
  obtain ⟨vr, vi, vo, ur, ui, uo, D⟩ := D
  refine ⟨vr, vi, vo, ur, ui, uo, D.p.keep0 hk, D.r.keep0 hk, fun x hx => ⟨(D.pf x hx).1, fun hm => ?_⟩, fun x hx => ⟨(D.rf x hx).1, fun hm => ?_⟩, D.dj, D.kept.trans hk (by simp), fun x hx => ?_⟩
  · rcases List.mem_append.mp hm with hm | hm
    · have := D.p.lt x hx; have := (hY x hm).1; omega
    · exact (D.pf x hx).2 hm
  · rcases List.mem_append.mp hm with hm | hm
    · have := D.r.lt x hx; have := (hY x hm).1; omega
    · exact (D.rf x hx).2 hm
  · rcases List.mem_append.mp hx with hx | hx
    · exact (hY x hx).2
    · exact Nat.lt_of_lt_of_le (D.xl x hx) hk.size
theorem Bs.keepX {v : Value} {l : List Int} (h : Bs w v l) (hx : ∀ g, v.ownBlock = some g → w'.heap[g]? = w.heap[g]?) : Bs w' v l := by
  refine ⟨h.1, h.2.imp id ?_⟩
  rintro ⟨g, cap, cur, rfl, hb, hg, r⟩
  exact ⟨g, cap, cur, rfl, hb, (hx g rfl).trans hg, r⟩
/-- The copy of a world, put into a box of its own. -/
structure WCopy (w0 : World) (X : List Nat) (W w3 : World) (pb rb : Nat) (s t : St) (M : Nat) (v : Value) (cs : Array Value) (l : List Int) : Prop where
  duo : DuoE w0 (M :: (v.ownBlock.toList ++ X)) w3 pb rb s t
  bs : Bs w3 v l
  row : w3.heap[M]? = some (.cells cs 52 (0, 0))
  same : SameX X W w3
theorem WCopy.of {W w2 : World} {v : Value} {l : List Int} (D : DuoE w0 X W pb rb s t) (hk : Kept [] W w2) (hb : Bs w2 v l) (hn : ∀ g, v.ownBlock = some g → W.heap.size ≤ g) (cs : Array Value) :
    (w2.alloc (.cells zW 52)).heap[w2.heap.size]? = some (.cells zW 52 (0, 0)) ∧ WCopy w0 X W ((w2.alloc (.cells zW 52)).setRow w2.heap.size cs) pb rb s t w2.heap.size v cs l := by
  have ka : Kept [] w2 (w2.alloc (.cells zW 52)) := (Kept.refl [] w2).alloc _
  have h1 := D.claim (hk.trans ka (by simp)) (w2.heap.size :: v.ownBlock.toList) (by
    intro x hx
    rcases List.mem_cons.mp hx with rfl | hx
    · exact ⟨hk.size, by simp⟩
    · have h1 := hn x (by simpa using hx); have h2 := hb.lt x (by simpa using hx); exact ⟨h1, by simp; omega⟩)
  have kw : Kept [w2.heap.size] (w2.alloc (.cells zW 52)) ((w2.alloc (.cells zW 52)).setRow w2.heap.size cs) := (Kept.refl [w2.heap.size] _).setRow (by simp) cs
  have h0 : w0.heap.size ≤ w2.heap.size := Nat.le_trans D.kept.size hk.size
  have hr : (w2.alloc (.cells zW 52)).heap[w2.heap.size]? = some (.cells zW 52 (0, 0)) := heap_alloc_new _ _
  refine ⟨hr, h1.write (by simp) h0 kw, (hb.keep ka (by simp)).keep kw (fun g hg => by have := hb.lt g hg; simp; omega), setRow_heap _ _ _ _ 52 (0, 0) hr, ?_⟩
  intro x hx
  have hxl := D.xl x hx
  have hs1 := hk.size
  rw [kw.block x (by simp; omega) (by simp; omega), ka.block x (by omega) (by simp), hk.block x hxl (by simp)]
set_option maxHeartbeats 8000000 in
set_option maxRecDepth 100000 in
theorem changes_3 (D : DuoE w0 X w pb rb s s) (hs : s.Ok) (o : OpV) (ho : o.At w0) (hk : o.kind = 3) :
    Calls Try.prog 34 #[.agg (pairCells pb rb), .agg o.cells] w (ChPost w0 X w pb rb (o.next s)) := by
  rw [show o.next s = s.begin o.tick o.ext o.soft o.l by unfold OpV.next; rw [if_neg (by omega), if_neg (by omega), if_pos hk]]
  obtain ⟨DB, R0, R1, SX⟩ := D.push2 (pairCells pb rb) o.cells 37 54
  have HR0 := Lib.hid R0
  have HR1 := Lib.hid R1
  have HSX := Lib.hid SX
  have HDB := Lib.hid DB
  have HS := Lib.hid hs
  have a0 := ho.ad.1
  have a1 := ho.ad.2
  have s0 := ho.nn.1
  have s1 := ho.nn.2
  have v0 := ho.vv.1
  have v1 := ho.vv.2
  have HO := Lib.hid ho
  have HRW := Lib.hid (ho.rw.keep DB.kept)
  have HLL := Lib.hid ho.ll
  obtain ⟨A, c, hvw⟩ := ho.rw.shape
  obtain ⟨kind, addr, n, v, vb, b, tick, ext, soft, vw, l⟩ := o
  dsimp only at hk hvw
  subst hk hvw
  dsimp only [OpV.cells] at *
  have HW := Lib.hid (world_any tick ext soft A l.length c l HRW.out HLL.out)
  clear D R0 R1 SX DB hs ho
  go_enter Try.func34, Try.ntmps34
  go_wp2_with (first
    | (go_at_call 28; refine HW.out.mono ?_; rintro e w2 ⟨A', c', rfl, hb, hn, hk⟩; obtain ⟨hz, hwc⟩ := WCopy.of HDB.out hk hb hn #[.bool tick, .bool ext, .bool soft, .slice A' l.length c']; have HZ := Lib.hid hz; have HWC := Lib.hid hwc; have hx := hwc.same; have R0a := Lib.hid ((hx w.heap.size (by simp)).trans HR0.out); have R1a := Lib.hid ((hx (w.heap.size + 1) (by simp)).trans HR1.out); have qa0 : ((w2.alloc (.cells zW 52)).setRow w2.heap.size #[.bool tick, .bool ext, .bool soft, .slice A' l.length c']).cell? ⟨w.heap.size, 0, none⟩ = some (.pointer (some ⟨pb, 0, none⟩)) := (row_cell R0a.out 0 _ rfl); clear hz hwc hb hn hk hx)
    | (refine wpList_store_row rfl 52 (.tmp 11) (.tmp 74) rfl w2.heap.size _ rfl rfl 52 _ HZ.out (by kernel_rfl) rfl (by simp [Value.oneCell']) ?_)
    | ((with_reducible refine gate_n (N := 77) rfl ?_); refine wpList_load_row rfl 52 (.tmp 11) rfl w2.heap.size rfl 52 _ (0, 0) _ HWC.out.row Try.underlying52 rfl (by kernel_rfl) ?_)
    | (go_at_call 27; refine (p_begin HWC.out.duo HS.out tick ext soft A' l.length c' l HWC.out.bs (by intro g hg; simp [hg]) HLL.out).mono ?_; rintro e w4 ⟨rfl, D4, hx⟩; have R0b := Lib.hid ((hx w.heap.size (by simp)).trans R0a.out); have R1b := Lib.hid ((hx (w.heap.size + 1) (by simp)).trans R1a.out); have qb0 : w4.cell? ⟨w.heap.size, 1, none⟩ = some (.pointer (some ⟨rb, 0, none⟩)) := (row_cell R0b.out 1 _ rfl); have qb1 : w4.cell? ⟨w.heap.size + 1, 5, none⟩ = some (.bool tick) := (row_cell R1b.out 5 _ rfl); have qb2 : w4.cell? ⟨w.heap.size + 1, 6, none⟩ = some (.bool ext) := (row_cell R1b.out 6 _ rfl); have qb3 : w4.cell? ⟨w.heap.size + 1, 7, none⟩ = some (.bool soft) := (row_cell R1b.out 7 _ rfl); have qb4 : w4.cell? ⟨w.heap.size + 1, 8, none⟩ = some (.slice A l.length c) := (row_cell R1b.out 8 _ rfl); have HD4 := Lib.hid D4; have HX4 := Lib.hid hx; clear D4 hx)
    | (go_at_call 49; refine (d_begin HD4.out HS.out tick ext soft (.slice A l.length c) l HO.out.rw HO.out.lb HLL.out).mono ?_; rintro e w5 ⟨rfl, D5, hx⟩; have R0c := Lib.hid ((hx w.heap.size (by simp)).trans R0b.out); have R1c := Lib.hid ((hx (w.heap.size + 1) (by simp)).trans R1b.out); have qc0 : w5.cell? ⟨w.heap.size + 1, 8, none⟩ = some (.slice A l.length c) := (row_cell R1c.out 8 _ rfl); have hm3 : w5.cell? ⟨w2.heap.size, 3, none⟩ = some (.slice A' l.length c') := (row_cell ((hx w2.heap.size (by simp)).trans ((HX4.out w2.heap.size (by simp)).trans HWC.out.row)) 3 _ rfl); have hs1 := run_str w5 (.slice A' l.length c') l ((HWC.out.bs.keepX (fun g hg => (hx g (by simp [hg])).trans (HX4.out g (by simp [hg])))).rd); have hs2 := run_strw w5 (.slice A l.length c) l (HO.out.rw.keep D5.kept); have HD5 := Lib.hid D5; have HX5 := Lib.hid hx; clear D5 hx))
  go_ret
  refine ChPost.of HSX.out (HWC.out.same.trans ((HX4.out.trans HX5.out).sub (fun x hx => List.mem_cons_of_mem _ (List.mem_append_right _ hx)))) (fun x hx => List.mem_cons_of_mem _ (List.mem_cons_of_mem _ hx)) (HD5.out.pop (fun x hx => List.mem_cons_of_mem _ (List.mem_append_right _ hx)))
set_option maxHeartbeats 8000000 in
set_option maxRecDepth 100000 in
theorem changes_7 (D : DuoE w0 X w pb rb s s) (hs : s.Ok) (o : OpV) (ho : o.At w0) (hk : o.kind = 7) :
    Calls Try.prog 34 #[.agg (pairCells pb rb), .agg o.cells] w (ChPost w0 X w pb rb (o.next s)) := by
  rw [show o.next s = (s.poke o.addr o.b).2 by unfold OpV.next; rw [if_neg (by omega), if_neg (by omega), if_neg (by omega), if_pos hk]]
  obtain ⟨DB, R0, R1, SX⟩ := D.push2 (pairCells pb rb) o.cells 37 54
  have HR0 := Lib.hid R0
  have HR1 := Lib.hid R1
  have HSX := Lib.hid SX
  have HDB := Lib.hid DB
  have HS := Lib.hid hs
  have a0 := ho.ad.1
  have a1 := ho.ad.2
  have s0 := ho.nn.1
  have s1 := ho.nn.2
  have v0 := ho.vv.1
  have v1 := ho.vv.2
  have HO := Lib.hid ho
  have HRB := Lib.hid (ho.rb.keep DB.kept)
  have HBL := Lib.hid ho.bl
  have HBB := Lib.hid ho.bb
  have HB2 := Lib.hid (show ([] : List Int).length + o.b.length ≤ 140737488355328 by have := ho.bl; simp; omega)
  obtain ⟨A, c, hvb⟩ := ho.rb.shape
  obtain ⟨kind, addr, n, v, vb, b, tick, ext, soft, vw, l⟩ := o
  dsimp only at hk hvb
  subst hk hvb
  dsimp only [OpV.cells] at *
  obtain ⟨x, hx1⟩ : ∃ x, (s.poke addr b).1 = x := ⟨_, rfl⟩
  have HX1 := Lib.hid hx1
  clear hx1
  clear D R0 R1 SX DB hs ho
  go_enter Try.func34, Try.ntmps34
  go_wp2_with (first
    | ((with_reducible refine gate_n (N := 96) rfl ?_); at_builtin; refine wpList_append_nilw rfl _ _ rfl _ b rfl rfl HRB.out HB2.out ?_; intro v' w2 hg; obtain ⟨A', c', rfl⟩ := hg.bs.shape; have gk : Kept [] ((w.alloc (.cells (pairCells pb rb) 37)).alloc (.cells #[.int .i64 7, .int .u64 addr, .int .i64 n, .int .u64 v, .slice A b.length c, .bool tick, .bool ext, .bool soft, vw] 54)) w2 := hg.kept; have hb : Bs w2 (.slice A' b.length c') b := (by simpa using hg.bs); have hn : ∀ g, (Value.slice A' b.length c').ownBlock = some g → g ∈ (Value.slice A' b.length c').ownBlock.toList := (by intro g hg; simp [hg]); have DC := Lib.hid (HDB.out.claim gk (Value.slice A' b.length c').ownBlock.toList (fun y hy => ⟨Grew.new hg y (by simpa using hy), hb.lt y (by simpa using hy)⟩)); have hx : SameX ((w.heap.size + 1) :: w.heap.size :: X) ((w.alloc (.cells (pairCells pb rb) 37)).alloc (.cells #[.int .i64 7, .int .u64 addr, .int .i64 n, .int .u64 v, .slice A b.length c, .bool tick, .bool ext, .bool soft, vw] 54)) w2 := SameX.of_kept HDB.out.xl gk; have R0a := Lib.hid ((hx w.heap.size (by simp)).trans HR0.out); have R1a := Lib.hid ((hx (w.heap.size + 1) (by simp)).trans HR1.out); have qa0 : w2.cell? ⟨w.heap.size, 0, none⟩ = some (.pointer (some ⟨pb, 0, none⟩)) := (row_cell R0a.out 0 _ rfl); have qa1 : w2.cell? ⟨w.heap.size + 1, 1, none⟩ = some (.int .u64 addr) := (row_cell R1a.out 1 _ rfl); have HBS := Lib.hid hb; have HX2 := Lib.hid hx; clear hx hb hn gk hg)
    | (go_at_call 32; refine (p_poke DC.out HS.out addr a0 a1 (.slice A' b.length c') b HBS.out.rd HBL.out).mono ?_; rw [HX1.out]; rintro e w3 ⟨rfl, D3, hx⟩; have R0b := Lib.hid ((hx w.heap.size (by simp)).trans R0a.out); have R1b := Lib.hid ((hx (w.heap.size + 1) (by simp)).trans R1a.out); have qb0 : w3.cell? ⟨w.heap.size, 1, none⟩ = some (.pointer (some ⟨rb, 0, none⟩)) := (row_cell R0b.out 1 _ rfl); have qb1 : w3.cell? ⟨w.heap.size + 1, 1, none⟩ = some (.int .u64 addr) := (row_cell R1b.out 1 _ rfl); have qb2 : w3.cell? ⟨w.heap.size + 1, 4, none⟩ = some (.slice A b.length c) := (row_cell R1b.out 4 _ rfl); have HD3 := Lib.hid D3; have HX3 := Lib.hid hx; clear D3 hx)
    | (go_at_call 50; refine (d_poke HD3.out HS.out addr a0 a1 (.slice A b.length c) b HO.out.rb HBB.out HBL.out).mono ?_; rw [HX1.out]; rintro e w4 ⟨rfl, D4, hx⟩; have R0c := Lib.hid ((hx w.heap.size (by simp)).trans R0b.out); have R1c := Lib.hid ((hx (w.heap.size + 1) (by simp)).trans R1b.out); have qc0 : w4.cell? ⟨w.heap.size + 1, 4, none⟩ = some (.slice A b.length c) := (row_cell R1c.out 4 _ rfl); have hs1 := run_str w4 (.slice A' b.length c') b ((HBS.out.keepX (fun g hg => (hx g (by simp [hg])).trans (HX3.out g (by simp [hg])))).rd); have hs2 := run_strw w4 (.slice A b.length c) b (HO.out.rb.keep D4.kept); have HD4 := Lib.hid D4; have HX4 := Lib.hid hx; clear D4 hx))
  go_ret
  refine ChPost.of HSX.out (HX2.out.trans ((HX3.out.trans HX4.out).sub (fun x hx => List.mem_append_right _ hx))) (fun x hx => List.mem_cons_of_mem _ (List.mem_cons_of_mem _ hx)) (HD4.out.pop (fun x hx => List.mem_append_right _ hx))
theorem changes_any (D : DuoE w0 X w pb rb s s) (hs : s.Ok) (o : OpV) (ho : o.At w0) :
    Calls Try.prog 34 #[.agg (pairCells pb rb), .agg o.cells] w (ChPost w0 X w pb rb (o.next s)) := by
  by_cases h1 : o.kind = 1
  · exact changes_1 D hs o ho h1
  by_cases h2 : o.kind = 2
  · exact changes_2 D hs o ho h2
  by_cases h3 : o.kind = 3
  · exact changes_3 D hs o ho h3
  by_cases h7 : o.kind = 7
  · exact changes_7 D hs o ho h7
  exact changes_0 D hs o ho h1 h2 h3 h7
end
end Go.Proofs.Ytkocfcgdjjdnhaa.BW
