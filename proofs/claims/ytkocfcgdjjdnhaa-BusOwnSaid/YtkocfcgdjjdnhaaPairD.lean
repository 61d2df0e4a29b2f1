/- The statements' word 'asks': both buses tell alike. Premise: both lie there, of one state. -/
import Derived.Test.YtkocfcgdjjdnhaaPairC
import Derived.Deep.RegionHeld3
namespace Go.Proofs.Ytkocfcgdjjdnhaa.BW
open Go.RowKit
set_option linter.unusedVariables false
set_option linter.unusedSimpArgs false
section
variable {w0 w w' : World} {X : List Nat} {pb rb : Nat} {s t : St}
theorem kept_turn {F : List Nat} {b : Nat} (hk : Kept [b] w w') (hb : b ∈ F) : Turn F F w w' := .of_kept (hk.mono (by simpa using hb))
theorem foot_self (b : Nat) (vr vi vo : Value) : b ∈ foot b vr vi vo := by simp [foot]
theorem p_can (D : DuoE w0 X w pb rb s t) (hs : s.Ok) (addr size kind : Int) (a0 : 0 ≤ addr) (a1 : addr ≤ 18446744073709551615) (s0 : -9223372036854775808 ≤ size) (s1 : size ≤ 9223372036854775807) :
    Calls Try.prog 51 #[.pointer (some ⟨pb, 0, none⟩), .int .u64 addr, .int .i64 size, .int .i64 kind] w fun e w' => e = .returned (.bool (s.can addr size kind)) ∧ DuoE w0 X w' pb rb s t ∧ SameX X w w' := by
  obtain ⟨vr, vi, vo, ur, ui, uo, D⟩ := D
  exact (can_any D.p hs addr size kind a0 a1 s0 s1).mono fun e w' ⟨he, hb⟩ => ⟨he, DuoE.keep ⟨_, _, _, _, _, _, D⟩ (.of_below hb)⟩
theorem d_can (D : DuoE w0 X w pb rb s t) (ht : t.Ok) (addr size kind : Int) (a0 : 0 ≤ addr) (a1 : addr ≤ 18446744073709551615) (s0 : -9223372036854775808 ≤ size) (s1 : size ≤ 9223372036854775807) :
    Calls Try.prog 52 #[.pointer (some ⟨rb, 0, none⟩), .int .u64 addr, .int .i64 size, .int .i64 kind] w fun e w' => e = .returned (.bool (t.can addr size kind)) ∧ DuoE w0 X w' pb rb s t ∧ SameX X w w' := by
  obtain ⟨vr, vi, vo, ur, ui, uo, D⟩ := D
  exact (r_can_any D.r ht addr size kind a0 a1 s0 s1).mono fun e w' ⟨he, hb⟩ => ⟨he, DuoE.keep ⟨_, _, _, _, _, _, D⟩ (hb ▸ Kept.refl [] w)⟩
theorem p_isram (D : DuoE w0 X w pb rb s t) (hs : s.Ok) (addr size : Int) (a0 : 0 ≤ addr) (a1 : addr ≤ 18446744073709551615) (s0 : -9223372036854775808 ≤ size) (s1 : size ≤ 9223372036854775807) :
    Calls Try.prog 53 #[.pointer (some ⟨pb, 0, none⟩), .int .u64 addr, .int .i64 size] w fun e w' => e = .returned (.bool (inRam s.ram.length addr size)) ∧ DuoE w0 X w' pb rb s t ∧ SameX X w w' := by
  obtain ⟨vr, vi, vo, ur, ui, uo, D⟩ := D
  exact (isram_any D.p hs addr size a0 a1 s0 s1).mono fun e w' ⟨he, hb⟩ => ⟨he, DuoE.keep ⟨_, _, _, _, _, _, D⟩ (hb ▸ Kept.refl [] w)⟩
theorem d_isram (D : DuoE w0 X w pb rb s t) (ht : t.Ok) (addr size : Int) (a0 : 0 ≤ addr) (a1 : addr ≤ 18446744073709551615) (s1 : size ≤ 9223372036854775807) :
    Calls Try.prog 54 #[.pointer (some ⟨rb, 0, none⟩), .int .u64 addr, .int .i64 size] w fun e w' => e = .returned (.bool (inRam t.ram.length addr size)) ∧ DuoE w0 X w' pb rb s t ∧ SameX X w w' := by
  obtain ⟨vr, vi, vo, ur, ui, uo, D⟩ := D
  exact (r_isram_of D.r ht addr size a0 a1 s1 _ rfl).mono fun e w' ⟨he, hb⟩ => ⟨he, DuoE.keep ⟨_, _, _, _, _, _, D⟩ (hb ▸ Kept.refl [] w)⟩
/-- New bytes that one of them hands out. -/
def Told (w0 : World) (X : List Nat) (w : World) (pb rb : Nat) (s t : St) (v : Value) (l : List Int) (w' : World) : Prop := DuoE w0 X w' pb rb s t ∧ SameX X w w' ∧ Bs w' v l ∧ (∀ g, v.ownBlock = some g → w.heap.size ≤ g)
theorem p_peek (D : DuoE w0 X w pb rb s t) (hs : s.Ok) (addr n : Int) (a0 : 0 ≤ addr) (a1 : addr ≤ 18446744073709551615) (s0 : -9223372036854775808 ≤ n) (s1 : n ≤ 9223372036854775807) :
    Calls Try.prog 25 #[.pointer (some ⟨pb, 0, none⟩), .int .u64 addr, .int .i64 n] w fun e w' => ∃ A c, e = .returned (.tuple #[.slice A (s.peek addr n).1.length c, .int .i64 (s.peek addr n).2]) ∧ Bs w' (.slice A (s.peek addr n).1.length c) (s.peek addr n).1 ∧ Kept [] w w' := by
  obtain ⟨vr, vi, vo, ur, ui, uo, D⟩ := D
  exact (peek_any D.p hs addr n a0 a1 s0 s1).mono fun e w' ⟨A, c, he, hb, hn, hk⟩ => ⟨A, c, he, hb, hk⟩
theorem d_peek (D : DuoE w0 X w pb rb s t) (ht : t.Ok) (addr n : Int) (a0 : 0 ≤ addr) (a1 : addr ≤ 18446744073709551615) (s1 : n ≤ 9223372036854775807) :
    Calls Try.prog 55 #[.pointer (some ⟨rb, 0, none⟩), .int .u64 addr, .int .i64 n] w fun e w' => ∃ A c, e = .returned (.tuple #[.slice A (t.peek addr n).1.length c, .int .i64 (t.peek addr n).2]) ∧ Bs w' (.slice A (t.peek addr n).1.length c) (t.peek addr n).1 ∧ Kept [] w w' := by
  obtain ⟨vr, vi, vo, ur, ui, uo, D⟩ := D
  exact (r_peek_any D.r ht addr n a0 a1 s1).mono fun e w' ⟨A, c, he, hb, hn, hk⟩ => ⟨A, c, he, hb, hk⟩
theorem p_mip (D : DuoE w0 X w pb rb s t) (hs : s.Ok) :
    Calls Try.prog 56 #[.pointer (some ⟨pb, 0, none⟩)] w fun e w' => e = .returned (.int .u64 s.mip) ∧ DuoE w0 X w' pb rb s t ∧ SameX X w w' := by
  obtain ⟨vr, vi, vo, ur, ui, uo, D⟩ := D
  exact (mip_any D.p hs).mono fun e w' ⟨he, hp, hk⟩ => ⟨he, D.stepP hp (kept_turn hk (foot_self _ _ _ _))⟩
theorem d_mip (D : DuoE w0 X w pb rb s t) (ht : t.Ok) :
    Calls Try.prog 57 #[.pointer (some ⟨rb, 0, none⟩)] w fun e w' => e = .returned (.int .u64 t.mip) ∧ DuoE w0 X w' pb rb s t ∧ SameX X w w' := by
  obtain ⟨vr, vi, vo, ur, ui, uo, D⟩ := D
  exact (r_mip_any D.r ht).mono fun e w' ⟨he, n, hb⟩ => ⟨he, DuoE.keep ⟨_, _, _, _, _, _, D⟩ (hb ▸ (Kept.refl [] w).drewN n)⟩
theorem p_time (D : DuoE w0 X w pb rb s t) :
    Calls Try.prog 58 #[.pointer (some ⟨pb, 0, none⟩)] w fun e w' => e = .returned (.int .u64 s.now) ∧ DuoE w0 X w' pb rb s t ∧ SameX X w w' := by
  obtain ⟨vr, vi, vo, ur, ui, uo, D⟩ := D
  exact (time_any D.p).mono fun e w' ⟨he, hb⟩ => ⟨he, DuoE.keep ⟨_, _, _, _, _, _, D⟩ (hb ▸ Kept.refl [] w)⟩
theorem d_time (D : DuoE w0 X w pb rb s t) :
    Calls Try.prog 59 #[.pointer (some ⟨rb, 0, none⟩)] w fun e w' => e = .returned (.int .u64 t.now) ∧ DuoE w0 X w' pb rb s t ∧ SameX X w w' := by
  obtain ⟨vr, vi, vo, ur, ui, uo, D⟩ := D
  exact (r_time_any D.r).mono fun e w' ⟨he, hb⟩ => ⟨he, DuoE.keep ⟨_, _, _, _, _, _, D⟩ (hb ▸ Kept.refl [] w)⟩
theorem p_off (D : DuoE w0 X w pb rb s t) :
    Calls Try.prog 37 #[.pointer (some ⟨pb, 0, none⟩)] w fun e w' => e = .returned (.tuple #[.int .i64 s.off, .int .i64 s.code]) ∧ DuoE w0 X w' pb rb s t ∧ SameX X w w' := by
  obtain ⟨vr, vi, vo, ur, ui, uo, D⟩ := D
  exact (off_any D.p).mono fun e w' ⟨he, n, hb⟩ => ⟨he, DuoE.keep ⟨_, _, _, _, _, _, D⟩ (hb ▸ (Kept.refl [] w).drewN n)⟩
theorem d_off (D : DuoE w0 X w pb rb s t) :
    Calls Try.prog 60 #[.pointer (some ⟨rb, 0, none⟩)] w fun e w' => e = .returned (.tuple #[.int .i64 t.off, .int .i64 t.code]) ∧ DuoE w0 X w' pb rb s t ∧ SameX X w w' := by
  obtain ⟨vr, vi, vo, ur, ui, uo, D⟩ := D
  exact (r_off_any D.r).mono fun e w' ⟨he, n, hb⟩ => ⟨he, DuoE.keep ⟨_, _, _, _, _, _, D⟩ (hb ▸ (Kept.refl [] w).drewN n)⟩
theorem p_output (D : DuoE w0 X w pb rb s t) (hs : s.Ok) :
    Calls Try.prog 26 #[.pointer (some ⟨pb, 0, none⟩)] w fun e w' => ∃ A c, e = .returned (.slice A s.out.length c) ∧ Bs w' (.slice A s.out.length c) s.out ∧ DuoE w0 X w' pb rb s t ∧ SameX X w w' := by
  obtain ⟨vr, vi, vo, ur, ui, uo, D⟩ := D
  exact (output_any D.p hs).mono fun e w' ⟨A, c, he, hb, hn, hp, hk⟩ => ⟨A, c, he, hb, D.stepP hp (kept_turn hk (foot_self _ _ _ _))⟩
theorem d_output (D : DuoE w0 X w pb rb s t) (ht : t.Ok) :
    Calls Try.prog 61 #[.pointer (some ⟨rb, 0, none⟩)] w fun e w' => ∃ A c, e = .returned (.slice A t.out.length c) ∧ Bs w' (.slice A t.out.length c) t.out ∧ Kept [] w w' := by
  obtain ⟨vr, vi, vo, ur, ui, uo, D⟩ := D
  exact (r_output_any D.r ht).mono fun e w' ⟨v', he, hb, hn, hk⟩ => by
    obtain ⟨A, c, rfl⟩ := hb.shape
    exact ⟨A, c, he, hb, hk⟩
theorem p_state (D : DuoE w0 X w pb rb s t) (hs : s.Ok) :
    Calls Try.prog 20 #[.pointer (some ⟨pb, 0, none⟩)] w fun e w' => ∃ v1 v2 v3, e = .returned (.agg (sCells v1 v2 v3 s)) ∧ Bs w' v1 s.ram ∧ Bs w' v2 s.inp ∧ Bs w' v3 s.out ∧ DuoE w0 X w' pb rb s t ∧ SameX X w w' := by
  obtain ⟨vr, vi, vo, ur, ui, uo, D⟩ := D
  exact (state_any D.p hs).mono fun e w' ⟨v1, v2, v3, he, h1, h2, h3, _, _, _, _, _, _, hp, hk⟩ => ⟨v1, v2, v3, he, h1, h2, h3, D.stepP hp (kept_turn hk (foot_self _ _ _ _))⟩
theorem d_state (D : DuoE w0 X w pb rb s t) (ht : t.Ok) :
    Calls Try.prog 21 #[.pointer (some ⟨rb, 0, none⟩)] w fun e w' => ∃ v1 v2 v3, e = .returned (.agg (sCells v1 v2 v3 t)) ∧ Bs w' v1 t.ram ∧ Bs w' v2 t.inp ∧ Bs w' v3 t.out ∧ Kept [] w w' := by
  obtain ⟨vr, vi, vo, ur, ui, uo, D⟩ := D
  exact (r_state_any D.r ht).mono fun e w' ⟨v1, v2, v3, he, h1, h2, h3, _, _, _, _, _, _, hk⟩ => ⟨v1, v2, v3, he, h1, h2, h3, hk⟩
set_option maxHeartbeats 8000000 in
set_option maxRecDepth 100000 in
theorem asks_4 (D : DuoE w0 X w pb rb s s) (hs : s.Ok) (o : OpV) (ho : o.At w0) (hk : o.kind = 4) :
    Calls Try.prog 35 #[.agg (pairCells pb rb), .agg o.cells] w (ChPost w0 X w pb rb s) := by
  obtain ⟨DB, R0, R1, SX⟩ := D.push2 (pairCells pb rb) o.cells 37 54
  have HR0 := Lib.hid R0
  have HR1 := Lib.hid R1
  have HSX := Lib.hid SX
  have HDB := Lib.hid DB
  have HS := Lib.hid hs
  have a0 := ho.ad.1
  have a1 := ho.ad.2
  have s0 := ho.nn.1
  have s1 := ho.nn.2
  have v0 := ho.vv.1
  have v1 := ho.vv.2
  obtain ⟨kind, addr, n, v, vb, b, tick, ext, soft, vw, l⟩ := o
  dsimp only at hk
  subst hk
  dsimp only [OpV.cells] at *
  clear ho
  have HL := Lib.hid (p_can HDB.out HS.out addr n (wrap64 v) a0 a1 s0 s1)
  obtain ⟨x, hx1⟩ : ∃ x, s.can addr n (wrap64 v) = x := ⟨_, rfl⟩
  have HX1 := Lib.hid hx1
  rw [hx1] at HL
  clear hx1
  clear D R0 R1 SX DB hs
  go_enter Try.func35, Try.ntmps35
  go_wp2_with (first
    | (go_at_call 51; refine HL.out.mono ?_; rintro e w2 ⟨rfl, D2, hx⟩; have R0a := Lib.hid ((hx w.heap.size (by simp)).trans HR0.out); have R1a := Lib.hid ((hx (w.heap.size + 1) (by simp)).trans HR1.out); have qa0 : w2.cell? ⟨w.heap.size, 1, none⟩ = some (.pointer (some ⟨rb, 0, none⟩)) := (row_cell R0a.out 1 _ rfl); have qa1 : w2.cell? ⟨w.heap.size + 1, 1, none⟩ = some (.int .u64 addr) := (row_cell R1a.out 1 _ rfl); have qa2 : w2.cell? ⟨w.heap.size + 1, 2, none⟩ = some (.int .i64 n) := (row_cell R1a.out 2 _ rfl); have qa3 : w2.cell? ⟨w.heap.size + 1, 3, none⟩ = some (.int .u64 v) := (row_cell R1a.out 3 _ rfl); have HD2 := Lib.hid D2; have HX2 := Lib.hid hx; clear D2 hx)
    | (go_at_call 52; refine (d_can HD2.out HS.out addr n (wrap64 v) a0 a1 s0 s1).mono ?_; rw [HX1.out]; rintro e w3 ⟨rfl, D3, hx⟩; have HD3 := Lib.hid D3; have HX3 := Lib.hid hx; clear D3 hx))
  all_goals
    go_ret
    exact ChPost.of HSX.out (HX2.out.trans HX3.out) (fun x hx => List.mem_cons_of_mem _ (List.mem_cons_of_mem _ hx)) HD3.out
set_option maxHeartbeats 8000000 in
set_option maxRecDepth 100000 in
theorem asks_5 (D : DuoE w0 X w pb rb s s) (hs : s.Ok) (o : OpV) (ho : o.At w0) (hk : o.kind = 5) :
    Calls Try.prog 35 #[.agg (pairCells pb rb), .agg o.cells] w (ChPost w0 X w pb rb s) := by
  obtain ⟨DB, R0, R1, SX⟩ := D.push2 (pairCells pb rb) o.cells 37 54
  have HR0 := Lib.hid R0
  have HR1 := Lib.hid R1
  have HSX := Lib.hid SX
  have HDB := Lib.hid DB
  have HS := Lib.hid hs
  have a0 := ho.ad.1
  have a1 := ho.ad.2
  have s0 := ho.nn.1
  have s1 := ho.nn.2
  have v0 := ho.vv.1
  have v1 := ho.vv.2
  obtain ⟨kind, addr, n, v, vb, b, tick, ext, soft, vw, l⟩ := o
  dsimp only at hk
  subst hk
  dsimp only [OpV.cells] at *
  clear ho
  have HL := Lib.hid (p_isram HDB.out HS.out addr n a0 a1 s0 s1)
  obtain ⟨x, hx1⟩ : ∃ x, inRam s.ram.length addr n = x := ⟨_, rfl⟩
  have HX1 := Lib.hid hx1
  rw [hx1] at HL
  clear hx1
  clear D R0 R1 SX DB hs
  go_enter Try.func35, Try.ntmps35
  go_wp2_with (first
    | (go_at_call 53; refine HL.out.mono ?_; rintro e w2 ⟨rfl, D2, hx⟩; have R0a := Lib.hid ((hx w.heap.size (by simp)).trans HR0.out); have R1a := Lib.hid ((hx (w.heap.size + 1) (by simp)).trans HR1.out); have qa0 : w2.cell? ⟨w.heap.size, 1, none⟩ = some (.pointer (some ⟨rb, 0, none⟩)) := (row_cell R0a.out 1 _ rfl); have qa1 : w2.cell? ⟨w.heap.size + 1, 1, none⟩ = some (.int .u64 addr) := (row_cell R1a.out 1 _ rfl); have qa2 : w2.cell? ⟨w.heap.size + 1, 2, none⟩ = some (.int .i64 n) := (row_cell R1a.out 2 _ rfl); have HD2 := Lib.hid D2; have HX2 := Lib.hid hx; clear D2 hx)
    | (go_at_call 54; refine (d_isram HD2.out HS.out addr n a0 a1 s1).mono ?_; rw [HX1.out]; rintro e w3 ⟨rfl, D3, hx⟩; have HD3 := Lib.hid D3; have HX3 := Lib.hid hx; clear D3 hx))
  all_goals
    go_ret
    exact ChPost.of HSX.out (HX2.out.trans HX3.out) (fun x hx => List.mem_cons_of_mem _ (List.mem_cons_of_mem _ hx)) HD3.out
set_option maxHeartbeats 8000000 in
set_option maxRecDepth 100000 in
theorem asks_6 (D : DuoE w0 X w pb rb s s) (hs : s.Ok) (o : OpV) (ho : o.At w0) (hk : o.kind = 6) :
    Calls Try.prog 35 #[.agg (pairCells pb rb), .agg o.cells] w (ChPost w0 X w pb rb s) := by
  obtain ⟨DB, R0, R1, SX⟩ := D.push2 (pairCells pb rb) o.cells 37 54
  have HR0 := Lib.hid R0
  have HR1 := Lib.hid R1
  have HSX := Lib.hid SX
  have HDB := Lib.hid DB
  have HS := Lib.hid hs
  have a0 := ho.ad.1
  have a1 := ho.ad.2
  have s0 := ho.nn.1
  have s1 := ho.nn.2
  have v0 := ho.vv.1
  have v1 := ho.vv.2
  obtain ⟨kind, addr, n, v, vb, b, tick, ext, soft, vw, l⟩ := o
  dsimp only at hk
  subst hk
  dsimp only [OpV.cells] at *
  clear ho
  have HL := Lib.hid (p_peek HDB.out HS.out addr n a0 a1 s0 s1)
  obtain ⟨x, y, hx1⟩ : ∃ x y, s.peek addr n = (x, y) := ⟨_, _, rfl⟩
  have HX1 := Lib.hid hx1
  rw [hx1] at HL
  clear hx1
  clear D R0 R1 SX DB hs
  go_enter Try.func35, Try.ntmps35
  go_wp2_with (first
    | (go_at_call 25; refine HL.out.mono ?_; rintro e w2 ⟨A, c, rfl, hb, hk2⟩; obtain ⟨D2, hx⟩ := HDB.out.keep hk2; have R0a := Lib.hid ((hx w.heap.size (by simp)).trans HR0.out); have R1a := Lib.hid ((hx (w.heap.size + 1) (by simp)).trans HR1.out); have qa0 : w2.cell? ⟨w.heap.size, 1, none⟩ = some (.pointer (some ⟨rb, 0, none⟩)) := (row_cell R0a.out 1 _ rfl); have qa1 : w2.cell? ⟨w.heap.size + 1, 1, none⟩ = some (.int .u64 addr) := (row_cell R1a.out 1 _ rfl); have qa2 : w2.cell? ⟨w.heap.size + 1, 2, none⟩ = some (.int .i64 n) := (row_cell R1a.out 2 _ rfl); have HBS := Lib.hid hb; have HD2 := Lib.hid D2; have HX2 := Lib.hid hx; clear D2 hx hb hk2)
    | (go_at_call 55; refine (d_peek HD2.out HS.out addr n a0 a1 s1).mono ?_; rw [HX1.out]; rintro e w3 ⟨A', c', rfl, hb, hk2⟩; obtain ⟨D3, hx⟩ := HD2.out.keep hk2; have hs1 := run_str w3 _ x (HBS.out.keep hk2 (by simp)).rd; have hs2 := run_str w3 _ x hb.rd; have HD3 := Lib.hid D3; have HX3 := Lib.hid hx; clear D3 hx hb hk2))
  all_goals
    go_ret
    exact ChPost.of HSX.out (HX2.out.trans HX3.out) (fun x hx => List.mem_cons_of_mem _ (List.mem_cons_of_mem _ hx)) HD3.out
set_option maxHeartbeats 8000000 in
set_option maxRecDepth 100000 in
theorem asks_10 (D : DuoE w0 X w pb rb s s) (hs : s.Ok) (o : OpV) (ho : o.At w0) (hk : o.kind = 10) :
    Calls Try.prog 35 #[.agg (pairCells pb rb), .agg o.cells] w (ChPost w0 X w pb rb s) := by
  obtain ⟨DB, R0, R1, SX⟩ := D.push2 (pairCells pb rb) o.cells 37 54
  have HR0 := Lib.hid R0
  have HR1 := Lib.hid R1
  have HSX := Lib.hid SX
  have HDB := Lib.hid DB
  have HS := Lib.hid hs
  have a0 := ho.ad.1
  have a1 := ho.ad.2
  have s0 := ho.nn.1
  have s1 := ho.nn.2
  have v0 := ho.vv.1
  have v1 := ho.vv.2
  obtain ⟨kind, addr, n, v, vb, b, tick, ext, soft, vw, l⟩ := o
  dsimp only at hk
  subst hk
  dsimp only [OpV.cells] at *
  clear ho
  have HL := Lib.hid (p_off HDB.out)
  clear D R0 R1 SX DB hs
  go_enter Try.func35, Try.ntmps35
  go_wp2_with (first
    | (go_at_call 37; refine HL.out.mono ?_; rintro e w2 ⟨rfl, D2, hx⟩; have R0a := Lib.hid ((hx w.heap.size (by simp)).trans HR0.out); have R1a := Lib.hid ((hx (w.heap.size + 1) (by simp)).trans HR1.out); have qa0 : w2.cell? ⟨w.heap.size, 1, none⟩ = some (.pointer (some ⟨rb, 0, none⟩)) := (row_cell R0a.out 1 _ rfl); have HD2 := Lib.hid D2; have HX2 := Lib.hid hx; clear D2 hx)
    | (go_at_call 60; refine (d_off HD2.out).mono ?_; rintro e w3 ⟨rfl, D3, hx⟩; have HD3 := Lib.hid D3; have HX3 := Lib.hid hx; clear D3 hx))
  all_goals
    go_ret
    exact ChPost.of HSX.out (HX2.out.trans HX3.out) (fun x hx => List.mem_cons_of_mem _ (List.mem_cons_of_mem _ hx)) HD3.out
set_option maxHeartbeats 8000000 in
set_option maxRecDepth 100000 in
theorem asks_8 (D : DuoE w0 X w pb rb s s) (hs : s.Ok) (o : OpV) (ho : o.At w0) (hk : o.kind = 8) :
    Calls Try.prog 35 #[.agg (pairCells pb rb), .agg o.cells] w (ChPost w0 X w pb rb s) := by
  obtain ⟨DB, R0, R1, SX⟩ := D.push2 (pairCells pb rb) o.cells 37 54
  have HR0 := Lib.hid R0
  have HR1 := Lib.hid R1
  have HSX := Lib.hid SX
  have HDB := Lib.hid DB
  have HS := Lib.hid hs
  have a0 := ho.ad.1
  have a1 := ho.ad.2
  have s0 := ho.nn.1
  have s1 := ho.nn.2
  have v0 := ho.vv.1
  have v1 := ho.vv.2
  obtain ⟨kind, addr, n, v, vb, b, tick, ext, soft, vw, l⟩ := o
  dsimp only at hk
  subst hk
  dsimp only [OpV.cells] at *
  clear ho
  have D1 := (HDB.out.keep (Kept.refl [] _).drew).1
  have HX1 := Lib.hid ((HDB.out.keep (Kept.refl [] _).drew).2)
  have R0d := Lib.hid ((HX1.out w.heap.size (by simp)).trans HR0.out)
  have R1d := Lib.hid ((HX1.out (w.heap.size + 1) (by simp)).trans HR1.out)
  have p0 := row_cell R0d.out 0 _ rfl
  have p1 := row_cell R0d.out 1 _ rfl
  have HL := Lib.hid (p_mip D1 HS.out)
  clear D1
  clear D R0 R1 SX DB hs
  go_enter Try.func35, Try.ntmps35
  go_wp2
  go_region_held3 (fun w' => w'.cell? ⟨w.heap.size, 0, none⟩ = some (.pointer (some ⟨pb, 0, none⟩)) ∧ w'.cell? ⟨w.heap.size, 1, none⟩ = some (.pointer (some ⟨rb, 0, none⟩))) (first | (refine ⟨?_, ?_⟩ <;> with_reducible assumption) | go_keep)
    (first
      | (go_at_call 56; (with_reducible refine HL.out.mono ?_); rintro e w2 ⟨rfl, D2, hx⟩; have R0a := Lib.hid ((hx w.heap.size (by simp)).trans R0d.out); have R1a := Lib.hid ((hx (w.heap.size + 1) (by simp)).trans R1d.out); have qa0 : w2.cell? ⟨w.heap.size, 0, none⟩ = some (.pointer (some ⟨pb, 0, none⟩)) := (row_cell R0a.out 0 _ rfl); have qa1 : w2.cell? ⟨w.heap.size, 1, none⟩ = some (.pointer (some ⟨rb, 0, none⟩)) := (row_cell R0a.out 1 _ rfl); have HD2 := Lib.hid D2; have HX2 := Lib.hid hx; clear D2 hx)
      | (go_at_call 57; refine (d_mip HD2.out HS.out).mono ?_; rintro e w3 ⟨rfl, D3, hx⟩; have R0b := Lib.hid ((hx w.heap.size (by simp)).trans R0a.out); have R1b := Lib.hid ((hx (w.heap.size + 1) (by simp)).trans R1a.out); have qb0 : w3.cell? ⟨w.heap.size, 0, none⟩ = some (.pointer (some ⟨pb, 0, none⟩)) := (row_cell R0b.out 0 _ rfl); have qb1 : w3.cell? ⟨w.heap.size, 1, none⟩ = some (.pointer (some ⟨rb, 0, none⟩)) := (row_cell R0b.out 1 _ rfl); have HD3 := Lib.hid D3; have HX3 := Lib.hid hx; clear D3 hx))
  all_goals
    go_wp2
    go_ret
    exact ChPost.of HSX.out (HX1.out.trans (HX2.out.trans HX3.out)) (fun x hx => List.mem_cons_of_mem _ (List.mem_cons_of_mem _ hx)) HD3.out
set_option maxHeartbeats 8000000 in
set_option maxRecDepth 100000 in
theorem asks_9 (D : DuoE w0 X w pb rb s s) (hs : s.Ok) (o : OpV) (ho : o.At w0) (hk : o.kind = 9) :
    Calls Try.prog 35 #[.agg (pairCells pb rb), .agg o.cells] w (ChPost w0 X w pb rb s) := by
  obtain ⟨DB, R0, R1, SX⟩ := D.push2 (pairCells pb rb) o.cells 37 54
  have HR0 := Lib.hid R0
  have HR1 := Lib.hid R1
  have HSX := Lib.hid SX
  have HDB := Lib.hid DB
  have HS := Lib.hid hs
  have a0 := ho.ad.1
  have a1 := ho.ad.2
  have s0 := ho.nn.1
  have s1 := ho.nn.2
  have v0 := ho.vv.1
  have v1 := ho.vv.2
  obtain ⟨kind, addr, n, v, vb, b, tick, ext, soft, vw, l⟩ := o
  dsimp only at hk
  subst hk
  dsimp only [OpV.cells] at *
  clear ho
  have D1 := (HDB.out.keep (Kept.refl [] _).drew).1
  have HX1 := Lib.hid ((HDB.out.keep (Kept.refl [] _).drew).2)
  have R0d := Lib.hid ((HX1.out w.heap.size (by simp)).trans HR0.out)
  have R1d := Lib.hid ((HX1.out (w.heap.size + 1) (by simp)).trans HR1.out)
  have p0 := row_cell R0d.out 0 _ rfl
  have p1 := row_cell R0d.out 1 _ rfl
  have HL := Lib.hid (p_time D1)
  clear D1
  clear D R0 R1 SX DB hs
  go_enter Try.func35, Try.ntmps35
  go_wp2
  go_region_held3 (fun w' => w'.cell? ⟨w.heap.size, 0, none⟩ = some (.pointer (some ⟨pb, 0, none⟩)) ∧ w'.cell? ⟨w.heap.size, 1, none⟩ = some (.pointer (some ⟨rb, 0, none⟩))) (first | (refine ⟨?_, ?_⟩ <;> with_reducible assumption) | go_keep)
    (first
      | (go_at_call 58; (with_reducible refine HL.out.mono ?_); rintro e w2 ⟨rfl, D2, hx⟩; have R0a := Lib.hid ((hx w.heap.size (by simp)).trans R0d.out); have R1a := Lib.hid ((hx (w.heap.size + 1) (by simp)).trans R1d.out); have qa0 : w2.cell? ⟨w.heap.size, 0, none⟩ = some (.pointer (some ⟨pb, 0, none⟩)) := (row_cell R0a.out 0 _ rfl); have qa1 : w2.cell? ⟨w.heap.size, 1, none⟩ = some (.pointer (some ⟨rb, 0, none⟩)) := (row_cell R0a.out 1 _ rfl); have HD2 := Lib.hid D2; have HX2 := Lib.hid hx; clear D2 hx)
      | (go_at_call 59; refine (d_time HD2.out).mono ?_; rintro e w3 ⟨rfl, D3, hx⟩; have R0b := Lib.hid ((hx w.heap.size (by simp)).trans R0a.out); have R1b := Lib.hid ((hx (w.heap.size + 1) (by simp)).trans R1a.out); have qb0 : w3.cell? ⟨w.heap.size, 0, none⟩ = some (.pointer (some ⟨pb, 0, none⟩)) := (row_cell R0b.out 0 _ rfl); have qb1 : w3.cell? ⟨w.heap.size, 1, none⟩ = some (.pointer (some ⟨rb, 0, none⟩)) := (row_cell R0b.out 1 _ rfl); have HD3 := Lib.hid D3; have HX3 := Lib.hid hx; clear D3 hx))
  all_goals
    go_wp2
    go_ret
    exact ChPost.of HSX.out (HX1.out.trans (HX2.out.trans HX3.out)) (fun x hx => List.mem_cons_of_mem _ (List.mem_cons_of_mem _ hx)) HD3.out
set_option maxHeartbeats 8000000 in
set_option maxRecDepth 100000 in
theorem asks_11 (D : DuoE w0 X w pb rb s s) (hs : s.Ok) (o : OpV) (ho : o.At w0) (hk : o.kind = 11) :
    Calls Try.prog 35 #[.agg (pairCells pb rb), .agg o.cells] w (ChPost w0 X w pb rb s) := by
  obtain ⟨DB, R0, R1, SX⟩ := D.push2 (pairCells pb rb) o.cells 37 54
  have HR0 := Lib.hid R0
  have HR1 := Lib.hid R1
  have HSX := Lib.hid SX
  have HDB := Lib.hid DB
  have HS := Lib.hid hs
  have a0 := ho.ad.1
  have a1 := ho.ad.2
  have s0 := ho.nn.1
  have s1 := ho.nn.2
  have v0 := ho.vv.1
  have v1 := ho.vv.2
  obtain ⟨kind, addr, n, v, vb, b, tick, ext, soft, vw, l⟩ := o
  dsimp only at hk
  subst hk
  dsimp only [OpV.cells] at *
  clear ho
  have D1 := (HDB.out.keep (Kept.refl [] _).drew).1
  have HX1 := Lib.hid ((HDB.out.keep (Kept.refl [] _).drew).2)
  have R0d := Lib.hid ((HX1.out w.heap.size (by simp)).trans HR0.out)
  have R1d := Lib.hid ((HX1.out (w.heap.size + 1) (by simp)).trans HR1.out)
  have p0 := row_cell R0d.out 0 _ rfl
  have p1 := row_cell R0d.out 1 _ rfl
  have HL := Lib.hid (p_output D1 HS.out)
  clear D1
  clear D R0 R1 SX DB hs
  go_enter Try.func35, Try.ntmps35
  go_wp2
  go_region_with (first
      | (go_at_call 26; refine HL.out.mono ?_; rintro e w2 ⟨A, c, rfl, hb, D2, hx⟩; have R0a := Lib.hid ((hx w.heap.size (by simp)).trans R0d.out); have R1a := Lib.hid ((hx (w.heap.size + 1) (by simp)).trans R1d.out); have qa0 : w2.cell? ⟨w.heap.size, 0, none⟩ = some (.pointer (some ⟨pb, 0, none⟩)) := (row_cell R0a.out 0 _ rfl); have qa1 : w2.cell? ⟨w.heap.size, 1, none⟩ = some (.pointer (some ⟨rb, 0, none⟩)) := (row_cell R0a.out 1 _ rfl); have hs0 := run_str w2 _ s.out hb.rd; have HBS := Lib.hid hb; have HD2 := Lib.hid D2; have HX2 := Lib.hid hx; clear D2 hx hb)
      | (go_at_call 61; refine (d_output HD2.out HS.out).mono ?_; rintro e w3 ⟨A', c', rfl, hb, hk2⟩; obtain ⟨D3, hx⟩ := HD2.out.keep hk2; have R0b := Lib.hid ((hx w.heap.size (by simp)).trans R0a.out); have R1b := Lib.hid ((hx (w.heap.size + 1) (by simp)).trans R1a.out); have qb0 : w3.cell? ⟨w.heap.size, 0, none⟩ = some (.pointer (some ⟨pb, 0, none⟩)) := (row_cell R0b.out 0 _ rfl); have qb1 : w3.cell? ⟨w.heap.size, 1, none⟩ = some (.pointer (some ⟨rb, 0, none⟩)) := (row_cell R0b.out 1 _ rfl); have hs1 := run_str w3 _ s.out (HBS.out.keep hk2 (by simp)).rd; have hs2 := run_str w3 _ s.out hb.rd; have HD3 := Lib.hid D3; have HX3 := Lib.hid hx; clear D3 hx hb hk2))
  all_goals
    go_wp2
    go_ret
    exact ChPost.of HSX.out (HX1.out.trans (HX2.out.trans HX3.out)) (fun x hx => List.mem_cons_of_mem _ (List.mem_cons_of_mem _ hx)) HD3.out
set_option maxHeartbeats 8000000 in
set_option maxRecDepth 100000 in
theorem asks_12 (D : DuoE w0 X w pb rb s s) (hs : s.Ok) (o : OpV) (ho : o.At w0) (hk : o.kind = 12) :
    Calls Try.prog 35 #[.agg (pairCells pb rb), .agg o.cells] w (ChPost w0 X w pb rb s) := by
  obtain ⟨DB, R0, R1, SX⟩ := D.push2 (pairCells pb rb) o.cells 37 54
  have HR0 := Lib.hid R0
  have HR1 := Lib.hid R1
  have HSX := Lib.hid SX
  have HDB := Lib.hid DB
  have HS := Lib.hid hs
  have a0 := ho.ad.1
  have a1 := ho.ad.2
  have s0 := ho.nn.1
  have s1 := ho.nn.2
  have v0 := ho.vv.1
  have v1 := ho.vv.2
  obtain ⟨kind, addr, n, v, vb, b, tick, ext, soft, vw, l⟩ := o
  dsimp only at hk
  subst hk
  dsimp only [OpV.cells] at *
  clear ho
  have D1 := (HDB.out.keep (Kept.refl [] _).drew).1
  have HX1 := Lib.hid ((HDB.out.keep (Kept.refl [] _).drew).2)
  have R0d := Lib.hid ((HX1.out w.heap.size (by simp)).trans HR0.out)
  have R1d := Lib.hid ((HX1.out (w.heap.size + 1) (by simp)).trans HR1.out)
  have p0 := row_cell R0d.out 0 _ rfl
  have p1 := row_cell R0d.out 1 _ rfl
  have HL := Lib.hid (p_state D1 HS.out)
  clear D1
  clear D R0 R1 SX DB hs
  go_enter Try.func35, Try.ntmps35
  go_wp2
  go_region_held3 (fun w' => w'.cell? ⟨w.heap.size, 0, none⟩ = some (.pointer (some ⟨pb, 0, none⟩)) ∧ w'.cell? ⟨w.heap.size, 1, none⟩ = some (.pointer (some ⟨rb, 0, none⟩))) (first | (refine ⟨?_, ?_⟩ <;> with_reducible assumption) | go_keep)
    (first
      | (go_at_call 20; (with_reducible refine HL.out.mono ?_); rintro e w2 ⟨u1, u2, u3, rfl, h1, h2, h3, D2, hx⟩; have R0a := Lib.hid ((hx w.heap.size (by simp)).trans R0d.out); have R1a := Lib.hid ((hx (w.heap.size + 1) (by simp)).trans R1d.out); have qa0 : w2.cell? ⟨w.heap.size, 0, none⟩ = some (.pointer (some ⟨pb, 0, none⟩)) := (row_cell R0a.out 0 _ rfl); have qa1 : w2.cell? ⟨w.heap.size, 1, none⟩ = some (.pointer (some ⟨rb, 0, none⟩)) := (row_cell R0a.out 1 _ rfl); have HBS := Lib.hid (And.intro h1 (And.intro h2 h3)); have HD2 := Lib.hid D2; have HX2 := Lib.hid hx; clear D2 hx h1 h2 h3)
      | (go_at_call 21; refine (d_state HD2.out HS.out).mono ?_; rintro e w3 ⟨y1, y2, y3, rfl, h1, h2, h3, hk2⟩; obtain ⟨D3, hx⟩ := HD2.out.keep hk2; have R0b := Lib.hid ((hx w.heap.size (by simp)).trans R0a.out); have R1b := Lib.hid ((hx (w.heap.size + 1) (by simp)).trans R1a.out); have qb0 : w3.cell? ⟨w.heap.size, 0, none⟩ = some (.pointer (some ⟨pb, 0, none⟩)) := (row_cell R0b.out 0 _ rfl); have qb1 : w3.cell? ⟨w.heap.size, 1, none⟩ = some (.pointer (some ⟨rb, 0, none⟩)) := (row_cell R0b.out 1 _ rfl); have HSA := Lib.hid (r_same_rd w3 s _ _ _ _ _ _ (HBS.out.1.keep hk2 (by simp)).rd (HBS.out.2.1.keep hk2 (by simp)).rd (HBS.out.2.2.keep hk2 (by simp)).rd h1.rd h2.rd h3.rd); have HD3 := Lib.hid D3; have HX3 := Lib.hid hx; clear D3 hx h1 h2 h3 hk2)
      | (go_at_call 19; refine HSA.out.mono ?_; rintro e w4 ⟨rfl, hb⟩; obtain ⟨D4, hx⟩ := HD3.out.keep (Kept.of_below (F := []) hb); have R0c := Lib.hid ((hx w.heap.size (by simp)).trans R0b.out); have R1c := Lib.hid ((hx (w.heap.size + 1) (by simp)).trans R1b.out); have qc0 : w4.cell? ⟨w.heap.size, 0, none⟩ = some (.pointer (some ⟨pb, 0, none⟩)) := (row_cell R0c.out 0 _ rfl); have qc1 : w4.cell? ⟨w.heap.size, 1, none⟩ = some (.pointer (some ⟨rb, 0, none⟩)) := (row_cell R0c.out 1 _ rfl); have HD4 := Lib.hid D4; have HX4 := Lib.hid hx; clear D4 hx hb))
  all_goals
    go_wp2
    go_ret
    exact ChPost.of HSX.out (HX1.out.trans (HX2.out.trans (HX3.out.trans HX4.out))) (fun x hx => List.mem_cons_of_mem _ (List.mem_cons_of_mem _ hx)) HD4.out
set_option maxHeartbeats 8000000 in
set_option maxRecDepth 100000 in
theorem asks_0 (D : DuoE w0 X w pb rb s s) (hs : s.Ok) (o : OpV) (ho : o.At w0) (h4 : ¬ o.kind = 4) (h5 : ¬ o.kind = 5) (h6 : ¬ o.kind = 6) (h8 : ¬ o.kind = 8) (h9 : ¬ o.kind = 9) (h10 : ¬ o.kind = 10) (h11 : ¬ o.kind = 11) (h12 : ¬ o.kind = 12) :
    Calls Try.prog 35 #[.agg (pairCells pb rb), .agg o.cells] w (ChPost w0 X w pb rb s) := by
  obtain ⟨DB, R0, R1, SX⟩ := D.push2 (pairCells pb rb) o.cells 37 54
  have HR0 := Lib.hid R0
  have HR1 := Lib.hid R1
  have HSX := Lib.hid SX
  have HDB := Lib.hid DB
  have HS := Lib.hid hs
  have a0 := ho.ad.1
  have a1 := ho.ad.2
  have s0 := ho.nn.1
  have s1 := ho.nn.2
  have v0 := ho.vv.1
  have v1 := ho.vv.2
  have b4 : (o.kind == 4) = false := by simpa using h4
  have b5 : (o.kind == 5) = false := by simpa using h5
  have b6 : (o.kind == 6) = false := by simpa using h6
  have b8 : (o.kind == 8) = false := by simpa using h8
  have b9 : (o.kind == 9) = false := by simpa using h9
  have b10 : (o.kind == 10) = false := by simpa using h10
  have b11 : (o.kind == 11) = false := by simpa using h11
  have b12 : (o.kind == 12) = false := by simpa using h12
  obtain ⟨kind, addr, n, v, vb, b, tick, ext, soft, vw, l⟩ := o
  dsimp only [OpV.cells] at *
  clear ho h4 h5 h6 h8 h9 h10 h11 h12
  clear D R0 R1 SX DB hs
  go_enter Try.func35, Try.ntmps35
  go_wp2
  go_ret
  exact ChPost.of HSX.out (SameX.of_kept HDB.out.xl (Kept.refl [] _)) (fun x hx => List.mem_cons_of_mem _ (List.mem_cons_of_mem _ hx)) HDB.out
theorem asks_any (D : DuoE w0 X w pb rb s s) (hs : s.Ok) (o : OpV) (ho : o.At w0) :
    Calls Try.prog 35 #[.agg (pairCells pb rb), .agg o.cells] w (ChPost w0 X w pb rb s) := by
  by_cases h4 : o.kind = 4
  · exact asks_4 D hs o ho h4
  by_cases h5 : o.kind = 5
  · exact asks_5 D hs o ho h5
  by_cases h6 : o.kind = 6
  · exact asks_6 D hs o ho h6
  by_cases h8 : o.kind = 8
  · exact asks_8 D hs o ho h8
  by_cases h9 : o.kind = 9
  · exact asks_9 D hs o ho h9
  by_cases h10 : o.kind = 10
  · exact asks_10 D hs o ho h10
  by_cases h11 : o.kind = 11
  · exact asks_11 D hs o ho h11
  by_cases h12 : o.kind = 12
  · exact asks_12 D hs o ho h12
  exact asks_0 D hs o ho h4 h5 h6 h8 h9 h10 h11 h12
end
end Go.Proofs.Ytkocfcgdjjdnhaa.BW
