/- The law BusMakes: it answers true. Premise: the state can be read. -/
import Derived.Test.YtkocfcgdjjdnhaaSolo
import Derived.Deep.OwnRows
namespace Go.Proofs.Ytkocfcgdjjdnhaa.BW
open Go.RowKit
set_option linter.unusedVariables false
set_option linter.unusedSimpArgs false
/-- A new bus of n bytes. -/
def newSt (n : Nat) : St := { ram := List.replicate n 0, inp := [], out := [], msip := 0, cmp := 18446744073709551615, now := 0, ier := 0, lcr := 0, mcr := 0, scr := 0, over := false, ext := false, soft := false, off := 0, code := 0 }
theorem newSt_ok {n : Nat} (h : fitsB n = true) : (newSt n).Ok := by
  unfold fitsB at h
  simp only [Bool.and_eq_true, decide_eq_true_eq] at h
  refine ⟨by simp [newSt]; omega, by simp [newSt]; omega, by simp [newSt]; omega, ?_, by simp [newSt], by intro x hx; simp [newSt] at hx, by simp [newSt], by intro x hx; simp [newSt] at hx, by simp [newSt], by simp [newSt], by simp [newSt], by simp [newSt], by simp [newSt], by simp [newSt], by simp [newSt], by simp [newSt], by simp [newSt]⟩
  intro x hx
  have := List.eq_of_mem_replicate hx
  omega
theorem made_cells (n : Nat) : (madeCells #[Value.int .u8 0] n).toList = u8s (List.replicate n 0) := by
  apply List.ext_getElem?
  intro i
  unfold madeCells u8s
  by_cases hi : i < n <;> simp [hi, Nat.mod_one]
/-- A row of bytes just made. -/
theorem Bs.made {w : World} {n : Nat} (hn : n ≤ maxLen) : Bs (w.alloc (.cells (madeCells #[.int .u8 0] n) 5)) (.slice (some ⟨w.heap.size, 0, none⟩) n n) (List.replicate n 0) := by
  refine ⟨by simp [u8s], .inr ⟨w.heap.size, n, madeCells #[.int .u8 0] n, by simp, Nat.zero_le _, ?_, by simp, hn, by rw [size_madeCells]; omega, ?_⟩⟩
  · exact heap_alloc_new w _
  · rw [made_cells]; simp [u8s]
section
variable {w : World}
def NewPost (w : World) (n : Nat) (e : Ending) (w' : World) : Prop :=
  ∃ b vr vi vo, e = .returned (.tuple #[.pointer (some ⟨b, 0, none⟩), .int .i64 0]) ∧ PL w' b vr vi vo (newSt n) ∧ (∀ x ∈ foot b vr vi vo, w.heap.size ≤ x) ∧ Kept [] w w'
def RNewPost (w : World) (n : Nat) (e : Ending) (w' : World) : Prop :=
  ∃ b vr vi vo, e = .returned (.tuple #[.pointer (some ⟨b, 0, none⟩), .int .i64 0]) ∧ RL w' b vr vi vo (newSt n) ∧ (∀ x ∈ foot b vr vi vo, w.heap.size ≤ x) ∧ Kept [] w w'
set_option maxHeartbeats 4000000 in
set_option maxRecDepth 100000 in
theorem new_no (n : Int) (n0 : -9223372036854775808 ≤ n) (n1 : n ≤ 9223372036854775807) (h : fitsB n = false) :
    Calls Try.prog 17 #[.int .i64 n] w fun e w' => e = .returned (.tuple #[.pointer none, .int .i64 1]) ∧ Kept [] w w' := by
  have HF := Lib.hid (fits_any w n n0 n1)
  rw [h] at HF
  clear h
  go_enter Try.func17, Try.ntmps17
  go_wp2_with (go_at_call 38; refine HF.out.mono ?_; rintro e w' ⟨rfl, rfl⟩)
  go_ret2
  exact ⟨rfl, Kept.refl _ _⟩
set_option maxHeartbeats 4000000 in
set_option maxRecDepth 100000 in
theorem r_new_no (n : Int) (n0 : -9223372036854775808 ≤ n) (n1 : n ≤ 9223372036854775807) (h : fitsB n = false) :
    Calls Try.prog 18 #[.int .i64 n] w fun e w' => e = .returned (.tuple #[.pointer none, .int .i64 1]) ∧ Kept [] w w' := by
  have hcase : n < 8 ∨ (8 ≤ n ∧ 65536 < n) ∨ (8 ≤ n ∧ n ≤ 65536 ∧ ¬ n % 8 = 0) := by
    unfold fitsB at h
    by_cases h1 : n < 8
    · exact .inl h1
    by_cases h2 : 65536 < n
    · exact .inr (.inl ⟨by omega, h2⟩)
    refine .inr (.inr ⟨by omega, by omega, fun h3 => ?_⟩)
    simp [h3] at h; omega
  rcases hcase with h1 | ⟨h1, h2⟩ | ⟨h1, h2, h3⟩
  · clear h
    go_enter Try.func18, Try.ntmps18
    go_wp2
    go_ret2
    exact ⟨rfl, Kept.refl _ _⟩
  · clear h
    go_enter Try.func18, Try.ntmps18
    go_wp2
    go_ret2
    exact ⟨rfl, Kept.refl _ _⟩
  · have t1 : n.tmod 8 = n % 8 := Int.tmod_eq_emod_of_nonneg (by omega)
    have b1 : (n % 8 != 0) = true := by simpa using h3
    clear h h3
    go_enter Try.func18, Try.ntmps18
    go_wp2
    go_ret2
    exact ⟨rfl, Kept.refl _ _⟩
set_option maxHeartbeats 4000000 in
set_option maxRecDepth 100000 in
theorem r_new_yes (n : Nat) (h : fitsB n = true) :
    Calls Try.prog 18 #[.int .i64 n] w (RNewPost w n) := by
  have h' := h
  unfold fitsB at h'
  simp only [Bool.and_eq_true, decide_eq_true_eq] at h'
  obtain ⟨h1, h2, h3⟩ := h'
  have t1 : (n : Int).tmod 8 = (n : Int) % 8 := Int.tmod_eq_emod_of_nonneg (by omega)
  have b1 : ((n : Int) % 8 != 0) = false := by simpa using h3
  have hmk := run_make_row' (P := Try.prog) 22 5 (.int .u8 0) 1 Try.underlying22 info5 rfl .i64 .i64 n (by omega) (by omega)
  have hb := Bs.made (w := w) (n := n) (by unfold maxLen; omega)
  have HP := Lib.hid (show RNewPost w n (.returned (.tuple #[.pointer (some ⟨w.heap.size + 1, 0, none⟩), .int .i64 0])) ((w.alloc (.cells (madeCells #[.int .u8 0] n) 5)).alloc (.cells #[.slice (some ⟨w.heap.size, 0, none⟩) n n, .int .u32 0, .int .u64 18446744073709551615, .int .u64 0, .bool false, .bool false, .int .u8 0, .int .u8 0, .int .u8 0, .int .u8 0, .bool false, .slice none 0 0, .slice none 0 0, .int .i64 0, .int .i64 0] 66)) from by
    have ka : Kept [] (w.alloc (.cells (madeCells #[.int .u8 0] n) 5)) ((w.alloc (.cells (madeCells #[.int .u8 0] n) 5)).alloc (.cells #[.slice (some ⟨w.heap.size, 0, none⟩) n n, .int .u32 0, .int .u64 18446744073709551615, .int .u64 0, .bool false, .bool false, .int .u8 0, .int .u8 0, .int .u8 0, .int .u8 0, .bool false, .slice none 0 0, .slice none 0 0, .int .i64 0, .int .i64 0] 66)) := (Kept.refl [] _).alloc _
    refine ⟨w.heap.size + 1, .slice (some ⟨w.heap.size, 0, none⟩) n n, .slice none 0 0, .slice none 0 0, rfl, ⟨heap_alloc2_new w _ _, ?_, Bs.nil _, Bs.nil _, ?_⟩, ?_, ((Kept.refl [] w).alloc _).trans ka (by simp)⟩
    · exact hb.keep ka (by simp)
    · rw [foot_nodup]; refine ⟨fun g hg => ?_, by simp [Value.ownBlock], by simp [Value.ownBlock], by simp [Value.ownBlock], by simp [Value.ownBlock], by simp [Value.ownBlock]⟩
      simp only [Value.ownBlock, Option.some.injEq] at hg; omega
    · intro x hx
      simp only [foot, Value.ownBlock, Option.toList_some, Option.toList_none, List.append_nil, List.mem_cons, List.not_mem_nil, or_false] at hx
      omega)
  clear h h3 hb
  go_enter Try.func18, Try.ntmps18
  go_wp2
  go_ret2
  exact HP.out
set_option maxHeartbeats 4000000 in
set_option maxRecDepth 100000 in
theorem new_yes (n : Nat) (h : fitsB n = true) :
    Calls Try.prog 17 #[.int .i64 n] w (NewPost w n) := by
  have h' := h
  unfold fitsB at h'
  simp only [Bool.and_eq_true, decide_eq_true_eq] at h'
  obtain ⟨h1, h2, h3⟩ := h'
  have HF := Lib.hid (fits_any w n (by omega) (by omega))
  rw [h] at HF
  have hmk := run_make_row' (P := Try.prog) 22 5 (.int .u8 0) 1 Try.underlying22 info5 rfl .i64 .i64 n (by omega) (by omega)
  have hb := Bs.made (w := w.alloc (.cells #[.slice (some ⟨w.heap.size + 1, 0, none⟩) n n, .int .i64 0, .int .i64 0, .int .u32 0, .int .u64 18446744073709551615, .int .u64 0, .int .i32 0, .int .u32 0, .slice none 0 0, .slice none 0 0, .int .u8 0, .int .u8 0, .int .u8 0, .int .u8 0, .bool false, .bool false, .bool false] 85)) (n := n) (by unfold maxLen; omega)
  rw [show (w.alloc (.cells #[.slice (some ⟨w.heap.size + 1, 0, none⟩) n n, .int .i64 0, .int .i64 0, .int .u32 0, .int .u64 18446744073709551615, .int .u64 0, .int .i32 0, .int .u32 0, .slice none 0 0, .slice none 0 0, .int .u8 0, .int .u8 0, .int .u8 0, .int .u8 0, .bool false, .bool false, .bool false] 85)).heap.size = w.heap.size + 1 by simp] at hb
  have HP := Lib.hid (show NewPost w n (.returned (.tuple #[.pointer (some ⟨w.heap.size, 0, none⟩), .int .i64 0])) ((w.alloc (.cells #[.slice (some ⟨w.heap.size + 1, 0, none⟩) n n, .int .i64 0, .int .i64 0, .int .u32 0, .int .u64 18446744073709551615, .int .u64 0, .int .i32 0, .int .u32 0, .slice none 0 0, .slice none 0 0, .int .u8 0, .int .u8 0, .int .u8 0, .int .u8 0, .bool false, .bool false, .bool false] 85)).alloc (.cells (madeCells #[.int .u8 0] n) 5)) from by
    refine ⟨w.heap.size, .slice (some ⟨w.heap.size + 1, 0, none⟩) n n, .slice none 0 0, .slice none 0 0, rfl, ⟨heap_alloc2_old w _ _, hb, Bs.nil _, Bs.nil _, ?_⟩, fun x hx => ?_, ((Kept.refl [] w).alloc _).alloc _⟩
    · rw [foot_nodup]; refine ⟨fun g hg => ?_, by simp [Value.ownBlock], by simp [Value.ownBlock], by simp [Value.ownBlock], by simp [Value.ownBlock], by simp [Value.ownBlock]⟩
      simp only [Value.ownBlock, Option.some.injEq] at hg; omega
    · simp only [foot, Value.ownBlock, Option.toList_some, Option.toList_none, List.append_nil, List.mem_cons, List.not_mem_nil, or_false] at hx
      omega)
  clear h h3 hb
  go_enter Try.func17, Try.ntmps17
  go_wp2_with (go_at_call 38; refine HF.out.mono ?_; rintro e w' ⟨rfl, rfl⟩)
  go_ret2
  exact HP.out
/-! ### The law -/
set_option maxHeartbeats 8000000 in
set_option maxRecDepth 100000 in
theorem makes_yy (w : World) (s : St) (hs : s.In) (A B C : Option Addr) (c d e : Nat) (h1 : Rd w (.slice A s.ram.length c) s.ram) (h2 : Rd w (.slice B s.inp.length d) s.inp) (h3 : Rd w (.slice C s.out.length e) s.out) (n : Nat) (hn : (s.ram.length : Int) + s.msip % 3 - s.mcr % 2 = n) (hf : fitsB n = true) (hc : s.canBe = true) :
    Calls Try.prog 3 #[.agg (sCells (.slice A s.ram.length c) (.slice B s.inp.length d) (.slice C s.out.length e) s)] w (TruePost w) := by
  have hrl := hs.rl
  have m0 := hs.m.1
  have m1 := hs.m.2
  have c0 := hs.mc.1
  have c1 := hs.mc.2
  have t1 : s.msip.tmod 3 = s.msip % 3 := Int.tmod_eq_emod_of_nonneg m0
  have t2 : s.mcr.tmod 2 = s.mcr % 2 := Int.tmod_eq_emod_of_nonneg c0
  have e0 : 0 ≤ s.msip % 3 := by omega
  have e1 : s.msip % 3 ≤ 2 := by omega
  have e2 : 0 ≤ s.mcr % 2 := by omega
  have e3 : s.mcr % 2 ≤ 1 := by omega
  have kA : Kept [] w (w.alloc (.cells (sCells (.slice A s.ram.length c) (.slice B s.inp.length d) (.slice C s.out.length e) s) 26)) := (Kept.refl [] w).alloc _
  have hrow : (w.alloc (.cells (sCells (.slice A s.ram.length c) (.slice B s.inp.length d) (.slice C s.out.length e) s) 26)).heap[w.heap.size]? = some (.cells (sCells (.slice A s.ram.length c) (.slice B s.inp.length d) (.slice C s.out.length e) s) 26 (0, 0)) := heap_alloc_new w _
  have HROW := Lib.hid hrow
  have HK := Lib.hid kA
  have HR1 := Lib.hid (h1.keep kA (by simp))
  have HR2 := Lib.hid (h2.keep kA (by simp))
  have HR3 := Lib.hid (h3.keep kA (by simp))
  have HSI := Lib.hid hs
  have HCB := Lib.hid hc
  have HNEW := Lib.hid (new_yes (w := w.alloc (.cells (sCells (.slice A s.ram.length c) (.slice B s.inp.length d) (.slice C s.out.length e) s) 26)) n hf)
  have HOK := Lib.hid (newSt_ok hf)
  have HFT := Lib.hid hf
  have n0 : -9223372036854775808 ≤ (n : Int) := by omega
  have n1 : (n : Int) ≤ 9223372036854775807 := by omega
  have HSOK := Lib.hid (hs.ok hc)
  clear h1 h2 h3 hs hc kA hrow hf
  unfold sCells at *
  go_enter Try.func3, Try.ntmps3
  go_wp2_with (first
    | (go_at_call 17; refine HNEW.out.mono ?_; rintro e w2 ⟨pb, vr, vi, vo, rfl, hp, hfo, hk⟩; have HP2 := Lib.hid hp; have HF2 := Lib.hid hfo; have HK2 := Lib.hid hk; clear hp hfo hk)
    | (go_at_call 18; refine (r_new_yes (w := w2) n HFT.out).mono ?_; rintro e w3 ⟨rb, ur, ui, uo, rfl, hr, hfo, hk⟩; have HD3 := Lib.hid (show DuoE _ [] w3 pb rb (newSt n) (newSt n) from ⟨_, _, _, _, _, _, HP2.out.keep0 hk, hr, fun x hx => ⟨HF2.out x hx, by simp⟩, fun x hx => ⟨Nat.le_trans HK2.out.size (hfo x hx), by simp⟩, fun x hx hm => by have := HP2.out.lt x hx; have := hfo x hm; omega, HK2.out.trans hk (by simp), by simp⟩); clear hr hfo hk)
    | (go_at_call 20; refine (p_state HD3.out HOK.out).mono ?_; rintro e w4 ⟨u1, u2, u3, rfl, b1, b2, b3, D4, hx⟩; have HD4 := Lib.hid D4; have HBS := Lib.hid (And.intro b1 (And.intro b2 b3)); clear D4 hx b1 b2 b3)
    | (go_at_call 21; refine (d_state HD4.out HOK.out).mono ?_; rintro e w5 ⟨y1, y2, y3, rfl, b1, b2, b3, hk⟩; have HK5 := Lib.hid (HD4.out.kept.trans hk (by simp)); have HSA := Lib.hid (r_same_rd w5 _ _ _ _ _ _ _ (HBS.out.1.keep hk (by simp)).rd (HBS.out.2.1.keep hk (by simp)).rd (HBS.out.2.2.keep hk (by simp)).rd b1.rd b2.rd b3.rd); clear hk b1 b2 b3)
    | (go_at_call 19; refine HSA.out.mono ?_; rintro e w6 ⟨rfl, hb⟩; have hk6 := HK5.out.trans (Kept.of_below (F := []) hb) (by simp); have HK6 := Lib.hid hk6; have HR6 := Lib.hid (hk6.row HROW.out (by simp)); clear hb hk6)
    | ((with_reducible refine gate_n (N := 55) rfl ?_); refine wpList_load_row rfl 26 (.tmp 1) rfl w.heap.size rfl 26 _ (0, 0) _ HR6.out Try.underlying26 rfl (by kernel_rfl) ?_)
    | (go_at_call 22; refine (begin_yes w6 s HSI.out A B C _ _ _ c d e (HR1.out.keep HK6.out (by simp)) (HR2.out.keep HK6.out (by simp)) (HR3.out.keep HK6.out (by simp)) HCB.out).mono ?_; rintro e w7 ⟨pb', rb', rfl, hD⟩; obtain ⟨hz, D8, hM, hx8⟩ := hD.pairbox2 rfl; have hk8 := HK6.out.trans D8.kept (by simp); have HZ8 := Lib.hid hz; have HD8 := Lib.hid D8; have HM8 := Lib.hid hM; have HK8 := Lib.hid hk8; clear hD hz D8 hM hx8 hk8)
    | (refine wpList_store_row rfl 37 (.tmp 9) (.tmp 57) rfl w7.heap.size _ rfl rfl 37 _ HZ8.out (by kernel_rfl) rfl (by simp [Value.oneCell']) ?_))
  obtain ⟨DX, hxx⟩ := HD8.out.keep (Kept.refl [] _).drew
  have HMX := Lib.hid ((hxx w7.heap.size (by simp)).trans HM8.out)
  have kX := HK8.out.drew
  have rX := kX.row HROW.out (by simp)
  have HRX := Lib.hid rX
  have p0 := row_cell HMX.out 0 _ rfl
  have p15 := cells15 rX
  have HST := Lib.hid (p_state DX HSOK.out)
  have HKX := Lib.hid (HK.out.trans kX (by simp))
  have HW1 := Lib.hid kX
  clear DX hxx kX rX
  go_region_held3 (fun w' => w'.cell? ⟨w7.heap.size, 0, none⟩ = some (.pointer (some ⟨pb', 0, none⟩)) ∧ w'.cell? ⟨w.heap.size, 0, none⟩ = some (.slice A s.ram.length c) ∧ w'.cell? ⟨w.heap.size, 1, none⟩ = some (.int .u32 s.msip) ∧ w'.cell? ⟨w.heap.size, 2, none⟩ = some (.int .u64 s.cmp) ∧ w'.cell? ⟨w.heap.size, 3, none⟩ = some (.int .u64 s.now) ∧ w'.cell? ⟨w.heap.size, 4, none⟩ = some (.bool s.ext) ∧ w'.cell? ⟨w.heap.size, 5, none⟩ = some (.bool s.soft) ∧ w'.cell? ⟨w.heap.size, 6, none⟩ = some (.int .u8 s.ier) ∧ w'.cell? ⟨w.heap.size, 7, none⟩ = some (.int .u8 s.lcr) ∧ w'.cell? ⟨w.heap.size, 8, none⟩ = some (.int .u8 s.mcr) ∧ w'.cell? ⟨w.heap.size, 9, none⟩ = some (.int .u8 s.scr) ∧ w'.cell? ⟨w.heap.size, 10, none⟩ = some (.bool s.over) ∧ w'.cell? ⟨w.heap.size, 11, none⟩ = some (.slice B s.inp.length d) ∧ w'.cell? ⟨w.heap.size, 12, none⟩ = some (.slice C s.out.length e) ∧ w'.cell? ⟨w.heap.size, 13, none⟩ = some (.int .i64 s.off) ∧ w'.cell? ⟨w.heap.size, 14, none⟩ = some (.int .i64 s.code)) (first | (refine ⟨?_, ?_⟩ <;> with_reducible assumption) | go_keep)
    (first
      | (go_at_call 20; (with_reducible refine HST.out.mono ?_); rintro e w9 ⟨x1, x2, x3, rfl, b1, b2, b3, D9, hx⟩; have hm9 := (hx w7.heap.size (by simp)).trans HMX.out; have q0 := row_cell hm9 0 _ rfl; have HM9 := Lib.hid hm9; have hk9 := HK6.out.trans D9.kept (by simp); have HK9 := Lib.hid hk9; have HR9 := Lib.hid (hk9.row HROW.out (by simp)); have q15 := cells15 (hk9.row HROW.out (by simp)); have HBX := Lib.hid (And.intro b1 (And.intro b2 b3)); clear D9 hx b1 b2 b3 hm9 hk9)
      | (go_at_call 19; refine (r_same_rd w9 s _ _ _ _ _ _ HBX.out.1.rd HBX.out.2.1.rd HBX.out.2.2.rd (HR1.out.keep HK9.out (by simp)) (HR2.out.keep HK9.out (by simp)) (HR3.out.keep HK9.out (by simp))).mono ?_; rintro e w10 ⟨rfl, hb⟩; have hkb := Kept.of_below (F := []) hb; have r0 := row_cell (hkb.row HM9.out (by simp)) 0 _ rfl; have r15 := cells15 (hkb.row HR9.out (by simp)); have HKE := Lib.hid ((HK.out.trans HK9.out (by simp)).trans hkb (by simp)); clear hb hkb))
  all_goals
    go_wp2
    go_ret
    exact ⟨rfl, HKE.out⟩
set_option maxHeartbeats 8000000 in
set_option maxRecDepth 100000 in
theorem makes_yn (w : World) (s : St) (hs : s.In) (A B C : Option Addr) (c d e : Nat) (h1 : Rd w (.slice A s.ram.length c) s.ram) (h2 : Rd w (.slice B s.inp.length d) s.inp) (h3 : Rd w (.slice C s.out.length e) s.out) (n : Nat) (hn : (s.ram.length : Int) + s.msip % 3 - s.mcr % 2 = n) (hf : fitsB n = true) (hc : s.canBe = false) :
    Calls Try.prog 3 #[.agg (sCells (.slice A s.ram.length c) (.slice B s.inp.length d) (.slice C s.out.length e) s)] w (TruePost w) := by
  have hrl := hs.rl
  have m0 := hs.m.1
  have m1 := hs.m.2
  have c0 := hs.mc.1
  have c1 := hs.mc.2
  have t1 : s.msip.tmod 3 = s.msip % 3 := Int.tmod_eq_emod_of_nonneg m0
  have t2 : s.mcr.tmod 2 = s.mcr % 2 := Int.tmod_eq_emod_of_nonneg c0
  have e0 : 0 ≤ s.msip % 3 := by omega
  have e1 : s.msip % 3 ≤ 2 := by omega
  have e2 : 0 ≤ s.mcr % 2 := by omega
  have e3 : s.mcr % 2 ≤ 1 := by omega
  have kA : Kept [] w (w.alloc (.cells (sCells (.slice A s.ram.length c) (.slice B s.inp.length d) (.slice C s.out.length e) s) 26)) := (Kept.refl [] w).alloc _
  have hrow : (w.alloc (.cells (sCells (.slice A s.ram.length c) (.slice B s.inp.length d) (.slice C s.out.length e) s) 26)).heap[w.heap.size]? = some (.cells (sCells (.slice A s.ram.length c) (.slice B s.inp.length d) (.slice C s.out.length e) s) 26 (0, 0)) := heap_alloc_new w _
  have HROW := Lib.hid hrow
  have HK := Lib.hid kA
  have HR1 := Lib.hid (h1.keep kA (by simp))
  have HR2 := Lib.hid (h2.keep kA (by simp))
  have HR3 := Lib.hid (h3.keep kA (by simp))
  have HSI := Lib.hid hs
  have HCB := Lib.hid hc
  have HNEW := Lib.hid (new_yes (w := w.alloc (.cells (sCells (.slice A s.ram.length c) (.slice B s.inp.length d) (.slice C s.out.length e) s) 26)) n hf)
  have HOK := Lib.hid (newSt_ok hf)
  have HFT := Lib.hid hf
  have n0 : -9223372036854775808 ≤ (n : Int) := by omega
  have n1 : (n : Int) ≤ 9223372036854775807 := by omega
  clear h1 h2 h3 hs hc kA hrow hf
  unfold sCells at *
  go_enter Try.func3, Try.ntmps3
  go_wp2_with (first
    | (go_at_call 17; refine HNEW.out.mono ?_; rintro e w2 ⟨pb, vr, vi, vo, rfl, hp, hfo, hk⟩; have HP2 := Lib.hid hp; have HF2 := Lib.hid hfo; have HK2 := Lib.hid hk; clear hp hfo hk)
    | (go_at_call 18; refine (r_new_yes (w := w2) n HFT.out).mono ?_; rintro e w3 ⟨rb, ur, ui, uo, rfl, hr, hfo, hk⟩; have HD3 := Lib.hid (show DuoE _ [] w3 pb rb (newSt n) (newSt n) from ⟨_, _, _, _, _, _, HP2.out.keep0 hk, hr, fun x hx => ⟨HF2.out x hx, by simp⟩, fun x hx => ⟨Nat.le_trans HK2.out.size (hfo x hx), by simp⟩, fun x hx hm => by have := HP2.out.lt x hx; have := hfo x hm; omega, HK2.out.trans hk (by simp), by simp⟩); clear hr hfo hk)
    | (go_at_call 20; refine (p_state HD3.out HOK.out).mono ?_; rintro e w4 ⟨u1, u2, u3, rfl, b1, b2, b3, D4, hx⟩; have HD4 := Lib.hid D4; have HBS := Lib.hid (And.intro b1 (And.intro b2 b3)); clear D4 hx b1 b2 b3)
    | (go_at_call 21; refine (d_state HD4.out HOK.out).mono ?_; rintro e w5 ⟨y1, y2, y3, rfl, b1, b2, b3, hk⟩; have HK5 := Lib.hid (HD4.out.kept.trans hk (by simp)); have HSA := Lib.hid (r_same_rd w5 _ _ _ _ _ _ _ (HBS.out.1.keep hk (by simp)).rd (HBS.out.2.1.keep hk (by simp)).rd (HBS.out.2.2.keep hk (by simp)).rd b1.rd b2.rd b3.rd); clear hk b1 b2 b3)
    | (go_at_call 19; refine HSA.out.mono ?_; rintro e w6 ⟨rfl, hb⟩; have hk6 := HK5.out.trans (Kept.of_below (F := []) hb) (by simp); have HK6 := Lib.hid hk6; have HR6 := Lib.hid (hk6.row HROW.out (by simp)); clear hb hk6)
    | ((with_reducible refine gate_n (N := 55) rfl ?_); refine wpList_load_row rfl 26 (.tmp 1) rfl w.heap.size rfl 26 _ (0, 0) _ HR6.out Try.underlying26 rfl (by kernel_rfl) ?_)
    | (go_at_call 22; refine (begin_no w6 s HSI.out A B C _ _ _ c d e (HR1.out.keep HK6.out (by simp)) (HR2.out.keep HK6.out (by simp)) (HR3.out.keep HK6.out (by simp)) HCB.out).mono ?_; rintro e w7 ⟨rfl, hk⟩; have HK7 := Lib.hid ((HK.out.trans HK6.out (by simp)).trans hk (by simp)); clear hk))
  go_ret
  exact ⟨rfl, HK7.out.alloc _⟩
set_option maxHeartbeats 8000000 in
set_option maxRecDepth 100000 in
theorem makes_ny (w : World) (s : St) (hs : s.In) (A B C : Option Addr) (c d e : Nat) (h1 : Rd w (.slice A s.ram.length c) s.ram) (h2 : Rd w (.slice B s.inp.length d) s.inp) (h3 : Rd w (.slice C s.out.length e) s.out) (n : Int) (hn : (s.ram.length : Int) + s.msip % 3 - s.mcr % 2 = n) (hf : fitsB n = false) (hc : s.canBe = true) :
    Calls Try.prog 3 #[.agg (sCells (.slice A s.ram.length c) (.slice B s.inp.length d) (.slice C s.out.length e) s)] w (TruePost w) := by
  have hrl := hs.rl
  have m0 := hs.m.1
  have m1 := hs.m.2
  have c0 := hs.mc.1
  have c1 := hs.mc.2
  have t1 : s.msip.tmod 3 = s.msip % 3 := Int.tmod_eq_emod_of_nonneg m0
  have t2 : s.mcr.tmod 2 = s.mcr % 2 := Int.tmod_eq_emod_of_nonneg c0
  have e0 : 0 ≤ s.msip % 3 := by omega
  have e1 : s.msip % 3 ≤ 2 := by omega
  have e2 : 0 ≤ s.mcr % 2 := by omega
  have e3 : s.mcr % 2 ≤ 1 := by omega
  have kA : Kept [] w (w.alloc (.cells (sCells (.slice A s.ram.length c) (.slice B s.inp.length d) (.slice C s.out.length e) s) 26)) := (Kept.refl [] w).alloc _
  have hrow : (w.alloc (.cells (sCells (.slice A s.ram.length c) (.slice B s.inp.length d) (.slice C s.out.length e) s) 26)).heap[w.heap.size]? = some (.cells (sCells (.slice A s.ram.length c) (.slice B s.inp.length d) (.slice C s.out.length e) s) 26 (0, 0)) := heap_alloc_new w _
  have HROW := Lib.hid hrow
  have HK := Lib.hid kA
  have HR1 := Lib.hid (h1.keep kA (by simp))
  have HR2 := Lib.hid (h2.keep kA (by simp))
  have HR3 := Lib.hid (h3.keep kA (by simp))
  have HSI := Lib.hid hs
  have HCB := Lib.hid hc
  have HNEW := Lib.hid (new_no (w := w.alloc (.cells (sCells (.slice A s.ram.length c) (.slice B s.inp.length d) (.slice C s.out.length e) s) 26)) n (by omega) (by omega) hf)
  have HFT := Lib.hid hf
  have n0 : -9223372036854775808 ≤ (n : Int) := by omega
  have n1 : (n : Int) ≤ 9223372036854775807 := by omega
  have HSOK := Lib.hid (hs.ok hc)
  clear h1 h2 h3 hs hc kA hrow hf
  unfold sCells at *
  go_enter Try.func3, Try.ntmps3
  go_wp2_with (first
    | (go_at_call 17; refine HNEW.out.mono ?_; rintro e w2 ⟨rfl, hk⟩; have HK2 := Lib.hid hk; clear hk)
    | (go_at_call 18; refine (r_new_no (w := w2) n n0 n1 HFT.out).mono ?_; rintro e w6 ⟨rfl, hk⟩; have hk6 := HK2.out.trans hk (by simp); have HK6 := Lib.hid hk6; have HR6 := Lib.hid (hk6.row HROW.out (by simp)); clear hk hk6)
    | ((with_reducible refine gate_n (N := 55) rfl ?_); refine wpList_load_row rfl 26 (.tmp 1) rfl w.heap.size rfl 26 _ (0, 0) _ HR6.out Try.underlying26 rfl (by kernel_rfl) ?_)
    | (go_at_call 22; refine (begin_yes w6 s HSI.out A B C _ _ _ c d e (HR1.out.keep HK6.out (by simp)) (HR2.out.keep HK6.out (by simp)) (HR3.out.keep HK6.out (by simp)) HCB.out).mono ?_; rintro e w7 ⟨pb', rb', rfl, hD⟩; obtain ⟨hz, D8, hM, hx8⟩ := hD.pairbox2 rfl; have hk8 := HK6.out.trans D8.kept (by simp); have HZ8 := Lib.hid hz; have HD8 := Lib.hid D8; have HM8 := Lib.hid hM; have HK8 := Lib.hid hk8; clear hD hz D8 hM hx8 hk8)
    | (refine wpList_store_row rfl 37 (.tmp 9) (.tmp 57) rfl w7.heap.size _ rfl rfl 37 _ HZ8.out (by kernel_rfl) rfl (by simp [Value.oneCell']) ?_))
  obtain ⟨DX, hxx⟩ := HD8.out.keep (Kept.refl [] _).drew
  have HMX := Lib.hid ((hxx w7.heap.size (by simp)).trans HM8.out)
  have kX := HK8.out.drew
  have rX := kX.row HROW.out (by simp)
  have HRX := Lib.hid rX
  have p0 := row_cell HMX.out 0 _ rfl
  have p15 := cells15 rX
  have HST := Lib.hid (p_state DX HSOK.out)
  have HKX := Lib.hid (HK.out.trans kX (by simp))
  have HW1 := Lib.hid kX
  clear DX hxx kX rX
  go_region_held3 (fun w' => w'.cell? ⟨w7.heap.size, 0, none⟩ = some (.pointer (some ⟨pb', 0, none⟩)) ∧ w'.cell? ⟨w.heap.size, 0, none⟩ = some (.slice A s.ram.length c) ∧ w'.cell? ⟨w.heap.size, 1, none⟩ = some (.int .u32 s.msip) ∧ w'.cell? ⟨w.heap.size, 2, none⟩ = some (.int .u64 s.cmp) ∧ w'.cell? ⟨w.heap.size, 3, none⟩ = some (.int .u64 s.now) ∧ w'.cell? ⟨w.heap.size, 4, none⟩ = some (.bool s.ext) ∧ w'.cell? ⟨w.heap.size, 5, none⟩ = some (.bool s.soft) ∧ w'.cell? ⟨w.heap.size, 6, none⟩ = some (.int .u8 s.ier) ∧ w'.cell? ⟨w.heap.size, 7, none⟩ = some (.int .u8 s.lcr) ∧ w'.cell? ⟨w.heap.size, 8, none⟩ = some (.int .u8 s.mcr) ∧ w'.cell? ⟨w.heap.size, 9, none⟩ = some (.int .u8 s.scr) ∧ w'.cell? ⟨w.heap.size, 10, none⟩ = some (.bool s.over) ∧ w'.cell? ⟨w.heap.size, 11, none⟩ = some (.slice B s.inp.length d) ∧ w'.cell? ⟨w.heap.size, 12, none⟩ = some (.slice C s.out.length e) ∧ w'.cell? ⟨w.heap.size, 13, none⟩ = some (.int .i64 s.off) ∧ w'.cell? ⟨w.heap.size, 14, none⟩ = some (.int .i64 s.code)) (first | (refine ⟨?_, ?_⟩ <;> with_reducible assumption) | go_keep)
    (first
      | (go_at_call 20; (with_reducible refine HST.out.mono ?_); rintro e w9 ⟨x1, x2, x3, rfl, b1, b2, b3, D9, hx⟩; have hm9 := (hx w7.heap.size (by simp)).trans HMX.out; have q0 := row_cell hm9 0 _ rfl; have HM9 := Lib.hid hm9; have hk9 := HK6.out.trans D9.kept (by simp); have HK9 := Lib.hid hk9; have HR9 := Lib.hid (hk9.row HROW.out (by simp)); have q15 := cells15 (hk9.row HROW.out (by simp)); have HBX := Lib.hid (And.intro b1 (And.intro b2 b3)); clear D9 hx b1 b2 b3 hm9 hk9)
      | (go_at_call 19; refine (r_same_rd w9 s _ _ _ _ _ _ HBX.out.1.rd HBX.out.2.1.rd HBX.out.2.2.rd (HR1.out.keep HK9.out (by simp)) (HR2.out.keep HK9.out (by simp)) (HR3.out.keep HK9.out (by simp))).mono ?_; rintro e w10 ⟨rfl, hb⟩; have hkb := Kept.of_below (F := []) hb; have r0 := row_cell (hkb.row HM9.out (by simp)) 0 _ rfl; have r15 := cells15 (hkb.row HR9.out (by simp)); have HKE := Lib.hid ((HK.out.trans HK9.out (by simp)).trans hkb (by simp)); clear hb hkb))
  all_goals
    go_wp2
    go_ret
    exact ⟨rfl, HKE.out⟩
set_option maxHeartbeats 8000000 in
set_option maxRecDepth 100000 in
theorem makes_nn (w : World) (s : St) (hs : s.In) (A B C : Option Addr) (c d e : Nat) (h1 : Rd w (.slice A s.ram.length c) s.ram) (h2 : Rd w (.slice B s.inp.length d) s.inp) (h3 : Rd w (.slice C s.out.length e) s.out) (n : Int) (hn : (s.ram.length : Int) + s.msip % 3 - s.mcr % 2 = n) (hf : fitsB n = false) (hc : s.canBe = false) :
    Calls Try.prog 3 #[.agg (sCells (.slice A s.ram.length c) (.slice B s.inp.length d) (.slice C s.out.length e) s)] w (TruePost w) := by
  have hrl := hs.rl
  have m0 := hs.m.1
  have m1 := hs.m.2
  have c0 := hs.mc.1
  have c1 := hs.mc.2
  have t1 : s.msip.tmod 3 = s.msip % 3 := Int.tmod_eq_emod_of_nonneg m0
  have t2 : s.mcr.tmod 2 = s.mcr % 2 := Int.tmod_eq_emod_of_nonneg c0
  have e0 : 0 ≤ s.msip % 3 := by omega
  have e1 : s.msip % 3 ≤ 2 := by omega
  have e2 : 0 ≤ s.mcr % 2 := by omega
  have e3 : s.mcr % 2 ≤ 1 := by omega
  have kA : Kept [] w (w.alloc (.cells (sCells (.slice A s.ram.length c) (.slice B s.inp.length d) (.slice C s.out.length e) s) 26)) := (Kept.refl [] w).alloc _
  have hrow : (w.alloc (.cells (sCells (.slice A s.ram.length c) (.slice B s.inp.length d) (.slice C s.out.length e) s) 26)).heap[w.heap.size]? = some (.cells (sCells (.slice A s.ram.length c) (.slice B s.inp.length d) (.slice C s.out.length e) s) 26 (0, 0)) := heap_alloc_new w _
  have HROW := Lib.hid hrow
  have HK := Lib.hid kA
  have HR1 := Lib.hid (h1.keep kA (by simp))
  have HR2 := Lib.hid (h2.keep kA (by simp))
  have HR3 := Lib.hid (h3.keep kA (by simp))
  have HSI := Lib.hid hs
  have HCB := Lib.hid hc
  have HNEW := Lib.hid (new_no (w := w.alloc (.cells (sCells (.slice A s.ram.length c) (.slice B s.inp.length d) (.slice C s.out.length e) s) 26)) n (by omega) (by omega) hf)
  have HFT := Lib.hid hf
  have n0 : -9223372036854775808 ≤ (n : Int) := by omega
  have n1 : (n : Int) ≤ 9223372036854775807 := by omega
  clear h1 h2 h3 hs hc kA hrow hf
  unfold sCells at *
  go_enter Try.func3, Try.ntmps3
  go_wp2_with (first
    | (go_at_call 17; refine HNEW.out.mono ?_; rintro e w2 ⟨rfl, hk⟩; have HK2 := Lib.hid hk; clear hk)
    | (go_at_call 18; refine (r_new_no (w := w2) n n0 n1 HFT.out).mono ?_; rintro e w6 ⟨rfl, hk⟩; have hk6 := HK2.out.trans hk (by simp); have HK6 := Lib.hid hk6; have HR6 := Lib.hid (hk6.row HROW.out (by simp)); clear hk hk6)
    | ((with_reducible refine gate_n (N := 55) rfl ?_); refine wpList_load_row rfl 26 (.tmp 1) rfl w.heap.size rfl 26 _ (0, 0) _ HR6.out Try.underlying26 rfl (by kernel_rfl) ?_)
    | (go_at_call 22; refine (begin_no w6 s HSI.out A B C _ _ _ c d e (HR1.out.keep HK6.out (by simp)) (HR2.out.keep HK6.out (by simp)) (HR3.out.keep HK6.out (by simp)) HCB.out).mono ?_; rintro e w7 ⟨rfl, hk⟩; have HK7 := Lib.hid ((HK.out.trans HK6.out (by simp)).trans hk (by simp)); clear hk))
  go_ret
  exact ⟨rfl, HK7.out.alloc _⟩
theorem law_BusMakes (w : World) (s : St) (hs : s.In) (v1 v2 v3 : Value) (h1 : Rd w v1 s.ram) (h2 : Rd w v2 s.inp) (h3 : Rd w v3 s.out) :
    Calls Try.prog 3 #[.agg (sCells v1 v2 v3 s)] w (TruePost w) := by
  obtain ⟨A, c, rfl⟩ := h1.shape
  obtain ⟨B, d, rfl⟩ := h2.shape
  obtain ⟨C, e, rfl⟩ := h3.shape
  cases hf : fitsB ((s.ram.length : Int) + s.msip % 3 - s.mcr % 2)
  · cases hc : s.canBe
    · exact makes_nn w s hs A B C c d e h1 h2 h3 _ rfl hf hc
    · exact makes_ny w s hs A B C c d e h1 h2 h3 _ rfl hf hc
  · have h8 : 8 ≤ (s.ram.length : Int) + s.msip % 3 - s.mcr % 2 := by
      unfold fitsB at hf; simp only [Bool.and_eq_true, decide_eq_true_eq] at hf; exact hf.1
    obtain ⟨n, hn⟩ : ∃ n : Nat, (s.ram.length : Int) + s.msip % 3 - s.mcr % 2 = n := ⟨((s.ram.length : Int) + s.msip % 3 - s.mcr % 2).toNat, by omega⟩
    rw [hn] at hf
    cases hc : s.canBe
    · exact makes_yn w s hs A B C c d e h1 h2 h3 n hn hf hc
    · exact makes_yy w s hs A B C c d e h1 h2 h3 n hn hf hc
end
end Go.Proofs.Ytkocfcgdjjdnhaa.BW
