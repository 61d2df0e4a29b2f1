/- The laws BusAll and BusBegins: each answers true. Premise: the story can be read. -/
import Derived.Test.YtkocfcgdjjdnhaaPairG
namespace Go.Proofs.Ytkocfcgdjjdnhaa.BW
open Go.RowKit
set_option linter.unusedVariables false
set_option linter.unusedSimpArgs false
section
variable {w0 w w' : World} {X : List Nat} {pb rb : Nat} {s t : St}
set_option maxHeartbeats 8000000 in
set_option maxRecDepth 100000 in
theorem BusAll_no (w : World) (s : St) (hs : s.In) (v1 v2 v3 vops : Value) (h1 : Rd w v1 s.ram) (h2 : Rd w v2 s.inp) (h3 : Rd w v3 s.out) (hc : s.canBe = false) :
    Calls Try.prog 14 #[.agg (yCells v1 v2 v3 s vops)] w (TruePost w) := by
  obtain ⟨A, c, rfl⟩ := h1.shape
  obtain ⟨B, d, rfl⟩ := h2.shape
  obtain ⟨C, e, rfl⟩ := h3.shape
  have kA : Kept [] w (w.alloc (.cells (yCells (.slice A s.ram.length c) (.slice B s.inp.length d) (.slice C s.out.length e) s vops) 43)) := (Kept.refl [] w).alloc _
  have HB := Lib.hid (begin_no _ s hs A B C _ _ _ c d e (h1.keep kA (by simp)) (h2.keep kA (by simp)) (h3.keep kA (by simp)) hc)
  have HK := Lib.hid kA
  clear h1 h2 h3 hs hc kA
  unfold yCells at *
  unfold sCells at HB
  go_enter Try.func14, Try.ntmps14
  go_wp2_with (go_at_call 22; refine HB.out.mono ?_; rintro e w2 ⟨rfl, hk⟩; have HK2 := Lib.hid (HK.out.trans hk (by simp)); clear hk)
  go_ret
  exact ⟨rfl, HK2.out.alloc _⟩
set_option maxHeartbeats 16000000 in
set_option maxRecDepth 100000 in
theorem BusAll_yes (w : World) (s : St) (hs : s.In) (v1 v2 v3 vops : Value) (ops : List OpV) (h1 : Rd w v1 s.ram) (h2 : Rd w v2 s.inp) (h3 : Rd w v3 s.out) (ho : OpsAt w vops ops) (hc : s.canBe = true) :
    Calls Try.prog 14 #[.agg (yCells v1 v2 v3 s vops)] w (TruePost w) := by
  obtain ⟨A, c, rfl⟩ := h1.shape
  obtain ⟨B, d, rfl⟩ := h2.shape
  obtain ⟨C, e, rfl⟩ := h3.shape
  have kA : Kept [] w (w.alloc (.cells (yCells (.slice A s.ram.length c) (.slice B s.inp.length d) (.slice C s.out.length e) s vops) 43)) := (Kept.refl [] w).alloc _
  have hrow : (w.alloc (.cells (yCells (.slice A s.ram.length c) (.slice B s.inp.length d) (.slice C s.out.length e) s vops) 43)).heap[w.heap.size]? = some (.cells (yCells (.slice A s.ram.length c) (.slice B s.inp.length d) (.slice C s.out.length e) s vops) 43 (0, 0)) := heap_alloc_new w _
  have HB := Lib.hid (begin_yes _ s hs A B C _ _ _ c d e (h1.keep kA (by simp)) (h2.keep kA (by simp)) (h3.keep kA (by simp)) hc)
  have HO := Lib.hid (ho.keep kA)
  have HK := Lib.hid kA
  have HROW := Lib.hid hrow
  have HSOK := Lib.hid (hs.ok hc)
  obtain ⟨AO, cO, rfl⟩ : ∃ A c, vops = .slice A ops.length c := by
    rcases ho.2 with ⟨rfl, rfl⟩ | ⟨g, off, cap, rfl, _⟩
    · exact ⟨_, _, rfl⟩
    · exact ⟨_, _, rfl⟩
  have hlen : ops.length ≤ 140737488351232 := ho.1
  clear h1 h2 h3 hs hc kA hrow ho
  unfold yCells at *
  unfold sCells at HB
  go_enter Try.func14, Try.ntmps14
  go_wp2_with (first
    | (go_at_call 22; refine HB.out.mono ?_; rintro e w2 ⟨pb, rb, rfl, hD⟩; have HD2 := Lib.hid hD; obtain ⟨hz, hD3, hM⟩ := hD.pairbox; have HZ := Lib.hid hz; have HPL := Lib.hid (show Playing _ w2.heap.size pb rb _ from ⟨s, HSOK.out, hD3, hM⟩); clear hD hz hD3 hM)
    | (refine wpList_store_row rfl 37 (.tmp 3) (.tmp 15) rfl w2.heap.size _ rfl rfl 37 _ HZ.out (by kernel_rfl) rfl (by simp [Value.oneCell']) ?_))
  generalize (w.alloc (.cells #[.slice A s.ram.length c, .int .u32 s.msip, .int .u64 s.cmp, .int .u64 s.now, .bool s.ext, .bool s.soft, .int .u8 s.ier, .int .u8 s.lcr, .int .u8 s.mcr, .int .u8 s.scr, .bool s.over, .slice B s.inp.length d, .slice C s.out.length e, .int .i64 s.off, .int .i64 s.code, .slice AO ops.length cO] 43)) = w1 at *
  clear HB HD2 HZ HSOK
  generalize w.heap.size = N at *
  generalize w2.heap.size = M at *
  go_loopw [6] (fun i wr => ∃ k : Nat, k ≤ ops.length ∧ i = .int .i64 k ∧ Hid (Playing w1 M pb rb wr)) (fun i _ => ops.length - (intOf i).toNat)
  case atStart => exact ⟨0, Nat.zero_le _, rfl, HPL.out⟩
  case round =>
    obtain ⟨k, hk, rfl, hp⟩ := hrel
    obtain ⟨s', hs', D, hM⟩ := hp.out
    have hR := D.kept.row HROW.out (by simp)
    have d15 : wr.cell? ⟨N, 15, none⟩ = some (.slice AO ops.length cO) := row_cell hR 15 _ rfl
    have hMl : M < wr.heap.size := D.xl M (by simp)
    by_cases hlt : k < ops.length
    · obtain ⟨o, hoi⟩ : ∃ o, ops[k]? = some o := ⟨_, List.getElem?_eq_getElem hlt⟩
      obtain ⟨g, off, cap, hve, hcs⟩ : ∃ g off cap, Value.slice AO ops.length cO = .slice (some ⟨g, off, none⟩) ops.length cap ∧ ∀ (i : Nat) (o : OpV), ops[i]? = some o → w1.rangeAt g (off + i * 9) o.cells.toList ∧ o.At w1 := by
        rcases HO.out.2 with ⟨_, h⟩ | h
        · rw [h] at hlt; simp at hlt
        · exact h
      simp only [Value.slice.injEq] at hve
      obtain ⟨rfl, -, rfl⟩ := hve
      have HRG := Lib.hid (rangeAt_keep (hcs k o hoi).1 D.kept)
      have HA := Lib.hid (hcs k o hoi).2
      obtain ⟨hz, D2, hT, hx2⟩ := D.opbox o.cells
      have HZO := Lib.hid hz
      have HD2 := Lib.hid D2
      have HT2 := Lib.hid hT
      have HM2 := Lib.hid ((hx2 M (by simp)).trans hM)
      have HS' := Lib.hid hs'
      have HS'' := Lib.hid ((hcs k o hoi).2.ok hs')
      have HKD := Lib.hid (show o.cells[0]? = some (.int .i64 o.kind) from rfl)
      clear D hs' hM hR hcs hoi hz D2 hT hx2
      go_wp2_with (first
        | ((with_reducible refine gate_n (N := 36) rfl ?_); refine wpList_load_mid rfl 54 (.tmp 35) rfl g (off + k * 9) rfl o.cells.toList _ HRG.out Try.underlying54 rfl (by kernel_rfl) ?_; rw [Array.toArray_toList])
        | (refine wpList_store_row rfl 54 (.tmp 7) (.tmp 36) rfl wr.heap.size _ rfl rfl 54 _ HZO.out (by kernel_rfl) rfl HA.out.one ?_)
        | ((with_reducible refine gate_n (N := 37) rfl ?_); refine wpList_load_row rfl 37 (.tmp 3) rfl M rfl 37 _ (0, 0) _ HM2.out Try.underlying37 rfl (by kernel_rfl) ?_)
        | ((with_reducible refine gate_n (N := 38) rfl ?_); refine wpList_load_row rfl 54 (.tmp 7) rfl wr.heap.size rfl 54 _ (0, 0) _ HT2.out Try.underlying54 rfl (by kernel_rfl) ?_)
        | (go_at_call 34; refine (changes_any HD2.out HS'.out o HA.out).mono ?_; rintro e w4 ⟨rfl, D4, hx⟩; have HD4 := Lib.hid D4; have HM4 := Lib.hid ((hx M (by simp)).trans HM2.out); have HT4 := Lib.hid ((hx wr.heap.size (by simp)).trans HT2.out); clear D4 hx)
        | ((with_reducible refine gate_n (N := 40) rfl ?_); refine wpList_load_row rfl 37 (.tmp 3) rfl M rfl 37 _ (0, 0) _ HM4.out Try.underlying37 rfl (by kernel_rfl) ?_)
        | ((with_reducible refine gate_n (N := 41) rfl ?_); refine wpList_load_row rfl 54 (.tmp 7) rfl wr.heap.size rfl 54 _ (0, 0) _ HT4.out Try.underlying54 rfl (by kernel_rfl) ?_)
        | (go_at_call 35; refine (asks_any HD4.out HS''.out o HA.out).mono ?_; rintro e w5 ⟨rfl, D5, hx⟩; have HD5 := Lib.hid D5; have hm5 := (hx M (by simp)).trans HM4.out; have HM5 := Lib.hid hm5; have HPL5 := Lib.hid (show Playing w1 M pb rb w5 from ⟨_, HS''.out, D5.pop (fun x hx => List.mem_cons_of_mem _ hx), hm5⟩); have hk5 := row_cell ((hx wr.heap.size (by simp)).trans HT4.out) 0 _ HKD.out; clear D5 hx hm5))
      obtain ⟨DX, hxx⟩ := HD5.out.keep (Kept.refl [] _).drew
      have HMX := Lib.hid ((hxx M (by simp)).trans HM5.out)
      have p0 := row_cell HMX.out 0 _ rfl
      have p1 := row_cell HMX.out 1 _ rfl
      have HST := Lib.hid (p_state DX HS''.out)
      clear DX hxx
      go_region_held3 (fun w' => w'.cell? ⟨M, 0, none⟩ = some (.pointer (some ⟨pb, 0, none⟩)) ∧ w'.cell? ⟨M, 1, none⟩ = some (.pointer (some ⟨rb, 0, none⟩))) (first | (refine ⟨?_, ?_⟩ <;> with_reducible assumption) | go_keep)
        (first
          | (go_at_call 20; (with_reducible refine HST.out.mono ?_); rintro e w6 ⟨u1, u2, u3, rfl, h1, h2, h3, D6, hx⟩; have HM6 := Lib.hid ((hx M (by simp)).trans HMX.out); have q0 := row_cell HM6.out 0 _ rfl; have q1 := row_cell HM6.out 1 _ rfl; have HBS := Lib.hid (And.intro h1 (And.intro h2 h3)); have HD6 := Lib.hid D6; clear D6 hx h1 h2 h3)
          | (go_at_call 21; refine (d_state HD6.out HS''.out).mono ?_; rintro e w7 ⟨y1, y2, y3, rfl, h1, h2, h3, hk2⟩; obtain ⟨D7, hx⟩ := HD6.out.keep hk2; have HM7 := Lib.hid ((hx M (by simp)).trans HM6.out); have q2 := row_cell HM7.out 0 _ rfl; have q3 := row_cell HM7.out 1 _ rfl; have HSA := Lib.hid (r_same_rd w7 _ _ _ _ _ _ _ (HBS.out.1.keep hk2 (by simp)).rd (HBS.out.2.1.keep hk2 (by simp)).rd (HBS.out.2.2.keep hk2 (by simp)).rd h1.rd h2.rd h3.rd); have HD7 := Lib.hid D7; clear D7 hx h1 h2 h3 hk2)
          | (go_at_call 19; refine HSA.out.mono ?_; rintro e w8 ⟨rfl, hb⟩; obtain ⟨D8, hx⟩ := HD7.out.keep (Kept.of_below (F := []) hb); have hm8 := (hx M (by simp)).trans HM7.out; have q4 := row_cell hm8 0 _ rfl; have q5 := row_cell hm8 1 _ rfl; have HPL8 := Lib.hid (show Playing w1 M pb rb w8 from ⟨_, HS''.out, D8.pop (fun x hx => List.mem_cons_of_mem _ hx), hm8⟩); clear D8 hx hb hm8))
      all_goals
        go_wp2
        go_roundw
        case rel => go_light; exact ⟨k + 1, by omega, by go_num, HPL8.out⟩
        case measure => simp [intOf]; omega
    · obtain rfl : k = ops.length := by omega
      have HE := Lib.hid (HK.out.trans D.kept (by simp))
      clear D hM hR hs'
      go_wp2
      go_ret
      exact ⟨rfl, HE.out⟩
theorem law_BusAll (w : World) (s : St) (hs : s.In) (v1 v2 v3 vops : Value) (ops : List OpV) (h1 : Rd w v1 s.ram) (h2 : Rd w v2 s.inp) (h3 : Rd w v3 s.out) (ho : OpsAt w vops ops) :
    Calls Try.prog 14 #[.agg (yCells v1 v2 v3 s vops)] w (TruePost w) := by
  cases hc : s.canBe
  · exact BusAll_no w s hs v1 v2 v3 vops h1 h2 h3 hc
  · exact BusAll_yes w s hs v1 v2 v3 vops ops h1 h2 h3 ho hc
set_option maxHeartbeats 8000000 in
set_option maxRecDepth 100000 in
theorem BusBegins_no (w : World) (s : St) (hs : s.In) (v1 v2 v3 vops : Value) (h1 : Rd w v1 s.ram) (h2 : Rd w v2 s.inp) (h3 : Rd w v3 s.out) (hc : s.canBe = false) :
    Calls Try.prog 10 #[.agg (yCells v1 v2 v3 s vops)] w (TruePost w) := by
  obtain ⟨A, c, rfl⟩ := h1.shape
  obtain ⟨B, d, rfl⟩ := h2.shape
  obtain ⟨C, e, rfl⟩ := h3.shape
  have kA : Kept [] w (w.alloc (.cells (yCells (.slice A s.ram.length c) (.slice B s.inp.length d) (.slice C s.out.length e) s vops) 43)) := (Kept.refl [] w).alloc _
  have HB := Lib.hid (begin_no _ s hs A B C _ _ _ c d e (h1.keep kA (by simp)) (h2.keep kA (by simp)) (h3.keep kA (by simp)) hc)
  have HK := Lib.hid kA
  clear h1 h2 h3 hs hc kA
  unfold yCells at *
  unfold sCells at HB
  go_enter Try.func10, Try.ntmps10
  go_wp2_with (go_at_call 22; refine HB.out.mono ?_; rintro e w2 ⟨rfl, hk⟩; have HK2 := Lib.hid (HK.out.trans hk (by simp)); clear hk)
  go_ret
  exact ⟨rfl, HK2.out.alloc _⟩
set_option maxHeartbeats 16000000 in
set_option maxRecDepth 100000 in
theorem BusBegins_yes (w : World) (s : St) (hs : s.In) (v1 v2 v3 vops : Value) (ops : List OpV) (h1 : Rd w v1 s.ram) (h2 : Rd w v2 s.inp) (h3 : Rd w v3 s.out) (ho : OpsAt w vops ops) (hc : s.canBe = true) :
    Calls Try.prog 10 #[.agg (yCells v1 v2 v3 s vops)] w (TruePost w) := by
  obtain ⟨A, c, rfl⟩ := h1.shape
  obtain ⟨B, d, rfl⟩ := h2.shape
  obtain ⟨C, e, rfl⟩ := h3.shape
  have kA : Kept [] w (w.alloc (.cells (yCells (.slice A s.ram.length c) (.slice B s.inp.length d) (.slice C s.out.length e) s vops) 43)) := (Kept.refl [] w).alloc _
  have hrow : (w.alloc (.cells (yCells (.slice A s.ram.length c) (.slice B s.inp.length d) (.slice C s.out.length e) s vops) 43)).heap[w.heap.size]? = some (.cells (yCells (.slice A s.ram.length c) (.slice B s.inp.length d) (.slice C s.out.length e) s vops) 43 (0, 0)) := heap_alloc_new w _
  have HB := Lib.hid (begin_yes _ s hs A B C _ _ _ c d e (h1.keep kA (by simp)) (h2.keep kA (by simp)) (h3.keep kA (by simp)) hc)
  have HO := Lib.hid (ho.keep kA)
  have HK := Lib.hid kA
  have HROW := Lib.hid hrow
  have HSOK := Lib.hid (hs.ok hc)
  obtain ⟨AO, cO, rfl⟩ : ∃ A c, vops = .slice A ops.length c := by
    rcases ho.2 with ⟨rfl, rfl⟩ | ⟨g, off, cap, rfl, _⟩
    · exact ⟨_, _, rfl⟩
    · exact ⟨_, _, rfl⟩
  have hlen : ops.length ≤ 140737488351232 := ho.1
  clear h1 h2 h3 hs hc kA hrow ho
  unfold yCells at *
  unfold sCells at HB
  go_enter Try.func10, Try.ntmps10
  go_wp2_with (first
    | (go_at_call 22; refine HB.out.mono ?_; rintro e w2 ⟨pb, rb, rfl, hD⟩; have HD2 := Lib.hid hD; obtain ⟨hz, hD3, hM⟩ := hD.pairbox; have HZ := Lib.hid hz; have HPL := Lib.hid (show Playing _ w2.heap.size pb rb _ from ⟨s, HSOK.out, hD3, hM⟩); clear hD hz hD3 hM)
    | (refine wpList_store_row rfl 37 (.tmp 3) (.tmp 14) rfl w2.heap.size _ rfl rfl 37 _ HZ.out (by kernel_rfl) rfl (by simp [Value.oneCell']) ?_))
  generalize (w.alloc (.cells #[.slice A s.ram.length c, .int .u32 s.msip, .int .u64 s.cmp, .int .u64 s.now, .bool s.ext, .bool s.soft, .int .u8 s.ier, .int .u8 s.lcr, .int .u8 s.mcr, .int .u8 s.scr, .bool s.over, .slice B s.inp.length d, .slice C s.out.length e, .int .i64 s.off, .int .i64 s.code, .slice AO ops.length cO] 43)) = w1 at *
  clear HB HD2 HZ HSOK
  generalize w.heap.size = N at *
  generalize w2.heap.size = M at *
  go_loopw [6] (fun i wr => ∃ k : Nat, k ≤ ops.length ∧ i = .int .i64 k ∧ Hid (Playing w1 M pb rb wr)) (fun i _ => ops.length - (intOf i).toNat)
  case atStart => exact ⟨0, Nat.zero_le _, rfl, HPL.out⟩
  case round =>
    obtain ⟨k, hk, rfl, hp⟩ := hrel
    obtain ⟨s', hs', D, hM⟩ := hp.out
    have hR := D.kept.row HROW.out (by simp)
    have d15 : wr.cell? ⟨N, 15, none⟩ = some (.slice AO ops.length cO) := row_cell hR 15 _ rfl
    have hMl : M < wr.heap.size := D.xl M (by simp)
    by_cases hlt : k < ops.length
    · obtain ⟨o, hoi⟩ : ∃ o, ops[k]? = some o := ⟨_, List.getElem?_eq_getElem hlt⟩
      obtain ⟨g, off, cap, hve, hcs⟩ : ∃ g off cap, Value.slice AO ops.length cO = .slice (some ⟨g, off, none⟩) ops.length cap ∧ ∀ (i : Nat) (o : OpV), ops[i]? = some o → w1.rangeAt g (off + i * 9) o.cells.toList ∧ o.At w1 := by
        rcases HO.out.2 with ⟨_, h⟩ | h
        · rw [h] at hlt; simp at hlt
        · exact h
      simp only [Value.slice.injEq] at hve
      obtain ⟨rfl, -, rfl⟩ := hve
      have HRG := Lib.hid (rangeAt_keep (hcs k o hoi).1 D.kept)
      have HA := Lib.hid (hcs k o hoi).2
      obtain ⟨hz, D2, hT, hx2⟩ := D.opbox o.cells
      have HZO := Lib.hid hz
      have HD2 := Lib.hid D2
      have HT2 := Lib.hid hT
      have HM2 := Lib.hid ((hx2 M (by simp)).trans hM)
      have HS' := Lib.hid hs'
      have HS'' := Lib.hid ((hcs k o hoi).2.ok hs')
      have HKD := Lib.hid (show o.cells[0]? = some (.int .i64 o.kind) from rfl)
      clear D hs' hM hR hcs hoi hz D2 hT hx2
      by_cases h3 : o.kind = 3
      · have b3 : (o.kind == 3) = true := by simpa using h3
        clear h3
        go_wp2_with (first
          | ((with_reducible refine gate_n (N := 35) rfl ?_); refine wpList_load_mid rfl 54 (.tmp 34) rfl g (off + k * 9) rfl o.cells.toList _ HRG.out Try.underlying54 rfl (by kernel_rfl) ?_; rw [Array.toArray_toList])
          | (refine wpList_store_row rfl 54 (.tmp 7) (.tmp 35) rfl wr.heap.size _ rfl rfl 54 _ HZO.out (by kernel_rfl) rfl HA.out.one ?_)
          | ((with_reducible refine gate_n (N := 36) rfl ?_); refine wpList_load_row rfl 37 (.tmp 3) rfl M rfl 37 _ (0, 0) _ HM2.out Try.underlying37 rfl (by kernel_rfl) ?_)
          | ((with_reducible refine gate_n (N := 37) rfl ?_); refine wpList_load_row rfl 54 (.tmp 7) rfl wr.heap.size rfl 54 _ (0, 0) _ HT2.out Try.underlying54 rfl (by kernel_rfl) ?_)
          | (go_at_call 34; refine (changes_any HD2.out HS'.out o HA.out).mono ?_; rintro e w4 ⟨rfl, D4, hx⟩; have HD4 := Lib.hid D4; have HM4 := Lib.hid ((hx M (by simp)).trans HM2.out); have HT4 := Lib.hid ((hx wr.heap.size (by simp)).trans HT2.out); clear D4 hx)
          | ((with_reducible refine gate_n (N := 39) rfl ?_); refine wpList_load_row rfl 37 (.tmp 3) rfl M rfl 37 _ (0, 0) _ HM4.out Try.underlying37 rfl (by kernel_rfl) ?_)
          | ((with_reducible refine gate_n (N := 40) rfl ?_); refine wpList_load_row rfl 54 (.tmp 7) rfl wr.heap.size rfl 54 _ (0, 0) _ HT4.out Try.underlying54 rfl (by kernel_rfl) ?_)
          | (go_at_call 35; refine (asks_any HD4.out HS''.out o HA.out).mono ?_; rintro e w5 ⟨rfl, D5, hx⟩; have HD5 := Lib.hid D5; have hm5 := (hx M (by simp)).trans HM4.out; have HM5 := Lib.hid hm5; have HPL5 := Lib.hid (show Playing w1 M pb rb w5 from ⟨_, HS''.out, D5.pop (fun x hx => List.mem_cons_of_mem _ hx), hm5⟩); have hk5 := row_cell ((hx wr.heap.size (by simp)).trans HT4.out) 0 _ HKD.out; clear D5 hx hm5))
        obtain ⟨DX, hxx⟩ := HD5.out.keep (Kept.refl [] _).drew
        have HMX := Lib.hid ((hxx M (by simp)).trans HM5.out)
        have p0 := row_cell HMX.out 0 _ rfl
        have p1 := row_cell HMX.out 1 _ rfl
        have HST := Lib.hid (p_state DX HS''.out)
        clear DX hxx
        go_region_held3 (fun w' => w'.cell? ⟨M, 0, none⟩ = some (.pointer (some ⟨pb, 0, none⟩)) ∧ w'.cell? ⟨M, 1, none⟩ = some (.pointer (some ⟨rb, 0, none⟩))) (first | (refine ⟨?_, ?_⟩ <;> with_reducible assumption) | go_keep)
          (first
            | (go_at_call 20; (with_reducible refine HST.out.mono ?_); rintro e w6 ⟨u1, u2, u3, rfl, h1, h2, h3, D6, hx⟩; have HM6 := Lib.hid ((hx M (by simp)).trans HMX.out); have q0 := row_cell HM6.out 0 _ rfl; have q1 := row_cell HM6.out 1 _ rfl; have HBS := Lib.hid (And.intro h1 (And.intro h2 h3)); have HD6 := Lib.hid D6; clear D6 hx h1 h2 h3)
            | (go_at_call 21; refine (d_state HD6.out HS''.out).mono ?_; rintro e w7 ⟨y1, y2, y3, rfl, h1, h2, h3, hk2⟩; obtain ⟨D7, hx⟩ := HD6.out.keep hk2; have HM7 := Lib.hid ((hx M (by simp)).trans HM6.out); have q2 := row_cell HM7.out 0 _ rfl; have q3 := row_cell HM7.out 1 _ rfl; have HSA := Lib.hid (r_same_rd w7 _ _ _ _ _ _ _ (HBS.out.1.keep hk2 (by simp)).rd (HBS.out.2.1.keep hk2 (by simp)).rd (HBS.out.2.2.keep hk2 (by simp)).rd h1.rd h2.rd h3.rd); have HD7 := Lib.hid D7; clear D7 hx h1 h2 h3 hk2)
            | (go_at_call 19; refine HSA.out.mono ?_; rintro e w8 ⟨rfl, hb⟩; obtain ⟨D8, hx⟩ := HD7.out.keep (Kept.of_below (F := []) hb); have hm8 := (hx M (by simp)).trans HM7.out; have q4 := row_cell hm8 0 _ rfl; have q5 := row_cell hm8 1 _ rfl; have HPL8 := Lib.hid (show Playing w1 M pb rb w8 from ⟨_, HS''.out, D8.pop (fun x hx => List.mem_cons_of_mem _ hx), hm8⟩); clear D8 hx hb hm8))
        all_goals
          go_wp2
          go_roundw
          case rel => go_light; exact ⟨k + 1, by omega, by go_num, HPL8.out⟩
          case measure => simp [intOf]; omega
      · have b3 : (o.kind == 3) = false := by simpa using h3
        clear h3
        go_wp2_with (first
          | ((with_reducible refine gate_n (N := 35) rfl ?_); refine wpList_load_mid rfl 54 (.tmp 34) rfl g (off + k * 9) rfl o.cells.toList _ HRG.out Try.underlying54 rfl (by kernel_rfl) ?_; rw [Array.toArray_toList])
          | (refine wpList_store_row rfl 54 (.tmp 7) (.tmp 35) rfl wr.heap.size _ rfl rfl 54 _ HZO.out (by kernel_rfl) rfl HA.out.one ?_)
          | ((with_reducible refine gate_n (N := 36) rfl ?_); refine wpList_load_row rfl 37 (.tmp 3) rfl M rfl 37 _ (0, 0) _ HM2.out Try.underlying37 rfl (by kernel_rfl) ?_)
          | ((with_reducible refine gate_n (N := 37) rfl ?_); refine wpList_load_row rfl 54 (.tmp 7) rfl wr.heap.size rfl 54 _ (0, 0) _ HT2.out Try.underlying54 rfl (by kernel_rfl) ?_)
          | (go_at_call 34; refine (changes_any HD2.out HS'.out o HA.out).mono ?_; rintro e w4 ⟨rfl, D4, hx⟩; have HD4 := Lib.hid D4; have HM4 := Lib.hid ((hx M (by simp)).trans HM2.out); have HT4 := Lib.hid ((hx wr.heap.size (by simp)).trans HT2.out); clear D4 hx)
          | ((with_reducible refine gate_n (N := 39) rfl ?_); refine wpList_load_row rfl 37 (.tmp 3) rfl M rfl 37 _ (0, 0) _ HM4.out Try.underlying37 rfl (by kernel_rfl) ?_)
          | ((with_reducible refine gate_n (N := 40) rfl ?_); refine wpList_load_row rfl 54 (.tmp 7) rfl wr.heap.size rfl 54 _ (0, 0) _ HT4.out Try.underlying54 rfl (by kernel_rfl) ?_)
          | (go_at_call 35; refine (asks_any HD4.out HS''.out o HA.out).mono ?_; rintro e w5 ⟨rfl, D5, hx⟩; have HD5 := Lib.hid D5; have hm5 := (hx M (by simp)).trans HM4.out; have HM5 := Lib.hid hm5; have HPL5 := Lib.hid (show Playing w1 M pb rb w5 from ⟨_, HS''.out, D5.pop (fun x hx => List.mem_cons_of_mem _ hx), hm5⟩); have hk5 := row_cell ((hx wr.heap.size (by simp)).trans HT4.out) 0 _ HKD.out; clear D5 hx hm5))
        all_goals
          go_roundw
          case rel => go_light; exact ⟨k + 1, by omega, by go_num, HPL5.out⟩
          case measure => simp [intOf]; omega
    · obtain rfl : k = ops.length := by omega
      have HE := Lib.hid (HK.out.trans D.kept (by simp))
      clear D hM hR hs'
      go_wp2
      go_ret
      exact ⟨rfl, HE.out⟩
theorem law_BusBegins (w : World) (s : St) (hs : s.In) (v1 v2 v3 vops : Value) (ops : List OpV) (h1 : Rd w v1 s.ram) (h2 : Rd w v2 s.inp) (h3 : Rd w v3 s.out) (ho : OpsAt w vops ops) :
    Calls Try.prog 10 #[.agg (yCells v1 v2 v3 s vops)] w (TruePost w) := by
  cases hc : s.canBe
  · exact BusBegins_no w s hs v1 v2 v3 vops h1 h2 h3 hc
  · exact BusBegins_yes w s hs v1 v2 v3 vops ops h1 h2 h3 ho hc
end
end Go.Proofs.Ytkocfcgdjjdnhaa.BW
