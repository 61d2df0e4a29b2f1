/- The statements' word 'plays', of a state that can be. Premise: the story can be read. -/
import Derived.Test.YtkocfcgdjjdnhaaPairF
namespace Go.Proofs.Ytkocfcgdjjdnhaa.BW
open Go.RowKit
set_option linter.unusedVariables false
set_option linter.unusedSimpArgs false
section
variable {w0 w w' : World} {X : List Nat} {pb rb : Nat} {s t : St}
set_option maxHeartbeats 16000000 in
set_option maxRecDepth 100000 in
theorem plays_yes (w : World) (s : St) (hs : s.In) (v1 v2 v3 vops : Value) (ops : List OpV) (h1 : Rd w v1 s.ram) (h2 : Rd w v2 s.inp) (h3 : Rd w v3 s.out) (ho : OpsAt w vops ops) (lo hi : Int) (hc : s.canBe = true) :
    Calls Try.prog 33 #[.agg (yCells v1 v2 v3 s vops), .int .i64 lo, .int .i64 hi] w (TruePost w) := by
  obtain ⟨A, c, rfl⟩ := h1.shape
  obtain ⟨B, d, rfl⟩ := h2.shape
  obtain ⟨C, e, rfl⟩ := h3.shape
  have kA : Kept [] w (w.alloc (.cells (yCells (.slice A s.ram.length c) (.slice B s.inp.length d) (.slice C s.out.length e) s vops) 43)) := (Kept.refl [] w).alloc _
  have hrow : (w.alloc (.cells (yCells (.slice A s.ram.length c) (.slice B s.inp.length d) (.slice C s.out.length e) s vops) 43)).heap[w.heap.size]? = some (.cells (yCells (.slice A s.ram.length c) (.slice B s.inp.length d) (.slice C s.out.length e) s vops) 43 (0, 0)) := heap_alloc_new w _
  have HB := Lib.hid (begin_yes _ s hs A B C _ _ _ c d e (h1.keep kA (by simp)) (h2.keep kA (by simp)) (h3.keep kA (by simp)) hc)
  have HO := Lib.hid (ho.keep kA)
  have HK := Lib.hid kA
  have HROW := Lib.hid hrow
  have HSOK := Lib.hid (hs.ok hc)
  obtain ⟨AO, cO, rfl⟩ : ∃ A c, vops = .slice A ops.length c := by
    rcases ho.2 with ⟨rfl, rfl⟩ | ⟨g, off, cap, rfl, _⟩
    · exact ⟨_, _, rfl⟩
    · exact ⟨_, _, rfl⟩
  have hlen : ops.length ≤ 140737488351232 := ho.1
  clear h1 h2 h3 hs hc kA hrow ho
  unfold yCells at *
  unfold sCells at HB
  go_enter Try.func33, Try.ntmps33
  go_wp2_with (first
    | (go_at_call 22; refine HB.out.mono ?_; rintro e w2 ⟨pb, rb, rfl, hD⟩; have HD2 := Lib.hid hD; obtain ⟨hz, hD3, hM⟩ := hD.pairbox; have HZ := Lib.hid hz; have HPL := Lib.hid (show Playing _ w2.heap.size pb rb _ from ⟨s, HSOK.out, hD3, hM⟩); clear hD hz hD3 hM)
    | (refine wpList_store_row rfl 37 (.tmp 7) (.tmp 18) rfl w2.heap.size _ rfl rfl 37 _ HZ.out (by kernel_rfl) rfl (by simp [Value.oneCell']) ?_))
  have hN : ∀ (cs : Array Value), (w.alloc (.cells cs 43)).heap.size = w.heap.size + 1 := by intro cs; simp
  generalize (w.alloc (.cells #[.slice A s.ram.length c, .int .u32 s.msip, .int .u64 s.cmp, .int .u64 s.now, .bool s.ext, .bool s.soft, .int .u8 s.ier, .int .u8 s.lcr, .int .u8 s.mcr, .int .u8 s.scr, .bool s.over, .slice B s.inp.length d, .slice C s.out.length e, .int .i64 s.off, .int .i64 s.code, .slice AO ops.length cO] 43)) = w1 at *
  clear hN HB HD2 HZ HSOK
  generalize w.heap.size = N at *
  generalize w2.heap.size = M at *
  go_loopw [10] (fun i wr => ∃ k : Nat, k ≤ ops.length ∧ i = .int .i64 k ∧ Hid (Playing w1 M pb rb wr)) (fun i _ => ops.length - (intOf i).toNat)
  case atStart => exact ⟨0, Nat.zero_le _, rfl, HPL.out⟩
  case round =>
    obtain ⟨k, hk, rfl, hp⟩ := hrel
    obtain ⟨s', hs', D, hM⟩ := hp.out
    have hR := D.kept.row HROW.out (by simp)
    have d15 : wr.cell? ⟨N, 15, none⟩ = some (.slice AO ops.length cO) := row_cell hR 15 _ rfl
    have hMl : M < wr.heap.size := D.xl M (by simp)
    by_cases hlt : k < ops.length
    · obtain ⟨o, hoi⟩ : ∃ o, ops[k]? = some o := ⟨_, List.getElem?_eq_getElem hlt⟩
      obtain ⟨g, off, cap, hve, hcs⟩ : ∃ g off cap, Value.slice AO ops.length cO = .slice (some ⟨g, off, none⟩) ops.length cap ∧ ∀ (i : Nat) (o : OpV), ops[i]? = some o → w1.rangeAt g (off + i * 9) o.cells.toList ∧ o.At w1 := by
        rcases HO.out.2 with ⟨_, h⟩ | h
        · rw [h] at hlt; simp at hlt
        · exact h
      simp only [Value.slice.injEq] at hve
      obtain ⟨rfl, -, rfl⟩ := hve
      have HRG := Lib.hid (rangeAt_keep (hcs k o hoi).1 D.kept)
      have HA := Lib.hid (hcs k o hoi).2
      obtain ⟨hz, D2, hT, hx2⟩ := D.opbox o.cells
      have HZO := Lib.hid hz
      have HD2 := Lib.hid D2
      have HT2 := Lib.hid hT
      have HM2 := Lib.hid ((hx2 M (by simp)).trans hM)
      have HS' := Lib.hid hs'
      have HS'' := Lib.hid ((hcs k o hoi).2.ok hs')
      have hkd : o.cells[0]? = some (.int .i64 o.kind) := rfl
      have HKD := Lib.hid hkd
      clear D hs' hM hR hcs hoi hz D2 hT hx2 hkd
      go_wp2_with (first
        | ((with_reducible refine gate_n (N := 39) rfl ?_); refine wpList_load_mid rfl 54 (.tmp 38) rfl g (off + k * 9) rfl o.cells.toList _ HRG.out Try.underlying54 rfl (by kernel_rfl) ?_; rw [Array.toArray_toList])
        | (refine wpList_store_row rfl 54 (.tmp 11) (.tmp 39) rfl wr.heap.size _ rfl rfl 54 _ HZO.out (by kernel_rfl) rfl HA.out.one ?_)
        | ((with_reducible refine gate_n (N := 40) rfl ?_); refine wpList_load_row rfl 37 (.tmp 7) rfl M rfl 37 _ (0, 0) _ HM2.out Try.underlying37 rfl (by kernel_rfl) ?_)
        | ((with_reducible refine gate_n (N := 41) rfl ?_); refine wpList_load_row rfl 54 (.tmp 11) rfl wr.heap.size rfl 54 _ (0, 0) _ HT2.out Try.underlying54 rfl (by kernel_rfl) ?_)
        | (go_at_call 34; refine (changes_any HD2.out HS'.out o HA.out).mono ?_; rintro e w4 ⟨rfl, D4, hx⟩; have HD4 := Lib.hid D4; have HM4 := Lib.hid ((hx M (by simp)).trans HM2.out); have HT4 := Lib.hid ((hx wr.heap.size (by simp)).trans HT2.out); clear D4 hx)
        | ((with_reducible refine gate_n (N := 43) rfl ?_); refine wpList_load_row rfl 37 (.tmp 7) rfl M rfl 37 _ (0, 0) _ HM4.out Try.underlying37 rfl (by kernel_rfl) ?_)
        | ((with_reducible refine gate_n (N := 44) rfl ?_); refine wpList_load_row rfl 54 (.tmp 11) rfl wr.heap.size rfl 54 _ (0, 0) _ HT4.out Try.underlying54 rfl (by kernel_rfl) ?_)
        | (go_at_call 35; refine (asks_any HD4.out HS''.out o HA.out).mono ?_; rintro e w5 ⟨rfl, D5, hx⟩; have HPL5 := Lib.hid (show Playing w1 M pb rb w5 from ⟨_, HS''.out, D5.pop (fun x hx => List.mem_cons_of_mem _ hx), (hx M (by simp)).trans HM4.out⟩); have hk5 := row_cell ((hx wr.heap.size (by simp)).trans HT4.out) 0 _ HKD.out; clear D5 hx))
      all_goals
        go_roundw
        case rel => go_light; exact ⟨k + 1, by omega, by go_num, HPL5.out⟩
        case measure => simp [intOf]; omega
    · obtain rfl : k = ops.length := by omega
      have HE := Lib.hid (HK.out.trans D.kept (by simp))
      clear D hM hR hs'
      go_wp2
      go_ret
      exact ⟨rfl, HE.out⟩
theorem plays_any (w : World) (s : St) (hs : s.In) (v1 v2 v3 vops : Value) (ops : List OpV) (h1 : Rd w v1 s.ram) (h2 : Rd w v2 s.inp) (h3 : Rd w v3 s.out) (ho : OpsAt w vops ops) (lo hi : Int) :
    Calls Try.prog 33 #[.agg (yCells v1 v2 v3 s vops), .int .i64 lo, .int .i64 hi] w (TruePost w) := by
  cases hc : s.canBe
  · exact plays_no w s hs v1 v2 v3 vops h1 h2 h3 lo hi hc
  · exact plays_yes w s hs v1 v2 v3 vops ops h1 h2 h3 ho lo hi hc
end
end Go.Proofs.Ytkocfcgdjjdnhaa.BW
