/- The law BusOff: it answers true. Premise: the story can be read. -/
import Derived.Test.YtkocfcgdjjdnhaaSolo
namespace Go.Proofs.Ytkocfcgdjjdnhaa.BW
open Go.RowKit
set_option linter.unusedVariables false
set_option linter.unusedSimpArgs false
theorem cells16 {W : World} {p : Nat} {v1 v2 v3 vops : Value} {s : St} (h : W.heap[p]? = some (.cells (yCells v1 v2 v3 s vops) 43 (0, 0))) : W.cell? ⟨p, 0, none⟩ = some (v1) ∧ W.cell? ⟨p, 1, none⟩ = some (.int .u32 s.msip) ∧ W.cell? ⟨p, 2, none⟩ = some (.int .u64 s.cmp) ∧ W.cell? ⟨p, 3, none⟩ = some (.int .u64 s.now) ∧ W.cell? ⟨p, 4, none⟩ = some (.bool s.ext) ∧ W.cell? ⟨p, 5, none⟩ = some (.bool s.soft) ∧ W.cell? ⟨p, 6, none⟩ = some (.int .u8 s.ier) ∧ W.cell? ⟨p, 7, none⟩ = some (.int .u8 s.lcr) ∧ W.cell? ⟨p, 8, none⟩ = some (.int .u8 s.mcr) ∧ W.cell? ⟨p, 9, none⟩ = some (.int .u8 s.scr) ∧ W.cell? ⟨p, 10, none⟩ = some (.bool s.over) ∧ W.cell? ⟨p, 11, none⟩ = some (v2) ∧ W.cell? ⟨p, 12, none⟩ = some (v3) ∧ W.cell? ⟨p, 13, none⟩ = some (.int .i64 s.off) ∧ W.cell? ⟨p, 14, none⟩ = some (.int .i64 s.code) ∧ W.cell? ⟨p, 15, none⟩ = some (vops) :=
  ⟨row_cell h 0 _ rfl, row_cell h 1 _ rfl, row_cell h 2 _ rfl, row_cell h 3 _ rfl, row_cell h 4 _ rfl, row_cell h 5 _ rfl, row_cell h 6 _ rfl, row_cell h 7 _ rfl, row_cell h 8 _ rfl, row_cell h 9 _ rfl, row_cell h 10 _ rfl, row_cell h 11 _ rfl, row_cell h 12 _ rfl, row_cell h 13 _ rfl, row_cell h 14 _ rfl, row_cell h 15 _ rfl⟩
def OffInv (w1 : World) (pb : Nat) (F C : Int) (wr : World) : Prop := ∃ s, s.Ok ∧ s.off = F ∧ s.code = C ∧ SoloE w1 [] wr pb s
theorem store_5555 (s : St) : s.store 1048576 4 21845 = (true, s.power 21845) := by
  have hr : reach s.ram.length 1048576 4 = 2 := by rw [reach_low (inRamA_false (by decide))]; simp
  unfold St.store; simp only [hr]; rfl
set_option maxHeartbeats 8000000 in
set_option maxRecDepth 100000 in
theorem BusOff_no (w : World) (s : St) (hs : s.In) (v1 v2 v3 vops : Value) (h1 : Rd w v1 s.ram) (h2 : Rd w v2 s.inp) (h3 : Rd w v3 s.out) (hc : s.canBe = false) :
    Calls Try.prog 16 #[.agg (yCells v1 v2 v3 s vops)] w (TruePost w) := by
  obtain ⟨A, c, rfl⟩ := h1.shape
  obtain ⟨B, d, rfl⟩ := h2.shape
  obtain ⟨C, e, rfl⟩ := h3.shape
  have kA : Kept [] w (w.alloc (.cells (yCells (.slice A s.ram.length c) (.slice B s.inp.length d) (.slice C s.out.length e) s vops) 43)) := (Kept.refl [] w).alloc _
  have HC := Lib.hid (r_canbe_rd _ s hs _ _ _ (h1.keep kA (by simp)) (h2.keep kA (by simp)) (h3.keep kA (by simp)))
  rw [hc] at HC
  have HK := Lib.hid kA
  clear h1 h2 h3 hs hc kA
  unfold yCells at *
  unfold sCells at HC
  go_enter Try.func16, Try.ntmps16
  go_wp2_with (go_at_call 23; refine HC.out.mono ?_; rintro e w2 ⟨rfl, hb⟩; have HK2 := Lib.hid (HK.out.trans (Kept.of_below (F := []) hb) (by simp)); clear hb)
  go_ret
  exact ⟨rfl, HK2.out⟩
set_option maxHeartbeats 16000000 in
set_option maxRecDepth 100000 in
theorem BusOff_yes (w : World) (s : St) (hs : s.In) (v1 v2 v3 vops : Value) (ops : List OpV) (h1 : Rd w v1 s.ram) (h2 : Rd w v2 s.inp) (h3 : Rd w v3 s.out) (ho : OpsAt w vops ops) (hc : s.canBe = true) :
    Calls Try.prog 16 #[.agg (yCells v1 v2 v3 s vops)] w (TruePost w) := by
  obtain ⟨A, c, rfl⟩ := h1.shape
  obtain ⟨B, d, rfl⟩ := h2.shape
  obtain ⟨C, e, rfl⟩ := h3.shape
  obtain ⟨AO, cO, rfl⟩ : ∃ A c, vops = .slice A ops.length c := by
    rcases ho.2 with ⟨rfl, rfl⟩ | ⟨g, off, cap, rfl, _⟩
    · exact ⟨_, _, rfl⟩
    · exact ⟨_, _, rfl⟩
  have hlen : ops.length ≤ 140737488351232 := ho.1
  have kA : Kept [] w (w.alloc (.cells (yCells (.slice A s.ram.length c) (.slice B s.inp.length d) (.slice C s.out.length e) s (.slice AO ops.length cO)) 43)) := (Kept.refl [] w).alloc _
  have hrow : (w.alloc (.cells (yCells (.slice A s.ram.length c) (.slice B s.inp.length d) (.slice C s.out.length e) s (.slice AO ops.length cO)) 43)).heap[w.heap.size]? = some (.cells (yCells (.slice A s.ram.length c) (.slice B s.inp.length d) (.slice C s.out.length e) s (.slice AO ops.length cO)) 43 (0, 0)) := heap_alloc_new w _
  have r1 := h1.keep kA (by simp)
  have r2 := h2.keep kA (by simp)
  have r3 := h3.keep kA (by simp)
  have hcan := r_canbe_rd _ s hs _ _ _ r1 r2 r3
  rw [hc] at hcan
  have HC := Lib.hid hcan
  have HR1 := Lib.hid r1
  have HR2 := Lib.hid r2
  have HR3 := Lib.hid r3
  have HSI := Lib.hid hs
  have HCB := Lib.hid hc
  have HO := Lib.hid (ho.keep kA)
  have HK := Lib.hid kA
  have HROW := Lib.hid hrow
  have hok := hs.ok hc
  have HSOK := Lib.hid hok
  have HOKP := Lib.hid (ok_power hok 21845)
  obtain ⟨bq, q2⟩ : ∃ bq, (s.off == 0) = bq := ⟨_, rfl⟩
  obtain ⟨F, hF⟩ : ∃ F, (s.power 21845).off = F := ⟨_, rfl⟩
  obtain ⟨G, hG⟩ : ∃ G, (s.power 21845).code = G := ⟨_, rfl⟩
  have hfacts : (F == 0) = false ∧ (bq = true → F = 1 ∧ G = 0) := by
    unfold St.power at hF hG
    by_cases h0 : s.off = 0
    · rw [if_pos h0, if_pos (by decide)] at hF hG
      have hcode : s.code = 0 := by
        have := hc; unfold St.canBe at this
        simp only [Bool.and_eq_true, Bool.or_eq_true, decide_eq_true_eq] at this
        omega
      simp only at hF hG
      subst hF
      exact ⟨by decide, fun _ => ⟨rfl, by rw [← hG]; exact hcode⟩⟩
    · rw [if_neg h0] at hF hG
      have : bq = false := by rw [← q2]; simpa using h0
      exact ⟨by rw [← hF]; simpa using h0, fun h => by rw [this] at h; cases h⟩
  obtain ⟨q1, q34⟩ := hfacts
  have HFN := Lib.hid (show ¬ F = 0 by simpa using q1)
  have HF := Lib.hid hF
  have HG := Lib.hid hG
  clear h1 h2 h3 hs hc kA hrow ho r1 r2 r3 hcan hok hF hG
  have HN1 := Lib.hid (show (w.alloc (.cells (yCells (.slice A s.ram.length c) (.slice B s.inp.length d) (.slice C s.out.length e) s (.slice AO ops.length cO)) 43)).heap.size = w.heap.size + 1 by simp)
  cases bq
  all_goals
    (try (obtain ⟨rfl, rfl⟩ := q34 rfl))
    clear q34
    unfold yCells at HC HR1 HR2 HR3 HO HK HN1 HROW ⊢
    unfold sCells at HC
    go_enter Try.func16, Try.ntmps16
    go_wp2_with (first
      | (go_at_call 23; refine HC.out.mono ?_; rintro e w2 ⟨rfl, hb⟩; have hk2 := Kept.of_below (F := []) hb; obtain ⟨f0, f1, f2, f3, f4, f5, f6, f7, f8, f9, f10, f11, f12, f13, f14, f15⟩ := cells16 (hk2.row HROW.out (by simp)); have HMD := Lib.hid (made_any w2 s HSI.out A B C _ _ _ c d e (HR1.out.keep hk2 (by simp)) (HR2.out.keep hk2 (by simp)) (HR3.out.keep hk2 (by simp)) HCB.out); have HK2 := Lib.hid hk2; clear hb hk2)
      | (go_at_call 24; (unfold sCells at HMD); refine HMD.out.mono ?_; intro e w3 hm; obtain ⟨pb, rfl, D3⟩ := SoloE.of_made hm; have HD3 := Lib.hid (D3.rebase HK2.out); clear hm D3 HMD)
      | (go_at_call 30; refine (s_store HD3.out HSOK.out 1048576 4 21845 (by decide) (by decide) (by decide) (by decide) (by decide) (by decide)).mono ?_; rw [store_5555]; rintro e w4 ⟨rfl, D4, hx⟩; have HD4 := Lib.hid D4; clear D4 hx)
      | (go_at_call 37; refine (s_off HD4.out).mono ?_; rw [HF.out, HG.out]; rintro e w5 ⟨rfl, D5, hx⟩; have k13 := row_cell (D5.kept.row HROW.out (by simp)) 13 (.int .i64 s.off) rfl; have HINV := Lib.hid (show OffInv _ pb _ _ w5 from ⟨_, HOKP.out, HF.out, HG.out, D5⟩); clear D5 hx))
    generalize (w.alloc (.cells #[.slice A s.ram.length c, .int .u32 s.msip, .int .u64 s.cmp, .int .u64 s.now, .bool s.ext, .bool s.soft, .int .u8 s.ier, .int .u8 s.lcr, .int .u8 s.mcr, .int .u8 s.scr, .bool s.over, .slice B s.inp.length d, .slice C s.out.length e, .int .i64 s.off, .int .i64 s.code, .slice AO ops.length cO] 43)) = w1 at *
    clear HC HR1 HR2 HR3 HSI HCB HSOK HOKP HF HG HK2 HD3 HD4 HN1
    generalize w.heap.size = N at *
    go_loopw [9] (fun i wr => ∃ k : Nat, k ≤ ops.length ∧ i = .int .i64 k ∧ Hid (OffInv w1 pb _ _ wr)) (fun i _ => ops.length - (intOf i).toNat)
    case atStart => exact ⟨0, Nat.zero_le _, rfl, HINV.out⟩
    case round =>
      obtain ⟨k, hk, rfl, hp⟩ := hrel
      obtain ⟨s', hs', ho1, ho2, D⟩ := hp.out
      have hR := D.kept.row HROW.out (by simp)
      have d15 : wr.cell? ⟨N, 15, none⟩ = some (.slice AO ops.length cO) := row_cell hR 15 _ rfl
      by_cases hlt : k < ops.length
      · obtain ⟨o, hoi⟩ : ∃ o, ops[k]? = some o := ⟨_, List.getElem?_eq_getElem hlt⟩
        obtain ⟨g, off, cap, hve, hcs⟩ : ∃ g off cap, Value.slice AO ops.length cO = .slice (some ⟨g, off, none⟩) ops.length cap ∧ ∀ (i : Nat) (o : OpV), ops[i]? = some o → w1.rangeAt g (off + i * 9) o.cells.toList ∧ o.At w1 := by
          rcases HO.out.2 with ⟨_, h⟩ | h
          · rw [h] at hlt; simp at hlt
          · exact h
        simp only [Value.slice.injEq] at hve
        obtain ⟨rfl, -, rfl⟩ := hve
        have HRG := Lib.hid (rangeAt_keep (hcs k o hoi).1 D.kept)
        have HA := Lib.hid (hcs k o hoi).2
        obtain ⟨hz, D2, hT, hx2⟩ := D.opbox o.cells
        have HZO := Lib.hid hz
        have HD2 := Lib.hid D2
        have HT2 := Lib.hid hT
        have HS' := Lib.hid hs'
        have HS'' := Lib.hid ((hcs k o hoi).2.ok hs')
        have hnx := off_next o s' (by rw [ho1]; exact HFN.out)
        rw [ho1, ho2] at hnx
        have HNX := Lib.hid hnx
        have HBG := Lib.hid (fun h3 : o.kind = 3 => off_begin o s' (by rw [ho1]; exact HFN.out) h3)
        have HKD := Lib.hid (show o.cells[0]? = some (.int .i64 o.kind) from rfl)
        have HO1 := Lib.hid ho1
        have HO2 := Lib.hid ho2
        clear D hs' ho1 ho2 hR hcs hoi hz D2 hT hx2 hnx
        by_cases hk3 : o.kind = 3
        · have b3 : (o.kind == 3) = true := by simpa using hk3
          have HBE := Lib.hid (HBG.out hk3)
          clear hk3 HBG
          go_wp2_with (first
            | ((with_reducible refine gate_n (N := 67) rfl ?_); refine wpList_load_mid rfl 54 (.tmp 66) rfl g (off + k * 9) rfl o.cells.toList _ HRG.out Try.underlying54 rfl (by kernel_rfl) ?_; rw [Array.toArray_toList])
            | (refine wpList_store_row rfl 54 (.tmp 10) (.tmp 67) rfl wr.heap.size _ rfl rfl 54 _ HZO.out (by kernel_rfl) rfl HA.out.one ?_)
            | (go_at_call 20; refine (s_state HD2.out HS'.out).mono ?_; rintro e w4 ⟨u1, u2, u3, rfl, h1, h2, h3, D4, hx⟩; obtain ⟨A1, c1, rfl⟩ := h1.shape; obtain ⟨B1, d1, rfl⟩ := h2.shape; obtain ⟨C1, e1, rfl⟩ := h3.shape; obtain ⟨hz, D5, hU, hx5⟩ := D4.stbox (sCells (.slice A1 s'.ram.length c1) (.slice B1 s'.inp.length d1) (.slice C1 s'.out.length e1) s'); have HZ5 := Lib.hid hz; have HD5 := Lib.hid D5; have HU5 := Lib.hid hU; have HT5 := Lib.hid ((hx5 wr.heap.size (by simp)).trans ((hx wr.heap.size (by simp)).trans HT2.out)); have HUB5 := Lib.hid (And.intro (h1.keepX (fun g hg => hx5 g (by simp [hg]))) (And.intro (h2.keepX (fun g hg => hx5 g (by simp [hg]))) (h3.keepX (fun g hg => hx5 g (by simp [hg]))))); clear hz D5 hU hx5 hx h1 h2 h3 D4)
            | (refine wpList_store_row rfl 26 (.tmp 11) (.tmp 69) rfl w4.heap.size _ rfl rfl 26 _ HZ5.out (by kernel_rfl) rfl (sCells_one _ _ _ _ _ _ _ _ _ _) ?_)
            | ((with_reducible refine gate_n (N := 71) rfl ?_); refine wpList_load_row rfl 26 (.tmp 11) rfl w4.heap.size rfl 26 _ (0, 0) _ HU5.out Try.underlying26 rfl (by kernel_rfl) ?_)
            | (go_at_call 36; refine (copied_rd _ s' _ _ _ (by have := HS'.out.r1; omega) (by have := HS'.out.i1; omega) (by have := HS'.out.o1; omega) HUB5.out.1.rd HUB5.out.2.1.rd HUB5.out.2.2.rd).mono ?_; rintro e w6 ⟨y1, y2, y3, rfl, hN⟩; obtain ⟨A2, c2, B2, d2, C2, e2, rfl, rfl, rfl⟩ := hN.shapes; obtain ⟨hP, hx⟩ := Paired.of HD5.out hN; have HP8 := Lib.hid hP; have HZ8 := Lib.hid hP.z; have HQ8 := Lib.hid hP.row; have HT8 := Lib.hid ((hx wr.heap.size (by simp)).trans HT5.out); have HU8 := Lib.hid ((hx w4.heap.size (by simp)).trans HU5.out); have HUB8 := Lib.hid (And.intro (HUB5.out.1.keepX (fun g hg => hx g (by simp [hg]))) (And.intro (HUB5.out.2.1.keepX (fun g hg => hx g (by simp [hg]))) (HUB5.out.2.2.keepX (fun g hg => hx g (by simp [hg]))))); clear hP hx hN; unfold sCells)
            | (refine wpList_store_row rfl 37 (.tmp 12) (.tmp 75) rfl (w6.heap.size + 1) _ rfl rfl 37 _ HZ8.out (by kernel_rfl) rfl (by simp [Value.oneCell']) ?_)
            | ((with_reducible refine gate_n (N := 76) rfl ?_); refine wpList_load_row rfl 37 (.tmp 12) rfl (w6.heap.size + 1) rfl 37 _ (0, 0) _ HQ8.out Try.underlying37 rfl (by kernel_rfl) ?_)
            | ((with_reducible refine gate_n (N := 77) rfl ?_); refine wpList_load_row rfl 54 (.tmp 10) rfl wr.heap.size rfl 54 _ (0, 0) _ HT8.out Try.underlying54 rfl (by kernel_rfl) ?_)
            | (go_at_call 34; refine (changes_any HP8.out.duo HS'.out o HA.out).mono ?_; rintro e w9 ⟨rfl, D9, hx⟩; have HD9 := Lib.hid D9; have HQ9 := Lib.hid ((hx (w6.heap.size + 1) (by simp)).trans HQ8.out); have HT9 := Lib.hid ((hx wr.heap.size (by simp)).trans HT8.out); have HU9 := Lib.hid ((hx w4.heap.size (by simp)).trans HU8.out); have HUB9 := Lib.hid (And.intro (HUB8.out.1.keepX (fun g hg => hx g (by simp [hg]))) (And.intro (HUB8.out.2.1.keepX (fun g hg => hx g (by simp [hg]))) (HUB8.out.2.2.keepX (fun g hg => hx g (by simp [hg]))))); clear D9 hx)
            | ((with_reducible refine gate_n (N := 79) rfl ?_); refine wpList_load_row rfl 37 (.tmp 12) rfl (w6.heap.size + 1) rfl 37 _ (0, 0) _ HQ9.out Try.underlying37 rfl (by kernel_rfl) ?_)
            | ((with_reducible refine gate_n (N := 80) rfl ?_); refine wpList_load_row rfl 54 (.tmp 10) rfl wr.heap.size rfl 54 _ (0, 0) _ HT9.out Try.underlying54 rfl (by kernel_rfl) ?_)
            | (go_at_call 35; refine (asks_any HD9.out HS''.out o HA.out).mono ?_; rintro e w10 ⟨rfl, D10, hx⟩; have HD10 := Lib.hid D10; have HT10 := Lib.hid ((hx wr.heap.size (by simp)).trans HT9.out); have HU10 := Lib.hid ((hx w4.heap.size (by simp)).trans HU9.out); have HUB10 := Lib.hid (And.intro (HUB9.out.1.keepX (fun g hg => hx g (by simp [hg]))) (And.intro (HUB9.out.2.1.keepX (fun g hg => hx g (by simp [hg]))) (HUB9.out.2.2.keepX (fun g hg => hx g (by simp [hg]))))); clear D10 hx)
            | (go_at_call 37; refine (p_off HD10.out).mono ?_; rw [HNX.out.1, HNX.out.2]; rintro e w11 ⟨rfl, D11, hx⟩; have HU11 := Lib.hid ((hx w4.heap.size (by simp)).trans HU10.out); have HUB11 := Lib.hid (And.intro (HUB10.out.1.keepX (fun g hg => hx g (by simp [hg]))) (And.intro (HUB10.out.2.1.keepX (fun g hg => hx g (by simp [hg]))) (HUB10.out.2.2.keepX (fun g hg => hx g (by simp [hg]))))); have k0 := row_cell ((hx wr.heap.size (by simp)).trans HT10.out) 0 _ HKD.out; have HD11 := Lib.hid D11; have HIN11 := Lib.hid (show OffInv w1 pb _ _ w11 from ⟨_, HS''.out, HNX.out.1, HNX.out.2, D11.solo.pop (by simp)⟩); clear D11 hx))
          obtain ⟨DX, hxx⟩ := HD11.out.keep (Kept.refl [] _).drew
          rw [HBE.out] at DX
          have hux := (hxx w4.heap.size (by simp)).trans HU11.out
          have HUX := Lib.hid hux
          have p15 := cells15 hux
          have HST := Lib.hid (p_state DX HS'.out)
          have HXX := Lib.hid hxx
          clear DX hxx hux
          go_region_held3 (fun w' => w'.cell? ⟨w4.heap.size, 0, none⟩ = some (.slice A1 s'.ram.length c1) ∧ w'.cell? ⟨w4.heap.size, 1, none⟩ = some (.int .u32 s'.msip) ∧ w'.cell? ⟨w4.heap.size, 2, none⟩ = some (.int .u64 s'.cmp) ∧ w'.cell? ⟨w4.heap.size, 3, none⟩ = some (.int .u64 s'.now) ∧ w'.cell? ⟨w4.heap.size, 4, none⟩ = some (.bool s'.ext) ∧ w'.cell? ⟨w4.heap.size, 5, none⟩ = some (.bool s'.soft) ∧ w'.cell? ⟨w4.heap.size, 6, none⟩ = some (.int .u8 s'.ier) ∧ w'.cell? ⟨w4.heap.size, 7, none⟩ = some (.int .u8 s'.lcr) ∧ w'.cell? ⟨w4.heap.size, 8, none⟩ = some (.int .u8 s'.mcr) ∧ w'.cell? ⟨w4.heap.size, 9, none⟩ = some (.int .u8 s'.scr) ∧ w'.cell? ⟨w4.heap.size, 10, none⟩ = some (.bool s'.over) ∧ w'.cell? ⟨w4.heap.size, 11, none⟩ = some (.slice B1 s'.inp.length d1) ∧ w'.cell? ⟨w4.heap.size, 12, none⟩ = some (.slice C1 s'.out.length e1) ∧ w'.cell? ⟨w4.heap.size, 13, none⟩ = some (.int .i64 s'.off) ∧ w'.cell? ⟨w4.heap.size, 14, none⟩ = some (.int .i64 s'.code)) (first | (with_reducible assumption) | go_keep)
            (first
              | (go_at_call 20; (with_reducible refine HST.out.mono ?_); rintro e w12 ⟨x1, x2, x3, rfl, h1, h2, h3, D12, hx⟩; have hu12 := (hx w4.heap.size (by simp)).trans HUX.out; have HU12 := Lib.hid hu12; have q15 := cells15 hu12; have HBS := Lib.hid (And.intro h1 (And.intro h2 h3)); have HUB := Lib.hid (And.intro (HUB11.out.1.keepX (fun g hg => (hx g (by simp [hg])).trans (HXX.out g (by simp [hg])))) (And.intro (HUB11.out.2.1.keepX (fun g hg => (hx g (by simp [hg])).trans (HXX.out g (by simp [hg])))) (HUB11.out.2.2.keepX (fun g hg => (hx g (by simp [hg])).trans (HXX.out g (by simp [hg])))))); have HD12 := Lib.hid D12; clear D12 hx h1 h2 h3 hu12)
              | (go_at_call 19; refine (r_same_rd w12 s' _ _ _ _ _ _ HBS.out.1.rd HBS.out.2.1.rd HBS.out.2.2.rd HUB.out.1.rd HUB.out.2.1.rd HUB.out.2.2.rd).mono ?_; rintro e w13 ⟨rfl, hb⟩; obtain ⟨D13, hx⟩ := HD12.out.keep (Kept.of_below (F := []) hb); have hu13 := (hx w4.heap.size (by simp)).trans HU12.out; have r15 := cells15 hu13; have HIN := Lib.hid (show OffInv w1 pb _ _ w13 from ⟨s', HS'.out, HO1.out, HO2.out, D13.solo.pop (by simp)⟩); clear D13 hx hb hu13))
          all_goals
            go_wp2
            go_roundw
            case rel => go_light; exact ⟨k + 1, by omega, by go_num, HIN.out⟩
            case measure => simp [intOf]; omega
        · have b3 : (o.kind == 3) = false := by simpa using hk3
          clear hk3 HBG
          go_wp2_with (first
            | ((with_reducible refine gate_n (N := 67) rfl ?_); refine wpList_load_mid rfl 54 (.tmp 66) rfl g (off + k * 9) rfl o.cells.toList _ HRG.out Try.underlying54 rfl (by kernel_rfl) ?_; rw [Array.toArray_toList])
            | (refine wpList_store_row rfl 54 (.tmp 10) (.tmp 67) rfl wr.heap.size _ rfl rfl 54 _ HZO.out (by kernel_rfl) rfl HA.out.one ?_)
            | (go_at_call 20; refine (s_state HD2.out HS'.out).mono ?_; rintro e w4 ⟨u1, u2, u3, rfl, h1, h2, h3, D4, hx⟩; obtain ⟨A1, c1, rfl⟩ := h1.shape; obtain ⟨B1, d1, rfl⟩ := h2.shape; obtain ⟨C1, e1, rfl⟩ := h3.shape; obtain ⟨hz, D5, hU, hx5⟩ := D4.stbox (sCells (.slice A1 s'.ram.length c1) (.slice B1 s'.inp.length d1) (.slice C1 s'.out.length e1) s'); have HZ5 := Lib.hid hz; have HD5 := Lib.hid D5; have HU5 := Lib.hid hU; have HT5 := Lib.hid ((hx5 wr.heap.size (by simp)).trans ((hx wr.heap.size (by simp)).trans HT2.out)); have HUB5 := Lib.hid (And.intro (h1.keepX (fun g hg => hx5 g (by simp [hg]))) (And.intro (h2.keepX (fun g hg => hx5 g (by simp [hg]))) (h3.keepX (fun g hg => hx5 g (by simp [hg]))))); clear hz D5 hU hx5 hx h1 h2 h3 D4)
            | (refine wpList_store_row rfl 26 (.tmp 11) (.tmp 69) rfl w4.heap.size _ rfl rfl 26 _ HZ5.out (by kernel_rfl) rfl (sCells_one _ _ _ _ _ _ _ _ _ _) ?_)
            | ((with_reducible refine gate_n (N := 71) rfl ?_); refine wpList_load_row rfl 26 (.tmp 11) rfl w4.heap.size rfl 26 _ (0, 0) _ HU5.out Try.underlying26 rfl (by kernel_rfl) ?_)
            | (go_at_call 36; refine (copied_rd _ s' _ _ _ (by have := HS'.out.r1; omega) (by have := HS'.out.i1; omega) (by have := HS'.out.o1; omega) HUB5.out.1.rd HUB5.out.2.1.rd HUB5.out.2.2.rd).mono ?_; rintro e w6 ⟨y1, y2, y3, rfl, hN⟩; obtain ⟨A2, c2, B2, d2, C2, e2, rfl, rfl, rfl⟩ := hN.shapes; obtain ⟨hP, hx⟩ := Paired.of HD5.out hN; have HP8 := Lib.hid hP; have HZ8 := Lib.hid hP.z; have HQ8 := Lib.hid hP.row; have HT8 := Lib.hid ((hx wr.heap.size (by simp)).trans HT5.out); have HU8 := Lib.hid ((hx w4.heap.size (by simp)).trans HU5.out); have HUB8 := Lib.hid (And.intro (HUB5.out.1.keepX (fun g hg => hx g (by simp [hg]))) (And.intro (HUB5.out.2.1.keepX (fun g hg => hx g (by simp [hg]))) (HUB5.out.2.2.keepX (fun g hg => hx g (by simp [hg]))))); clear hP hx hN; unfold sCells)
            | (refine wpList_store_row rfl 37 (.tmp 12) (.tmp 75) rfl (w6.heap.size + 1) _ rfl rfl 37 _ HZ8.out (by kernel_rfl) rfl (by simp [Value.oneCell']) ?_)
            | ((with_reducible refine gate_n (N := 76) rfl ?_); refine wpList_load_row rfl 37 (.tmp 12) rfl (w6.heap.size + 1) rfl 37 _ (0, 0) _ HQ8.out Try.underlying37 rfl (by kernel_rfl) ?_)
            | ((with_reducible refine gate_n (N := 77) rfl ?_); refine wpList_load_row rfl 54 (.tmp 10) rfl wr.heap.size rfl 54 _ (0, 0) _ HT8.out Try.underlying54 rfl (by kernel_rfl) ?_)
            | (go_at_call 34; refine (changes_any HP8.out.duo HS'.out o HA.out).mono ?_; rintro e w9 ⟨rfl, D9, hx⟩; have HD9 := Lib.hid D9; have HQ9 := Lib.hid ((hx (w6.heap.size + 1) (by simp)).trans HQ8.out); have HT9 := Lib.hid ((hx wr.heap.size (by simp)).trans HT8.out); have HU9 := Lib.hid ((hx w4.heap.size (by simp)).trans HU8.out); have HUB9 := Lib.hid (And.intro (HUB8.out.1.keepX (fun g hg => hx g (by simp [hg]))) (And.intro (HUB8.out.2.1.keepX (fun g hg => hx g (by simp [hg]))) (HUB8.out.2.2.keepX (fun g hg => hx g (by simp [hg]))))); clear D9 hx)
            | ((with_reducible refine gate_n (N := 79) rfl ?_); refine wpList_load_row rfl 37 (.tmp 12) rfl (w6.heap.size + 1) rfl 37 _ (0, 0) _ HQ9.out Try.underlying37 rfl (by kernel_rfl) ?_)
            | ((with_reducible refine gate_n (N := 80) rfl ?_); refine wpList_load_row rfl 54 (.tmp 10) rfl wr.heap.size rfl 54 _ (0, 0) _ HT9.out Try.underlying54 rfl (by kernel_rfl) ?_)
            | (go_at_call 35; refine (asks_any HD9.out HS''.out o HA.out).mono ?_; rintro e w10 ⟨rfl, D10, hx⟩; have HD10 := Lib.hid D10; have HT10 := Lib.hid ((hx wr.heap.size (by simp)).trans HT9.out); have HU10 := Lib.hid ((hx w4.heap.size (by simp)).trans HU9.out); have HUB10 := Lib.hid (And.intro (HUB9.out.1.keepX (fun g hg => hx g (by simp [hg]))) (And.intro (HUB9.out.2.1.keepX (fun g hg => hx g (by simp [hg]))) (HUB9.out.2.2.keepX (fun g hg => hx g (by simp [hg]))))); clear D10 hx)
            | (go_at_call 37; refine (p_off HD10.out).mono ?_; rw [HNX.out.1, HNX.out.2]; rintro e w11 ⟨rfl, D11, hx⟩; have HU11 := Lib.hid ((hx w4.heap.size (by simp)).trans HU10.out); have HUB11 := Lib.hid (And.intro (HUB10.out.1.keepX (fun g hg => hx g (by simp [hg]))) (And.intro (HUB10.out.2.1.keepX (fun g hg => hx g (by simp [hg]))) (HUB10.out.2.2.keepX (fun g hg => hx g (by simp [hg]))))); have k0 := row_cell ((hx wr.heap.size (by simp)).trans HT10.out) 0 _ HKD.out; have HD11 := Lib.hid D11; have HIN11 := Lib.hid (show OffInv w1 pb _ _ w11 from ⟨_, HS''.out, HNX.out.1, HNX.out.2, D11.solo.pop (by simp)⟩); clear D11 hx))
          all_goals
            go_roundw
            case rel => go_light; exact ⟨k + 1, by omega, by go_num, HIN11.out⟩
            case measure => simp [intOf]; omega
      · obtain rfl : k = ops.length := by omega
        have HE := Lib.hid (HK.out.trans D.kept (by simp))
        clear D hR hs'
        go_wp2
        go_ret
        exact ⟨rfl, HE.out⟩
theorem law_BusOff (w : World) (s : St) (hs : s.In) (v1 v2 v3 vops : Value) (ops : List OpV) (h1 : Rd w v1 s.ram) (h2 : Rd w v2 s.inp) (h3 : Rd w v3 s.out) (ho : OpsAt w vops ops) :
    Calls Try.prog 16 #[.agg (yCells v1 v2 v3 s vops)] w (TruePost w) := by
  cases hc : s.canBe
  · exact BusOff_no w s hs v1 v2 v3 vops h1 h2 h3 hc
  · exact BusOff_yes w s hs v1 v2 v3 vops ops h1 h2 h3 ho hc
end Go.Proofs.Ytkocfcgdjjdnhaa.BW
