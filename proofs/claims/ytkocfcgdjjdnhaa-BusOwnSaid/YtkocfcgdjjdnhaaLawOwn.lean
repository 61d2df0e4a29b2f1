/- The law BusOwn: it answers true. Premise: the story can be read. -/
import Derived.Test.YtkocfcgdjjdnhaaGroupsBus
namespace Go.Proofs.Ytkocfcgdjjdnhaa.BW
open Go.RowKit
set_option linter.unusedVariables false
set_option linter.unusedSimpArgs false
theorem cells16w {W : World} {p : Nat} {v1 v2 v3 vops : Value} {s : St} (h : W.heap[p]? = some (.cells (yCells v1 v2 v3 s vops) 43 (0, 0))) : W.cell? ⟨p, 0, none⟩ = some (v1) ∧ W.cell? ⟨p, 1, none⟩ = some (.int .u32 s.msip) ∧ W.cell? ⟨p, 2, none⟩ = some (.int .u64 s.cmp) ∧ W.cell? ⟨p, 3, none⟩ = some (.int .u64 s.now) ∧ W.cell? ⟨p, 4, none⟩ = some (.bool s.ext) ∧ W.cell? ⟨p, 5, none⟩ = some (.bool s.soft) ∧ W.cell? ⟨p, 6, none⟩ = some (.int .u8 s.ier) ∧ W.cell? ⟨p, 7, none⟩ = some (.int .u8 s.lcr) ∧ W.cell? ⟨p, 8, none⟩ = some (.int .u8 s.mcr) ∧ W.cell? ⟨p, 9, none⟩ = some (.int .u8 s.scr) ∧ W.cell? ⟨p, 10, none⟩ = some (.bool s.over) ∧ W.cell? ⟨p, 11, none⟩ = some (v2) ∧ W.cell? ⟨p, 12, none⟩ = some (v3) ∧ W.cell? ⟨p, 13, none⟩ = some (.int .i64 s.off) ∧ W.cell? ⟨p, 14, none⟩ = some (.int .i64 s.code) ∧ W.cell? ⟨p, 15, none⟩ = some (vops) :=
  ⟨row_cell h 0 _ rfl, row_cell h 1 _ rfl, row_cell h 2 _ rfl, row_cell h 3 _ rfl, row_cell h 4 _ rfl, row_cell h 5 _ rfl, row_cell h 6 _ rfl, row_cell h 7 _ rfl, row_cell h 8 _ rfl, row_cell h 9 _ rfl, row_cell h 10 _ rfl, row_cell h 11 _ rfl, row_cell h 12 _ rfl, row_cell h 13 _ rfl, row_cell h 14 _ rfl, row_cell h 15 _ rfl⟩
theorem one_at {W : World} {g0 : Nat} {T : TypeId} {u : Value} (h : W.heap.size = g0) : (W.alloc (.cells #[u] T)).cell? ⟨g0, 0, none⟩ = some u := by subst h; exact row_cell (heap_alloc_new _ _) 0 _ rfl
theorem HInv.kept {w1 w : World} {X : List Nat} {vL vG : Value} {n i : Nat} (h : HInv w1 X vL n vG i w) : Kept [] w1 w := by obtain ⟨F, v, l, g, m, hg, _⟩ := h; exact hg.kept
set_option maxHeartbeats 8000000 in
set_option maxRecDepth 100000 in
theorem BusOwn_no (w : World) (s : St) (hs : s.In) (v1 v2 v3 vops : Value) (h1 : Rd w v1 s.ram) (h2 : Rd w v2 s.inp) (h3 : Rd w v3 s.out) (hc : s.canBe = false) :
    Calls Try.prog 4 #[.agg (yCells v1 v2 v3 s vops)] w (TruePost w) := by
  obtain ⟨A, c, rfl⟩ := h1.shape
  obtain ⟨B, d, rfl⟩ := h2.shape
  obtain ⟨C, e, rfl⟩ := h3.shape
  have kA : Kept [] w (w.alloc (.cells (yCells (.slice A s.ram.length c) (.slice B s.inp.length d) (.slice C s.out.length e) s vops) 43)) := (Kept.refl [] w).alloc _
  have HC := Lib.hid (r_canbe_rd _ s hs _ _ _ (h1.keep kA (by simp)) (h2.keep kA (by simp)) (h3.keep kA (by simp)))
  rw [hc] at HC
  have HK := Lib.hid kA
  clear h1 h2 h3 hs hc kA
  unfold yCells at *
  unfold sCells at HC
  go_enter Try.func4, Try.ntmps4
  go_wp2_with (go_at_call 23; refine HC.out.mono ?_; rintro e w2 ⟨rfl, hb⟩; have HK2 := Lib.hid (HK.out.trans (Kept.of_below (F := []) hb) (by simp)); clear hb)
  go_ret
  exact ⟨rfl, HK2.out⟩
set_option maxHeartbeats 40000000 in
set_option maxRecDepth 100000 in
theorem BusOwn_yes (w : World) (s : St) (hs : s.In) (v1 v2 v3 vops : Value) (ops : List OpV) (h1 : Rd w v1 s.ram) (h2 : Rd w v2 s.inp) (h3 : Rd w v3 s.out) (ho : OpsAt w vops ops) (hc : s.canBe = true) :
    Calls Try.prog 4 #[.agg (yCells v1 v2 v3 s vops)] w (TruePost w) := by
  obtain ⟨A, c, rfl⟩ := h1.shape
  obtain ⟨B, d, rfl⟩ := h2.shape
  obtain ⟨C, e, rfl⟩ := h3.shape
  obtain ⟨AO, cO, rfl⟩ : ∃ A c, vops = .slice A ops.length c := by
    rcases ho.2 with ⟨rfl, rfl⟩ | ⟨g, off, cap, rfl, _⟩
    · exact ⟨_, _, rfl⟩
    · exact ⟨_, _, rfl⟩
  have hlen : ops.length ≤ 140737488351232 := ho.1
  have kA : Kept [] w (w.alloc (.cells (yCells (.slice A s.ram.length c) (.slice B s.inp.length d) (.slice C s.out.length e) s (.slice AO ops.length cO)) 43)) := (Kept.refl [] w).alloc _
  have hrow : (w.alloc (.cells (yCells (.slice A s.ram.length c) (.slice B s.inp.length d) (.slice C s.out.length e) s (.slice AO ops.length cO)) 43)).heap[w.heap.size]? = some (.cells (yCells (.slice A s.ram.length c) (.slice B s.inp.length d) (.slice C s.out.length e) s (.slice AO ops.length cO)) 43 (0, 0)) := heap_alloc_new w _
  have r1 := h1.keep kA (by simp)
  have r2 := h2.keep kA (by simp)
  have r3 := h3.keep kA (by simp)
  have hcan := r_canbe_rd _ s hs _ _ _ r1 r2 r3
  rw [hc] at hcan
  have HC := Lib.hid hcan
  have HR1 := Lib.hid r1
  have HR2 := Lib.hid r2
  have HR3 := Lib.hid r3
  have HSI := Lib.hid hs
  have HCB := Lib.hid hc
  have HO := Lib.hid (ho.keep kA)
  have HK := Lib.hid kA
  have HROW := Lib.hid hrow
  have hok := hs.ok hc
  have HSOK := Lib.hid hok
  have hn0 := hok.r0
  have hn1 := hok.r1
  clear h1 h2 h3 hs hc kA hrow ho r1 r2 r3 hcan hok
  unfold yCells at HC HR1 HR2 HR3 HO HK HROW ⊢
  unfold sCells at HC
  go_enter Try.func4, Try.ntmps4
  go_wp2_with (first
    | (go_at_call 23; refine HC.out.mono ?_; rintro e w2 ⟨rfl, hb⟩; have hk2 := Kept.of_below (F := []) hb; obtain ⟨f0, f1, f2, f3, f4, f5, f6, f7, f8, f9, f10, f11, f12, f13, f14, f15⟩ := cells16w (hk2.row HROW.out (by simp)); have HMD := Lib.hid (made_any w2 s HSI.out A B C _ _ _ c d e (HR1.out.keep hk2 (by simp)) (HR2.out.keep hk2 (by simp)) (HR3.out.keep hk2 (by simp)) HCB.out); have HK2 := Lib.hid hk2; clear hb hk2)
    | (go_at_call 24; (unfold sCells at HMD); refine HMD.out.mono ?_; intro e w3 hm; obtain ⟨pb, vr, vi, vo, rfl, hp, hf, hk3⟩ := hm; have HP3 := Lib.hid hp; have HK3 := Lib.hid (HK2.out.trans hk3 (by simp)); have HFT := Lib.hid (show ∀ x ∈ foot pb vr vi vo, (w.alloc (.cells #[.slice A s.ram.length c, .int .u32 s.msip, .int .u64 s.cmp, .int .u64 s.now, .bool s.ext, .bool s.soft, .int .u8 s.ier, .int .u8 s.lcr, .int .u8 s.mcr, .int .u8 s.scr, .bool s.over, .slice B s.inp.length d, .slice C s.out.length e, .int .i64 s.off, .int .i64 s.code, .slice AO ops.length cO] 43)).heap.size ≤ x from fun x hx => Nat.le_trans HK2.out.size (hf x hx)); have f0 : w3.cell? ⟨w.heap.size, 0, none⟩ = some (.slice A s.ram.length c) := row_cell ((HK2.out.trans hk3 (by simp)).row HROW.out (by simp)) 0 _ rfl; clear hp hf hk3 HMD))
  have HINV := Lib.hid (show OInv (w.alloc (.cells #[.slice A s.ram.length c, .int .u32 s.msip, .int .u64 s.cmp, .int .u64 s.now, .bool s.ext, .bool s.soft, .int .u8 s.ier, .int .u8 s.lcr, .int .u8 s.mcr, .int .u8 s.scr, .bool s.over, .slice B s.inp.length d, .slice C s.out.length e, .int .i64 s.off, .int .i64 s.code, .slice AO ops.length cO] 43)) pb vr vi vo s (.slice none 0 0) 0 w3 from ⟨HP3.out, _, _, _, Gr.nil HK3.out HP3.out.lt, by simp⟩)
  generalize (w.alloc (.cells #[.slice A s.ram.length c, .int .u32 s.msip, .int .u64 s.cmp, .int .u64 s.now, .bool s.ext, .bool s.soft, .int .u8 s.ier, .int .u8 s.lcr, .int .u8 s.mcr, .int .u8 s.scr, .bool s.over, .slice B s.inp.length d, .slice C s.out.length e, .int .i64 s.off, .int .i64 s.code, .slice AO ops.length cO] 43)) = w1 at *
  clear HC HSI HCB HK2 HP3 HK3 f0 f1 f2 f3 f4 f5 f6 f7 f8 f9 f10 f11 f12 f13 f14 f15
  generalize w.heap.size = N at *
  have hpk := peek_all HSOK.out
  have HPK := Lib.hid hpk
  clear hpk
  go_loopw [7, 8] (fun vL i wr => ∃ k : Nat, k ≤ 2 ∧ i = .int .i64 k ∧ Hid (OInv w1 pb vr vi vo s vL (5 * k) wr)) (fun _ i _ => 2 - (intOf i).toNat)
  case atStart => exact ⟨0, by omega, rfl, HINV.out⟩
  case round =>
    obtain ⟨k, hk, rfl, hp⟩ := hrel
    have HP := Lib.hid hp.out
    clear hp HINV
    by_cases hlt : k < 2
    · have hn0 : 5 * k ≤ 5 := by omega
      have HN := Lib.hid hn0
      clear hn0
      have HST := Lib.hid (state_any HP.out.1 HSOK.out)
      as_aux_lemma =>
      go_wp2_with (first
        | (go_at_call 20; refine HST.out.mono ?_; rintro e w4 ⟨u1, u2, u3, rfl, h1, h2, h3, n1, n2, n3, d12, d13, d23, hp4, hk4⟩; obtain ⟨A1, c1, rfl⟩ := h1.shape; obtain ⟨B1, d1, rfl⟩ := h2.shape; obtain ⟨C1, e1, rfl⟩ := h3.shape; obtain ⟨hz, hT⟩ := Tu.begin HP.out HSOK.out HFT.out h1 h2 h3 n1 n2 n3 d12 d13 d23 hp4 hk4 (sCells (.slice A1 s.ram.length c1) (.slice B1 s.inp.length d1) (.slice C1 s.out.length e1) s); have HZ := Lib.hid hz; have HT := Lib.hid hT; have HM := Lib.hid (show w1.heap.size ≤ w4.heap.size from (by obtain ⟨F, v, l, hg, hl⟩ := HP.out.2; exact Nat.le_trans hg.kept.size hk4.size)); have HMp := Lib.hid (show w4.heap.size ≠ pb from (by have := hp4.lt pb (by simp [foot]); omega)); have t0 := row_cell hT.row 0 (.slice A1 s.ram.length c1) rfl; have t11 := row_cell hT.row 11 (.slice B1 s.inp.length d1) rfl; have t12 := row_cell hT.row 12 (.slice C1 s.out.length e1) rfl; clear h1 h2 h3 n1 n2 n3 d12 d13 d23 hp4 hk4 hz hT HST)
        | (refine wpList_store_row rfl 26 (.tmp 9) (.tmp 42) rfl w4.heap.size _ rfl rfl 26 _ HZ.out (by kernel_rfl) rfl (sCells_one _ _ _ _ _ _ _ _ _ _) ?_)
        | (at_builtin; refine wpList_tu_add rfl _ _ rfl _ _ _ _ _ rfl rfl (HT.out.keep ((Kept.refl [] _).alloc _)) ?hn (one_at (by first | rfl | simp)) ?_; (case hn => (have := HN.out; omega)); intro A6 c6 w6 hT6; clear HT t0 t11 t12; have HT := Lib.hid hT6; have t0 := row_cell hT6.row 0 (.slice A1 s.ram.length c1) rfl; have t11 := row_cell hT6.row 11 (.slice B1 s.inp.length d1) rfl; have t12 := row_cell hT6.row 12 (.slice C1 s.out.length e1) rfl; clear hT6)
        | (go_at_call 25; refine (peek_any HT.out.p HSOK.out 2147483648 s.ram.length (by omega) (by omega) (by omega) (by omega)).mono ?_; rw [HPK.out]; rintro e w7 ⟨A7, c7, rfl, hb, hn, hk⟩; have hT7 := HT.out.claim HFT.out HM.out (HT.out.p.keep0 hk) hk (by simp) HMp.out hb HSOK.out.r1 hn; clear HT t0 t11 t12; have HT := Lib.hid hT7; have t0 := row_cell hT7.row 0 (.slice A1 s.ram.length c1) rfl; have t11 := row_cell hT7.row 11 (.slice B1 s.inp.length d1) rfl; have t12 := row_cell hT7.row 12 (.slice C1 s.out.length e1) rfl; clear hb hn hk hT7)
        | (go_at_call 26; refine (output_any HT.out.p HSOK.out).mono ?_; rintro e w8 ⟨A8, c8, rfl, hb, hn, hp8, hk⟩; have hT8 := HT.out.claim HFT.out HM.out hp8 hk (by simp) HMp.out hb (by have := HSOK.out.o1; omega) hn; clear HT t0 t11 t12; have HT := Lib.hid hT8; have t0 := row_cell hT8.row 0 (.slice A1 s.ram.length c1) rfl; have t11 := row_cell hT8.row 11 (.slice B1 s.inp.length d1) rfl; have t12 := row_cell hT8.row 12 (.slice C1 s.out.length e1) rfl; clear hb hn hk hT8 hp8))
      go_roundw
      case rel => go_light; exact ⟨k + 1, by omega, by go_num, HT.out.out⟩
      case measure => simp [intOf]; omega
    · obtain rfl : k = 2 := by omega
      rw [show ((2 : Nat) : Int) = 2 from rfl]
      obtain ⟨hpl, F, v, l, hg, hl⟩ := (show OInv w1 pb vr vi vo s _ 10 wr from HP.out)
      obtain ⟨bL, cap, rfl, -⟩ := hg.cell (i := 0) (by omega)
      have HF0 := Lib.hid (show FInv w1 (foot pb vr vi vo) (.slice (some ⟨bL, 0, none⟩) 10 cap) 10 0 0 wr ∧ PL wr pb vr vi vo s from ⟨⟨F, v, l, hg, hl, by intro j hj; omega, by intro t ht; omega⟩, hpl⟩)
      clear hpl hg hl HP hlt hk
      clear F v l
      go_wp2
      obtain ⟨wo, rfl⟩ : ∃ wo : World, wo = wr := ⟨_, rfl⟩
      go_loopw [12] (fun i wq => ∃ k : Nat, k ≤ 10 ∧ i = .int .i64 k ∧ Hid (FInv w1 (foot pb vr vi vo) (.slice (some ⟨bL, 0, none⟩) 10 cap) 10 k 0 wq ∧ PL wq pb vr vi vo s)) (fun i _ => 10 - (intOf i).toNat)
      case atStart => exact ⟨0, by omega, rfl, HF0.out⟩
      case round =>
        obtain ⟨k, hk, rfl, hp⟩ := hrel
        have HP := Lib.hid hp.out
        clear hp HF0
        by_cases hlt : k < 10
        · have HLT := Lib.hid hlt
          obtain ⟨A5, N5, c5, bL', cap', e5, d5, hN5, -, -⟩ := HP.out.1.set hlt
          simp only [Value.slice.injEq, Option.some.injEq, Addr.mk.injEq] at e5
          obtain ⟨⟨rfl, -, -⟩, -, rfl⟩ := e5
          clear hN5
          as_aux_lemma =>
          go_wp2
          clear d5
          obtain ⟨wp, rfl⟩ : ∃ wp : World, wp = wr := ⟨_, rfl⟩
          go_loopw [13] (fun kk wq => ∃ m : Nat, kk = .int .i64 m ∧ m ≤ 65536 ∧ Hid (FInv w1 (foot pb vr vi vo) (.slice (some ⟨bL, 0, none⟩) 10 cap) 10 k m wq ∧ PL wq pb vr vi vo s)) (fun kk _ => 65536 - (intOf kk).toNat)
          case atStart => exact ⟨0, rfl, by omega, HP.out⟩
          case round =>
            obtain ⟨m, rfl, hm, hq⟩ := hrel
            have HQ := Lib.hid hq.out
            clear hq HP
            obtain ⟨A6, N6, c6, bL', cap', e6, d6, hN6, hend, hset⟩ := HQ.out.1.set HLT.out
            simp only [Value.slice.injEq, Option.some.injEq, Addr.mk.injEq] at e6
            obtain ⟨⟨rfl, -, -⟩, -, rfl⟩ := e6
            by_cases hlt2 : m < N6
            · obtain ⟨b, rfl, ⟨y, hy⟩, hfz, hF, hS⟩ := hset hlt2
              have HF := Lib.hid hF
              have HS := Lib.hid hS
              clear hset hend hF hS
              go_wp2
              go_roundw
              case rel =>
                go_light
                exact ⟨m + 1, by go_num, by omega, HF.out, HQ.out.2.keepG HS.out⟩
              case measure => simp [intOf]; omega
            · have HE := Lib.hid (hend (by omega))
              clear hset hend
              go_wp2
              go_roundw
              case rel => go_light; exact ⟨k + 1, by omega, by go_num, HE.out, HQ.out.2⟩
              case measure => simp [intOf]; omega
        · obtain rfl : k = 10 := by omega
          rw [show ((10 : Nat) : Int) = 10 from rfl]
          have HH := Lib.hid (show HInv w1 (foot pb vr vi vo) (.slice (some ⟨bL, 0, none⟩) 10 cap) 10 (.slice none 0 0) 0 wr ∧ PL wr pb vr vi vo s from ⟨HInv.of HP.out.1, HP.out.2⟩)
          clear HP hlt hk
          go_wp2
          obtain ⟨wp, rfl⟩ : ∃ wp : World, wp = wr := ⟨_, rfl⟩
          go_loopw [14, 15] (fun vG i wq => ∃ k : Nat, k ≤ 10 ∧ i = .int .i64 k ∧ Hid (HInv w1 (foot pb vr vi vo) (.slice (some ⟨bL, 0, none⟩) 10 cap) 10 vG k wq ∧ PL wq pb vr vi vo s)) (fun _ i _ => 10 - (intOf i).toNat)
          case atStart => exact ⟨0, by omega, rfl, HH.out⟩
          case round =>
            obtain ⟨k, hk, rfl, hp⟩ := hrel
            have HP := Lib.hid hp.out
            clear hp HH
            by_cases hlt : k < 10
            · have HLT := Lib.hid hlt
              obtain ⟨A5, N5, c5, bL', cap', e5, d5, hJ⟩ := HP.out.1.start hlt
              simp only [Value.slice.injEq, Option.some.injEq, Addr.mk.injEq] at e5
              obtain ⟨⟨rfl, -, -⟩, -, rfl⟩ := e5
              have HJ := Lib.hid (And.intro hJ HP.out.2)
              clear hJ
              as_aux_lemma =>
              go_wp2
              clear d5
              have hdk : decide ((k : Int) < 10) = true := decide_eq_true (by have := HLT.out; omega)
              rw [hdk]
              clear hdk
              obtain ⟨wq, rfl⟩ : ∃ wq : World, wq = wr := ⟨_, rfl⟩
              go_loopw [16, 17] (fun gc kk wz => ∃ m N : Nat, m ≤ 64 ∧ kk = .int .i64 m ∧ Hid (JInv w1 (foot pb vr vi vo) (.slice (some ⟨bL, 0, none⟩) 10 cap) 10 u14 k gc N m wz ∧ PL wz pb vr vi vo s)) (fun _ kk _ => 64 - (intOf kk).toNat)
              case atStart => exact ⟨0, _, by omega, rfl, HJ.out⟩
              case round =>
                obtain ⟨m, M, hm, rfl, hq⟩ := hrel
                have HQ := Lib.hid hq.out
                clear hq HJ HP
                obtain ⟨A6, c6, rfl⟩ := HQ.out.1.shape
                have hm0 : m ≤ 1000 := by omega
                have HM0 := Lib.hid hm0
                clear hm0
                by_cases hlt2 : m < 64
                · have HCI := Lib.hid (show JInv w1 (foot pb vr vi vo) (.slice (some ⟨bL, 0, none⟩) 10 cap) 10 u14 k (.slice A6 M c6) M m (wr.alloc (.cells #[.int .u8 (17 * ((k : Int) + 1))] 5)) from HQ.out.1.keep HLT.out ((Kept.refl [] wr).alloc _))
                  have HSC := Lib.hid (show (wr.alloc (.cells #[.int .u8 (17 * ((k : Int) + 1))] 5)).cell? ⟨wr.heap.size, 0, none⟩ = some (.int .u8 (ci k)) from one_at rfl)
                  have HPC := Lib.hid (HQ.out.2.keep0 ((Kept.refl [] wr).alloc (.cells #[.int .u8 (17 * ((k : Int) + 1))] 5)))
                  go_wp2_with (first
                    | (at_builtin; refine wpList_j_grow rfl _ _ rfl (.slice A6 M c6) wr.heap.size 1 rfl rfl HCI.out HLT.out HM0.out HSC.out ?_; intro A7 c7 w7 hj7 hs7; have HJ7 := Lib.hid hj7; have HP7 := Lib.hid (PL.keepG HPC.out hs7); clear hj7 hs7))
                  go_roundw
                  case rel => go_light; exact ⟨m + 1, M + 1, by omega, by go_num, HJ7.out, HP7.out⟩
                  case measure => simp [intOf]; omega
                · have HCI := Lib.hid (show JInv w1 (foot pb vr vi vo) (.slice (some ⟨bL, 0, none⟩) 10 cap) 10 u14 k (.slice A6 M c6) M m (wr.alloc (.cells #[.slice A6 M c6] 22)) from HQ.out.1.keep HLT.out ((Kept.refl [] wr).alloc _))
                  have HSC := Lib.hid (show (wr.alloc (.cells #[.slice A6 M c6] 22)).cell? ⟨wr.heap.size, 0, none⟩ = some (.slice A6 M c6) from one_at rfl)
                  have HPC := Lib.hid (HQ.out.2.keep0 ((Kept.refl [] wr).alloc (.cells #[.slice A6 M c6] 22)))
                  have HTN := Lib.hid (show (10 : Nat) ≤ 1000 by decide)
                  go_wp2_with (first
                    | (at_builtin; refine wpList_j_add rfl _ _ rfl u14 (.slice A6 M c6) wr.heap.size 1 rfl rfl HCI.out HLT.out HTN.out HM0.out HSC.out ?_; intro A7 c7 w7 hj7 hs7; have HJ7 := Lib.hid hj7; have HP7 := Lib.hid (PL.keepG HPC.out hs7); clear hj7 hs7))
                  go_roundw
                  case rel => go_light; exact ⟨k + 1, by omega, by go_num, HJ7.out, HP7.out⟩
                  case measure => simp [intOf]; omega
            · obtain rfl : k = 10 := by omega
              rw [show ((10 : Nat) : Int) = 10 from rfl]
              obtain ⟨A5, N5, c5, bL', cap', A6, N6, c6, bG, capG, e5, rfl, -, -, -⟩ := HP.out.1.read (k := 0) (i := 0) (by omega)
              simp only [Value.slice.injEq, Option.some.injEq, Addr.mk.injEq] at e5
              obtain ⟨⟨rfl, -, -⟩, -, rfl⟩ := e5
              clear hlt hk
              go_wp2
              obtain ⟨wq, rfl⟩ : ∃ wq : World, wq = wr := ⟨_, rfl⟩
              go_loopw [18] (fun i wz => ∃ k : Nat, k ≤ 10 ∧ i = .int .i64 k ∧ Hid (HInv w1 (foot pb vr vi vo) (.slice (some ⟨bL, 0, none⟩) 10 cap) 10 (.slice (some ⟨bG, 0, none⟩) 10 capG) 10 wz ∧ PL wz pb vr vi vo s)) (fun i _ => 10 - (intOf i).toNat)
              case atStart => exact ⟨0, by omega, rfl, HP.out⟩
              case round =>
                obtain ⟨k, hk, rfl, hp⟩ := hrel
                clear HP
                have HP := Lib.hid hp.out
                clear hp
                by_cases hlt : k < 10
                · have HLT := Lib.hid hlt
                  as_aux_lemma =>
                  go_wp2
                  obtain ⟨wz, rfl⟩ : ∃ wz : World, wz = wr := ⟨_, rfl⟩
                  go_loopw [19] (fun kk wy => ∃ m : Nat, kk = .int .i64 m ∧ m ≤ 100000 ∧ Hid (HInv w1 (foot pb vr vi vo) (.slice (some ⟨bL, 0, none⟩) 10 cap) 10 (.slice (some ⟨bG, 0, none⟩) 10 capG) 10 wy ∧ PL wy pb vr vi vo s)) (fun kk _ => 100000 - (intOf kk).toNat)
                  case atStart => exact ⟨0, rfl, by omega, HP.out⟩
                  case round =>
                    obtain ⟨m, rfl, hm, hq⟩ := hrel
                    clear HP
                    have HQ := Lib.hid hq.out
                    clear hq
                    obtain ⟨A7, N7, c7, bL', cap', A8, N8, c8, bG', capG', e7, e8, d7, d8, hN8, hr7, hr8⟩ := HQ.out.1.read (k := m) HLT.out
                    simp only [Value.slice.injEq, Option.some.injEq, Addr.mk.injEq] at e7
                    obtain ⟨⟨rfl, -, -⟩, -, rfl⟩ := e7
                    simp only [Value.slice.injEq, Option.some.injEq, Addr.mk.injEq] at e8
                    obtain ⟨⟨rfl, -, -⟩, -, rfl⟩ := e8
                    by_cases hlt2 : m < N8
                    · obtain ⟨b8, rfl, q8⟩ := hr8 hlt2
                      unfold ci at q8
                      have e1 : decide ((m : Int) < (N8 : Int)) = true := decide_eq_true (by omega)
                      by_cases hlt3 : m < N7
                      · obtain ⟨b7, rfl, q7⟩ := hr7 hlt3
                        unfold ci at q7
                        have e3 : decide ((m : Int) < (N7 : Int)) = true := decide_eq_true (by omega)
                        clear hr7 hr8
                        go_wp2
                        go_roundw
                        case rel => go_light; exact ⟨m + 1, by go_num, by omega, HQ.out⟩
                        case measure => simp [intOf]; omega
                      · have e3 : decide ((m : Int) < (N7 : Int)) = false := decide_eq_false (by omega)
                        clear hr7 hr8
                        go_wp2
                        go_roundw
                        case rel => go_light; exact ⟨m + 1, by go_num, by omega, HQ.out⟩
                        case measure => simp [intOf]; omega
                    · have e1 : decide ((m : Int) < (N8 : Int)) = false := decide_eq_false (by omega)
                      clear hr7 hr8
                      go_wp2
                      go_roundw
                      case rel => go_light; exact ⟨k + 1, by omega, by go_num, HQ.out⟩
                      case measure => simp [intOf]; omega
                · obtain rfl : k = 10 := by omega
                  rw [show ((10 : Nat) : Int) = 10 from rfl]
                  obtain ⟨hh, hpl⟩ := HP.out
                  have hkw := hh.kept
                  have hkd : Kept [] w1 wr.drew := hkw.drew
                  have HKD := Lib.hid hkd
                  have hrd := hkd.row HROW.out (by simp)
                  have p15 := cells16w hrd
                  have HST := Lib.hid (state_any (hpl.keep0 (Kept.refl [] wr).drew) HSOK.out)
                  have HPB := Lib.hid (HFT.out pb (by simp [foot]))
                  clear hh hpl hkw hkd hrd HP hlt hk
                  obtain ⟨f0, f1, f2, f3, f4, f5, f6, f7, f8, f9, f10, f11, f12, f13, f14, f15⟩ := p15
                  go_wp2
                  go_region_with (first
                    | (go_at_call 20; refine HST.out.mono ?_; rintro e w12 ⟨x1, x2, x3, rfl, h1, h2, h3, _, _, _, _, _, _, _, hk12⟩; have hk := HKD.out.trans hk12 (fun x hx hl => by have := HPB.out; simp at hx; omega); have HB1 := Lib.hid (And.intro h1.rd (And.intro h2.rd h3.rd)); have HK12 := Lib.hid hk; obtain ⟨g0, g1, g2, g3, g4, g5, g6, g7, g8, g9, g10, g11, g12, g13, g14, g15⟩ := cells16w (hk.row HROW.out (by simp)); clear h1 h2 h3 hk hk12)
                    | (go_at_call 19; refine (r_same_rd _ s _ _ _ _ _ _ HB1.out.1 HB1.out.2.1 HB1.out.2.2 (HR1.out.keep HK12.out (by simp)) (HR2.out.keep HK12.out (by simp)) (HR3.out.keep HK12.out (by simp))).mono ?_; rintro e w13 ⟨rfl, hb⟩; have HKE := Lib.hid (HK.out.trans (HK12.out.trans (Kept.of_below (F := []) hb) (by simp)) (by simp)); clear hb))
                  all_goals
                    go_wp2
                    go_ret
                    exact ⟨rfl, HKE.out⟩
theorem law_BusOwn (w : World) (s : St) (hs : s.In) (v1 v2 v3 vops : Value) (ops : List OpV) (h1 : Rd w v1 s.ram) (h2 : Rd w v2 s.inp) (h3 : Rd w v3 s.out) (ho : OpsAt w vops ops) :
    Calls Try.prog 4 #[.agg (yCells v1 v2 v3 s vops)] w (TruePost w) := by
  cases hc : s.canBe
  · exact BusOwn_no w s hs v1 v2 v3 vops h1 h2 h3 hc
  · exact BusOwn_yes w s hs v1 v2 v3 vops ops h1 h2 h3 ho hc
end Go.Proofs.Ytkocfcgdjjdnhaa.BW
