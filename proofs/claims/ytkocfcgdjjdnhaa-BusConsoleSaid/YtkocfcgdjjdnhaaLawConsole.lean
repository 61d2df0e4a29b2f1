/- The law BusConsole: it answers true. Premise: the story can be read. -/
import Derived.Test.YtkocfcgdjjdnhaaLawQueue
namespace Go.Proofs.Ytkocfcgdjjdnhaa.BW
open Go.RowKit
set_option linter.unusedVariables false
set_option linter.unusedSimpArgs false
theorem cells16c {W : World} {p : Nat} {v1 v2 v3 vops : Value} {s : St} (h : W.heap[p]? = some (.cells (yCells v1 v2 v3 s vops) 43 (0, 0))) : W.cell? ⟨p, 0, none⟩ = some (v1) ∧ W.cell? ⟨p, 1, none⟩ = some (.int .u32 s.msip) ∧ W.cell? ⟨p, 2, none⟩ = some (.int .u64 s.cmp) ∧ W.cell? ⟨p, 3, none⟩ = some (.int .u64 s.now) ∧ W.cell? ⟨p, 4, none⟩ = some (.bool s.ext) ∧ W.cell? ⟨p, 5, none⟩ = some (.bool s.soft) ∧ W.cell? ⟨p, 6, none⟩ = some (.int .u8 s.ier) ∧ W.cell? ⟨p, 7, none⟩ = some (.int .u8 s.lcr) ∧ W.cell? ⟨p, 8, none⟩ = some (.int .u8 s.mcr) ∧ W.cell? ⟨p, 9, none⟩ = some (.int .u8 s.scr) ∧ W.cell? ⟨p, 10, none⟩ = some (.bool s.over) ∧ W.cell? ⟨p, 11, none⟩ = some (v2) ∧ W.cell? ⟨p, 12, none⟩ = some (v3) ∧ W.cell? ⟨p, 13, none⟩ = some (.int .i64 s.off) ∧ W.cell? ⟨p, 14, none⟩ = some (.int .i64 s.code) ∧ W.cell? ⟨p, 15, none⟩ = some (vops) :=
  ⟨row_cell h 0 _ rfl, row_cell h 1 _ rfl, row_cell h 2 _ rfl, row_cell h 3 _ rfl, row_cell h 4 _ rfl, row_cell h 5 _ rfl, row_cell h 6 _ rfl, row_cell h 7 _ rfl, row_cell h 8 _ rfl, row_cell h 9 _ rfl, row_cell h 10 _ rfl, row_cell h 11 _ rfl, row_cell h 12 _ rfl, row_cell h 13 _ rfl, row_cell h 14 _ rfl, row_cell h 15 _ rfl⟩
theorem con_src {w : World} {v : Value} {b : List Int} (h : RdW w v b) (hb : b ≠ []) : ∃ pc pg po, v = .slice (some ⟨pg, po, none⟩) b.length pc ∧ ∀ i x, b[i]? = some x → w.cell? ⟨pg, po + i, none⟩ = some (.int .u8 x) := by
  rcases h with h | ⟨h, _⟩
  · rcases h with ⟨_, h⟩ | ⟨c, g, o, h, hc⟩
    · exact absurd h hb
    · exact ⟨c, g, o, h, hc⟩
  · exact absurd h hb
/-- The relation of the loop over the calls. -/
def KInv (w1 : World) (pb : Nat) (q : Value) (s : St) (wr : World) : Prop := s.Ok ∧ s.off = 0 ∧ CInv w1 pb [] q s.inp s wr
set_option maxHeartbeats 8000000 in
set_option maxRecDepth 100000 in
theorem BusConsole_no (w : World) (s : St) (hs : s.In) (v1 v2 v3 vops : Value) (h1 : Rd w v1 s.ram) (h2 : Rd w v2 s.inp) (h3 : Rd w v3 s.out) (hc : s.canBe = false) :
    Calls Try.prog 5 #[.agg (yCells v1 v2 v3 s vops)] w (TruePost w) := by
  obtain ⟨A, c, rfl⟩ := h1.shape
  obtain ⟨B, d, rfl⟩ := h2.shape
  obtain ⟨C, e, rfl⟩ := h3.shape
  have kA : Kept [] w (w.alloc (.cells (yCells (.slice A s.ram.length c) (.slice B s.inp.length d) (.slice C s.out.length e) s vops) 43)) := (Kept.refl [] w).alloc _
  have HC := Lib.hid (r_canbe_rd _ s hs _ _ _ (h1.keep kA (by simp)) (h2.keep kA (by simp)) (h3.keep kA (by simp)))
  rw [hc] at HC
  have HK := Lib.hid kA
  clear h1 h2 h3 hs hc kA
  unfold yCells at *
  unfold sCells at HC
  go_enter Try.func5, Try.ntmps5
  go_wp2_with (go_at_call 23; refine HC.out.mono ?_; rintro e w2 ⟨rfl, hb⟩; have HK2 := Lib.hid (HK.out.trans (Kept.of_below (F := []) hb) (by simp)); clear hb)
  go_ret
  exact ⟨rfl, HK2.out⟩
set_option maxHeartbeats 8000000 in
set_option maxRecDepth 100000 in
theorem BusConsole_off (w : World) (s : St) (hs : s.In) (v1 v2 v3 vops : Value) (h1 : Rd w v1 s.ram) (h2 : Rd w v2 s.inp) (h3 : Rd w v3 s.out) (hc : s.canBe = true) (h0 : ¬ s.off = 0) :
    Calls Try.prog 5 #[.agg (yCells v1 v2 v3 s vops)] w (TruePost w) := by
  obtain ⟨A, c, rfl⟩ := h1.shape
  obtain ⟨B, d, rfl⟩ := h2.shape
  obtain ⟨C, e, rfl⟩ := h3.shape
  have kA : Kept [] w (w.alloc (.cells (yCells (.slice A s.ram.length c) (.slice B s.inp.length d) (.slice C s.out.length e) s vops) 43)) := (Kept.refl [] w).alloc _
  have HC := Lib.hid (r_canbe_rd _ s hs _ _ _ (h1.keep kA (by simp)) (h2.keep kA (by simp)) (h3.keep kA (by simp)))
  rw [hc] at HC
  have HK := Lib.hid kA
  have HROW := Lib.hid (heap_alloc_new w (.cells (yCells (.slice A s.ram.length c) (.slice B s.inp.length d) (.slice C s.out.length e) s vops) 43))
  have b0 : (s.off == 0) = false := by simpa using h0
  have b1 : (s.off != 0) = true := by simpa using h0
  clear h1 h2 h3 hs hc kA
  unfold yCells at *
  unfold sCells at HC
  go_enter Try.func5, Try.ntmps5
  go_wp2_with (go_at_call 23; refine HC.out.mono ?_; rintro e w2 ⟨rfl, hb⟩; have HK2 := Lib.hid (HK.out.trans (Kept.of_below (F := []) hb) (by simp)); have f13 : w2.cell? ⟨w.heap.size, 13, none⟩ = some (.int .i64 s.off) := row_cell ((Kept.of_below (F := []) hb).row HROW.out (by simp)) 13 _ rfl; clear hb)
  go_ret
  exact ⟨rfl, HK2.out⟩
set_option maxHeartbeats 40000000 in
set_option maxRecDepth 100000 in
theorem BusConsole_yes (w : World) (s : St) (hs : s.In) (v1 v2 v3 vops : Value) (ops : List OpV) (h1 : Rd w v1 s.ram) (h2 : Rd w v2 s.inp) (h3 : Rd w v3 s.out) (ho : OpsAt w vops ops) (hc : s.canBe = true) (h0 : s.off = 0) :
    Calls Try.prog 5 #[.agg (yCells v1 v2 v3 s vops)] w (TruePost w) := by
  obtain ⟨A, c, rfl⟩ := h1.shape
  obtain ⟨B, d, rfl⟩ := h2.shape
  obtain ⟨C, e, rfl⟩ := h3.shape
  obtain ⟨AO, cO, rfl⟩ : ∃ A c, vops = .slice A ops.length c := by
    rcases ho.2 with ⟨rfl, rfl⟩ | ⟨g, off, cap, rfl, _⟩
    · exact ⟨_, _, rfl⟩
    · exact ⟨_, _, rfl⟩
  have hlen : ops.length ≤ 140737488351232 := ho.1
  have kA : Kept [] w (w.alloc (.cells (yCells (.slice A s.ram.length c) (.slice B s.inp.length d) (.slice C s.out.length e) s (.slice AO ops.length cO)) 43)) := (Kept.refl [] w).alloc _
  have hrow : (w.alloc (.cells (yCells (.slice A s.ram.length c) (.slice B s.inp.length d) (.slice C s.out.length e) s (.slice AO ops.length cO)) 43)).heap[w.heap.size]? = some (.cells (yCells (.slice A s.ram.length c) (.slice B s.inp.length d) (.slice C s.out.length e) s (.slice AO ops.length cO)) 43 (0, 0)) := heap_alloc_new w _
  have r1 := h1.keep kA (by simp)
  have r2 := h2.keep kA (by simp)
  have r3 := h3.keep kA (by simp)
  have hcan := r_canbe_rd _ s hs _ _ _ r1 r2 r3
  rw [hc] at hcan
  have HC := Lib.hid hcan
  have HR1 := Lib.hid r1
  have HR2 := Lib.hid r2
  have HR3 := Lib.hid r3
  have HSI := Lib.hid hs
  have HCB := Lib.hid hc
  have HO := Lib.hid (ho.keep kA)
  have HK := Lib.hid kA
  have HROW := Lib.hid hrow
  have hok := hs.ok hc
  have HSOK := Lib.hid hok
  have hn0 := hok.r0
  have hn1 := hok.r1
  clear h1 h2 h3 hs hc kA hrow ho r1 r2 r3 hcan hok
  unfold yCells at HC HR1 HR2 HR3 HO HK HROW ⊢
  unfold sCells at HC
  have b0 : (s.off == 0) = true := by rw [h0]; rfl
  have b1 : (s.off != 0) = false := by rw [h0]; rfl
  have HOF := Lib.hid h0
  clear h0
  go_enter Try.func5, Try.ntmps5
  go_wp2_with (first
    | (go_at_call 23; refine HC.out.mono ?_; rintro e w2 ⟨rfl, hb⟩; have hk2 := Kept.of_below (F := []) hb; obtain ⟨f0, f1, f2, f3, f4, f5, f6, f7, f8, f9, f10, f11, f12, f13, f14, f15⟩ := cells16c (hk2.row HROW.out (by simp)); have HMD := Lib.hid (made_any w2 s HSI.out A B C _ _ _ c d e (HR1.out.keep hk2 (by simp)) (HR2.out.keep hk2 (by simp)) (HR3.out.keep hk2 (by simp)) HCB.out); have HK2 := Lib.hid hk2; clear hb hk2)
    | (go_at_call 24; (unfold sCells at HMD); refine HMD.out.mono ?_; intro e w3 hm; obtain ⟨pb, rfl, D3⟩ := SoloE.of_made hm; have D4 := D3.rebase HK2.out; have HD4 := Lib.hid D4; have f11 : w3.cell? ⟨w.heap.size, 11, none⟩ = some (.slice B s.inp.length d) := row_cell (D4.kept.row HROW.out (by simp)) 11 _ rfl; have HRA := Lib.hid (Or.inl (b := s.inp = [] ∧ ∃ A' c', Value.slice B s.inp.length d = .slice (some A') 0 c') (HR2.out.keep D4.kept (by simp))); clear hm D3 HMD D4)
    | (at_builtin; refine wpList_append_nilw rfl _ _ rfl (.slice B s.inp.length d) s.inp rfl rfl HRA.out (by simp; have := HSOK.out.i1; omega) ?_; intro v' w4 hg; have hb : Bs w4 v' s.inp := (by simpa using hg.bs); obtain ⟨D5, hx5⟩ := HD4.out.keep hg.kept; have f10 : w4.cell? ⟨w.heap.size, 10, none⟩ = some (.bool s.over) := row_cell (D5.kept.row HROW.out (by simp)) 10 _ rfl; have D6 := HD4.out.claim hg.kept v'.ownBlock.toList (fun x hx => ⟨Grew.new hg x (by simpa using hx), hb.lt x (by simpa using hx)⟩); have HINV := Lib.hid (show KInv _ pb v' s w4 from ⟨HSOK.out, HOF.out, ⟨D6, Qs.of_bs hb, fun g hg' => ⟨Nat.le_trans HD4.out.kept.size (Grew.new hg g hg'), by simp⟩⟩⟩); clear hg D5 D6 hb hx5))
  generalize (w.alloc (.cells #[.slice A s.ram.length c, .int .u32 s.msip, .int .u64 s.cmp, .int .u64 s.now, .bool s.ext, .bool s.soft, .int .u8 s.ier, .int .u8 s.lcr, .int .u8 s.mcr, .int .u8 s.scr, .bool s.over, .slice B s.inp.length d, .slice C s.out.length e, .int .i64 s.off, .int .i64 s.code, .slice AO ops.length cO] 43)) = w1 at *
  clear HC HR1 HR2 HR3 HSI HCB HSOK HK2 HD4 HRA f0 f1 f2 f3 f4 f5 f6 f7 f8 f9 f10 f11 f12 f13 f14 f15 b0 b1 HOF
  generalize w.heap.size = N at *
  go_loopw [6, 7, 8] (fun q lost i wr => ∃ (k : Nat) (s' : St), k ≤ ops.length ∧ i = .int .i64 k ∧ lost = .bool s'.over ∧ Hid (KInv w1 pb q s' wr)) (fun _ _ i _ => ops.length - (intOf i).toNat)
  case atStart => exact ⟨0, s, Nat.zero_le _, rfl, rfl, HINV.out⟩
  case round =>
    obtain ⟨k, s', hk, rfl, rfl, hp⟩ := hrel
    obtain ⟨hs', hof, hI⟩ := hp.out
    clear hp HINV
    have hR := hI.d.kept.row HROW.out (by simp)
    have d15 : wr.cell? ⟨N, 15, none⟩ = some (.slice AO ops.length cO) := row_cell hR 15 _ rfl
    by_cases hlt : k < ops.length
    · obtain ⟨o, hoi⟩ : ∃ o, ops[k]? = some o := ⟨_, List.getElem?_eq_getElem hlt⟩
      obtain ⟨g, off, cap, hve, hcs⟩ : ∃ g off cap, Value.slice AO ops.length cO = .slice (some ⟨g, off, none⟩) ops.length cap ∧ ∀ (i : Nat) (o : OpV), ops[i]? = some o → w1.rangeAt g (off + i * 9) o.cells.toList ∧ o.At w1 := by
        rcases HO.out.2 with ⟨_, h⟩ | h
        · rw [h] at hlt; simp at hlt
        · exact h
      simp only [Value.slice.injEq] at hve
      obtain ⟨rfl, -, rfl⟩ := hve
      have hA := (hcs k o hoi).2
      obtain ⟨VW, cw, hvw⟩ := hA.rw.shape
      have hrg := rangeAt_keep (hcs k o hoi).1 hI.d.kept
      have hone := hA.one
      have hrw := hA.rw
      have hlb := hA.lb
      have hll := hA.ll
      clear hA hcs hoi
      obtain ⟨kind, addr, size, v, vb, b, tick, ext, soft, vw, l⟩ := o
      dsimp only at hvw hrw hlb hll
      subst hvw
      dsimp only [OpV.cells] at hrg hone
      obtain ⟨hz, hB⟩ := hI.box #[.int .i64 kind, .int .u64 addr, .int .i64 size, .int .u64 v, vb, .bool tick, .bool ext, .bool soft, .slice VW l.length cw]
      have t0 := row_cell hB.2 0 (.int .i64 kind) rfl
      have t5 := row_cell hB.2 5 (.bool tick) rfl
      have t6 := row_cell hB.2 6 (.bool ext) rfl
      have t7 := row_cell hB.2 7 (.bool soft) rfl
      have t8 := row_cell hB.2 8 (.slice VW l.length cw) rfl
      have HRG := Lib.hid hrg
      have HONE := Lib.hid hone
      have HRW := Lib.hid hrw
      have HLB := Lib.hid hlb
      have HLL := Lib.hid hll
      have HS' := Lib.hid hs'
      have HOF := Lib.hid hof
      have HZO := Lib.hid hz
      have HB := Lib.hid hB
      clear hI hs' hof hR hz hB hrg hone hrw hlb hll
      by_cases hk3 : kind = 3
      · have b3 : (kind == 3) = true := by rw [hk3]; rfl
        have b1 : (kind == 1) = false := by rw [hk3]; rfl
        have b4 : (kind == 4) = false := by rw [hk3]; rfl
        clear hk3
        obtain ⟨sn, hsn⟩ : ∃ sn : St, s'.begin tick ext soft l = sn := ⟨_, rfl⟩
        have HSN := Lib.hid hsn
        have HSE := Lib.hid (show sn.Ok by rw [← hsn]; exact ok_begin HS'.out _ _ _ _ HLB.out)
        have HSI := Lib.hid (show sn.inp = (s'.join l).inp ∧ sn.over = (s'.join l).over ∧ sn.off = 0 by rw [← hsn]; unfold St.begin; rw [if_pos HOF.out]; exact ⟨rfl, rfl, HOF.out⟩)
        clear hsn
        as_aux_lemma =>
        go_wp2_with (first
          | ((with_reducible refine gate_n (N := 53) rfl ?_); refine wpList_load_mid rfl 54 (.tmp 52) rfl g (off + k * 9) rfl [.int .i64 kind, .int .u64 addr, .int .i64 size, .int .u64 v, vb, .bool tick, .bool ext, .bool soft, .slice VW l.length cw] _ HRG.out Try.underlying54 rfl (by kernel_rfl) ?_)
          | (refine wpList_store_row rfl 54 (.tmp 9) (.tmp 53) rfl wr.heap.size _ rfl rfl 54 _ HZO.out (by kernel_rfl) rfl HONE.out ?_)
          | (go_at_call 28; refine (world_any tick ext soft VW _ cw l (HRW.out.keep HB.out.1.d.kept) HLL.out).mono ?_; rintro e w5 ⟨A3, c3, rfl, hb, hn, hk5⟩; have DC := Lib.hid (HB.out.1.d.claim hk5 (Value.slice A3 l.length c3).ownBlock.toList (fun x hx => ⟨hn x (by simpa using hx), hb.lt x (by simpa using hx)⟩)); have HX5 := Lib.hid (SameX.of_kept HB.out.1.d.xl hk5); have HB3 := Lib.hid hb; clear hb hn hk5)
          | (go_at_call 27; refine (s_begin DC.out HS'.out tick ext soft A3 _ c3 l HB3.out (by intro g hg; simp [hg]) HLL.out).mono ?_; rw [HSN.out]; rintro e w6 ⟨rfl, D6, hx⟩; have hx6 := HX5.out.trans (hx.sub (fun x hx => List.mem_append_right _ hx)); have hc6 := HB.out.1.turn (D6.pop (fun x hx => List.mem_append_right _ hx)) hx6; have hr6 := (hc6.2 wr.heap.size (by simp)).trans HB.out.2; have HC6 := Lib.hid (show CB w1 pb wr.heap.size _ _ s'.inp sn w6 from ⟨hc6.1, hr6⟩); have t8 := row_cell hr6 8 (.slice VW l.length cw) rfl; clear hx6 hc6 hr6 hx D6))
        clear t0 t5 t6 t7 t8 HB HZO HRG HONE DC HX5 HB3
        generalize wr.heap.size = M at *
        have HC7 := Lib.hid (show CB w1 pb M #[.int .i64 kind, .int .u64 addr, .int .i64 size, .int .u64 v, vb, .bool tick, .bool ext, .bool soft, .slice VW l.length cw] u6 (s'.join []).inp sn _ from by rw [join_nil_eq s' HS'.out]; exact HC6.out)
        have hov : s'.over = (s'.join (l.take 0)).over := by rw [List.take_zero, join_nil_eq s' HS'.out]
        have HOV := Lib.hid hov
        clear hov HC6
        obtain ⟨wo, rfl⟩ : ∃ wo : World, wo = wr := ⟨_, rfl⟩
        go_loopw [6, 7, 10] (fun q lost j wq => ∃ m : Nat, m ≤ l.length ∧ j = .int .i64 m ∧ lost = .bool (s'.join (l.take m)).over ∧ Hid (CB w1 pb M #[.int .i64 kind, .int .u64 addr, .int .i64 size, .int .u64 v, vb, .bool tick, .bool ext, .bool soft, .slice VW l.length cw] q (s'.join (l.take m)).inp sn wq)) (fun _ _ j _ => l.length - (intOf j).toNat)
        case atStart => exact ⟨0, Nat.zero_le _, rfl, by rw [HOV.out], HC7.out⟩
        case round =>
          obtain ⟨m, hm, rfl, rfl, hq⟩ := hrel
          have HQ := Lib.hid hq.out
          clear hq HC7 HOV
          have hll0 : (l.length : Int) ≤ 140737488351232 := by have := HLL.out; omega
          have t8 := row_cell HQ.out.2 8 (.slice VW l.length cw) rfl
          by_cases hlt2 : m < l.length
          · obtain ⟨y, hy⟩ : ∃ y, l[m]? = some y := ⟨_, List.getElem?_eq_getElem hlt2⟩
            have hjs := join_snoc s' HS'.out l m y hy
            have hln : l ≠ [] := fun h => by rw [h] at hlt2; simp at hlt2
            obtain ⟨pc, pg, po, hvv, hpc⟩ : ∃ pc pg po, Value.slice VW l.length cw = .slice (some ⟨pg, po, none⟩) l.length pc ∧ ∀ i x, l[i]? = some x → w1.cell? ⟨pg, po + i, none⟩ = some (.int .u8 x) := con_src HRW.out hln
            simp only [Value.slice.injEq] at hvv
            obtain ⟨rfl, -, rfl⟩ := hvv
            have e0 := hpc m y hy
            have d3 : wr.cell? ⟨pg, po + m, none⟩ = some (.int .u8 y) := (HQ.out.1.d.kept.cell (p := ⟨pg, po + m, none⟩) (World.block_lt_of_cell? w1 _ e0) (by simp)).trans e0
            have y0 := (HLB.out y (List.mem_of_getElem? hy)).1
            have y1 := (HLB.out y (List.mem_of_getElem? hy)).2
            clear hpc e0 hy hln
            obtain ⟨A5, c5, rfl⟩ := HQ.out.1.q.shape
            generalize hqo : (s'.join (l.take m)).over = ov at *
            obtain ⟨q, hql⟩ : ∃ q : Nat, (s'.join (l.take m)).inp.length = q := ⟨_, rfl⟩
            rw [hql]
            by_cases hq64 : q < 64
            · rw [hql, if_pos hq64] at hjs
              have HJI := Lib.hid (show (s'.join (l.take (m + 1))).inp = (s'.join (l.take m)).inp ++ [y] by rw [hjs])
              have HJO := Lib.hid (show ov = (s'.join (l.take (m + 1))).over by rw [hjs, ← hqo])
              have HQL := Lib.hid hql
              have e1 : decide ((q : Int) < 64) = true := by simp; omega
              have e2 : decide (q < 64) = true := by simp; omega
              have HSC := Lib.hid (show (wr.alloc (.cells #[.int .u8 y] 5)).cell? ⟨wr.heap.size, 0, none⟩ = some (.int .u8 y) from row_cell (heap_alloc_new wr _) 0 _ rfl)
              have HCI := Lib.hid (show CInv w1 pb [M] (.slice A5 q c5) (s'.join (l.take m)).inp sn (wr.alloc (.cells #[.int .u8 y] 5)) from by have h5 := (HQ.out.1.keep ((Kept.refl [] wr).alloc (.cells #[.int .u8 y] 5))).1; rw [hql] at h5; exact h5)
              have HRC := Lib.hid (((Kept.refl [] wr).alloc (.cells #[.int .u8 y] 5)).row HQ.out.2 (by simp))
              have HLN := Lib.hid (show (s'.join (l.take m)).inp.length ≤ 64 by omega)
              clear hjs hqo hql
              go_wp2_with (first
                | (at_builtin; refine wpList_append_q rfl _ _ rfl (.slice A5 q c5) wr.heap.size 1 y (s'.join (l.take m)).inp rfl rfl HSC.out HCI.out HLN.out ?_; intro v' w7 hc7 hx7; have HC7 := Lib.hid (And.intro hc7 ((hx7 M (by simp)).trans HRC.out)); clear hc7 hx7))
              go_roundw
              case rel =>
                go_light
                exact ⟨m + 1, by omega, by go_num, by rw [← HJO.out], by rw [HJI.out]; exact HC7.out⟩
              case measure => simp [intOf]; omega
            · rw [hql, if_neg hq64] at hjs
              have HJI := Lib.hid (show (s'.join (l.take (m + 1))).inp = (s'.join (l.take m)).inp by rw [hjs])
              have HJO := Lib.hid (show (s'.join (l.take (m + 1))).over = true by rw [hjs])
              have HQL := Lib.hid hql
              have e1 : decide ((q : Int) < 64) = false := by simp; omega
              have e2 : decide (q < 64) = false := by simp; omega
              have HQ2 := Lib.hid (show CB w1 pb M _ (.slice A5 q c5) (s'.join (l.take m)).inp sn wr by have h5 := HQ.out; rw [hql] at h5; exact h5)
              clear hjs hqo hql
              go_wp2
              go_roundw
              case rel =>
                go_light
                exact ⟨m + 1, by omega, by go_num, by rw [HJO.out], by rw [HJI.out]; exact HQ2.out⟩
              case measure => simp [intOf]; omega
          · obtain rfl : m = l.length := by omega
            have HLT := Lib.hid (show l.take l.length = l from List.take_length)
            have HE := Lib.hid (show KInv w1 pb _ sn wr from ⟨HSE.out, HSI.out.2.2, by rw [HSI.out.1]; have h5 := HQ.out.1.sub (X := []) (by simp); rw [HLT.out] at h5; exact h5⟩)
            have HOE := Lib.hid (show (s'.join (l.take l.length)).over = sn.over by rw [HLT.out, HSI.out.2.1])
            go_wp2
            go_roundw
            case rel => go_light; exact ⟨k + 1, sn, by omega, by go_num, by rw [HOE.out], HE.out⟩
            case measure => simp [intOf]; omega
      by_cases hk1 : kind = 1
      · have b3 : (kind == 3) = false := by rw [hk1]; rfl
        have b1 : (kind == 1) = true := by rw [hk1]; rfl
        have b4 : (kind == 4) = false := by rw [hk1]; rfl
        clear hk1
        have HSE := Lib.hid (show St.Ok { s' with inp := s'.inp.tail } from by have := ok_load HS'.out 268435456 1; rw [load_uart0] at this; exact this)
        cases hin : s'.inp with
        | nil =>
          have HIN := Lib.hid hin
          have hh : s'.inp.headD 0 = 0 := by rw [hin]; rfl
          have ht : s'.inp.tail = [] := by rw [hin]; rfl
          rw [hin] at HB
          have hq := HB.out.1.q.shape
          obtain ⟨A5, c5, rfl⟩ := hq
          have HHD := Lib.hid hh
          have HTL := Lib.hid ht
          clear hin hh ht
          dsimp only [List.length_nil] at *
          as_aux_lemma =>
          go_wp2_with (first
            | ((with_reducible refine gate_n (N := 53) rfl ?_); refine wpList_load_mid rfl 54 (.tmp 52) rfl g (off + k * 9) rfl [.int .i64 kind, .int .u64 addr, .int .i64 size, .int .u64 v, vb, .bool tick, .bool ext, .bool soft, .slice VW l.length cw] _ HRG.out Try.underlying54 rfl (by kernel_rfl) ?_)
            | (refine wpList_store_row rfl 54 (.tmp 9) (.tmp 53) rfl wr.heap.size _ rfl rfl 54 _ HZO.out (by kernel_rfl) rfl HONE.out ?_)
            | (go_at_call 29; refine (s_load HB.out.1.d HS'.out 268435456 1 (by omega) (by omega) (by omega) (by omega)).mono ?_; rw [load_uart0]; rintro e w5 ⟨rfl, D5, hx⟩; have hc5 := HB.out.1.turn D5 hx; have HC5 := Lib.hid hc5.1; clear hc5 D5 hx; rw [HHD.out]))
          have HE := Lib.hid (show KInv w1 pb _ { s' with inp := s'.inp.tail } w5 from ⟨HSE.out, HOF.out, by show CInv _ _ _ _ s'.inp.tail _ _; rw [HTL.out]; rw [HTL.out] at HC5; exact HC5.out.sub (by simp)⟩)
          go_wp2
          go_roundw
          case rel => go_light; exact ⟨k + 1, { s' with inp := s'.inp.tail }, by omega, by go_num, rfl, HE.out⟩
          case measure => simp [intOf]; omega
        | cons y r =>
          have HIN := Lib.hid hin
          have hh : s'.inp.headD 0 = y := by rw [hin]; rfl
          have ht : s'.inp.tail = r := by rw [hin]; rfl
          rw [hin] at HB
          obtain ⟨g2, off2, c5, rfl, hcap, hcl⟩ := HB.out.1.q.at (by simp)
          have hyb := HS'.out.ib y (by rw [hin]; simp)
          have y0 := hyb.1
          have y1 := hyb.2
          have HCL := Lib.hid hcl
          have HHD := Lib.hid hh
          have HTL := Lib.hid ht
          rw [List.length_cons] at *
          clear hin hh ht hcl hyb
          as_aux_lemma =>
          go_wp2_with (first
            | ((with_reducible refine gate_n (N := 53) rfl ?_); refine wpList_load_mid rfl 54 (.tmp 52) rfl g (off + k * 9) rfl [.int .i64 kind, .int .u64 addr, .int .i64 size, .int .u64 v, vb, .bool tick, .bool ext, .bool soft, .slice VW l.length cw] _ HRG.out Try.underlying54 rfl (by kernel_rfl) ?_)
            | (refine wpList_store_row rfl 54 (.tmp 9) (.tmp 53) rfl wr.heap.size _ rfl rfl 54 _ HZO.out (by kernel_rfl) rfl HONE.out ?_)
            | (go_at_call 29; refine (s_load HB.out.1.d HS'.out 268435456 1 (by omega) (by omega) (by omega) (by omega)).mono ?_; rw [load_uart0]; rintro e w5 ⟨rfl, D5, hx⟩; have hc5 := HB.out.1.turn D5 hx; have HC5 := Lib.hid hc5.1; clear hc5 D5 hx; rw [HHD.out]; have d9 : w5.cell? ⟨g2, off2, none⟩ = some (.int .u8 y) := (by obtain ⟨g3, off3, c3, e3, -, h3⟩ := HC5.out.q.at (by simp); simp only [Value.slice.injEq, Option.some.injEq, Addr.mk.injEq] at e3; obtain ⟨⟨rfl, rfl, -⟩, -, rfl⟩ := e3; exact h3 0 y rfl)))
          have HE := Lib.hid (show KInv w1 pb _ { s' with inp := s'.inp.tail } w5 from ⟨HSE.out, HOF.out, by show CInv _ _ _ _ s'.inp.tail _ _; have h6 := HC5.out.tail'.sub (X := []) (by simp); rw [HTL.out]; rw [HTL.out] at h6; exact h6⟩)
          go_wp2
          go_roundw
          case rel => go_light; exact ⟨k + 1, { s' with inp := s'.inp.tail }, by omega, by go_num, rfl, HE.out⟩
          case measure => simp [intOf]; omega
      by_cases hk4 : kind = 4
      · have b3 : (kind == 3) = false := by rw [hk4]; rfl
        have b1 : (kind == 1) = false := by rw [hk4]; rfl
        have b4 : (kind == 4) = true := by rw [hk4]; rfl
        clear hk4
        have HSE := Lib.hid (show St.Ok { s' with over := false } from by have := ok_load HS'.out 268435461 1; rw [load_uart5] at this; exact this)
        obtain ⟨A5, c5, rfl⟩ := HB.out.1.q.shape
        obtain ⟨q, hql⟩ : ∃ q : Nat, s'.inp.length = q := ⟨_, rfl⟩
        have HB2 := Lib.hid (show CB w1 pb wr.heap.size _ (.slice A5 q c5) s'.inp s' _ from by have h5 := HB.out; rw [hql] at h5; exact h5)
        rw [hql]
        clear HB
        have HB := HB2
        clear HB2
        by_cases hq0 : q = 0
        · have hie : s'.inp.isEmpty = true := by rw [List.isEmpty_iff, ← List.length_eq_zero_iff]; omega
          have e1 : decide ((q : Int) > 0) = false := decide_eq_false (by omega)
          have e2 : decide ((0 : Int) < (q : Int)) = false := decide_eq_false (by omega)
          have e3 : decide (0 < q) = false := decide_eq_false (by omega)
          have e4 : ¬ 0 < q := by omega
          cases hov : s'.over with
          | true =>
            by_cases hol : s'.out.length < 4096
            · have HST := Lib.hid (show s'.status = 98 by unfold St.status b2i; simp [hie, hov, hol])
              have k1 : bits .and .u64 98 2 = 2 := by decide
              have k2 : bits .and .u64 98 1 = 0 := by decide
              clear hol hov hie hql hq0
              as_aux_lemma =>
              go_wp2_with (first
                | ((with_reducible refine gate_n (N := 53) rfl ?_); refine wpList_load_mid rfl 54 (.tmp 52) rfl g (off + k * 9) rfl [.int .i64 kind, .int .u64 addr, .int .i64 size, .int .u64 v, vb, .bool tick, .bool ext, .bool soft, .slice VW l.length cw] _ HRG.out Try.underlying54 rfl (by kernel_rfl) ?_)
                | (refine wpList_store_row rfl 54 (.tmp 9) (.tmp 53) rfl wr.heap.size _ rfl rfl 54 _ HZO.out (by kernel_rfl) rfl HONE.out ?_)
                | (go_at_call 29; refine (s_load HB.out.1.d HS'.out 268435461 1 (by omega) (by omega) (by omega) (by omega)).mono ?_; rw [load_uart5, HST.out]; rintro e w5 ⟨rfl, D5, hx⟩; have hc5 := HB.out.1.turn D5 hx; have HE := Lib.hid (show KInv w1 pb _ { s' with over := false } w5 from ⟨HSE.out, HOF.out, hc5.1.sub (by simp)⟩); clear hc5 D5 hx))
              go_wp2
              go_roundw
              case rel => go_light; exact ⟨k + 1, { s' with over := false }, by omega, by go_num, rfl, HE.out⟩
              case measure => simp [intOf]; omega
            · have HST := Lib.hid (show s'.status = 2 by unfold St.status b2i; simp [hie, hov, hol])
              have k1 : bits .and .u64 2 2 = 2 := by decide
              have k2 : bits .and .u64 2 1 = 0 := by decide
              clear hol hov hie hql hq0
              as_aux_lemma =>
              go_wp2_with (first
                | ((with_reducible refine gate_n (N := 53) rfl ?_); refine wpList_load_mid rfl 54 (.tmp 52) rfl g (off + k * 9) rfl [.int .i64 kind, .int .u64 addr, .int .i64 size, .int .u64 v, vb, .bool tick, .bool ext, .bool soft, .slice VW l.length cw] _ HRG.out Try.underlying54 rfl (by kernel_rfl) ?_)
                | (refine wpList_store_row rfl 54 (.tmp 9) (.tmp 53) rfl wr.heap.size _ rfl rfl 54 _ HZO.out (by kernel_rfl) rfl HONE.out ?_)
                | (go_at_call 29; refine (s_load HB.out.1.d HS'.out 268435461 1 (by omega) (by omega) (by omega) (by omega)).mono ?_; rw [load_uart5, HST.out]; rintro e w5 ⟨rfl, D5, hx⟩; have hc5 := HB.out.1.turn D5 hx; have HE := Lib.hid (show KInv w1 pb _ { s' with over := false } w5 from ⟨HSE.out, HOF.out, hc5.1.sub (by simp)⟩); clear hc5 D5 hx))
              go_wp2
              go_roundw
              case rel => go_light; exact ⟨k + 1, { s' with over := false }, by omega, by go_num, rfl, HE.out⟩
              case measure => simp [intOf]; omega
          | false =>
            by_cases hol : s'.out.length < 4096
            · have HST := Lib.hid (show s'.status = 96 by unfold St.status b2i; simp [hie, hov, hol])
              have k1 : bits .and .u64 96 2 = 0 := by decide
              have k2 : bits .and .u64 96 1 = 0 := by decide
              clear hol hov hie hql hq0
              as_aux_lemma =>
              go_wp2_with (first
                | ((with_reducible refine gate_n (N := 53) rfl ?_); refine wpList_load_mid rfl 54 (.tmp 52) rfl g (off + k * 9) rfl [.int .i64 kind, .int .u64 addr, .int .i64 size, .int .u64 v, vb, .bool tick, .bool ext, .bool soft, .slice VW l.length cw] _ HRG.out Try.underlying54 rfl (by kernel_rfl) ?_)
                | (refine wpList_store_row rfl 54 (.tmp 9) (.tmp 53) rfl wr.heap.size _ rfl rfl 54 _ HZO.out (by kernel_rfl) rfl HONE.out ?_)
                | (go_at_call 29; refine (s_load HB.out.1.d HS'.out 268435461 1 (by omega) (by omega) (by omega) (by omega)).mono ?_; rw [load_uart5, HST.out]; rintro e w5 ⟨rfl, D5, hx⟩; have hc5 := HB.out.1.turn D5 hx; have HE := Lib.hid (show KInv w1 pb _ { s' with over := false } w5 from ⟨HSE.out, HOF.out, hc5.1.sub (by simp)⟩); clear hc5 D5 hx))
              go_wp2
              go_roundw
              case rel => go_light; exact ⟨k + 1, { s' with over := false }, by omega, by go_num, rfl, HE.out⟩
              case measure => simp [intOf]; omega
            · have HST := Lib.hid (show s'.status = 0 by unfold St.status b2i; simp [hie, hov, hol])
              have k1 : bits .and .u64 0 2 = 0 := by decide
              have k2 : bits .and .u64 0 1 = 0 := by decide
              clear hol hov hie hql hq0
              as_aux_lemma =>
              go_wp2_with (first
                | ((with_reducible refine gate_n (N := 53) rfl ?_); refine wpList_load_mid rfl 54 (.tmp 52) rfl g (off + k * 9) rfl [.int .i64 kind, .int .u64 addr, .int .i64 size, .int .u64 v, vb, .bool tick, .bool ext, .bool soft, .slice VW l.length cw] _ HRG.out Try.underlying54 rfl (by kernel_rfl) ?_)
                | (refine wpList_store_row rfl 54 (.tmp 9) (.tmp 53) rfl wr.heap.size _ rfl rfl 54 _ HZO.out (by kernel_rfl) rfl HONE.out ?_)
                | (go_at_call 29; refine (s_load HB.out.1.d HS'.out 268435461 1 (by omega) (by omega) (by omega) (by omega)).mono ?_; rw [load_uart5, HST.out]; rintro e w5 ⟨rfl, D5, hx⟩; have hc5 := HB.out.1.turn D5 hx; have HE := Lib.hid (show KInv w1 pb _ { s' with over := false } w5 from ⟨HSE.out, HOF.out, hc5.1.sub (by simp)⟩); clear hc5 D5 hx))
              go_wp2
              go_roundw
              case rel => go_light; exact ⟨k + 1, { s' with over := false }, by omega, by go_num, rfl, HE.out⟩
              case measure => simp [intOf]; omega
        · have hie : s'.inp.isEmpty = false := by cases h : s'.inp with | nil => rw [h] at hql; simp at hql; omega | cons y r => rfl
          have e1 : decide ((q : Int) > 0) = true := decide_eq_true (by omega)
          have e2 : decide ((0 : Int) < (q : Int)) = true := decide_eq_true (by omega)
          have e3 : decide (0 < q) = true := decide_eq_true (by omega)
          have e4 : 0 < q := by omega
          cases hov : s'.over with
          | true =>
            by_cases hol : s'.out.length < 4096
            · have HST := Lib.hid (show s'.status = 99 by unfold St.status b2i; simp [hie, hov, hol])
              have k1 : bits .and .u64 99 2 = 2 := by decide
              have k2 : bits .and .u64 99 1 = 1 := by decide
              clear hol hov hie hql hq0
              as_aux_lemma =>
              go_wp2_with (first
                | ((with_reducible refine gate_n (N := 53) rfl ?_); refine wpList_load_mid rfl 54 (.tmp 52) rfl g (off + k * 9) rfl [.int .i64 kind, .int .u64 addr, .int .i64 size, .int .u64 v, vb, .bool tick, .bool ext, .bool soft, .slice VW l.length cw] _ HRG.out Try.underlying54 rfl (by kernel_rfl) ?_)
                | (refine wpList_store_row rfl 54 (.tmp 9) (.tmp 53) rfl wr.heap.size _ rfl rfl 54 _ HZO.out (by kernel_rfl) rfl HONE.out ?_)
                | (go_at_call 29; refine (s_load HB.out.1.d HS'.out 268435461 1 (by omega) (by omega) (by omega) (by omega)).mono ?_; rw [load_uart5, HST.out]; rintro e w5 ⟨rfl, D5, hx⟩; have hc5 := HB.out.1.turn D5 hx; have HE := Lib.hid (show KInv w1 pb _ { s' with over := false } w5 from ⟨HSE.out, HOF.out, hc5.1.sub (by simp)⟩); clear hc5 D5 hx))
              go_wp2
              go_roundw
              case rel => go_light; exact ⟨k + 1, { s' with over := false }, by omega, by go_num, rfl, HE.out⟩
              case measure => simp [intOf]; omega
            · have HST := Lib.hid (show s'.status = 3 by unfold St.status b2i; simp [hie, hov, hol])
              have k1 : bits .and .u64 3 2 = 2 := by decide
              have k2 : bits .and .u64 3 1 = 1 := by decide
              clear hol hov hie hql hq0
              as_aux_lemma =>
              go_wp2_with (first
                | ((with_reducible refine gate_n (N := 53) rfl ?_); refine wpList_load_mid rfl 54 (.tmp 52) rfl g (off + k * 9) rfl [.int .i64 kind, .int .u64 addr, .int .i64 size, .int .u64 v, vb, .bool tick, .bool ext, .bool soft, .slice VW l.length cw] _ HRG.out Try.underlying54 rfl (by kernel_rfl) ?_)
                | (refine wpList_store_row rfl 54 (.tmp 9) (.tmp 53) rfl wr.heap.size _ rfl rfl 54 _ HZO.out (by kernel_rfl) rfl HONE.out ?_)
                | (go_at_call 29; refine (s_load HB.out.1.d HS'.out 268435461 1 (by omega) (by omega) (by omega) (by omega)).mono ?_; rw [load_uart5, HST.out]; rintro e w5 ⟨rfl, D5, hx⟩; have hc5 := HB.out.1.turn D5 hx; have HE := Lib.hid (show KInv w1 pb _ { s' with over := false } w5 from ⟨HSE.out, HOF.out, hc5.1.sub (by simp)⟩); clear hc5 D5 hx))
              go_wp2
              go_roundw
              case rel => go_light; exact ⟨k + 1, { s' with over := false }, by omega, by go_num, rfl, HE.out⟩
              case measure => simp [intOf]; omega
          | false =>
            by_cases hol : s'.out.length < 4096
            · have HST := Lib.hid (show s'.status = 97 by unfold St.status b2i; simp [hie, hov, hol])
              have k1 : bits .and .u64 97 2 = 0 := by decide
              have k2 : bits .and .u64 97 1 = 1 := by decide
              clear hol hov hie hql hq0
              as_aux_lemma =>
              go_wp2_with (first
                | ((with_reducible refine gate_n (N := 53) rfl ?_); refine wpList_load_mid rfl 54 (.tmp 52) rfl g (off + k * 9) rfl [.int .i64 kind, .int .u64 addr, .int .i64 size, .int .u64 v, vb, .bool tick, .bool ext, .bool soft, .slice VW l.length cw] _ HRG.out Try.underlying54 rfl (by kernel_rfl) ?_)
                | (refine wpList_store_row rfl 54 (.tmp 9) (.tmp 53) rfl wr.heap.size _ rfl rfl 54 _ HZO.out (by kernel_rfl) rfl HONE.out ?_)
                | (go_at_call 29; refine (s_load HB.out.1.d HS'.out 268435461 1 (by omega) (by omega) (by omega) (by omega)).mono ?_; rw [load_uart5, HST.out]; rintro e w5 ⟨rfl, D5, hx⟩; have hc5 := HB.out.1.turn D5 hx; have HE := Lib.hid (show KInv w1 pb _ { s' with over := false } w5 from ⟨HSE.out, HOF.out, hc5.1.sub (by simp)⟩); clear hc5 D5 hx))
              go_wp2
              go_roundw
              case rel => go_light; exact ⟨k + 1, { s' with over := false }, by omega, by go_num, rfl, HE.out⟩
              case measure => simp [intOf]; omega
            · have HST := Lib.hid (show s'.status = 1 by unfold St.status b2i; simp [hie, hov, hol])
              have k1 : bits .and .u64 1 2 = 0 := by decide
              have k2 : bits .and .u64 1 1 = 1 := by decide
              clear hol hov hie hql hq0
              as_aux_lemma =>
              go_wp2_with (first
                | ((with_reducible refine gate_n (N := 53) rfl ?_); refine wpList_load_mid rfl 54 (.tmp 52) rfl g (off + k * 9) rfl [.int .i64 kind, .int .u64 addr, .int .i64 size, .int .u64 v, vb, .bool tick, .bool ext, .bool soft, .slice VW l.length cw] _ HRG.out Try.underlying54 rfl (by kernel_rfl) ?_)
                | (refine wpList_store_row rfl 54 (.tmp 9) (.tmp 53) rfl wr.heap.size _ rfl rfl 54 _ HZO.out (by kernel_rfl) rfl HONE.out ?_)
                | (go_at_call 29; refine (s_load HB.out.1.d HS'.out 268435461 1 (by omega) (by omega) (by omega) (by omega)).mono ?_; rw [load_uart5, HST.out]; rintro e w5 ⟨rfl, D5, hx⟩; have hc5 := HB.out.1.turn D5 hx; have HE := Lib.hid (show KInv w1 pb _ { s' with over := false } w5 from ⟨HSE.out, HOF.out, hc5.1.sub (by simp)⟩); clear hc5 D5 hx))
              go_wp2
              go_roundw
              case rel => go_light; exact ⟨k + 1, { s' with over := false }, by omega, by go_num, rfl, HE.out⟩
              case measure => simp [intOf]; omega
      have b3 : (kind == 3) = false := by simpa using hk3
      have b1 : (kind == 1) = false := by simpa using hk1
      have b4 : (kind == 4) = false := by simpa using hk4
      clear hk3 hk1 hk4
      as_aux_lemma =>
      go_wp2_with (first
        | ((with_reducible refine gate_n (N := 53) rfl ?_); refine wpList_load_mid rfl 54 (.tmp 52) rfl g (off + k * 9) rfl [.int .i64 kind, .int .u64 addr, .int .i64 size, .int .u64 v, vb, .bool tick, .bool ext, .bool soft, .slice VW l.length cw] _ HRG.out Try.underlying54 rfl (by kernel_rfl) ?_)
        | (refine wpList_store_row rfl 54 (.tmp 9) (.tmp 53) rfl wr.heap.size _ rfl rfl 54 _ HZO.out (by kernel_rfl) rfl HONE.out ?_)
        )
      have HE := Lib.hid (show KInv w1 pb _ s' _ from ⟨HS'.out, HOF.out, HB.out.1.sub (by simp)⟩)
      go_wp2
      go_roundw
      case rel => go_light; exact ⟨k + 1, s', by omega, by go_num, rfl, HE.out⟩
      case measure => simp [intOf]; omega
    · obtain rfl : k = ops.length := by omega
      have HE := Lib.hid (HK.out.trans hI.d.kept (by simp))
      clear hI hs' hof hR
      go_wp2
      go_ret
      exact ⟨rfl, HE.out⟩
theorem law_BusConsole (w : World) (s : St) (hs : s.In) (v1 v2 v3 vops : Value) (ops : List OpV) (h1 : Rd w v1 s.ram) (h2 : Rd w v2 s.inp) (h3 : Rd w v3 s.out) (ho : OpsAt w vops ops) :
    Calls Try.prog 5 #[.agg (yCells v1 v2 v3 s vops)] w (TruePost w) := by
  cases hc : s.canBe
  · exact BusConsole_no w s hs v1 v2 v3 vops h1 h2 h3 hc
  · by_cases h0 : s.off = 0
    · exact BusConsole_yes w s hs v1 v2 v3 vops ops h1 h2 h3 ho hc h0
    · exact BusConsole_off w s hs v1 v2 v3 vops h1 h2 h3 hc h0
end Go.Proofs.Ytkocfcgdjjdnhaa.BW
