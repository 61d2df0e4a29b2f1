/- The law BusQuiet: it answers true. Premise: the story can be read. -/
import Derived.Test.YtkocfcgdjjdnhaaSolo
import Derived.Deep.RegionLaw
namespace Go.Proofs.Ytkocfcgdjjdnhaa.BW
open Go.RowKit
set_option linter.unusedVariables false
set_option linter.unusedSimpArgs false
theorem cells16q {W : World} {p : Nat} {v1 v2 v3 vops : Value} {s : St} (h : W.heap[p]? = some (.cells (yCells v1 v2 v3 s vops) 43 (0, 0))) : W.cell? ⟨p, 0, none⟩ = some (v1) ∧ W.cell? ⟨p, 1, none⟩ = some (.int .u32 s.msip) ∧ W.cell? ⟨p, 2, none⟩ = some (.int .u64 s.cmp) ∧ W.cell? ⟨p, 3, none⟩ = some (.int .u64 s.now) ∧ W.cell? ⟨p, 4, none⟩ = some (.bool s.ext) ∧ W.cell? ⟨p, 5, none⟩ = some (.bool s.soft) ∧ W.cell? ⟨p, 6, none⟩ = some (.int .u8 s.ier) ∧ W.cell? ⟨p, 7, none⟩ = some (.int .u8 s.lcr) ∧ W.cell? ⟨p, 8, none⟩ = some (.int .u8 s.mcr) ∧ W.cell? ⟨p, 9, none⟩ = some (.int .u8 s.scr) ∧ W.cell? ⟨p, 10, none⟩ = some (.bool s.over) ∧ W.cell? ⟨p, 11, none⟩ = some (v2) ∧ W.cell? ⟨p, 12, none⟩ = some (v3) ∧ W.cell? ⟨p, 13, none⟩ = some (.int .i64 s.off) ∧ W.cell? ⟨p, 14, none⟩ = some (.int .i64 s.code) ∧ W.cell? ⟨p, 15, none⟩ = some (vops) :=
  ⟨row_cell h 0 _ rfl, row_cell h 1 _ rfl, row_cell h 2 _ rfl, row_cell h 3 _ rfl, row_cell h 4 _ rfl, row_cell h 5 _ rfl, row_cell h 6 _ rfl, row_cell h 7 _ rfl, row_cell h 8 _ rfl, row_cell h 9 _ rfl, row_cell h 10 _ rfl, row_cell h 11 _ rfl, row_cell h 12 _ rfl, row_cell h 13 _ rfl, row_cell h 14 _ rfl, row_cell h 15 _ rfl⟩
theorem s_state2 {w0 w : World} {X : List Nat} {pb : Nat} {s : St} (D : SoloE w0 X w pb s) (hs : s.Ok) :
    Calls Try.prog 20 #[.pointer (some ⟨pb, 0, none⟩)] w fun e w' => ∃ v1 v2 v3, e = .returned (.agg (sCells v1 v2 v3 s)) ∧ Bs w' v1 s.ram ∧ Bs w' v2 s.inp ∧ Bs w' v3 s.out ∧ SoloE w0 (v1.ownBlock.toList ++ (v2.ownBlock.toList ++ (v3.ownBlock.toList ++ X))) w' pb s ∧ SameX X w w' ∧ (∀ g, v1.ownBlock = some g → w.heap.size ≤ g) ∧ (∀ g, v2.ownBlock = some g → w.heap.size ≤ g) ∧ (∀ g, v3.ownBlock = some g → w.heap.size ≤ g) := by
  obtain ⟨vr, vi, vo, D⟩ := D
  refine (state_any D.p hs).mono fun e w' ⟨v1, v2, v3, he, h1, h2, h3, n1, n2, n3, _, _, _, hp, hk⟩ => ?_
  obtain ⟨⟨ur, ui, uo, D2⟩, hx⟩ := D.step hp (kept_turn hk (foot_self _ _ _ _))
  have hD := D.step hp (kept_turn hk (foot_self _ _ _ _))
  have hz := D.kept.size
  have hmem : ∀ x, x ∈ v1.ownBlock.toList ++ (v2.ownBlock.toList ++ (v3.ownBlock.toList ++ X)) → (w.heap.size ≤ x ∧ x < w'.heap.size) ∨ x ∈ X := by
    intro x hx
    simp only [List.mem_append, Option.mem_toList] at hx
    rcases hx with hx | hx | hx | hx
    · exact .inl ⟨n1 x hx, h1.lt x hx⟩
    · exact .inl ⟨n2 x hx, h2.lt x hx⟩
    · exact .inl ⟨n3 x hx, h3.lt x hx⟩
    · exact .inr hx
  refine ⟨v1, v2, v3, he, h1, h2, h3, ⟨vr, vi, vo, hp, fun x hx => ⟨(D.pf x hx).1, fun hm => ?_⟩, hD.1.kept, fun x hx => ?_⟩, hD.2, n1, n2, n3⟩
  · rcases hmem x hm with h | h
    · have := D.p.lt x hx; omega
    · exact (D.pf x hx).2 h
  · rcases hmem x hx with h | h
    · exact h.2
    · exact Nat.lt_of_lt_of_le (D.xl x h) hk.size
theorem Rd.same {w w' : World} {v : Value} {l : List Int} (h : Rd w v l) (hx : ∀ g, v.ownBlock = some g → w'.heap[g]? = w.heap[g]?) : Rd w' v l := by
  rcases h with h | ⟨c, g, o, rfl, hc⟩
  · exact .inl h
  · exact .inr ⟨c, g, o, rfl, fun i x hi => (World.cell?_of_block (hx g rfl)).trans (hc i x hi)⟩
theorem step_append_nilw {ops : Array Oper} {o : Oper} {a : Act} {w : World} {K : Act → World → Prop} {Q : Exit → Act → World → Prop} {E : Prop} (hgd : o.guard = none) (s x : Operand)
    (ho : o.op = .call { callee := .builtin .append, args := #[s, x], argTypes := #[22, 22] }) (y : Value) (m : List Int) (hs : a.eval s = .slice none 0 0) (hy : a.eval x = y) (hx : RdW w y m) (hl : ([] : List Int).length + m.length ≤ 140737488355328)
    (h : ∀ v' w', Grew w w' (.slice none 0 0) v' ([] ++ m) → K (a.put o.dst v') w') : if Region.wanted o (yielded ops a.tmps) = true then Oper.wp Try.prog o a w K Q else E := by
  have hw : Region.wanted o (yielded ops a.tmps) = true := by simp [Region.wanted, hgd]
  rw [if_pos hw]
  obtain ⟨v', w', hr, hg⟩ := run_append_nilw w o.type y m hx hl
  unfold Oper.wp execOp
  simp only [ho, resolve, invoke, builtin, Sem.run_bind, Sem.run_pure, Result.andThen_ok, List.map_toArray, List.map_cons, List.map_nil, hs, hy, hr]
  exact h v' w' hg
def QInv (w1 : World) (pb : Nat) (wr : World) : Prop := ∃ s, s.Ok ∧ SoloE w1 [] wr pb s
/-- At the console's first register something is there just for one byte. -/
theorem there_uart {s : St} {r size : Int} (h0 : 0 ≤ r) (h1 : r < 8) (ht : (s.load (268435456 + r) size).1.2 = true) : size = 1 := by
  have hr := reach_low (n := s.ram.length) (addr := 268435456 + r) (size := size) (inRamA_false (by omega))
  by_cases hs : size = 1
  · exact hs
  exfalso
  have : reach s.ram.length (268435456 + r) size = 0 := by
    rw [hr, if_neg (by omega), if_neg (by omega), if_neg (by omega), if_neg (by omega), if_neg (by omega), if_neg (by omega), if_neg (by omega), if_neg (by omega), if_neg (by omega)]
  unfold St.load at ht
  simp [this] at ht
theorem load_uart_is (s : St) (r : Int) (h0 : 0 ≤ r) (h1 : r < 8) : s.load (268435456 + r) 1 = (((s.tells r).1, true), (s.tells r).2) := by
  have hr := reach_low (n := s.ram.length) (addr := 268435456 + r) (size := 1) (inRamA_false (by omega))
  rw [if_pos (by omega)] at hr
  unfold St.load
  simp only [hr, show 268435456 + r - 268435456 = r by omega]; rfl
/-- Elsewhere a load changes nothing. -/
theorem load_same (s : St) (addr size : Int) (h0 : ¬ (addr = 268435456 ∧ s.inp ≠ [] ∧ (s.load addr size).1.2 = true)) (h5 : ¬ (addr = 268435461 ∧ (s.load addr size).1.2 = true)) : (s.load addr size).2 = s := by
  by_cases hu : reach s.ram.length addr size = 10
  · have hl : s.load addr size = (((s.tells (addr - 268435456)).1, true), (s.tells (addr - 268435456)).2) := by unfold St.load; simp only [hu]; rfl
    rw [hl] at h0 h5 ⊢
    simp only [and_true] at h0 h5
    have e5 : ¬ addr - 268435456 = 5 := by omega
    show (s.tells (addr - 268435456)).2 = s
    unfold St.tells
    by_cases e0 : addr - 268435456 = 0
    · rw [if_pos e0]
      have : s.inp = [] := by
        by_cases hi : s.inp = []
        · exact hi
        · exact absurd ⟨by omega, hi⟩ h0
      show { s with inp := s.inp.tail } = s
      rw [this, List.tail_nil, ← this]
    rw [if_neg e0]
    repeat' (first | split | rfl | (exact absurd (by assumption) e5))
  · unfold St.load
    simp only
    repeat' (first | split | rfl | (exact absurd (by assumption) hu))
set_option maxHeartbeats 8000000 in
set_option maxRecDepth 100000 in
theorem BusQuiet_no (w : World) (s : St) (hs : s.In) (v1 v2 v3 vops : Value) (h1 : Rd w v1 s.ram) (h2 : Rd w v2 s.inp) (h3 : Rd w v3 s.out) (hc : s.canBe = false) :
    Calls Try.prog 15 #[.agg (yCells v1 v2 v3 s vops)] w (TruePost w) := by
  obtain ⟨A, c, rfl⟩ := h1.shape
  obtain ⟨B, d, rfl⟩ := h2.shape
  obtain ⟨C, e, rfl⟩ := h3.shape
  have kA : Kept [] w (w.alloc (.cells (yCells (.slice A s.ram.length c) (.slice B s.inp.length d) (.slice C s.out.length e) s vops) 43)) := (Kept.refl [] w).alloc _
  have HC := Lib.hid (r_canbe_rd _ s hs _ _ _ (h1.keep kA (by simp)) (h2.keep kA (by simp)) (h3.keep kA (by simp)))
  rw [hc] at HC
  have HK := Lib.hid kA
  clear h1 h2 h3 hs hc kA
  unfold yCells at *
  unfold sCells at HC
  go_enter Try.func15, Try.ntmps15
  go_wp2_with (go_at_call 23; refine HC.out.mono ?_; rintro e w2 ⟨rfl, hb⟩; have HK2 := Lib.hid (HK.out.trans (Kept.of_below (F := []) hb) (by simp)); clear hb)
  go_ret
  exact ⟨rfl, HK2.out⟩
set_option maxHeartbeats 40000000 in
set_option maxRecDepth 100000 in
theorem BusQuiet_yes (w : World) (s : St) (hs : s.In) (v1 v2 v3 vops : Value) (ops : List OpV) (h1 : Rd w v1 s.ram) (h2 : Rd w v2 s.inp) (h3 : Rd w v3 s.out) (ho : OpsAt w vops ops) (hc : s.canBe = true) :
    Calls Try.prog 15 #[.agg (yCells v1 v2 v3 s vops)] w (TruePost w) := by
  obtain ⟨A, c, rfl⟩ := h1.shape
  obtain ⟨B, d, rfl⟩ := h2.shape
  obtain ⟨C, e, rfl⟩ := h3.shape
  obtain ⟨AO, cO, rfl⟩ : ∃ A c, vops = .slice A ops.length c := by
    rcases ho.2 with ⟨rfl, rfl⟩ | ⟨g, off, cap, rfl, _⟩
    · exact ⟨_, _, rfl⟩
    · exact ⟨_, _, rfl⟩
  have hlen : ops.length ≤ 140737488351232 := ho.1
  have kA : Kept [] w (w.alloc (.cells (yCells (.slice A s.ram.length c) (.slice B s.inp.length d) (.slice C s.out.length e) s (.slice AO ops.length cO)) 43)) := (Kept.refl [] w).alloc _
  have hrow : (w.alloc (.cells (yCells (.slice A s.ram.length c) (.slice B s.inp.length d) (.slice C s.out.length e) s (.slice AO ops.length cO)) 43)).heap[w.heap.size]? = some (.cells (yCells (.slice A s.ram.length c) (.slice B s.inp.length d) (.slice C s.out.length e) s (.slice AO ops.length cO)) 43 (0, 0)) := heap_alloc_new w _
  have r1 := h1.keep kA (by simp)
  have r2 := h2.keep kA (by simp)
  have r3 := h3.keep kA (by simp)
  have hcan := r_canbe_rd _ s hs _ _ _ r1 r2 r3
  rw [hc] at hcan
  have HC := Lib.hid hcan
  have HR1 := Lib.hid r1
  have HR2 := Lib.hid r2
  have HR3 := Lib.hid r3
  have HSI := Lib.hid hs
  have HCB := Lib.hid hc
  have HO := Lib.hid (ho.keep kA)
  have HK := Lib.hid kA
  have HROW := Lib.hid hrow
  have hok := hs.ok hc
  have HSOK := Lib.hid hok
  clear h1 h2 h3 hs hc kA hrow ho r1 r2 r3 hcan hok
  unfold yCells at HC HR1 HR2 HR3 HO HK HROW ⊢
  unfold sCells at HC
  go_enter Try.func15, Try.ntmps15
  go_wp2_with (first
    | (go_at_call 23; refine HC.out.mono ?_; rintro e w2 ⟨rfl, hb⟩; have hk2 := Kept.of_below (F := []) hb; obtain ⟨f0, f1, f2, f3, f4, f5, f6, f7, f8, f9, f10, f11, f12, f13, f14, f15⟩ := cells16q (hk2.row HROW.out (by simp)); have HMD := Lib.hid (made_any w2 s HSI.out A B C _ _ _ c d e (HR1.out.keep hk2 (by simp)) (HR2.out.keep hk2 (by simp)) (HR3.out.keep hk2 (by simp)) HCB.out); have HK2 := Lib.hid hk2; clear hb hk2)
    | (go_at_call 24; (unfold sCells at HMD); refine HMD.out.mono ?_; intro e w3 hm; obtain ⟨pb, rfl, D3⟩ := SoloE.of_made hm; have HINV := Lib.hid (show QInv _ pb w3 from ⟨s, HSOK.out, D3.rebase HK2.out⟩); clear hm D3 HMD f0 f1 f2 f3 f4 f5 f6 f7 f8 f9 f10 f11 f12 f13 f14 f15))
  generalize (w.alloc (.cells #[.slice A s.ram.length c, .int .u32 s.msip, .int .u64 s.cmp, .int .u64 s.now, .bool s.ext, .bool s.soft, .int .u8 s.ier, .int .u8 s.lcr, .int .u8 s.mcr, .int .u8 s.scr, .bool s.over, .slice B s.inp.length d, .slice C s.out.length e, .int .i64 s.off, .int .i64 s.code, .slice AO ops.length cO] 43)) = w1 at *
  clear HC HR1 HR2 HR3 HSI HCB HSOK HK2
  generalize w.heap.size = N at *
  go_loopw [6] (fun i wr => ∃ k : Nat, k ≤ ops.length ∧ i = .int .i64 k ∧ Hid (QInv w1 pb wr)) (fun i _ => ops.length - (intOf i).toNat)
  case atStart => exact ⟨0, Nat.zero_le _, rfl, HINV.out⟩
  case round =>
    obtain ⟨k, hk, rfl, hp⟩ := hrel
    obtain ⟨s', hs', D⟩ := hp.out
    have hR := D.kept.row HROW.out (by simp)
    have d15 : wr.cell? ⟨N, 15, none⟩ = some (.slice AO ops.length cO) := row_cell hR 15 _ rfl
    by_cases hlt : k < ops.length
    · obtain ⟨o, hoi⟩ : ∃ o, ops[k]? = some o := ⟨_, List.getElem?_eq_getElem hlt⟩
      obtain ⟨g, off, cap, hve, hcs⟩ : ∃ g off cap, Value.slice AO ops.length cO = .slice (some ⟨g, off, none⟩) ops.length cap ∧ ∀ (i : Nat) (o : OpV), ops[i]? = some o → w1.rangeAt g (off + i * 9) o.cells.toList ∧ o.At w1 := by
        rcases HO.out.2 with ⟨_, h⟩ | h
        · rw [h] at hlt; simp at hlt
        · exact h
      simp only [Value.slice.injEq] at hve
      obtain ⟨rfl, -, rfl⟩ := hve
      have HRG := Lib.hid (rangeAt_keep (hcs k o hoi).1 D.kept)
      have HA := Lib.hid (hcs k o hoi).2
      obtain ⟨hz, D2, hT, hx2⟩ := D.opbox o.cells
      have HZO := Lib.hid hz
      have HD2 := Lib.hid D2
      have HT2 := Lib.hid hT
      have HS' := Lib.hid hs'
      have a0 := (hcs k o hoi).2.ad.1
      have a1 := (hcs k o hoi).2.ad.2
      have s0 := (hcs k o hoi).2.nn.1
      have s1 := (hcs k o hoi).2.nn.2
      have v0 := (hcs k o hoi).2.vv.1
      have v1 := (hcs k o hoi).2.vv.2
      obtain ⟨VB, cb, hvb⟩ := (hcs k o hoi).2.rb.shape
      obtain ⟨VW, cw, hvw⟩ := (hcs k o hoi).2.rw.shape
      have hoc : o.cells = #[.int .i64 o.kind, .int .u64 o.addr, .int .i64 o.n, .int .u64 o.v, .slice VB o.b.length cb, .bool o.tick, .bool o.ext, .bool o.soft, .slice VW o.l.length cw] := by unfold OpV.cells; rw [hvb, hvw]
      have HOC := Lib.hid hoc
      have HVB := Lib.hid hvb
      have HVW := Lib.hid hvw
      clear D hs' hR hcs hoi hz D2 hT hx2 hoc hvb hvw
      by_cases hk1 : o.kind = 1
      · have b1 : (o.kind == 1) = true := by rw [hk1]; rfl
        obtain ⟨x, hx1⟩ : ∃ x, (s'.load o.addr o.n).1.1 = x := ⟨_, rfl⟩
        obtain ⟨y, hy1⟩ : ∃ y, (s'.load o.addr o.n).1.2 = y := ⟨_, rfl⟩
        have HX1 := Lib.hid hx1
        have HY1 := Lib.hid hy1
        by_cases hca : o.addr = 268435456 ∧ s'.inp ≠ [] ∧ (s'.load o.addr o.n).1.2 = true
        · obtain ⟨e0, hne, ht⟩ := hca
          have hn1 : o.n = 1 := by
            have := there_uart (s := s') (r := 0) (size := o.n) (by decide) (by decide) (by rw [e0] at ht; exact ht)
            exact this
          obtain ⟨ch, tl, hi⟩ : ∃ ch tl, s'.inp = ch :: tl := by
            cases h : s'.inp with
            | nil => exact absurd h hne
            | cons a r => exact ⟨a, r, rfl⟩
          have hld : s'.load o.addr o.n = ((ch, true), { s' with inp := tl }) := by
            have := load_uart_is s' 0 (by decide) (by decide)
            rw [e0, hn1]
            show s'.load (268435456 + 0) 1 = _
            rw [this]
            unfold St.tells
            rw [if_pos rfl, hi]; rfl
          have HLD := Lib.hid hld
          have hl1 : 1 ≤ s'.inp.length := by rw [hi]; simp
          have hl2 : (1 : Int) ≤ (s'.inp.length : Int) := by omega
          have HLT := Lib.hid (show s'.inp.length = tl.length + 1 by rw [hi]; simp)
          have HI := Lib.hid hi
          have hch := HS'.out.ib ch (by rw [hi]; simp)
          have ch0 := hch.1
          have ch1 := hch.2
          have e9 : decide ((0 : Int) < (s'.inp.length : Int)) = true := by simp; omega
          have e9n : decide (0 < s'.inp.length) = true := by simp; omega
          have e0' : (o.addr == 268435456) = true := by rw [e0]; rfl
          have e5' : (o.addr == 268435461) = false := by rw [e0]; rfl
          have HSE := Lib.hid (show St.Ok { s' with inp := tl } by have := ok_load HS'.out o.addr o.n; rw [hld] at this; exact this)
          clear e0 hne ht hn1 hld hx1 hy1 HX1 HY1 hch hi hk1
          as_aux_lemma =>
            go_wp2_with (first
              | ((with_reducible refine gate_n (N := 37) rfl ?_); refine wpList_load_mid rfl 54 (.tmp 36) rfl g (off + k * 9) rfl o.cells.toList _ HRG.out Try.underlying54 rfl (by kernel_rfl) ?_; rw [Array.toArray_toList])
              | (refine wpList_store_row rfl 54 (.tmp 7) (.tmp 37) rfl wr.heap.size _ rfl rfl 54 _ HZO.out (by kernel_rfl) rfl HA.out.one ?_)
              | (go_at_call 20; refine (s_state HD2.out HS'.out).mono ?_; rintro e w4 ⟨u1, u2, u3, rfl, h1, h2, h3, D4, hx⟩; obtain ⟨A1, c1, rfl⟩ := h1.shape; obtain ⟨B1, d1, rfl⟩ := h2.shape; obtain ⟨C1, e1, rfl⟩ := h3.shape; obtain ⟨hz, D5, hU, hx5⟩ := D4.stbox (sCells (.slice A1 s'.ram.length c1) (.slice B1 s'.inp.length d1) (.slice C1 s'.out.length e1) s'); have HW4 := Lib.hid D4.kept.size; have HL4 := Lib.hid (And.intro h1.lt (And.intro h2.lt h3.lt)); have HZ5 := Lib.hid hz; have HD5 := Lib.hid D5; have HU5 := Lib.hid hU; have ht5 := (hx5 wr.heap.size (by simp)).trans ((hx wr.heap.size (by simp)).trans HT2.out); rw [HOC.out] at ht5; have HT5 := Lib.hid ht5; have t0 := row_cell ht5 0 _ rfl; have t1 := row_cell ht5 1 _ rfl; have t2 := row_cell ht5 2 _ rfl; have t3 := row_cell ht5 3 _ rfl; have t4 := row_cell ht5 4 _ rfl; have t5 := row_cell ht5 5 _ rfl; have t6 := row_cell ht5 6 _ rfl; have t7 := row_cell ht5 7 _ rfl; have t8 := row_cell ht5 8 _ rfl; have HUB5 := Lib.hid (And.intro (h1.keepX (fun g hg => hx5 g (by simp [hg]))) (And.intro (h2.keepX (fun g hg => hx5 g (by simp [hg]))) (h3.keepX (fun g hg => hx5 g (by simp [hg]))))); clear hz D5 hU hx5 hx h1 h2 h3 D4 ht5)
              | (refine wpList_store_row rfl 26 (.tmp 8) (.tmp 39) rfl w4.heap.size _ rfl rfl 26 _ HZ5.out (by kernel_rfl) rfl (sCells_one _ _ _ _ _ _ _ _ _ _) ?_)
              | (go_at_call 29; refine (s_load HD5.out HS'.out o.addr o.n a0 a1 s0 s1).mono ?_; rw [HLD.out]; rintro e w6 ⟨rfl, D6, hx⟩; have HD6 := Lib.hid D6; have hu6 := (hx w4.heap.size (by simp)).trans HU5.out; have HU6 := Lib.hid hu6; have y11 := row_cell hu6 11 (.slice B1 s'.inp.length d1) rfl; have y10 := row_cell hu6 10 (.bool s'.over) rfl; have zz6 := fun j => frozen_of_row _ _ j _ _ hu6; have ht6 := (hx wr.heap.size (by simp)).trans HT5.out; have t61 := row_cell ht6 1 _ rfl; have HUB6 := Lib.hid (And.intro (HUB5.out.1.keepX (fun g hg => hx g (by simp [hg]))) (And.intro (HUB5.out.2.1.keepX (fun g hg => hx g (by simp [hg]))) (HUB5.out.2.2.keepX (fun g hg => hx g (by simp [hg]))))); obtain ⟨gi, capi, hBi, hcap⟩ : ∃ gi capi, B1 = some ⟨gi, 0, none⟩ ∧ s'.inp.length ≤ d1 ∧ d1 ≤ maxLen := (by rcases HUB6.out.2.1.at with ⟨_, he⟩ | ⟨gi, capi, cur, hv, _, hl1, hl2, _⟩; (· rw [HI.out] at he; simp at he); (· simp only [Value.slice.injEq] at hv; exact ⟨gi, capi, hv.1, by rw [hv.2.2]; exact hl1, by rw [hv.2.2]; exact hl2⟩)); subst hBi; have hc0 := (HUB6.out.2.1.cell rfl 0 ch (by rw [HI.out]; rfl)); have hcl1 := hcap.1; have hcl2 : d1 ≤ 9223372036854775807 := hcap.2; clear D6 hx hu6 ht6 hcap))
            · have ku : Kept [w4.heap.size] w6 (w6.setCell ⟨w4.heap.size, 11, none⟩ (.slice (some ⟨gi, 0, none⟩) (s'.inp.length - 1) 0)) := (Kept.refl [w4.heap.size] w6).setCell (by simp) _
              obtain ⟨sq, hsq⟩ : ∃ sq : St, { s' with inp := tl } = sq := ⟨_, rfl⟩
              have hlt : s'.inp.length - 1 = tl.length := by have := HLT.out; omega
              have HUE := Lib.hid (show (w6.setCell ⟨w4.heap.size, 11, none⟩ (.slice (some ⟨gi, 0, none⟩) (s'.inp.length - 1) 0)).heap[w4.heap.size]? = some (.cells (sCells (.slice A1 s'.ram.length c1) (.slice (some ⟨gi, 0, none⟩) (s'.inp.length - 1) 0) (.slice C1 s'.out.length e1) sq) 26 (0, 0)) by rw [← hsq]; exact row_set HU6.out 11 _ rfl)
              have hde := HD6.out.write (by simp) HW4.out ku
              rw [hsq] at hde
              have HDE := Lib.hid hde
              have hsqo := HSE.out
              rw [hsq] at hsqo
              have HSQ := Lib.hid hsqo
              have HR1 := Lib.hid (show Rd (w6.setCell ⟨w4.heap.size, 11, none⟩ (.slice (some ⟨gi, 0, none⟩) (s'.inp.length - 1) 0)) (.slice A1 s'.ram.length c1) sq.ram by rw [← hsq]; exact (HUB6.out.1.keep ku (fun g hg => by have := HL4.out.1 g hg; simp; omega)).rd)
              have HR3 := Lib.hid (show Rd (w6.setCell ⟨w4.heap.size, 11, none⟩ (.slice (some ⟨gi, 0, none⟩) (s'.inp.length - 1) 0)) (.slice C1 s'.out.length e1) sq.out by rw [← hsq]; exact (HUB6.out.2.2.keep ku (fun g hg => by have := HL4.out.2.2 g hg; simp; omega)).rd)
              have HR2 := Lib.hid (show Rd (w6.setCell ⟨w4.heap.size, 11, none⟩ (.slice (some ⟨gi, 0, none⟩) (s'.inp.length - 1) 0)) (.slice (some ⟨gi, 0, none⟩) (s'.inp.length - 1) 0) sq.inp by
                rw [← hsq]
                refine .inr ⟨0, gi, 0, by rw [hlt], fun i y hy => ?_⟩
                have hgi : gi < w4.heap.size := HL4.out.2.1 gi rfl
                exfalso
                have hd : d1 = 1 := by assumption
                have hi2 : i < tl.length := (List.getElem?_eq_some_iff.mp hy).1
                omega)
              clear hsq ku hde hsqo hlt
              obtain ⟨DX, hxx⟩ := HDE.out.keep (Kept.refl [] _).drew
              have hux := (hxx w4.heap.size (by simp)).trans HUE.out
              have HUX := Lib.hid hux
              have p15 := cells15 hux
              have HXX := Lib.hid hxx
              have HST := Lib.hid (s_state DX HSQ.out)
              clear DX hxx hux
              go_region_held3 (fun w' => w'.cell? ⟨w4.heap.size, 0, none⟩ = some (.slice A1 s'.ram.length c1) ∧ w'.cell? ⟨w4.heap.size, 1, none⟩ = some (.int .u32 sq.msip) ∧ w'.cell? ⟨w4.heap.size, 2, none⟩ = some (.int .u64 sq.cmp) ∧ w'.cell? ⟨w4.heap.size, 3, none⟩ = some (.int .u64 sq.now) ∧ w'.cell? ⟨w4.heap.size, 4, none⟩ = some (.bool sq.ext) ∧ w'.cell? ⟨w4.heap.size, 5, none⟩ = some (.bool sq.soft) ∧ w'.cell? ⟨w4.heap.size, 6, none⟩ = some (.int .u8 sq.ier) ∧ w'.cell? ⟨w4.heap.size, 7, none⟩ = some (.int .u8 sq.lcr) ∧ w'.cell? ⟨w4.heap.size, 8, none⟩ = some (.int .u8 sq.mcr) ∧ w'.cell? ⟨w4.heap.size, 9, none⟩ = some (.int .u8 sq.scr) ∧ w'.cell? ⟨w4.heap.size, 10, none⟩ = some (.bool sq.over) ∧ w'.cell? ⟨w4.heap.size, 11, none⟩ = some (.slice (some ⟨gi, 0, none⟩) (s'.inp.length - 1) 0) ∧ w'.cell? ⟨w4.heap.size, 12, none⟩ = some (.slice C1 s'.out.length e1) ∧ w'.cell? ⟨w4.heap.size, 13, none⟩ = some (.int .i64 sq.off) ∧ w'.cell? ⟨w4.heap.size, 14, none⟩ = some (.int .i64 sq.code)) (first | (with_reducible assumption) | go_keep)
                (first
                  | (go_at_call 20; (first | (with_reducible refine HST.out.mono ?_) | (refine HST.out.mono ?_)); rintro e w12 ⟨x1, x2, x3, rfl, h1, h2, h3, D12, hx⟩; have hxw : SameX _ _ w12 := hx; have hu12 := (hx w4.heap.size (by simp)).trans HUX.out; have HU12 := Lib.hid hu12; have q15 := cells15 hu12; have HBS := Lib.hid (And.intro h1 (And.intro h2 h3)); have hxq := HXX.out.trans hx; have HE1 := Lib.hid (HR1.out.same (fun g hg => hxq g (by first | (simp [hg]; done) | (have hq : gi = g := (by simpa [Value.ownBlock] using hg); subst hq; simp [Value.ownBlock]; done)))); have HE2 := Lib.hid (HR2.out.same (fun g hg => hxq g (by first | (simp [hg]; done) | (have hq : gi = g := (by simpa [Value.ownBlock] using hg); subst hq; simp [Value.ownBlock]; done)))); have HE3 := Lib.hid (HR3.out.same (fun g hg => hxq g (by first | (simp [hg]; done) | (have hq : gi = g := (by simpa [Value.ownBlock] using hg); subst hq; simp [Value.ownBlock]; done)))); have HD12 := Lib.hid (D12.pop (X := []) (by simp)); clear D12 hx hxw h1 h2 h3 hu12 hxq)
                  | (go_at_call 19; refine (r_same_rd w12 sq _ _ _ _ _ _ HBS.out.1.rd HBS.out.2.1.rd HBS.out.2.2.rd HE1.out HE2.out HE3.out).mono ?_; rintro e w13 ⟨rfl, hb⟩; have hkb := Kept.of_below (F := []) hb; have r15 := cells15 (hkb.row HU12.out (by simp)); have HIN := Lib.hid (show QInv w1 pb w13 from ⟨_, HSQ.out, (HD12.out.keep hkb).1⟩); clear hb hkb))
              all_goals
                go_wp2
                go_roundw
                case rel => go_light; exact ⟨k + 1, by omega, by go_num, HIN.out⟩
                case measure => simp [intOf]; omega
            · have ku : Kept [w4.heap.size] w6 (w6.setCell ⟨w4.heap.size, 11, none⟩ (.slice (some ⟨gi, 1, none⟩) (s'.inp.length - 1) (d1 - 1))) := (Kept.refl [w4.heap.size] w6).setCell (by simp) _
              obtain ⟨sq, hsq⟩ : ∃ sq : St, { s' with inp := tl } = sq := ⟨_, rfl⟩
              have hlt : s'.inp.length - 1 = tl.length := by have := HLT.out; omega
              have HUE := Lib.hid (show (w6.setCell ⟨w4.heap.size, 11, none⟩ (.slice (some ⟨gi, 1, none⟩) (s'.inp.length - 1) (d1 - 1))).heap[w4.heap.size]? = some (.cells (sCells (.slice A1 s'.ram.length c1) (.slice (some ⟨gi, 1, none⟩) (s'.inp.length - 1) (d1 - 1)) (.slice C1 s'.out.length e1) sq) 26 (0, 0)) by rw [← hsq]; exact row_set HU6.out 11 _ rfl)
              have hde := HD6.out.write (by simp) HW4.out ku
              rw [hsq] at hde
              have HDE := Lib.hid hde
              have hsqo := HSE.out
              rw [hsq] at hsqo
              have HSQ := Lib.hid hsqo
              have HR1 := Lib.hid (show Rd (w6.setCell ⟨w4.heap.size, 11, none⟩ (.slice (some ⟨gi, 1, none⟩) (s'.inp.length - 1) (d1 - 1))) (.slice A1 s'.ram.length c1) sq.ram by rw [← hsq]; exact (HUB6.out.1.keep ku (fun g hg => by have := HL4.out.1 g hg; simp; omega)).rd)
              have HR3 := Lib.hid (show Rd (w6.setCell ⟨w4.heap.size, 11, none⟩ (.slice (some ⟨gi, 1, none⟩) (s'.inp.length - 1) (d1 - 1))) (.slice C1 s'.out.length e1) sq.out by rw [← hsq]; exact (HUB6.out.2.2.keep ku (fun g hg => by have := HL4.out.2.2 g hg; simp; omega)).rd)
              have HR2 := Lib.hid (show Rd (w6.setCell ⟨w4.heap.size, 11, none⟩ (.slice (some ⟨gi, 1, none⟩) (s'.inp.length - 1) (d1 - 1))) (.slice (some ⟨gi, 1, none⟩) (s'.inp.length - 1) (d1 - 1)) sq.inp by
                rw [← hsq]
                refine .inr ⟨(d1 - 1), gi, 1, by rw [hlt], fun i y hy => ?_⟩
                have hgi : gi < w4.heap.size := HL4.out.2.1 gi rfl
                have h2 := HUB6.out.2.1.cell rfl (i + 1) y (by rw [HI.out]; simpa using hy)
                rw [ku.cell (p := ⟨gi, 1 + i, none⟩) (World.block_lt_of_cell? w6 _ (by rw [Nat.add_comm]; exact h2)) (by simp; omega), Nat.add_comm]
                exact h2)
              clear hsq ku hde hsqo hlt
              obtain ⟨DX, hxx⟩ := HDE.out.keep (Kept.refl [] _).drew
              have hux := (hxx w4.heap.size (by simp)).trans HUE.out
              have HUX := Lib.hid hux
              have p15 := cells15 hux
              have HXX := Lib.hid hxx
              have HST := Lib.hid (s_state DX HSQ.out)
              clear DX hxx hux
              go_region_held3 (fun w' => w'.cell? ⟨w4.heap.size, 0, none⟩ = some (.slice A1 s'.ram.length c1) ∧ w'.cell? ⟨w4.heap.size, 1, none⟩ = some (.int .u32 sq.msip) ∧ w'.cell? ⟨w4.heap.size, 2, none⟩ = some (.int .u64 sq.cmp) ∧ w'.cell? ⟨w4.heap.size, 3, none⟩ = some (.int .u64 sq.now) ∧ w'.cell? ⟨w4.heap.size, 4, none⟩ = some (.bool sq.ext) ∧ w'.cell? ⟨w4.heap.size, 5, none⟩ = some (.bool sq.soft) ∧ w'.cell? ⟨w4.heap.size, 6, none⟩ = some (.int .u8 sq.ier) ∧ w'.cell? ⟨w4.heap.size, 7, none⟩ = some (.int .u8 sq.lcr) ∧ w'.cell? ⟨w4.heap.size, 8, none⟩ = some (.int .u8 sq.mcr) ∧ w'.cell? ⟨w4.heap.size, 9, none⟩ = some (.int .u8 sq.scr) ∧ w'.cell? ⟨w4.heap.size, 10, none⟩ = some (.bool sq.over) ∧ w'.cell? ⟨w4.heap.size, 11, none⟩ = some (.slice (some ⟨gi, 1, none⟩) (s'.inp.length - 1) (d1 - 1)) ∧ w'.cell? ⟨w4.heap.size, 12, none⟩ = some (.slice C1 s'.out.length e1) ∧ w'.cell? ⟨w4.heap.size, 13, none⟩ = some (.int .i64 sq.off) ∧ w'.cell? ⟨w4.heap.size, 14, none⟩ = some (.int .i64 sq.code)) (first | (with_reducible assumption) | go_keep)
                (first
                  | (go_at_call 20; (first | (with_reducible refine HST.out.mono ?_) | (refine HST.out.mono ?_)); rintro e w12 ⟨x1, x2, x3, rfl, h1, h2, h3, D12, hx⟩; have hxw : SameX _ _ w12 := hx; have hu12 := (hx w4.heap.size (by simp)).trans HUX.out; have HU12 := Lib.hid hu12; have q15 := cells15 hu12; have HBS := Lib.hid (And.intro h1 (And.intro h2 h3)); have hxq := HXX.out.trans hx; have HE1 := Lib.hid (HR1.out.same (fun g hg => hxq g (by first | (simp [hg]; done) | (have hq : gi = g := (by simpa [Value.ownBlock] using hg); subst hq; simp [Value.ownBlock]; done)))); have HE2 := Lib.hid (HR2.out.same (fun g hg => hxq g (by first | (simp [hg]; done) | (have hq : gi = g := (by simpa [Value.ownBlock] using hg); subst hq; simp [Value.ownBlock]; done)))); have HE3 := Lib.hid (HR3.out.same (fun g hg => hxq g (by first | (simp [hg]; done) | (have hq : gi = g := (by simpa [Value.ownBlock] using hg); subst hq; simp [Value.ownBlock]; done)))); have HD12 := Lib.hid (D12.pop (X := []) (by simp)); clear D12 hx hxw h1 h2 h3 hu12 hxq)
                  | (go_at_call 19; refine (r_same_rd w12 sq _ _ _ _ _ _ HBS.out.1.rd HBS.out.2.1.rd HBS.out.2.2.rd HE1.out HE2.out HE3.out).mono ?_; rintro e w13 ⟨rfl, hb⟩; have hkb := Kept.of_below (F := []) hb; have r15 := cells15 (hkb.row HU12.out (by simp)); have HIN := Lib.hid (show QInv w1 pb w13 from ⟨_, HSQ.out, (HD12.out.keep hkb).1⟩); clear hb hkb))
              all_goals
                go_wp2
                go_roundw
                case rel => go_light; exact ⟨k + 1, by omega, by go_num, HIN.out⟩
                case measure => simp [intOf]; omega
        by_cases hcb : o.addr = 268435461 ∧ (s'.load o.addr o.n).1.2 = true
        · obtain ⟨e5, ht⟩ := hcb
          have hn1 : o.n = 1 := by
            have := there_uart (s := s') (r := 5) (size := o.n) (by decide) (by decide) (by rw [e5] at ht; exact ht)
            exact this
          have hld : s'.load o.addr o.n = ((s'.status, true), { s' with over := false }) := by
            have := load_uart_is s' 5 (by decide) (by decide)
            rw [e5, hn1]
            show s'.load (268435456 + 5) 1 = _
            rw [this]
            unfold St.tells
            simp only [show ¬ (5 : Int) = 0 by decide, show ¬ (5 : Int) = 1 by decide, show ¬ (5 : Int) = 2 by decide, show ¬ (5 : Int) = 3 by decide, show ¬ (5 : Int) = 4 by decide, if_false, if_true]
          have HLD := Lib.hid hld
          have e0' : (o.addr == 268435456) = false := by rw [e5]; rfl
          have e5' : (o.addr == 268435461) = true := by rw [e5]; rfl
          have HSE := Lib.hid (show St.Ok { s' with over := false } by have := ok_load HS'.out o.addr o.n; rw [hld] at this; exact this)
          clear e5 ht hn1 hld hx1 hy1 HX1 HY1 hca hk1
          as_aux_lemma =>
            go_wp2_with (first
              | ((with_reducible refine gate_n (N := 37) rfl ?_); refine wpList_load_mid rfl 54 (.tmp 36) rfl g (off + k * 9) rfl o.cells.toList _ HRG.out Try.underlying54 rfl (by kernel_rfl) ?_; rw [Array.toArray_toList])
              | (refine wpList_store_row rfl 54 (.tmp 7) (.tmp 37) rfl wr.heap.size _ rfl rfl 54 _ HZO.out (by kernel_rfl) rfl HA.out.one ?_)
              | (go_at_call 20; refine (s_state HD2.out HS'.out).mono ?_; rintro e w4 ⟨u1, u2, u3, rfl, h1, h2, h3, D4, hx⟩; obtain ⟨A1, c1, rfl⟩ := h1.shape; obtain ⟨B1, d1, rfl⟩ := h2.shape; obtain ⟨C1, e1, rfl⟩ := h3.shape; obtain ⟨hz, D5, hU, hx5⟩ := D4.stbox (sCells (.slice A1 s'.ram.length c1) (.slice B1 s'.inp.length d1) (.slice C1 s'.out.length e1) s'); have HW4 := Lib.hid D4.kept.size; have HL4 := Lib.hid (And.intro h1.lt (And.intro h2.lt h3.lt)); have HZ5 := Lib.hid hz; have HD5 := Lib.hid D5; have HU5 := Lib.hid hU; have ht5 := (hx5 wr.heap.size (by simp)).trans ((hx wr.heap.size (by simp)).trans HT2.out); rw [HOC.out] at ht5; have HT5 := Lib.hid ht5; have t0 := row_cell ht5 0 _ rfl; have t1 := row_cell ht5 1 _ rfl; have t2 := row_cell ht5 2 _ rfl; have t3 := row_cell ht5 3 _ rfl; have t4 := row_cell ht5 4 _ rfl; have t5 := row_cell ht5 5 _ rfl; have t6 := row_cell ht5 6 _ rfl; have t7 := row_cell ht5 7 _ rfl; have t8 := row_cell ht5 8 _ rfl; have HUB5 := Lib.hid (And.intro (h1.keepX (fun g hg => hx5 g (by simp [hg]))) (And.intro (h2.keepX (fun g hg => hx5 g (by simp [hg]))) (h3.keepX (fun g hg => hx5 g (by simp [hg]))))); clear hz D5 hU hx5 hx h1 h2 h3 D4 ht5)
              | (refine wpList_store_row rfl 26 (.tmp 8) (.tmp 39) rfl w4.heap.size _ rfl rfl 26 _ HZ5.out (by kernel_rfl) rfl (sCells_one _ _ _ _ _ _ _ _ _ _) ?_)
              | (go_at_call 29; refine (s_load HD5.out HS'.out o.addr o.n a0 a1 s0 s1).mono ?_; rw [HLD.out]; rintro e w6 ⟨rfl, D6, hx⟩; have HD6 := Lib.hid D6; have hu6 := (hx w4.heap.size (by simp)).trans HU5.out; have HU6 := Lib.hid hu6; have y11 := row_cell hu6 11 (.slice B1 s'.inp.length d1) rfl; have y10 := row_cell hu6 10 (.bool s'.over) rfl; have zz6 := fun j => frozen_of_row _ _ j _ _ hu6; have ht6 := (hx wr.heap.size (by simp)).trans HT5.out; have t61 := row_cell ht6 1 _ rfl; have HUB6 := Lib.hid (And.intro (HUB5.out.1.keepX (fun g hg => hx g (by simp [hg]))) (And.intro (HUB5.out.2.1.keepX (fun g hg => hx g (by simp [hg]))) (HUB5.out.2.2.keepX (fun g hg => hx g (by simp [hg]))))); clear D6 hx hu6 ht6))
            have ku : Kept [w4.heap.size] w6 (w6.setCell ⟨w4.heap.size, 10, none⟩ (.bool false)) := (Kept.refl [w4.heap.size] w6).setCell (by simp) _
            obtain ⟨sq, hsq⟩ : ∃ sq : St, { s' with over := false } = sq := ⟨_, rfl⟩
            have HUE := Lib.hid (show (w6.setCell ⟨w4.heap.size, 10, none⟩ (.bool false)).heap[w4.heap.size]? = some (.cells (sCells (.slice A1 s'.ram.length c1) (.slice B1 s'.inp.length d1) (.slice C1 s'.out.length e1) sq) 26 (0, 0)) by rw [← hsq]; exact row_set HU6.out 10 _ rfl)
            have hde := HD6.out.write (by simp) HW4.out ku
            rw [hsq] at hde
            have HDE := Lib.hid hde
            have hsqo := HSE.out
            rw [hsq] at hsqo
            have HSQ := Lib.hid hsqo
            have HR1 := Lib.hid (show Rd (w6.setCell ⟨w4.heap.size, 10, none⟩ (.bool false)) (.slice A1 s'.ram.length c1) sq.ram by rw [← hsq]; exact (HUB6.out.1.keep ku (fun g hg => by have := HL4.out.1 g hg; simp; omega)).rd)
            have HR2 := Lib.hid (show Rd (w6.setCell ⟨w4.heap.size, 10, none⟩ (.bool false)) (.slice B1 s'.inp.length d1) sq.inp by rw [← hsq]; exact (HUB6.out.2.1.keep ku (fun g hg => by have := HL4.out.2.1 g hg; simp; omega)).rd)
            have HR3 := Lib.hid (show Rd (w6.setCell ⟨w4.heap.size, 10, none⟩ (.bool false)) (.slice C1 s'.out.length e1) sq.out by rw [← hsq]; exact (HUB6.out.2.2.keep ku (fun g hg => by have := HL4.out.2.2 g hg; simp; omega)).rd)
            clear hsq ku hde hsqo
            obtain ⟨DX, hxx⟩ := HDE.out.keep (Kept.refl [] _).drew
            have hux := (hxx w4.heap.size (by simp)).trans HUE.out
            have HUX := Lib.hid hux
            have p15 := cells15 hux
            have HXX := Lib.hid hxx
            have HST := Lib.hid (s_state DX HSQ.out)
            clear DX hxx hux
            go_region_held3 (fun w' => w'.cell? ⟨w4.heap.size, 0, none⟩ = some (.slice A1 s'.ram.length c1) ∧ w'.cell? ⟨w4.heap.size, 1, none⟩ = some (.int .u32 sq.msip) ∧ w'.cell? ⟨w4.heap.size, 2, none⟩ = some (.int .u64 sq.cmp) ∧ w'.cell? ⟨w4.heap.size, 3, none⟩ = some (.int .u64 sq.now) ∧ w'.cell? ⟨w4.heap.size, 4, none⟩ = some (.bool sq.ext) ∧ w'.cell? ⟨w4.heap.size, 5, none⟩ = some (.bool sq.soft) ∧ w'.cell? ⟨w4.heap.size, 6, none⟩ = some (.int .u8 sq.ier) ∧ w'.cell? ⟨w4.heap.size, 7, none⟩ = some (.int .u8 sq.lcr) ∧ w'.cell? ⟨w4.heap.size, 8, none⟩ = some (.int .u8 sq.mcr) ∧ w'.cell? ⟨w4.heap.size, 9, none⟩ = some (.int .u8 sq.scr) ∧ w'.cell? ⟨w4.heap.size, 10, none⟩ = some (.bool sq.over) ∧ w'.cell? ⟨w4.heap.size, 11, none⟩ = some (.slice B1 s'.inp.length d1) ∧ w'.cell? ⟨w4.heap.size, 12, none⟩ = some (.slice C1 s'.out.length e1) ∧ w'.cell? ⟨w4.heap.size, 13, none⟩ = some (.int .i64 sq.off) ∧ w'.cell? ⟨w4.heap.size, 14, none⟩ = some (.int .i64 sq.code)) (first | (with_reducible assumption) | go_keep)
              (first
                | (go_at_call 20; (first | (with_reducible refine HST.out.mono ?_) | (refine HST.out.mono ?_)); rintro e w12 ⟨x1, x2, x3, rfl, h1, h2, h3, D12, hx⟩; have hxw : SameX _ _ w12 := hx; have hu12 := (hx w4.heap.size (by simp)).trans HUX.out; have HU12 := Lib.hid hu12; have q15 := cells15 hu12; have HBS := Lib.hid (And.intro h1 (And.intro h2 h3)); have hxq := HXX.out.trans hx; have HE1 := Lib.hid (HR1.out.same (fun g hg => hxq g (by first | (simp [hg]; done) | (have hq : gi = g := (by simpa [Value.ownBlock] using hg); subst hq; simp [Value.ownBlock]; done)))); have HE2 := Lib.hid (HR2.out.same (fun g hg => hxq g (by first | (simp [hg]; done) | (have hq : gi = g := (by simpa [Value.ownBlock] using hg); subst hq; simp [Value.ownBlock]; done)))); have HE3 := Lib.hid (HR3.out.same (fun g hg => hxq g (by first | (simp [hg]; done) | (have hq : gi = g := (by simpa [Value.ownBlock] using hg); subst hq; simp [Value.ownBlock]; done)))); have HD12 := Lib.hid (D12.pop (X := []) (by simp)); clear D12 hx hxw h1 h2 h3 hu12 hxq)
                | (go_at_call 19; refine (r_same_rd w12 sq _ _ _ _ _ _ HBS.out.1.rd HBS.out.2.1.rd HBS.out.2.2.rd HE1.out HE2.out HE3.out).mono ?_; rintro e w13 ⟨rfl, hb⟩; have hkb := Kept.of_below (F := []) hb; have r15 := cells15 (hkb.row HU12.out (by simp)); have HIN := Lib.hid (show QInv w1 pb w13 from ⟨_, HSQ.out, (HD12.out.keep hkb).1⟩); clear hb hkb))
            all_goals
              go_wp2
              go_roundw
              case rel => go_light; exact ⟨k + 1, by omega, by go_num, HIN.out⟩
              case measure => simp [intOf]; omega
        have hsm := load_same s' o.addr o.n hca hcb
        have HSM := Lib.hid hsm
        have HSE := Lib.hid HS'.out
        rw [hy1] at hca hcb
        have hway : y = false ∨ (y = true ∧ (o.addr == 268435456) = false ∧ (o.addr == 268435461) = false) ∨ (y = true ∧ (o.addr == 268435456) = true ∧ (o.addr == 268435461) = false ∧ s'.inp.length = 0) := by
          cases y
          · exact .inl rfl
          · simp only [and_true] at hca hcb
            by_cases e0 : o.addr = 268435456
            · refine .inr (.inr ⟨rfl, by simpa using e0, by simp; omega, ?_⟩)
              by_cases hi : s'.inp = []
              · rw [hi]; rfl
              · exact absurd ⟨e0, hi⟩ hca
            · exact .inr (.inl ⟨rfl, by simpa using e0, by simpa using hcb⟩)
        clear hca hcb hsm hx1 hy1 hk1
        rcases hway with rfl | ⟨rfl, e0, e5⟩ | ⟨rfl, e0, e5, hl0⟩
        all_goals
          (try (have e9 : decide ((0 : Int) < (s'.inp.length : Int)) = false := decide_eq_false (by omega)))
          (try (have e9n : decide (0 < s'.inp.length) = false := decide_eq_false (by omega)))
          (try clear hl0)
          as_aux_lemma =>
            go_wp2_with (first
              | ((with_reducible refine gate_n (N := 37) rfl ?_); refine wpList_load_mid rfl 54 (.tmp 36) rfl g (off + k * 9) rfl o.cells.toList _ HRG.out Try.underlying54 rfl (by kernel_rfl) ?_; rw [Array.toArray_toList])
              | (refine wpList_store_row rfl 54 (.tmp 7) (.tmp 37) rfl wr.heap.size _ rfl rfl 54 _ HZO.out (by kernel_rfl) rfl HA.out.one ?_)
              | (go_at_call 20; refine (s_state HD2.out HS'.out).mono ?_; rintro e w4 ⟨u1, u2, u3, rfl, h1, h2, h3, D4, hx⟩; obtain ⟨A1, c1, rfl⟩ := h1.shape; obtain ⟨B1, d1, rfl⟩ := h2.shape; obtain ⟨C1, e1, rfl⟩ := h3.shape; obtain ⟨hz, D5, hU, hx5⟩ := D4.stbox (sCells (.slice A1 s'.ram.length c1) (.slice B1 s'.inp.length d1) (.slice C1 s'.out.length e1) s'); have HW4 := Lib.hid D4.kept.size; have HL4 := Lib.hid (And.intro h1.lt (And.intro h2.lt h3.lt)); have HZ5 := Lib.hid hz; have HD5 := Lib.hid D5; have HU5 := Lib.hid hU; have ht5 := (hx5 wr.heap.size (by simp)).trans ((hx wr.heap.size (by simp)).trans HT2.out); rw [HOC.out] at ht5; have HT5 := Lib.hid ht5; have t0 := row_cell ht5 0 _ rfl; have t1 := row_cell ht5 1 _ rfl; have t2 := row_cell ht5 2 _ rfl; have t3 := row_cell ht5 3 _ rfl; have t4 := row_cell ht5 4 _ rfl; have t5 := row_cell ht5 5 _ rfl; have t6 := row_cell ht5 6 _ rfl; have t7 := row_cell ht5 7 _ rfl; have t8 := row_cell ht5 8 _ rfl; have HUB5 := Lib.hid (And.intro (h1.keepX (fun g hg => hx5 g (by simp [hg]))) (And.intro (h2.keepX (fun g hg => hx5 g (by simp [hg]))) (h3.keepX (fun g hg => hx5 g (by simp [hg]))))); clear hz D5 hU hx5 hx h1 h2 h3 D4 ht5)
              | (refine wpList_store_row rfl 26 (.tmp 8) (.tmp 39) rfl w4.heap.size _ rfl rfl 26 _ HZ5.out (by kernel_rfl) rfl (sCells_one _ _ _ _ _ _ _ _ _ _) ?_)
              | (go_at_call 29; refine (s_load HD5.out HS'.out o.addr o.n a0 a1 s0 s1).mono ?_; rw [HX1.out, HY1.out, HSM.out]; rintro e w6 ⟨rfl, D6, hx⟩; have HD6 := Lib.hid D6; have hu6 := (hx w4.heap.size (by simp)).trans HU5.out; have HU6 := Lib.hid hu6; have y11 := row_cell hu6 11 (.slice B1 s'.inp.length d1) rfl; have y10 := row_cell hu6 10 (.bool s'.over) rfl; have zz6 := fun j => frozen_of_row _ _ j _ _ hu6; have ht6 := (hx wr.heap.size (by simp)).trans HT5.out; have t61 := row_cell ht6 1 _ rfl; have HUB6 := Lib.hid (And.intro (HUB5.out.1.keepX (fun g hg => hx g (by simp [hg]))) (And.intro (HUB5.out.2.1.keepX (fun g hg => hx g (by simp [hg]))) (HUB5.out.2.2.keepX (fun g hg => hx g (by simp [hg]))))); clear D6 hx hu6 ht6))
            have HUE := Lib.hid HU6.out
            have HDE := Lib.hid HD6.out
            have HR1 := Lib.hid HUB6.out.1.rd
            have HR2 := Lib.hid HUB6.out.2.1.rd
            have HR3 := Lib.hid HUB6.out.2.2.rd
            obtain ⟨DX, hxx⟩ := HDE.out.keep (Kept.refl [] _).drew
            have hux := (hxx w4.heap.size (by simp)).trans HUE.out
            have HUX := Lib.hid hux
            have p15 := cells15 hux
            have HXX := Lib.hid hxx
            have HST := Lib.hid (s_state DX HSE.out)
            clear DX hxx hux
            go_region_held3 (fun w' => w'.cell? ⟨w4.heap.size, 0, none⟩ = some (.slice A1 s'.ram.length c1) ∧ w'.cell? ⟨w4.heap.size, 1, none⟩ = some (.int .u32 s'.msip) ∧ w'.cell? ⟨w4.heap.size, 2, none⟩ = some (.int .u64 s'.cmp) ∧ w'.cell? ⟨w4.heap.size, 3, none⟩ = some (.int .u64 s'.now) ∧ w'.cell? ⟨w4.heap.size, 4, none⟩ = some (.bool s'.ext) ∧ w'.cell? ⟨w4.heap.size, 5, none⟩ = some (.bool s'.soft) ∧ w'.cell? ⟨w4.heap.size, 6, none⟩ = some (.int .u8 s'.ier) ∧ w'.cell? ⟨w4.heap.size, 7, none⟩ = some (.int .u8 s'.lcr) ∧ w'.cell? ⟨w4.heap.size, 8, none⟩ = some (.int .u8 s'.mcr) ∧ w'.cell? ⟨w4.heap.size, 9, none⟩ = some (.int .u8 s'.scr) ∧ w'.cell? ⟨w4.heap.size, 10, none⟩ = some (.bool s'.over) ∧ w'.cell? ⟨w4.heap.size, 11, none⟩ = some (.slice B1 s'.inp.length d1) ∧ w'.cell? ⟨w4.heap.size, 12, none⟩ = some (.slice C1 s'.out.length e1) ∧ w'.cell? ⟨w4.heap.size, 13, none⟩ = some (.int .i64 s'.off) ∧ w'.cell? ⟨w4.heap.size, 14, none⟩ = some (.int .i64 s'.code)) (first | (with_reducible assumption) | go_keep)
              (first
                | (go_at_call 20; (first | (with_reducible refine HST.out.mono ?_) | (refine HST.out.mono ?_)); rintro e w12 ⟨x1, x2, x3, rfl, h1, h2, h3, D12, hx⟩; have hxw : SameX _ _ w12 := hx; have hu12 := (hx w4.heap.size (by simp)).trans HUX.out; have HU12 := Lib.hid hu12; have q15 := cells15 hu12; have HBS := Lib.hid (And.intro h1 (And.intro h2 h3)); have hxq := HXX.out.trans hx; have HE1 := Lib.hid (HR1.out.same (fun g hg => hxq g (by first | (simp [hg]; done) | (have hq : gi = g := (by simpa [Value.ownBlock] using hg); subst hq; simp [Value.ownBlock]; done)))); have HE2 := Lib.hid (HR2.out.same (fun g hg => hxq g (by first | (simp [hg]; done) | (have hq : gi = g := (by simpa [Value.ownBlock] using hg); subst hq; simp [Value.ownBlock]; done)))); have HE3 := Lib.hid (HR3.out.same (fun g hg => hxq g (by first | (simp [hg]; done) | (have hq : gi = g := (by simpa [Value.ownBlock] using hg); subst hq; simp [Value.ownBlock]; done)))); have HD12 := Lib.hid (D12.pop (X := []) (by simp)); clear D12 hx hxw h1 h2 h3 hu12 hxq)
                | (go_at_call 19; refine (r_same_rd w12 s' _ _ _ _ _ _ HBS.out.1.rd HBS.out.2.1.rd HBS.out.2.2.rd HE1.out HE2.out HE3.out).mono ?_; rintro e w13 ⟨rfl, hb⟩; have hkb := Kept.of_below (F := []) hb; have r15 := cells15 (hkb.row HU12.out (by simp)); have HIN := Lib.hid (show QInv w1 pb w13 from ⟨_, HSE.out, (HD12.out.keep hkb).1⟩); clear hb hkb))
            all_goals
              go_wp2
              go_roundw
              case rel => go_light; exact ⟨k + 1, by omega, by go_num, HIN.out⟩
              case measure => simp [intOf]; omega
      by_cases hk2 : o.kind = 2
      · have hk := hk2
        have b1 : (o.kind == 1) = false := by rw [hk]; rfl
        have b2 : (o.kind == 2) = true := by rw [hk]; rfl
        obtain ⟨sn, hsn⟩ : ∃ sn : St, (s'.store o.addr o.n o.v).2 = sn := ⟨_, rfl⟩
        have HSN := Lib.hid hsn
        have HSE := Lib.hid (show sn.Ok by rw [← hsn]; exact ok_store HS'.out _ _ _ v0 v1)
        clear hk hsn
        as_aux_lemma =>
          go_wp2_with (first
            | ((with_reducible refine gate_n (N := 37) rfl ?_); refine wpList_load_mid rfl 54 (.tmp 36) rfl g (off + k * 9) rfl o.cells.toList _ HRG.out Try.underlying54 rfl (by kernel_rfl) ?_; rw [Array.toArray_toList])
            | (refine wpList_store_row rfl 54 (.tmp 7) (.tmp 37) rfl wr.heap.size _ rfl rfl 54 _ HZO.out (by kernel_rfl) rfl HA.out.one ?_)
            | (go_at_call 20; refine (s_state HD2.out HS'.out).mono ?_; rintro e w4 ⟨u1, u2, u3, rfl, h1, h2, h3, D4, hx⟩; obtain ⟨A1, c1, rfl⟩ := h1.shape; obtain ⟨B1, d1, rfl⟩ := h2.shape; obtain ⟨C1, e1, rfl⟩ := h3.shape; obtain ⟨hz, D5, hU, hx5⟩ := D4.stbox (sCells (.slice A1 s'.ram.length c1) (.slice B1 s'.inp.length d1) (.slice C1 s'.out.length e1) s'); have HW4 := Lib.hid D4.kept.size; have HL4 := Lib.hid (And.intro h1.lt (And.intro h2.lt h3.lt)); have HZ5 := Lib.hid hz; have HD5 := Lib.hid D5; have HU5 := Lib.hid hU; have ht5 := (hx5 wr.heap.size (by simp)).trans ((hx wr.heap.size (by simp)).trans HT2.out); rw [HOC.out] at ht5; have HT5 := Lib.hid ht5; have t0 := row_cell ht5 0 _ rfl; have t1 := row_cell ht5 1 _ rfl; have t2 := row_cell ht5 2 _ rfl; have t3 := row_cell ht5 3 _ rfl; have t4 := row_cell ht5 4 _ rfl; have t5 := row_cell ht5 5 _ rfl; have t6 := row_cell ht5 6 _ rfl; have t7 := row_cell ht5 7 _ rfl; have t8 := row_cell ht5 8 _ rfl; have HUB5 := Lib.hid (And.intro (h1.keepX (fun g hg => hx5 g (by simp [hg]))) (And.intro (h2.keepX (fun g hg => hx5 g (by simp [hg]))) (h3.keepX (fun g hg => hx5 g (by simp [hg]))))); clear hz D5 hU hx5 hx h1 h2 h3 D4 ht5)
            | (refine wpList_store_row rfl 26 (.tmp 8) (.tmp 39) rfl w4.heap.size _ rfl rfl 26 _ HZ5.out (by kernel_rfl) rfl (sCells_one _ _ _ _ _ _ _ _ _ _) ?_)
            | (go_at_call 30; refine (s_store HD5.out HS'.out o.addr o.n o.v a0 a1 s0 s1 v0 v1).mono ?_; rw [HSN.out]; rintro e w6 ⟨rfl, D6, hx⟩; have HD6 := Lib.hid D6; have hu6 := (hx w4.heap.size (by simp)).trans HU5.out; have HU6 := Lib.hid hu6; clear D6 hx hu6)
            | (go_at_call 20; refine (s_state2 HD6.out HSE.out).mono ?_; rintro e w7 ⟨z1, z2, z3, rfl, h1, h2, h3, D7, hx, n1, n2, n3⟩; obtain ⟨A2, c2, rfl⟩ := h1.shape; obtain ⟨B2, d2, rfl⟩ := h2.shape; obtain ⟨C2, e2, rfl⟩ := h3.shape; have hu7 := (hx w4.heap.size (by simp)).trans HU6.out; have HU7 := Lib.hid hu7; have hUl := HD6.out.xl w4.heap.size (by simp); have ku : Kept [w4.heap.size] w7 (w7.setRow w4.heap.size (sCells (.slice A2 sn.ram.length c2) (.slice B2 sn.inp.length d2) (.slice C2 sn.out.length e2) sn)) := ((Kept.refl [w4.heap.size] w7).setRow (by simp) _); have HDE := Lib.hid (D7.write (by simp) HW4.out ku); have HUE := Lib.hid (show (w7.setRow w4.heap.size (sCells (.slice A2 sn.ram.length c2) (.slice B2 sn.inp.length d2) (.slice C2 sn.out.length e2) sn)).heap[w4.heap.size]? = some (.cells (sCells (.slice A2 sn.ram.length c2) (.slice B2 sn.inp.length d2) (.slice C2 sn.out.length e2) sn) 26 (0, 0)) from setRow_heap _ _ _ _ 26 (0, 0) hu7); have HR1 := Lib.hid ((h1.keep ku (fun g hg => (by have := n1 g hg; simp; omega))).rd); have HR2 := Lib.hid ((h2.keep ku (fun g hg => (by have := n2 g hg; simp; omega))).rd); have HR3 := Lib.hid ((h3.keep ku (fun g hg => (by have := n3 g hg; simp; omega))).rd); clear D7 hx h1 h2 h3 hu7 ku n1 n2 n3 hUl)
            | (refine wpList_store_row rfl 26 (.tmp 8) (.tmp 103) rfl w4.heap.size _ rfl rfl 26 _ HU7.out (by kernel_rfl) rfl (sCells_one _ _ _ _ _ _ _ _ _ _) ?_))
          obtain ⟨DX, hxx⟩ := HDE.out.keep (Kept.refl [] _).drew
          have hux := (hxx w4.heap.size (by simp)).trans HUE.out
          have HUX := Lib.hid hux
          have p15 := cells15 hux
          have HXX := Lib.hid hxx
          have HST := Lib.hid (s_state DX HSE.out)
          clear DX hxx hux
          go_region_held3 (fun w' => w'.cell? ⟨w4.heap.size, 0, none⟩ = some (.slice A2 sn.ram.length c2) ∧ w'.cell? ⟨w4.heap.size, 1, none⟩ = some (.int .u32 sn.msip) ∧ w'.cell? ⟨w4.heap.size, 2, none⟩ = some (.int .u64 sn.cmp) ∧ w'.cell? ⟨w4.heap.size, 3, none⟩ = some (.int .u64 sn.now) ∧ w'.cell? ⟨w4.heap.size, 4, none⟩ = some (.bool sn.ext) ∧ w'.cell? ⟨w4.heap.size, 5, none⟩ = some (.bool sn.soft) ∧ w'.cell? ⟨w4.heap.size, 6, none⟩ = some (.int .u8 sn.ier) ∧ w'.cell? ⟨w4.heap.size, 7, none⟩ = some (.int .u8 sn.lcr) ∧ w'.cell? ⟨w4.heap.size, 8, none⟩ = some (.int .u8 sn.mcr) ∧ w'.cell? ⟨w4.heap.size, 9, none⟩ = some (.int .u8 sn.scr) ∧ w'.cell? ⟨w4.heap.size, 10, none⟩ = some (.bool sn.over) ∧ w'.cell? ⟨w4.heap.size, 11, none⟩ = some (.slice B2 sn.inp.length d2) ∧ w'.cell? ⟨w4.heap.size, 12, none⟩ = some (.slice C2 sn.out.length e2) ∧ w'.cell? ⟨w4.heap.size, 13, none⟩ = some (.int .i64 sn.off) ∧ w'.cell? ⟨w4.heap.size, 14, none⟩ = some (.int .i64 sn.code)) (first | (with_reducible assumption) | go_keep)
            (first
              | (go_at_call 20; (first | (with_reducible refine HST.out.mono ?_) | (refine HST.out.mono ?_)); rintro e w12 ⟨x1, x2, x3, rfl, h1, h2, h3, D12, hx⟩; have hxw : SameX _ _ w12 := hx; have hu12 := (hx w4.heap.size (by simp)).trans HUX.out; have HU12 := Lib.hid hu12; have q15 := cells15 hu12; have HBS := Lib.hid (And.intro h1 (And.intro h2 h3)); have hxq := HXX.out.trans hx; have HE1 := Lib.hid (HR1.out.same (fun g hg => hxq g (by first | (simp [hg]; done) | (have hq : gi = g := (by simpa [Value.ownBlock] using hg); subst hq; simp [Value.ownBlock]; done)))); have HE2 := Lib.hid (HR2.out.same (fun g hg => hxq g (by first | (simp [hg]; done) | (have hq : gi = g := (by simpa [Value.ownBlock] using hg); subst hq; simp [Value.ownBlock]; done)))); have HE3 := Lib.hid (HR3.out.same (fun g hg => hxq g (by first | (simp [hg]; done) | (have hq : gi = g := (by simpa [Value.ownBlock] using hg); subst hq; simp [Value.ownBlock]; done)))); have HD12 := Lib.hid (D12.pop (X := []) (by simp)); clear D12 hx hxw h1 h2 h3 hu12 hxq)
              | (go_at_call 19; refine (r_same_rd w12 sn _ _ _ _ _ _ HBS.out.1.rd HBS.out.2.1.rd HBS.out.2.2.rd HE1.out HE2.out HE3.out).mono ?_; rintro e w13 ⟨rfl, hb⟩; have hkb := Kept.of_below (F := []) hb; have r15 := cells15 (hkb.row HU12.out (by simp)); have HIN := Lib.hid (show QInv w1 pb w13 from ⟨_, HSE.out, (HD12.out.keep hkb).1⟩); clear hb hkb))
          all_goals
            go_wp2
            go_roundw
            case rel => go_light; exact ⟨k + 1, by omega, by go_num, HIN.out⟩
            case measure => simp [intOf]; omega

      by_cases hk3 : o.kind = 3
      · have hk := hk3
        have b1 : (o.kind == 1) = false := by rw [hk]; rfl
        have b2 : (o.kind == 2) = false := by rw [hk]; rfl
        have b3 : (o.kind == 3) = true := by rw [hk]; rfl
        obtain ⟨sn, hsn⟩ : ∃ sn : St, s'.begin o.tick o.ext o.soft o.l = sn := ⟨_, rfl⟩
        have HSN := Lib.hid hsn
        have HSE := Lib.hid (show sn.Ok by rw [← hsn]; exact ok_begin HS'.out _ _ _ _ HA.out.lb)
        have HLW := Lib.hid HA.out.ll
        clear hk hsn
        as_aux_lemma =>
          go_wp2_with (first
            | ((with_reducible refine gate_n (N := 37) rfl ?_); refine wpList_load_mid rfl 54 (.tmp 36) rfl g (off + k * 9) rfl o.cells.toList _ HRG.out Try.underlying54 rfl (by kernel_rfl) ?_; rw [Array.toArray_toList])
            | (refine wpList_store_row rfl 54 (.tmp 7) (.tmp 37) rfl wr.heap.size _ rfl rfl 54 _ HZO.out (by kernel_rfl) rfl HA.out.one ?_)
            | (go_at_call 20; refine (s_state HD2.out HS'.out).mono ?_; rintro e w4 ⟨u1, u2, u3, rfl, h1, h2, h3, D4, hx⟩; obtain ⟨A1, c1, rfl⟩ := h1.shape; obtain ⟨B1, d1, rfl⟩ := h2.shape; obtain ⟨C1, e1, rfl⟩ := h3.shape; obtain ⟨hz, D5, hU, hx5⟩ := D4.stbox (sCells (.slice A1 s'.ram.length c1) (.slice B1 s'.inp.length d1) (.slice C1 s'.out.length e1) s'); have HW4 := Lib.hid D4.kept.size; have HL4 := Lib.hid (And.intro h1.lt (And.intro h2.lt h3.lt)); have HZ5 := Lib.hid hz; have HD5 := Lib.hid D5; have HU5 := Lib.hid hU; have ht5 := (hx5 wr.heap.size (by simp)).trans ((hx wr.heap.size (by simp)).trans HT2.out); rw [HOC.out] at ht5; have HT5 := Lib.hid ht5; have t0 := row_cell ht5 0 _ rfl; have t1 := row_cell ht5 1 _ rfl; have t2 := row_cell ht5 2 _ rfl; have t3 := row_cell ht5 3 _ rfl; have t4 := row_cell ht5 4 _ rfl; have t5 := row_cell ht5 5 _ rfl; have t6 := row_cell ht5 6 _ rfl; have t7 := row_cell ht5 7 _ rfl; have t8 := row_cell ht5 8 _ rfl; have HUB5 := Lib.hid (And.intro (h1.keepX (fun g hg => hx5 g (by simp [hg]))) (And.intro (h2.keepX (fun g hg => hx5 g (by simp [hg]))) (h3.keepX (fun g hg => hx5 g (by simp [hg]))))); clear hz D5 hU hx5 hx h1 h2 h3 D4 ht5)
            | (refine wpList_store_row rfl 26 (.tmp 8) (.tmp 39) rfl w4.heap.size _ rfl rfl 26 _ HZ5.out (by kernel_rfl) rfl (sCells_one _ _ _ _ _ _ _ _ _ _) ?_)
            | (go_at_call 28; refine (world_any o.tick o.ext o.soft VW _ cw o.l (by have := HA.out.rw.keep HD5.out.kept; rw [HVW.out] at this; exact this) HLW.out).mono ?_; rintro e w5 ⟨A3, c3, rfl, hb, hn, hk5⟩; have DC := Lib.hid (HD5.out.claim hk5 (Value.slice A3 o.l.length c3).ownBlock.toList (fun x hx => ⟨hn x (by simpa using hx), hb.lt x (by simpa using hx)⟩)); have hxk := SameX.of_kept HD5.out.xl hk5; have HUK := Lib.hid ((hxk w4.heap.size (by simp)).trans HU5.out); have HB3 := Lib.hid hb; clear hb hn hk5 hxk)
            | (go_at_call 27; refine (s_begin DC.out HS'.out o.tick o.ext o.soft A3 _ c3 o.l HB3.out (by intro g hg; simp [hg]) HLW.out).mono ?_; rw [HSN.out]; rintro e w6 ⟨rfl, D6, hx⟩; have HD6 := Lib.hid D6; have hu6 := (hx w4.heap.size (by simp)).trans HUK.out; have HU6 := Lib.hid hu6; clear D6 hx hu6)
            | (go_at_call 20; refine (s_state2 HD6.out HSE.out).mono ?_; rintro e w7 ⟨z1, z2, z3, rfl, h1, h2, h3, D7, hx, n1, n2, n3⟩; obtain ⟨A2, c2, rfl⟩ := h1.shape; obtain ⟨B2, d2, rfl⟩ := h2.shape; obtain ⟨C2, e2, rfl⟩ := h3.shape; have hu7 := (hx w4.heap.size (by simp)).trans HU6.out; have HU7 := Lib.hid hu7; have hUl := HD6.out.xl w4.heap.size (by simp); have ku : Kept [w4.heap.size] w7 (w7.setRow w4.heap.size (sCells (.slice A2 sn.ram.length c2) (.slice B2 sn.inp.length d2) (.slice C2 sn.out.length e2) sn)) := ((Kept.refl [w4.heap.size] w7).setRow (by simp) _); have HDE := Lib.hid (D7.write (by simp) HW4.out ku); have HUE := Lib.hid (show (w7.setRow w4.heap.size (sCells (.slice A2 sn.ram.length c2) (.slice B2 sn.inp.length d2) (.slice C2 sn.out.length e2) sn)).heap[w4.heap.size]? = some (.cells (sCells (.slice A2 sn.ram.length c2) (.slice B2 sn.inp.length d2) (.slice C2 sn.out.length e2) sn) 26 (0, 0)) from setRow_heap _ _ _ _ 26 (0, 0) hu7); have HR1 := Lib.hid ((h1.keep ku (fun g hg => (by have := n1 g hg; simp; omega))).rd); have HR2 := Lib.hid ((h2.keep ku (fun g hg => (by have := n2 g hg; simp; omega))).rd); have HR3 := Lib.hid ((h3.keep ku (fun g hg => (by have := n3 g hg; simp; omega))).rd); clear D7 hx h1 h2 h3 hu7 ku n1 n2 n3 hUl)
            | (refine wpList_store_row rfl 26 (.tmp 8) (.tmp 112) rfl w4.heap.size _ rfl rfl 26 _ HU7.out (by kernel_rfl) rfl (sCells_one _ _ _ _ _ _ _ _ _ _) ?_))
          obtain ⟨DX, hxx⟩ := HDE.out.keep (Kept.refl [] _).drew
          have hux := (hxx w4.heap.size (by simp)).trans HUE.out
          have HUX := Lib.hid hux
          have p15 := cells15 hux
          have HXX := Lib.hid hxx
          have HST := Lib.hid (s_state DX HSE.out)
          clear DX hxx hux
          go_region_held3 (fun w' => w'.cell? ⟨w4.heap.size, 0, none⟩ = some (.slice A2 sn.ram.length c2) ∧ w'.cell? ⟨w4.heap.size, 1, none⟩ = some (.int .u32 sn.msip) ∧ w'.cell? ⟨w4.heap.size, 2, none⟩ = some (.int .u64 sn.cmp) ∧ w'.cell? ⟨w4.heap.size, 3, none⟩ = some (.int .u64 sn.now) ∧ w'.cell? ⟨w4.heap.size, 4, none⟩ = some (.bool sn.ext) ∧ w'.cell? ⟨w4.heap.size, 5, none⟩ = some (.bool sn.soft) ∧ w'.cell? ⟨w4.heap.size, 6, none⟩ = some (.int .u8 sn.ier) ∧ w'.cell? ⟨w4.heap.size, 7, none⟩ = some (.int .u8 sn.lcr) ∧ w'.cell? ⟨w4.heap.size, 8, none⟩ = some (.int .u8 sn.mcr) ∧ w'.cell? ⟨w4.heap.size, 9, none⟩ = some (.int .u8 sn.scr) ∧ w'.cell? ⟨w4.heap.size, 10, none⟩ = some (.bool sn.over) ∧ w'.cell? ⟨w4.heap.size, 11, none⟩ = some (.slice B2 sn.inp.length d2) ∧ w'.cell? ⟨w4.heap.size, 12, none⟩ = some (.slice C2 sn.out.length e2) ∧ w'.cell? ⟨w4.heap.size, 13, none⟩ = some (.int .i64 sn.off) ∧ w'.cell? ⟨w4.heap.size, 14, none⟩ = some (.int .i64 sn.code)) (first | (with_reducible assumption) | go_keep)
            (first
              | (go_at_call 20; (first | (with_reducible refine HST.out.mono ?_) | (refine HST.out.mono ?_)); rintro e w12 ⟨x1, x2, x3, rfl, h1, h2, h3, D12, hx⟩; have hxw : SameX _ _ w12 := hx; have hu12 := (hx w4.heap.size (by simp)).trans HUX.out; have HU12 := Lib.hid hu12; have q15 := cells15 hu12; have HBS := Lib.hid (And.intro h1 (And.intro h2 h3)); have hxq := HXX.out.trans hx; have HE1 := Lib.hid (HR1.out.same (fun g hg => hxq g (by first | (simp [hg]; done) | (have hq : gi = g := (by simpa [Value.ownBlock] using hg); subst hq; simp [Value.ownBlock]; done)))); have HE2 := Lib.hid (HR2.out.same (fun g hg => hxq g (by first | (simp [hg]; done) | (have hq : gi = g := (by simpa [Value.ownBlock] using hg); subst hq; simp [Value.ownBlock]; done)))); have HE3 := Lib.hid (HR3.out.same (fun g hg => hxq g (by first | (simp [hg]; done) | (have hq : gi = g := (by simpa [Value.ownBlock] using hg); subst hq; simp [Value.ownBlock]; done)))); have HD12 := Lib.hid (D12.pop (X := []) (by simp)); clear D12 hx hxw h1 h2 h3 hu12 hxq)
              | (go_at_call 19; refine (r_same_rd w12 sn _ _ _ _ _ _ HBS.out.1.rd HBS.out.2.1.rd HBS.out.2.2.rd HE1.out HE2.out HE3.out).mono ?_; rintro e w13 ⟨rfl, hb⟩; have hkb := Kept.of_below (F := []) hb; have r15 := cells15 (hkb.row HU12.out (by simp)); have HIN := Lib.hid (show QInv w1 pb w13 from ⟨_, HSE.out, (HD12.out.keep hkb).1⟩); clear hb hkb))
          all_goals
            go_wp2
            go_roundw
            case rel => go_light; exact ⟨k + 1, by omega, by go_num, HIN.out⟩
            case measure => simp [intOf]; omega

      by_cases hk : o.kind = 7
      · have b1 : (o.kind == 1) = false := by rw [hk]; rfl
        have b2 : (o.kind == 2) = false := by rw [hk]; rfl
        have b3 : (o.kind == 3) = false := by rw [hk]; rfl
        have b7 : (o.kind == 7) = true := by rw [hk]; rfl
        obtain ⟨sn, hsn⟩ : ∃ sn : St, (s'.poke o.addr o.b).2 = sn := ⟨_, rfl⟩
        have HSN := Lib.hid hsn
        have HSE := Lib.hid (show sn.Ok by rw [← hsn]; exact ok_poke HS'.out _ _ HA.out.bb)
        have HBL := Lib.hid HA.out.bl
        have HB2 := Lib.hid (show ([] : List Int).length + o.b.length ≤ 140737488355328 by have := HA.out.bl; simp; omega)
        clear hk hsn
        as_aux_lemma =>
          go_wp2_with (first
            | ((with_reducible refine gate_n (N := 37) rfl ?_); refine wpList_load_mid rfl 54 (.tmp 36) rfl g (off + k * 9) rfl o.cells.toList _ HRG.out Try.underlying54 rfl (by kernel_rfl) ?_; rw [Array.toArray_toList])
            | (refine wpList_store_row rfl 54 (.tmp 7) (.tmp 37) rfl wr.heap.size _ rfl rfl 54 _ HZO.out (by kernel_rfl) rfl HA.out.one ?_)
            | (go_at_call 20; refine (s_state HD2.out HS'.out).mono ?_; rintro e w4 ⟨u1, u2, u3, rfl, h1, h2, h3, D4, hx⟩; obtain ⟨A1, c1, rfl⟩ := h1.shape; obtain ⟨B1, d1, rfl⟩ := h2.shape; obtain ⟨C1, e1, rfl⟩ := h3.shape; obtain ⟨hz, D5, hU, hx5⟩ := D4.stbox (sCells (.slice A1 s'.ram.length c1) (.slice B1 s'.inp.length d1) (.slice C1 s'.out.length e1) s'); have HW4 := Lib.hid D4.kept.size; have HL4 := Lib.hid (And.intro h1.lt (And.intro h2.lt h3.lt)); have HZ5 := Lib.hid hz; have HD5 := Lib.hid D5; have HU5 := Lib.hid hU; have ht5 := (hx5 wr.heap.size (by simp)).trans ((hx wr.heap.size (by simp)).trans HT2.out); rw [HOC.out] at ht5; have HT5 := Lib.hid ht5; have t0 := row_cell ht5 0 _ rfl; have t1 := row_cell ht5 1 _ rfl; have t2 := row_cell ht5 2 _ rfl; have t3 := row_cell ht5 3 _ rfl; have t4 := row_cell ht5 4 _ rfl; have t5 := row_cell ht5 5 _ rfl; have t6 := row_cell ht5 6 _ rfl; have t7 := row_cell ht5 7 _ rfl; have t8 := row_cell ht5 8 _ rfl; have HUB5 := Lib.hid (And.intro (h1.keepX (fun g hg => hx5 g (by simp [hg]))) (And.intro (h2.keepX (fun g hg => hx5 g (by simp [hg]))) (h3.keepX (fun g hg => hx5 g (by simp [hg]))))); clear hz D5 hU hx5 hx h1 h2 h3 D4 ht5)
            | (refine wpList_store_row rfl 26 (.tmp 8) (.tmp 39) rfl w4.heap.size _ rfl rfl 26 _ HZ5.out (by kernel_rfl) rfl (sCells_one _ _ _ _ _ _ _ _ _ _) ?_))
          obtain ⟨DX, hxx⟩ := HD5.out.keep (Kept.refl [] _).drew
          have htx := (hxx wr.heap.size (by simp)).trans HT5.out
          have HTX := Lib.hid htx
          have p1 := row_cell htx 1 (.int .u64 o.addr) rfl
          have p4 := row_cell htx 4 (.slice VB o.b.length cb) rfl
          have HUX := Lib.hid ((hxx w4.heap.size (by simp)).trans HU5.out)
          have hrb := HA.out.rb.keep DX.kept
          rw [HVB.out] at hrb
          have HRB := Lib.hid hrb
          have HDX := Lib.hid DX
          clear DX hxx htx hrb t0 t1 t2 t3 t4 t5 t6 t7 t8
          go_region_held3 (fun w' => w'.cell? ⟨wr.heap.size, 1, none⟩ = some (.int .u64 o.addr) ∧ w'.cell? ⟨wr.heap.size, 4, none⟩ = some (.slice VB o.b.length cb)) (first | (refine ⟨?_, ?_⟩ <;> with_reducible assumption) | go_keep)
            (first
              | (refine step_append_nilw (by rfl) _ _ (by rfl) _ o.b (by rfl) (by rfl) HRB.out HB2.out ?_; intro v' w6 hg; obtain ⟨A3, c3, rfl⟩ := hg.bs.shape; have gk : Kept [] _ w6 := hg.kept; have hb : Bs w6 (.slice A3 o.b.length c3) o.b := (by simpa using hg.bs); have DC := Lib.hid (HDX.out.claim gk (Value.slice A3 o.b.length c3).ownBlock.toList (fun y hy => ⟨Grew.new hg y (by simpa using hy), hb.lt y (by simpa using hy)⟩)); have htg := gk.row HTX.out (by simp); have HTG := Lib.hid htg; have q1 := row_cell htg 1 (.int .u64 o.addr) rfl; have q4 := row_cell htg 4 (.slice VB o.b.length cb) rfl; have HUG := Lib.hid (gk.row HUX.out (by simp)); have HBS := Lib.hid hb; clear hg gk hb htg)
              | (go_at_call 32; refine (s_poke DC.out HS'.out o.addr a0 a1 (.slice A3 o.b.length c3) o.b HBS.out.rd HBL.out).mono ?_; rw [HSN.out]; rintro e w7 ⟨rfl, D6, hx⟩; have HD6 := Lib.hid D6; have hu6 := (hx w4.heap.size (by simp)).trans HUG.out; have HU6 := Lib.hid hu6; have htz := (hx wr.heap.size (by simp)).trans HTG.out; have r1 := row_cell htz 1 (.int .u64 o.addr) rfl; have r4 := row_cell htz 4 (.slice VB o.b.length cb) rfl; clear D6 hx hu6 htz))
          all_goals
            go_wp2_with (first
              | (go_at_call 20; refine (s_state2 HD6.out HSE.out).mono ?_; rintro e w8 ⟨z1, z2, z3, rfl, h1, h2, h3, D7, hx, n1, n2, n3⟩; obtain ⟨A2, c2, rfl⟩ := h1.shape; obtain ⟨B2, d2, rfl⟩ := h2.shape; obtain ⟨C2, e2, rfl⟩ := h3.shape; have hu7 := (hx w4.heap.size (by simp)).trans HU6.out; have HU7 := Lib.hid hu7; have hUl := HD6.out.xl w4.heap.size (by simp); have ku : Kept [w4.heap.size] w8 (w8.setRow w4.heap.size (sCells (.slice A2 sn.ram.length c2) (.slice B2 sn.inp.length d2) (.slice C2 sn.out.length e2) sn)) := ((Kept.refl [w4.heap.size] w8).setRow (by simp) _); have HDE := Lib.hid (D7.write (by simp) HW4.out ku); have HUE := Lib.hid (show (w8.setRow w4.heap.size (sCells (.slice A2 sn.ram.length c2) (.slice B2 sn.inp.length d2) (.slice C2 sn.out.length e2) sn)).heap[w4.heap.size]? = some (.cells (sCells (.slice A2 sn.ram.length c2) (.slice B2 sn.inp.length d2) (.slice C2 sn.out.length e2) sn) 26 (0, 0)) from setRow_heap _ _ _ _ 26 (0, 0) hu7); have HR1 := Lib.hid ((h1.keep ku (fun g hg => (by have := n1 g hg; simp; omega))).rd); have HR2 := Lib.hid ((h2.keep ku (fun g hg => (by have := n2 g hg; simp; omega))).rd); have HR3 := Lib.hid ((h3.keep ku (fun g hg => (by have := n3 g hg; simp; omega))).rd); clear D7 hx h1 h2 h3 hu7 ku n1 n2 n3 hUl)
              | (refine wpList_store_row rfl 26 (.tmp 8) (.tmp 123) rfl w4.heap.size _ rfl rfl 26 _ HU7.out (by kernel_rfl) rfl (sCells_one _ _ _ _ _ _ _ _ _ _) ?_))
            obtain ⟨DX, hxx⟩ := HDE.out.keep (Kept.refl [] _).drew
            have hux := (hxx w4.heap.size (by simp)).trans HUE.out
            have HUX := Lib.hid hux
            have p15 := cells15 hux
            have HXX := Lib.hid hxx
            have HST := Lib.hid (s_state DX HSE.out)
            clear DX hxx hux
            go_region_held3 (fun w' => w'.cell? ⟨w4.heap.size, 0, none⟩ = some (.slice A2 sn.ram.length c2) ∧ w'.cell? ⟨w4.heap.size, 1, none⟩ = some (.int .u32 sn.msip) ∧ w'.cell? ⟨w4.heap.size, 2, none⟩ = some (.int .u64 sn.cmp) ∧ w'.cell? ⟨w4.heap.size, 3, none⟩ = some (.int .u64 sn.now) ∧ w'.cell? ⟨w4.heap.size, 4, none⟩ = some (.bool sn.ext) ∧ w'.cell? ⟨w4.heap.size, 5, none⟩ = some (.bool sn.soft) ∧ w'.cell? ⟨w4.heap.size, 6, none⟩ = some (.int .u8 sn.ier) ∧ w'.cell? ⟨w4.heap.size, 7, none⟩ = some (.int .u8 sn.lcr) ∧ w'.cell? ⟨w4.heap.size, 8, none⟩ = some (.int .u8 sn.mcr) ∧ w'.cell? ⟨w4.heap.size, 9, none⟩ = some (.int .u8 sn.scr) ∧ w'.cell? ⟨w4.heap.size, 10, none⟩ = some (.bool sn.over) ∧ w'.cell? ⟨w4.heap.size, 11, none⟩ = some (.slice B2 sn.inp.length d2) ∧ w'.cell? ⟨w4.heap.size, 12, none⟩ = some (.slice C2 sn.out.length e2) ∧ w'.cell? ⟨w4.heap.size, 13, none⟩ = some (.int .i64 sn.off) ∧ w'.cell? ⟨w4.heap.size, 14, none⟩ = some (.int .i64 sn.code)) (first | (with_reducible assumption) | go_keep)
              (first
                | (go_at_call 20; (first | (with_reducible refine HST.out.mono ?_) | (refine HST.out.mono ?_)); rintro e w12 ⟨x1, x2, x3, rfl, h1, h2, h3, D12, hx⟩; have hxw : SameX _ _ w12 := hx; have hu12 := (hx w4.heap.size (by simp)).trans HUX.out; have HU12 := Lib.hid hu12; have q15 := cells15 hu12; have HBS := Lib.hid (And.intro h1 (And.intro h2 h3)); have hxq := HXX.out.trans hx; have HE1 := Lib.hid (HR1.out.same (fun g hg => hxq g (by first | (simp [hg]; done) | (have hq : gi = g := (by simpa [Value.ownBlock] using hg); subst hq; simp [Value.ownBlock]; done)))); have HE2 := Lib.hid (HR2.out.same (fun g hg => hxq g (by first | (simp [hg]; done) | (have hq : gi = g := (by simpa [Value.ownBlock] using hg); subst hq; simp [Value.ownBlock]; done)))); have HE3 := Lib.hid (HR3.out.same (fun g hg => hxq g (by first | (simp [hg]; done) | (have hq : gi = g := (by simpa [Value.ownBlock] using hg); subst hq; simp [Value.ownBlock]; done)))); have HD12 := Lib.hid (D12.pop (X := []) (by simp)); clear D12 hx hxw h1 h2 h3 hu12 hxq)
                | (go_at_call 19; refine (r_same_rd w12 sn _ _ _ _ _ _ HBS.out.1.rd HBS.out.2.1.rd HBS.out.2.2.rd HE1.out HE2.out HE3.out).mono ?_; rintro e w13 ⟨rfl, hb⟩; have hkb := Kept.of_below (F := []) hb; have r15 := cells15 (hkb.row HU12.out (by simp)); have HIN := Lib.hid (show QInv w1 pb w13 from ⟨_, HSE.out, (HD12.out.keep hkb).1⟩); clear hb hkb))
            all_goals
              go_wp2
              go_roundw
              case rel => go_light; exact ⟨k + 1, by omega, by go_num, HIN.out⟩
              case measure => simp [intOf]; omega

      have b1 : (o.kind == 1) = false := by simpa using hk1
      have b2 : (o.kind == 2) = false := by simpa using hk2
      have b3 : (o.kind == 3) = false := by simpa using hk3
      have b7 : (o.kind == 7) = false := by simpa using hk
      have HSE := Lib.hid HS'.out
      clear hk
      go_wp2_with (first
        | ((with_reducible refine gate_n (N := 37) rfl ?_); refine wpList_load_mid rfl 54 (.tmp 36) rfl g (off + k * 9) rfl o.cells.toList _ HRG.out Try.underlying54 rfl (by kernel_rfl) ?_; rw [Array.toArray_toList])
        | (refine wpList_store_row rfl 54 (.tmp 7) (.tmp 37) rfl wr.heap.size _ rfl rfl 54 _ HZO.out (by kernel_rfl) rfl HA.out.one ?_)
        | (go_at_call 20; refine (s_state HD2.out HS'.out).mono ?_; rintro e w4 ⟨u1, u2, u3, rfl, h1, h2, h3, D4, hx⟩; obtain ⟨A1, c1, rfl⟩ := h1.shape; obtain ⟨B1, d1, rfl⟩ := h2.shape; obtain ⟨C1, e1, rfl⟩ := h3.shape; obtain ⟨hz, D5, hU, hx5⟩ := D4.stbox (sCells (.slice A1 s'.ram.length c1) (.slice B1 s'.inp.length d1) (.slice C1 s'.out.length e1) s'); have HW4 := Lib.hid D4.kept.size; have HL4 := Lib.hid (And.intro h1.lt (And.intro h2.lt h3.lt)); have HZ5 := Lib.hid hz; have HD5 := Lib.hid D5; have HU5 := Lib.hid hU; have ht5 := (hx5 wr.heap.size (by simp)).trans ((hx wr.heap.size (by simp)).trans HT2.out); rw [HOC.out] at ht5; have HT5 := Lib.hid ht5; have t0 := row_cell ht5 0 _ rfl; have t1 := row_cell ht5 1 _ rfl; have t2 := row_cell ht5 2 _ rfl; have t3 := row_cell ht5 3 _ rfl; have t4 := row_cell ht5 4 _ rfl; have t5 := row_cell ht5 5 _ rfl; have t6 := row_cell ht5 6 _ rfl; have t7 := row_cell ht5 7 _ rfl; have t8 := row_cell ht5 8 _ rfl; have HUB5 := Lib.hid (And.intro (h1.keepX (fun g hg => hx5 g (by simp [hg]))) (And.intro (h2.keepX (fun g hg => hx5 g (by simp [hg]))) (h3.keepX (fun g hg => hx5 g (by simp [hg]))))); clear hz D5 hU hx5 hx h1 h2 h3 D4 ht5)
        | (refine wpList_store_row rfl 26 (.tmp 8) (.tmp 39) rfl w4.heap.size _ rfl rfl 26 _ HZ5.out (by kernel_rfl) rfl (sCells_one _ _ _ _ _ _ _ _ _ _) ?_)
        | ((with_reducible refine gate_n (N := 43) rfl ?_); refine wpList_load_row rfl 26 (.tmp 8) rfl w4.heap.size rfl 26 _ (0, 0) _ HU5.out Try.underlying26 rfl (by kernel_rfl) ?_)
        | (go_at_call 36; refine (copied_rd _ s' _ _ _ (by have := HS'.out.r1; omega) (by have := HS'.out.i1; omega) (by have := HS'.out.o1; omega) HUB5.out.1.rd HUB5.out.2.1.rd HUB5.out.2.2.rd).mono ?_; rintro e w6 ⟨y1, y2, y3, rfl, hN⟩; obtain ⟨A2, c2, B2, d2, C2, e2, rfl, rfl, rfl⟩ := hN.shapes; obtain ⟨hP, hx⟩ := Paired.of HD5.out hN; have HP8 := Lib.hid hP; have HZ8 := Lib.hid hP.z; have HQ8 := Lib.hid hP.row; have HT8 := Lib.hid ((hx wr.heap.size (by simp)).trans HT5.out); have HU8 := Lib.hid ((hx w4.heap.size (by simp)).trans HU5.out); have HUB8 := Lib.hid (And.intro (HUB5.out.1.keepX (fun g hg => hx g (by simp [hg]))) (And.intro (HUB5.out.2.1.keepX (fun g hg => hx g (by simp [hg]))) (HUB5.out.2.2.keepX (fun g hg => hx g (by simp [hg]))))); clear hP hx hN; unfold sCells)
        | (refine wpList_store_row rfl 37 (.tmp 11) (.tmp 47) rfl (w6.heap.size + 1) _ rfl rfl 37 _ HZ8.out (by kernel_rfl) rfl (by simp [Value.oneCell']) ?_)
        | ((with_reducible refine gate_n (N := 48) rfl ?_); refine wpList_load_row rfl 37 (.tmp 11) rfl (w6.heap.size + 1) rfl 37 _ (0, 0) _ HQ8.out Try.underlying37 rfl (by kernel_rfl) ?_)
        | ((with_reducible refine gate_n (N := 49) rfl ?_); refine wpList_load_row rfl 54 (.tmp 7) rfl wr.heap.size rfl 54 _ (0, 0) _ HT8.out Try.underlying54 rfl (by kernel_rfl) ?_; rw [← HOC.out])
        | (go_at_call 35; refine (asks_any HP8.out.duo HS'.out o HA.out).mono ?_; rintro e w10 ⟨rfl, D10, hx⟩; have HD6 := Lib.hid (D10.solo.pop (X := w4.heap.size :: ((Value.slice A1 s'.ram.length c1).ownBlock.toList ++ ((Value.slice B1 s'.inp.length d1).ownBlock.toList ++ ((Value.slice C1 s'.out.length e1).ownBlock.toList ++ [wr.heap.size])))) (fun x hx => List.mem_cons_of_mem _ hx)); have HU6 := Lib.hid ((hx w4.heap.size (by simp)).trans HU8.out); have HUB6 := Lib.hid (And.intro (HUB8.out.1.keepX (fun g hg => hx g (by simp [hg]))) (And.intro (HUB8.out.2.1.keepX (fun g hg => hx g (by simp [hg]))) (HUB8.out.2.2.keepX (fun g hg => hx g (by simp [hg]))))); clear D10 hx))
      have HUE := Lib.hid HU6.out
      have HDE := Lib.hid HD6.out
      have HR1 := Lib.hid HUB6.out.1.rd
      have HR2 := Lib.hid HUB6.out.2.1.rd
      have HR3 := Lib.hid HUB6.out.2.2.rd
      obtain ⟨DX, hxx⟩ := HDE.out.keep (Kept.refl [] _).drew
      have hux := (hxx w4.heap.size (by simp)).trans HUE.out
      have HUX := Lib.hid hux
      have p15 := cells15 hux
      have HXX := Lib.hid hxx
      have HST := Lib.hid (s_state DX HSE.out)
      clear DX hxx hux
      go_region_held3 (fun w' => w'.cell? ⟨w4.heap.size, 0, none⟩ = some (.slice A1 s'.ram.length c1) ∧ w'.cell? ⟨w4.heap.size, 1, none⟩ = some (.int .u32 s'.msip) ∧ w'.cell? ⟨w4.heap.size, 2, none⟩ = some (.int .u64 s'.cmp) ∧ w'.cell? ⟨w4.heap.size, 3, none⟩ = some (.int .u64 s'.now) ∧ w'.cell? ⟨w4.heap.size, 4, none⟩ = some (.bool s'.ext) ∧ w'.cell? ⟨w4.heap.size, 5, none⟩ = some (.bool s'.soft) ∧ w'.cell? ⟨w4.heap.size, 6, none⟩ = some (.int .u8 s'.ier) ∧ w'.cell? ⟨w4.heap.size, 7, none⟩ = some (.int .u8 s'.lcr) ∧ w'.cell? ⟨w4.heap.size, 8, none⟩ = some (.int .u8 s'.mcr) ∧ w'.cell? ⟨w4.heap.size, 9, none⟩ = some (.int .u8 s'.scr) ∧ w'.cell? ⟨w4.heap.size, 10, none⟩ = some (.bool s'.over) ∧ w'.cell? ⟨w4.heap.size, 11, none⟩ = some (.slice B1 s'.inp.length d1) ∧ w'.cell? ⟨w4.heap.size, 12, none⟩ = some (.slice C1 s'.out.length e1) ∧ w'.cell? ⟨w4.heap.size, 13, none⟩ = some (.int .i64 s'.off) ∧ w'.cell? ⟨w4.heap.size, 14, none⟩ = some (.int .i64 s'.code)) (first | (with_reducible assumption) | go_keep)
        (first
          | (go_at_call 20; (first | (with_reducible refine HST.out.mono ?_) | (refine HST.out.mono ?_)); rintro e w12 ⟨x1, x2, x3, rfl, h1, h2, h3, D12, hx⟩; have hxw : SameX _ _ w12 := hx; have hu12 := (hx w4.heap.size (by simp)).trans HUX.out; have HU12 := Lib.hid hu12; have q15 := cells15 hu12; have HBS := Lib.hid (And.intro h1 (And.intro h2 h3)); have hxq := HXX.out.trans hx; have HE1 := Lib.hid (HR1.out.same (fun g hg => hxq g (by first | (simp [hg]; done) | (have hq : gi = g := (by simpa [Value.ownBlock] using hg); subst hq; simp [Value.ownBlock]; done)))); have HE2 := Lib.hid (HR2.out.same (fun g hg => hxq g (by first | (simp [hg]; done) | (have hq : gi = g := (by simpa [Value.ownBlock] using hg); subst hq; simp [Value.ownBlock]; done)))); have HE3 := Lib.hid (HR3.out.same (fun g hg => hxq g (by first | (simp [hg]; done) | (have hq : gi = g := (by simpa [Value.ownBlock] using hg); subst hq; simp [Value.ownBlock]; done)))); have HD12 := Lib.hid (D12.pop (X := []) (by simp)); clear D12 hx hxw h1 h2 h3 hu12 hxq)
          | (go_at_call 19; refine (r_same_rd w12 s' _ _ _ _ _ _ HBS.out.1.rd HBS.out.2.1.rd HBS.out.2.2.rd HE1.out HE2.out HE3.out).mono ?_; rintro e w13 ⟨rfl, hb⟩; have hkb := Kept.of_below (F := []) hb; have r15 := cells15 (hkb.row HU12.out (by simp)); have HIN := Lib.hid (show QInv w1 pb w13 from ⟨_, HSE.out, (HD12.out.keep hkb).1⟩); clear hb hkb))
      all_goals
        go_wp2
        go_roundw
        case rel => go_light; exact ⟨k + 1, by omega, by go_num, HIN.out⟩
        case measure => simp [intOf]; omega

    · obtain rfl : k = ops.length := by omega
      have HE := Lib.hid (HK.out.trans D.kept (by simp))
      clear D hR hs'
      go_wp2
      go_ret
      exact ⟨rfl, HE.out⟩
theorem law_BusQuiet (w : World) (s : St) (hs : s.In) (v1 v2 v3 vops : Value) (ops : List OpV) (h1 : Rd w v1 s.ram) (h2 : Rd w v2 s.inp) (h3 : Rd w v3 s.out) (ho : OpsAt w vops ops) :
    Calls Try.prog 15 #[.agg (yCells v1 v2 v3 s vops)] w (TruePost w) := by
  cases hc : s.canBe
  · exact BusQuiet_no w s hs v1 v2 v3 vops h1 h2 h3 hc
  · exact BusQuiet_yes w s hs v1 v2 v3 vops ops h1 h2 h3 ho hc
end Go.Proofs.Ytkocfcgdjjdnhaa.BW
