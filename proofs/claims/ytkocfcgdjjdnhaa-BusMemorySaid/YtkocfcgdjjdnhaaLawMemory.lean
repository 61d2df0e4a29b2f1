/- The law BusMemory: it answers true. Premise: the story can be read. -/
import Derived.Test.YtkocfcgdjjdnhaaLawMem
import Derived.Lib.EndianBits
namespace Go.Proofs.Ytkocfcgdjjdnhaa.BW
open Go.RowKit
set_option linter.unusedVariables false
set_option linter.unusedSimpArgs false
theorem cells16m {W : World} {p : Nat} {v1 v2 v3 vops : Value} {s : St} (h : W.heap[p]? = some (.cells (yCells v1 v2 v3 s vops) 43 (0, 0))) : W.cell? ⟨p, 0, none⟩ = some (v1) ∧ W.cell? ⟨p, 1, none⟩ = some (.int .u32 s.msip) ∧ W.cell? ⟨p, 2, none⟩ = some (.int .u64 s.cmp) ∧ W.cell? ⟨p, 3, none⟩ = some (.int .u64 s.now) ∧ W.cell? ⟨p, 4, none⟩ = some (.bool s.ext) ∧ W.cell? ⟨p, 5, none⟩ = some (.bool s.soft) ∧ W.cell? ⟨p, 6, none⟩ = some (.int .u8 s.ier) ∧ W.cell? ⟨p, 7, none⟩ = some (.int .u8 s.lcr) ∧ W.cell? ⟨p, 8, none⟩ = some (.int .u8 s.mcr) ∧ W.cell? ⟨p, 9, none⟩ = some (.int .u8 s.scr) ∧ W.cell? ⟨p, 10, none⟩ = some (.bool s.over) ∧ W.cell? ⟨p, 11, none⟩ = some (v2) ∧ W.cell? ⟨p, 12, none⟩ = some (v3) ∧ W.cell? ⟨p, 13, none⟩ = some (.int .i64 s.off) ∧ W.cell? ⟨p, 14, none⟩ = some (.int .i64 s.code) ∧ W.cell? ⟨p, 15, none⟩ = some (vops) :=
  ⟨row_cell h 0 _ rfl, row_cell h 1 _ rfl, row_cell h 2 _ rfl, row_cell h 3 _ rfl, row_cell h 4 _ rfl, row_cell h 5 _ rfl, row_cell h 6 _ rfl, row_cell h 7 _ rfl, row_cell h 8 _ rfl, row_cell h 9 _ rfl, row_cell h 10 _ rfl, row_cell h 11 _ rfl, row_cell h 12 _ rfl, row_cell h 13 _ rfl, row_cell h 14 _ rfl, row_cell h 15 _ rfl⟩
/-- The bus of state s beside an array (block gm) that holds what RAM holds. -/
def MInv (w1 : World) (pb gm cm n : Nat) (wr : World) : Prop := ∃ s, s.Ok ∧ s.ram.length = n ∧ SoloE w1 [gm] wr pb s ∧ Bs wr (.slice (some ⟨gm, 0, none⟩) n cm) s.ram
/-- .. inside a round: the call's box M, and the array holds l. -/
def LInv (w1 : World) (pb gm cm n M : Nat) (cs : Array Value) (s : St) (l : List Int) (wr : World) : Prop := SoloE w1 [M, gm] wr pb s ∧ wr.heap[M]? = some (.cells cs 54 (0, 0)) ∧ Bs wr (.slice (some ⟨gm, 0, none⟩) n cm) l
theorem mem_shape {w w' : World} {v' : Value} {l : List Int} (hg : Grew w w' (.slice none 0 0) v' ([] ++ l)) (hl : l.length ≠ 0) : ∃ gm cm, v' = .slice (some ⟨gm, 0, none⟩) l.length cm ∧ w.heap.size ≤ gm := by
  rcases hg.bs.at with ⟨_, h⟩ | ⟨g, cap, cur, rfl, _⟩
  · simp at h; rw [h] at hl; simp at hl
  · exact ⟨g, cap, by simp, Grew.new hg g rfl⟩
theorem mem_src {w : World} {v : Value} {b : List Int} (h : RdW w v b) (hb : b ≠ []) : ∃ pc pg po, v = .slice (some ⟨pg, po, none⟩) b.length pc ∧ ∀ i x, b[i]? = some x → w.cell? ⟨pg, po + i, none⟩ = some (.int .u8 x) := by
  rcases h with h | ⟨h, _⟩
  · rcases h with ⟨h, _⟩ | ⟨c, g, o, h, hc⟩
    · first | exact absurd h hb | exact absurd ‹b = []› hb
    · exact ⟨c, g, o, h, hc⟩
  · exact absurd h hb
theorem load_step (l : List Int) (a j : Nat) (y : Int) (hb : Byts l) (hy : l[a + j]? = some y) (hj : j ≤ 7) (y0 : 0 ≤ y) (y1 : y ≤ 255) : bits .or .u64 (leVal ((l.drop a).take j)) (IntKind.u64.wrap (y * 2 ^ (8 * j))) = leVal ((l.drop a).take (j + 1)) := by
  have hd : (l.drop a)[j]? = some y := by rw [List.getElem?_drop]; exact hy
  have hl : ((l.drop a).take j).length = j := by
    have := (List.getElem?_eq_some_iff.1 hd).1
    rw [List.length_take]; omega
  rw [← take_snoc _ j y hd, leVal_snoc, hl]
  have h1 := leVal_bd ((l.drop a).take j) (fun n hn => hb n (List.mem_of_mem_drop (List.mem_of_mem_take hn)))
  rw [hl] at h1
  have hp : (256 : Int) ^ j = 2 ^ (8 * j) := by rw [Int.pow_mul]; rfl
  rw [hp] at h1 ⊢
  have hq : ∀ j : Nat, j < 8 → (0 : Int) < 2 ^ (8 * j) ∧ (2 : Int) ^ (8 * j) * 256 ≤ 18446744073709551616 := by decide
  obtain ⟨q0, q1⟩ := hq j (by omega)
  have q2 : y * 2 ^ (8 * j) ≤ 255 * 2 ^ (8 * j) := Int.mul_le_mul_of_nonneg_right y1 (Int.le_of_lt q0)
  have q3 : 0 ≤ y * 2 ^ (8 * j) := Int.mul_nonneg y0 (Int.le_of_lt q0)
  have q4 : y * 2 ^ (8 * j) < 2 ^ 64 := by
    show y * 2 ^ (8 * j) < 18446744073709551616
    omega
  have q5 : leVal ((l.drop a).take j) < 2 ^ 64 := by
    show leVal ((l.drop a).take j) < 18446744073709551616
    omega
  rw [wraps_u64 _ q3 q4]
  exact bits_join_low .u64 64 (by decide) wraps_u64 (8 * j) _ _ h1.1 h1.2 q5 q3 (Int.mul_emod_left _ _) q4
theorem LInv.set {w1 wr : World} {pb gm cm n M : Nat} {cs : Array Value} {s : St} {l : List Int} (h : LInv w1 pb gm cm n M cs s l wr) (hg : w1.heap.size ≤ gm) (hM : M ≠ gm) (i : Nat) (x : Int) (hi : i < l.length) : LInv w1 pb gm cm n M cs s (l.set i x) (wr.setCell ⟨gm, i, none⟩ (.int .u8 x)) := by
  have hk : Kept [gm] wr (wr.setCell ⟨gm, i, none⟩ (.int .u8 x)) := (Kept.refl [gm] wr).setCell (fun _ => by simp) _
  exact ⟨h.1.write (by simp) hg hk, hk.row h.2.1 (by simpa using hM), h.2.2.set rfl i x hi⟩
theorem LInv.out {w1 wr : World} {pb gm cm n M : Nat} {cs : Array Value} {s : St} (h : LInv w1 pb gm cm n M cs s s.ram wr) (hs : s.Ok) (hn : s.ram.length = n) : MInv w1 pb gm cm n wr := ⟨s, hs, hn, h.1.pop (by simp), h.2.2⟩
set_option maxHeartbeats 8000000 in
set_option maxRecDepth 100000 in
theorem BusMemory_no (w : World) (s : St) (hs : s.In) (v1 v2 v3 vops : Value) (h1 : Rd w v1 s.ram) (h2 : Rd w v2 s.inp) (h3 : Rd w v3 s.out) (hc : s.canBe = false) :
    Calls Try.prog 7 #[.agg (yCells v1 v2 v3 s vops)] w (TruePost w) := by
  obtain ⟨A, c, rfl⟩ := h1.shape
  obtain ⟨B, d, rfl⟩ := h2.shape
  obtain ⟨C, e, rfl⟩ := h3.shape
  have kA : Kept [] w (w.alloc (.cells (yCells (.slice A s.ram.length c) (.slice B s.inp.length d) (.slice C s.out.length e) s vops) 43)) := (Kept.refl [] w).alloc _
  have HC := Lib.hid (r_canbe_rd _ s hs _ _ _ (h1.keep kA (by simp)) (h2.keep kA (by simp)) (h3.keep kA (by simp)))
  rw [hc] at HC
  have HK := Lib.hid kA
  clear h1 h2 h3 hs hc kA
  unfold yCells at *
  unfold sCells at HC
  go_enter Try.func7, Try.ntmps7
  go_wp2_with (go_at_call 23; refine HC.out.mono ?_; rintro e w2 ⟨rfl, hb⟩; have HK2 := Lib.hid (HK.out.trans (Kept.of_below (F := []) hb) (by simp)); clear hb)
  go_ret
  exact ⟨rfl, HK2.out⟩
set_option maxHeartbeats 40000000 in
set_option maxRecDepth 100000 in
theorem BusMemory_yes (w : World) (s : St) (hs : s.In) (v1 v2 v3 vops : Value) (ops : List OpV) (h1 : Rd w v1 s.ram) (h2 : Rd w v2 s.inp) (h3 : Rd w v3 s.out) (ho : OpsAt w vops ops) (hc : s.canBe = true) :
    Calls Try.prog 7 #[.agg (yCells v1 v2 v3 s vops)] w (TruePost w) := by
  obtain ⟨A, c, rfl⟩ := h1.shape
  obtain ⟨B, d, rfl⟩ := h2.shape
  obtain ⟨C, e, rfl⟩ := h3.shape
  obtain ⟨AO, cO, rfl⟩ : ∃ A c, vops = .slice A ops.length c := by
    rcases ho.2 with ⟨rfl, rfl⟩ | ⟨g, off, cap, rfl, _⟩
    · exact ⟨_, _, rfl⟩
    · exact ⟨_, _, rfl⟩
  have hlen : ops.length ≤ 140737488351232 := ho.1
  have kA : Kept [] w (w.alloc (.cells (yCells (.slice A s.ram.length c) (.slice B s.inp.length d) (.slice C s.out.length e) s (.slice AO ops.length cO)) 43)) := (Kept.refl [] w).alloc _
  have hrow : (w.alloc (.cells (yCells (.slice A s.ram.length c) (.slice B s.inp.length d) (.slice C s.out.length e) s (.slice AO ops.length cO)) 43)).heap[w.heap.size]? = some (.cells (yCells (.slice A s.ram.length c) (.slice B s.inp.length d) (.slice C s.out.length e) s (.slice AO ops.length cO)) 43 (0, 0)) := heap_alloc_new w _
  have r1 := h1.keep kA (by simp)
  have r2 := h2.keep kA (by simp)
  have r3 := h3.keep kA (by simp)
  have hcan := r_canbe_rd _ s hs _ _ _ r1 r2 r3
  rw [hc] at hcan
  have HC := Lib.hid hcan
  have HR1 := Lib.hid r1
  have HR2 := Lib.hid r2
  have HR3 := Lib.hid r3
  have HSI := Lib.hid hs
  have HCB := Lib.hid hc
  have HO := Lib.hid (ho.keep kA)
  have HK := Lib.hid kA
  have HROW := Lib.hid hrow
  have hok := hs.ok hc
  have HSOK := Lib.hid hok
  have hn0 := hok.r0
  have hn1 := hok.r1
  clear h1 h2 h3 hs hc kA hrow ho r1 r2 r3 hcan hok
  unfold yCells at HC HR1 HR2 HR3 HO HK HROW ⊢
  unfold sCells at HC
  go_enter Try.func7, Try.ntmps7
  go_wp2_with (first
    | (go_at_call 23; refine HC.out.mono ?_; rintro e w2 ⟨rfl, hb⟩; have hk2 := Kept.of_below (F := []) hb; obtain ⟨f0, f1, f2, f3, f4, f5, f6, f7, f8, f9, f10, f11, f12, f13, f14, f15⟩ := cells16m (hk2.row HROW.out (by simp)); have HMD := Lib.hid (made_any w2 s HSI.out A B C _ _ _ c d e (HR1.out.keep hk2 (by simp)) (HR2.out.keep hk2 (by simp)) (HR3.out.keep hk2 (by simp)) HCB.out); have HK2 := Lib.hid hk2; clear hb hk2)
    | (go_at_call 24; (unfold sCells at HMD); refine HMD.out.mono ?_; intro e w3 hm; obtain ⟨pb, rfl, D3⟩ := SoloE.of_made hm; have D4 := D3.rebase HK2.out; have HD4 := Lib.hid D4; have f0 : w3.cell? ⟨w.heap.size, 0, none⟩ = some (.slice A s.ram.length c) := row_cell (D4.kept.row HROW.out (by simp)) 0 _ rfl; have HRA := Lib.hid (Or.inl (b := s.ram = [] ∧ ∃ A' c', Value.slice A s.ram.length c = .slice (some A') 0 c') (HR1.out.keep D4.kept (by simp))); clear hm D3 HMD D4)
    | (at_builtin; refine wpList_append_nilw rfl _ _ rfl (.slice A s.ram.length c) s.ram rfl rfl HRA.out (by simp; omega) ?_; intro v' w4 hg; obtain ⟨gm, cm, rfl, hgb⟩ : ∃ gm cm, v' = .slice (some ⟨gm, 0, none⟩) s.ram.length cm ∧ w3.heap.size ≤ gm := mem_shape hg (by omega); have hb : Bs w4 (.slice (some ⟨gm, 0, none⟩) s.ram.length cm) s.ram := (by simpa using hg.bs); have D5 := HD4.out.claim (Y := [gm]) hg.kept (by intro x hx; simp at hx; subst hx; exact ⟨hgb, hb.lt _ rfl⟩); have HINV := Lib.hid (show MInv _ pb gm cm _ w4 from ⟨s, HSOK.out, rfl, D5, hb⟩); have HG0 := Lib.hid (Nat.le_trans HD4.out.kept.size hgb); clear hg D5 hb hgb))
  generalize (w.alloc (.cells #[.slice A s.ram.length c, .int .u32 s.msip, .int .u64 s.cmp, .int .u64 s.now, .bool s.ext, .bool s.soft, .int .u8 s.ier, .int .u8 s.lcr, .int .u8 s.mcr, .int .u8 s.scr, .bool s.over, .slice B s.inp.length d, .slice C s.out.length e, .int .i64 s.off, .int .i64 s.code, .slice AO ops.length cO] 43)) = w1 at *
  clear HC HR1 HR2 HR3 HSI HCB HSOK HK2 HD4 HRA f0 f1 f2 f3 f4 f5 f6 f7 f8 f9 f10 f11 f12 f13 f14 f15
  generalize w.heap.size = N at *
  generalize s.ram.length = n at *
  go_loopw [7] (fun i wr => ∃ k : Nat, k ≤ ops.length ∧ i = .int .i64 k ∧ Hid (MInv w1 pb gm cm n wr)) (fun i _ => ops.length - (intOf i).toNat)
  case atStart => exact ⟨0, Nat.zero_le _, rfl, HINV.out⟩
  case round =>
    obtain ⟨k, hk, rfl, hp⟩ := hrel
    obtain ⟨s', hs', hn', D, hb⟩ := hp.out
    clear hp
    have hR := D.kept.row HROW.out (by simp)
    have d15 : wr.cell? ⟨N, 15, none⟩ = some (.slice AO ops.length cO) := row_cell hR 15 _ rfl
    by_cases hlt : k < ops.length
    · obtain ⟨o, hoi⟩ : ∃ o, ops[k]? = some o := ⟨_, List.getElem?_eq_getElem hlt⟩
      obtain ⟨g, off, cap, hve, hcs⟩ : ∃ g off cap, Value.slice AO ops.length cO = .slice (some ⟨g, off, none⟩) ops.length cap ∧ ∀ (i : Nat) (o : OpV), ops[i]? = some o → w1.rangeAt g (off + i * 9) o.cells.toList ∧ o.At w1 := by
        rcases HO.out.2 with ⟨_, h⟩ | h
        · rw [h] at hlt; simp at hlt
        · exact h
      simp only [Value.slice.injEq] at hve
      obtain ⟨rfl, -, rfl⟩ := hve
      have hA := (hcs k o hoi).2
      have a0 := hA.ad.1
      have a1 := hA.ad.2
      have s0 := hA.nn.1
      have s1 := hA.nn.2
      have v0 := hA.vv.1
      have v1 := hA.vv.2
      obtain ⟨VB, cb, hvb⟩ := hA.rb.shape
      have hrg := rangeAt_keep (hcs k o hoi).1 D.kept
      have hone := hA.one
      have hrb := hA.rb
      have hbb := hA.bb
      have hbl := hA.bl
      clear hA hcs hoi
      obtain ⟨kind, addr, size, v, vb, b, tick, ext, soft, vw, l⟩ := o
      dsimp only at hvb a0 a1 s0 s1 v0 v1 hrb hbb hbl
      subst hvb
      dsimp only [OpV.cells] at hrg hone
      have hM := D.xl gm (by simp)
      obtain ⟨hz, D2, hT, hx2⟩ := D.opbox #[.int .i64 kind, .int .u64 addr, .int .i64 size, .int .u64 v, .slice VB b.length cb, .bool tick, .bool ext, .bool soft, vw]
      have hb2 := hb.keepX (fun g hg => hx2 g (by simpa [Value.ownBlock, eq_comm] using hg))
      have t0 := row_cell hT 0 (.int .i64 kind) rfl
      have t1 := row_cell hT 1 (.int .u64 addr) rfl
      have t2 := row_cell hT 2 (.int .i64 size) rfl
      have t3 := row_cell hT 3 (.int .u64 v) rfl
      have t4 := row_cell hT 4 (.slice VB b.length cb) rfl
      have HRG := Lib.hid hrg
      have HONE := Lib.hid hone
      have HRB := Lib.hid hrb
      have HBB := Lib.hid hbb
      have HBL := Lib.hid hbl
      have HS' := Lib.hid hs'
      have HN' := Lib.hid hn'
      have HZO := Lib.hid hz
      have HL2 := Lib.hid (show LInv w1 pb gm cm n wr.heap.size _ s' s'.ram _ from ⟨D2, hT, hb2⟩)
      have HM := Lib.hid (show wr.heap.size ≠ gm by omega)
      clear D hs' hn' hb hR hz D2 hT hx2 hb2 hM hrg hone hrb hbb hbl
      obtain ⟨a, ha⟩ : ∃ a : Nat, addr.tmod (2 * (n : Int)) = (a : Int) := ⟨(addr.tmod (2 * (n : Int))).toNat, (Int.toNat_of_nonneg (Int.tmod_nonneg _ a0)).symm⟩
      have ha2 : a < 2 * n := by
        have := Int.tmod_lt_of_pos addr (show (0 : Int) < 2 * (n : Int) by omega)
        omega
      have hm0 : ¬ (2 * (n : Int) = 0) := by omega
      have HAL : ∀ u, Hid (Calls Try.prog 31 #[.int .u64 (2147483648 + (a : Int)), .int .i64 size] u fun e w' => e = .returned (.bool (alignedB (2147483648 + (a : Int)) size)) ∧ u = w') := fun u => Lib.hid (aligned_any u _ size (by omega) (by omega))
      by_cases hin : alignedB (2147483648 + (a : Int)) size = true ∧ (a : Int) + size ≤ (n : Int)
      · obtain ⟨hal, hle⟩ := hin
        have hsz : size = 1 ∨ size = 2 ∨ size = 4 ∨ size = 8 := by unfold alignedB szOk at hal; simp at hal; omega
        obtain ⟨sz, rfl⟩ : ∃ sz : Nat, size = (sz : Int) := ⟨size.toNat, by omega⟩
        have z0 : 1 ≤ sz := by omega
        have z1 : sz ≤ 8 := by omega
        have hle' : a + sz ≤ n := by omega
        have HALV := Lib.hid hal
        have b9 : decide ((a : Int) + (sz : Int) ≤ (n : Int)) = true := decide_eq_true hle
        have HA := Lib.hid (show alignedB (2147483648 + (a : Int)) sz = true ∧ a + sz ≤ s'.ram.length from ⟨hal, by rw [HN'.out]; exact hle'⟩)
        clear hal hsz
        by_cases hkd : kind = 1
        · skip
          have b1 : (kind == 1) = true := by rw [hkd]; rfl
          have b2 : (kind == 2) = false := by rw [hkd]; rfl
          have b7 : (kind == 7) = false := by rw [hkd]; rfl
          clear hkd
          as_aux_lemma =>
          go_wp2_with (first
            | ((with_reducible refine gate_n (N := 49) rfl ?_); refine wpList_load_mid rfl 54 (.tmp 48) rfl g (off + k * 9) rfl [.int .i64 kind, .int .u64 addr, .int .i64 (sz : Int), .int .u64 v, .slice VB b.length cb, .bool tick, .bool ext, .bool soft, vw] _ HRG.out Try.underlying54 rfl (by kernel_rfl) ?_)
            | (refine wpList_store_row rfl 54 (.tmp 8) (.tmp 49) rfl wr.heap.size _ rfl rfl 54 _ HZO.out (by kernel_rfl) rfl HONE.out ?_)
            | (go_at_call 31; refine (HAL _).out.mono ?_; rintro e wz ⟨rfl, rfl⟩; rw [HALV.out])
            | (go_at_call 29; refine (s_load HL2.out.1 HS'.out (2147483648 + (a : Int)) (sz : Int) (by omega) (by omega) (by omega) (by omega)).mono ?_; rw [mem_load_in a sz HA.out.1 HA.out.2]; rintro e w5 ⟨rfl, D5, hx⟩; have ht5 := (hx wr.heap.size (by simp)).trans HL2.out.2.1; have HL5 := Lib.hid (show LInv w1 pb gm cm n wr.heap.size _ _ s'.ram w5 from ⟨D5, ht5, HL2.out.2.2.keepX (fun g hg => hx g (by simp only [Value.ownBlock, Option.some.injEq] at hg; subst hg; simp))⟩); have u2 := row_cell ht5 2 (.int .i64 (sz : Int)) rfl; clear ht5 D5 hx))

          have HA2 := Lib.hid HA.out.2
          clear t0 t1 t2 t3 t4 u2 HL2 HZO HRG HRB HBB HBL HALV HAL HA
          generalize wr.heap.size = M at *
          obtain ⟨wo, rfl⟩ : ∃ wo : World, wo = wr := ⟨_, rfl⟩
          go_loopw [19, 20] (fun x i wq => ∃ j : Nat, j ≤ sz ∧ x = .int .u64 (leVal ((s'.ram.drop a).take j)) ∧ i = .int .i64 j ∧ Hid (LInv w1 pb gm cm n M #[.int .i64 kind, .int .u64 addr, .int .i64 (sz : Int), .int .u64 v, .slice VB b.length cb, .bool tick, .bool ext, .bool soft, vw] s' s'.ram wq)) (fun _ i _ => sz - (intOf i).toNat)
          case atStart => exact ⟨0, Nat.zero_le _, rfl, rfl, HL5.out⟩
          case round =>
            obtain ⟨j, hj, rfl, rfl, hq⟩ := hrel
            have HQ := Lib.hid hq.out
            clear hq
            have u2 := row_cell HQ.out.2.1 2 (.int .i64 (sz : Int)) rfl
            by_cases hlt2 : j < sz
            · obtain ⟨y, hy⟩ : ∃ y, s'.ram[a + j]? = some y := ⟨_, List.getElem?_eq_getElem (by have := HA2.out; omega)⟩
              have d1 : wr.cell? ⟨gm, a + j, none⟩ = some (.int .u8 y) := HQ.out.2.2.cell rfl (a + j) y hy
              have y0 := (HS'.out.rb y (List.mem_of_getElem? hy)).1
              have y1 := (HS'.out.rb y (List.mem_of_getElem? hy)).2
              have HST := Lib.hid (load_step s'.ram a j y HS'.out.rb hy (by omega) y0 y1)
              clear hy
              go_wp2
              go_roundw
              case rel =>
                go_light
                refine ⟨j + 1, by omega, ?_, by go_num, HQ.out⟩
                exact congrArg (Value.int .u64) HST.out
              case measure => simp [intOf]; omega
            · obtain rfl : j = sz := by omega
              have HE := Lib.hid (LInv.out HQ.out HS'.out HN'.out)
              go_wp2
              go_roundw
              case rel => go_light; exact ⟨k + 1, by omega, by go_num, HE.out⟩
              case measure => simp [intOf]; omega
        have hk1 := hkd
        clear hkd
        by_cases hkd : kind = 2
        · skip
          have b1 : (kind == 1) = false := by rw [hkd]; rfl
          have b2 : (kind == 2) = true := by rw [hkd]; rfl
          have b7 : (kind == 7) = false := by rw [hkd]; rfl
          clear hkd
          as_aux_lemma =>
          go_wp2_with (first
            | ((with_reducible refine gate_n (N := 49) rfl ?_); refine wpList_load_mid rfl 54 (.tmp 48) rfl g (off + k * 9) rfl [.int .i64 kind, .int .u64 addr, .int .i64 (sz : Int), .int .u64 v, .slice VB b.length cb, .bool tick, .bool ext, .bool soft, vw] _ HRG.out Try.underlying54 rfl (by kernel_rfl) ?_)
            | (refine wpList_store_row rfl 54 (.tmp 8) (.tmp 49) rfl wr.heap.size _ rfl rfl 54 _ HZO.out (by kernel_rfl) rfl HONE.out ?_)
            | (go_at_call 31; refine (HAL _).out.mono ?_; rintro e wz ⟨rfl, rfl⟩; rw [HALV.out])
            | (go_at_call 30; refine (s_store HL2.out.1 HS'.out (2147483648 + (a : Int)) (sz : Int) v (by omega) (by omega) (by omega) (by omega) v0 v1).mono ?_; rw [mem_store_in a sz v HA.out.1 HA.out.2]; rintro e w5 ⟨rfl, D5, hx⟩; have ht5 := (hx wr.heap.size (by simp)).trans HL2.out.2.1; have HL5 := Lib.hid (show LInv w1 pb gm cm n wr.heap.size _ _ s'.ram w5 from ⟨D5, ht5, HL2.out.2.2.keepX (fun g hg => hx g (by simp only [Value.ownBlock, Option.some.injEq] at hg; subst hg; simp))⟩); have u2 := row_cell ht5 2 (.int .i64 (sz : Int)) rfl; clear ht5 D5 hx))

          have HLY := Lib.hid (show ∀ j, j ≤ sz → (lay s'.ram a (leOf v j)).length = n from fun j hj => by rw [lay_length _ _ _ (by rw [leOf_length]; have := HA.out.2; omega), HN'.out])
          have HSE := Lib.hid (show St.Ok { s' with ram := lay s'.ram a (leOf v sz) } from by have := ok_store HS'.out (2147483648 + (a : Int)) sz v v0 v1; rw [mem_store_in a sz v HA.out.1 HA.out.2] at this; exact this)
          have HA2 := Lib.hid HA.out.2
          clear t0 t1 t2 t3 t4 u2 HL2 HZO HRG HRB HBB HBL HALV HAL HA
          generalize wr.heap.size = M at *
          obtain ⟨wo, rfl⟩ : ∃ wo : World, wo = wr := ⟨_, rfl⟩
          go_loopw [13] (fun i wq => ∃ j : Nat, j ≤ sz ∧ i = .int .i64 j ∧ Hid (LInv w1 pb gm cm n M #[.int .i64 kind, .int .u64 addr, .int .i64 (sz : Int), .int .u64 v, .slice VB b.length cb, .bool tick, .bool ext, .bool soft, vw] { s' with ram := lay s'.ram a (leOf v sz) } (lay s'.ram a (leOf v j)) wq)) (fun i _ => sz - (intOf i).toNat)
          case atStart => exact ⟨0, Nat.zero_le _, rfl, by show LInv _ _ _ _ _ _ _ _ _ _; rw [leOf, lay_nil]; exact HL5.out⟩
          case round =>
            obtain ⟨j, hj, rfl, hq⟩ := hrel
            have HQ := Lib.hid hq.out
            clear hq
            have u2 := row_cell HQ.out.2.1 2 (.int .i64 (sz : Int)) rfl
            have u3 := row_cell HQ.out.2.1 3 (.int .u64 v) rfl
            by_cases hlt2 : j < sz
            · obtain ⟨x, hx⟩ : ∃ x, (lay s'.ram a (leOf v j))[a + j]? = some x := ⟨_, List.getElem?_eq_getElem (by rw [HLY.out j hj]; omega)⟩
              have d1 : wr.cell? ⟨gm, a + j, none⟩ = some (.int .u8 x) := HQ.out.2.2.cell rfl (a + j) x hx
              have d2 : wr.frozen? ⟨gm, a + j, none⟩ = false := HQ.out.2.2.frozen rfl (a + j)
              clear hx
              go_wp2
              go_roundw
              case rel =>
                go_light
                refine ⟨j + 1, by omega, by go_num, ?_⟩
                have h1 := HQ.out.set HG0.out HM.out (a + j) (v / 2 ^ (8 * j) % 256) (by rw [HLY.out j hj]; omega)
                have h2 := lay_snoc s'.ram a (leOf v j) (v / 2 ^ (8 * j) % 256) (by rw [leOf_length]; have := HA2.out; omega)
                rw [leOf_length, show (2 : Int) ^ (8 * j) = 256 ^ j from by rw [Int.pow_mul]; rfl, ← leOf_snoc] at h2
                show LInv _ _ _ _ _ _ _ _ _ (wr.setCell _ _)
                rw [← h2, show (256 : Int) ^ j = 2 ^ (8 * j) from by rw [Int.pow_mul]; rfl]
                exact h1
              case measure => simp [intOf]; omega
            · obtain rfl : j = sz := by omega
              go_wp2
              go_roundw
              case rel => go_light; exact ⟨k + 1, by omega, by go_num, LInv.out HQ.out HSE.out (HLY.out _ (Nat.le_refl _))⟩
              case measure => simp [intOf]; omega
        have hk2 := hkd
        clear hkd
        by_cases hkd : kind = 7
        · skip
          have b1 : (kind == 1) = false := by rw [hkd]; rfl
          have b2 : (kind == 2) = false := by rw [hkd]; rfl
          have b7 : (kind == 7) = true := by rw [hkd]; rfl
          clear hkd
          have HRB2 := Lib.hid (HRB.out.keep HL2.out.1.kept)
          have hbl0 : (b.length : Int) ≤ 140737488351232 := by have := HBL.out; omega
          by_cases hbz : b.length = 0
          · have hbn : b = [] := List.length_eq_zero_iff.1 hbz
            have HP := Lib.hid (show s'.poke (2147483648 + (a : Int)) b = (0, s') from by unfold St.poke; rw [if_pos hbn])
            have c9 : ((b.length : Int) == 0) = true := by simpa using hbz
            have c7 : decide ((0 : Int) < (b.length : Int)) = false := decide_eq_false (by omega)
            have c6 : ¬ 0 < b.length := by omega
            have c5 : decide (0 < b.length) = false := decide_eq_false c6
            clear hbn
            by_cases hfit : a + b.length ≤ n
            · have c8 : decide ((a : Int) + (b.length : Int) ≤ (n : Int)) = true := decide_eq_true (by omega)
              clear hfit hbz
              as_aux_lemma =>
              go_wp2_with (first
                        | ((with_reducible refine gate_n (N := 49) rfl ?_); refine wpList_load_mid rfl 54 (.tmp 48) rfl g (off + k * 9) rfl [.int .i64 kind, .int .u64 addr, .int .i64 (sz : Int), .int .u64 v, .slice VB b.length cb, .bool tick, .bool ext, .bool soft, vw] _ HRG.out Try.underlying54 rfl (by kernel_rfl) ?_)
                        | (refine wpList_store_row rfl 54 (.tmp 8) (.tmp 49) rfl wr.heap.size _ rfl rfl 54 _ HZO.out (by kernel_rfl) rfl HONE.out ?_)
                        | (go_at_call 31; refine (HAL _).out.mono ?_; rintro e wz ⟨rfl, rfl⟩; rw [HALV.out])
                        | (at_builtin; refine wpList_append_nilw rfl _ _ rfl _ b rfl rfl HRB2.out (by simp; have := HBL.out; omega) ?_; intro v' w6 hg; have hb : Bs w6 v' b := (by simpa using hg.bs); obtain ⟨A3, c3, rfl⟩ := hb.shape; have gk : Kept [] _ w6 := hg.kept; have DC := Lib.hid (HL2.out.1.claim gk (Value.slice A3 b.length c3).ownBlock.toList (fun y hy => ⟨Grew.new hg y (by simpa using hy), hb.lt y (by simpa using hy)⟩)); have htg := gk.row HL2.out.2.1 (by simp); have HTG := Lib.hid htg; have q1 := row_cell htg 1 (.int .u64 addr) rfl; have q4 := row_cell htg 4 (.slice VB b.length cb) rfl; have HBS := Lib.hid hb; have HVM := Lib.hid (HL2.out.2.2.keep gk (by simp)); clear hg gk hb htg)
                        | (go_at_call 32; refine (s_poke DC.out HS'.out (2147483648 + (a : Int)) (by omega) (by omega) (.slice A3 b.length c3) b HBS.out.rd (by have := HBL.out; omega)).mono ?_; rw [HP.out]; rintro e w5 ⟨rfl, D5, hx⟩; have ht5 := (hx wr.heap.size (by simp)).trans HTG.out; have HL5 := Lib.hid (show LInv w1 pb gm cm n wr.heap.size _ _ s'.ram w5 from ⟨D5.pop (fun x hx => List.mem_append_right _ hx), ht5, HVM.out.keepX (fun g hg => hx g (by simp only [Value.ownBlock, Option.some.injEq] at hg; subst hg; simp))⟩); have u4 := row_cell ht5 4 (.slice VB b.length cb) rfl; clear ht5 D5 hx))
              clear t0 t1 t2 t3 t4 u4 q1 q4 HL2 HZO HRG HRB HRB2 HBB HBL HALV HAL HTG DC HBS HVM
              generalize wr.heap.size = M at *
              obtain ⟨wo, rfl⟩ : ∃ wo : World, wo = wr := ⟨_, rfl⟩
              go_loopw [16] (fun i wq => i = .int .i64 0 ∧ Hid (LInv w1 pb gm cm n M #[.int .i64 kind, .int .u64 addr, .int .i64 (sz : Int), .int .u64 v, .slice VB b.length cb, .bool tick, .bool ext, .bool soft, vw] s' s'.ram wq)) (fun _ _ => 0)
              case atStart => exact ⟨rfl, HL5.out⟩
              case round =>
                obtain ⟨rfl, hq⟩ := hrel
                have HQ := Lib.hid hq.out
                clear hq
                have u4 := row_cell HQ.out.2.1 4 (.slice VB b.length cb) rfl
                have HE := Lib.hid (HQ.out.out HS'.out HN'.out)
                go_wp2
                go_roundw
                case rel => go_light; exact ⟨k + 1, by omega, by go_num, HE.out⟩
                case measure => simp [intOf]; omega

            · have c8 : decide ((a : Int) + (b.length : Int) ≤ (n : Int)) = false := decide_eq_false (by omega)
              clear hfit hbz
              as_aux_lemma =>
              go_wp2_with (first
                        | ((with_reducible refine gate_n (N := 49) rfl ?_); refine wpList_load_mid rfl 54 (.tmp 48) rfl g (off + k * 9) rfl [.int .i64 kind, .int .u64 addr, .int .i64 (sz : Int), .int .u64 v, .slice VB b.length cb, .bool tick, .bool ext, .bool soft, vw] _ HRG.out Try.underlying54 rfl (by kernel_rfl) ?_)
                        | (refine wpList_store_row rfl 54 (.tmp 8) (.tmp 49) rfl wr.heap.size _ rfl rfl 54 _ HZO.out (by kernel_rfl) rfl HONE.out ?_)
                        | (go_at_call 31; refine (HAL _).out.mono ?_; rintro e wz ⟨rfl, rfl⟩; rw [HALV.out])
                        | (at_builtin; refine wpList_append_nilw rfl _ _ rfl _ b rfl rfl HRB2.out (by simp; have := HBL.out; omega) ?_; intro v' w6 hg; have hb : Bs w6 v' b := (by simpa using hg.bs); obtain ⟨A3, c3, rfl⟩ := hb.shape; have gk : Kept [] _ w6 := hg.kept; have DC := Lib.hid (HL2.out.1.claim gk (Value.slice A3 b.length c3).ownBlock.toList (fun y hy => ⟨Grew.new hg y (by simpa using hy), hb.lt y (by simpa using hy)⟩)); have htg := gk.row HL2.out.2.1 (by simp); have HTG := Lib.hid htg; have q1 := row_cell htg 1 (.int .u64 addr) rfl; have q4 := row_cell htg 4 (.slice VB b.length cb) rfl; have HBS := Lib.hid hb; have HVM := Lib.hid (HL2.out.2.2.keep gk (by simp)); clear hg gk hb htg)
                        | (go_at_call 32; refine (s_poke DC.out HS'.out (2147483648 + (a : Int)) (by omega) (by omega) (.slice A3 b.length c3) b HBS.out.rd (by have := HBL.out; omega)).mono ?_; rw [HP.out]; rintro e w5 ⟨rfl, D5, hx⟩; have ht5 := (hx wr.heap.size (by simp)).trans HTG.out; have HL5 := Lib.hid (show LInv w1 pb gm cm n wr.heap.size _ _ s'.ram w5 from ⟨D5.pop (fun x hx => List.mem_append_right _ hx), ht5, HVM.out.keepX (fun g hg => hx g (by simp only [Value.ownBlock, Option.some.injEq] at hg; subst hg; simp))⟩); have u4 := row_cell ht5 4 (.slice VB b.length cb) rfl; clear ht5 D5 hx))
              clear t0 t1 t2 t3 t4 u4 q1 q4 HL2 HZO HRG HRB HRB2 HBB HBL HALV HAL HTG DC HBS HVM
              generalize wr.heap.size = M at *
              obtain ⟨wo, rfl⟩ : ∃ wo : World, wo = wr := ⟨_, rfl⟩
              go_loopw [16] (fun i wq => i = .int .i64 0 ∧ Hid (LInv w1 pb gm cm n M #[.int .i64 kind, .int .u64 addr, .int .i64 (sz : Int), .int .u64 v, .slice VB b.length cb, .bool tick, .bool ext, .bool soft, vw] s' s'.ram wq)) (fun _ _ => 0)
              case atStart => exact ⟨rfl, HL5.out⟩
              case round =>
                obtain ⟨rfl, hq⟩ := hrel
                have HQ := Lib.hid hq.out
                clear hq
                have u4 := row_cell HQ.out.2.1 4 (.slice VB b.length cb) rfl
                have HE := Lib.hid (HQ.out.out HS'.out HN'.out)
                go_wp2
                go_roundw
                case rel => go_light; exact ⟨k + 1, by omega, by go_num, HE.out⟩
                case measure => simp [intOf]; omega

          by_cases hfit : a + b.length ≤ n
          · have hbn : b ≠ [] := fun h => hbz (by rw [h]; rfl)
            have c9 : ((b.length : Int) == 0) = false := by simpa using hbz
            have c8 : decide ((a : Int) + (b.length : Int) ≤ (n : Int)) = true := decide_eq_true (by omega)
            have HP := Lib.hid (show s'.poke (2147483648 + (a : Int)) b = (0, { s' with ram := lay s'.ram a b }) from by rw [mem_poke a b hbn, if_pos (by rw [HN'.out]; exact hfit)])
            have HF := Lib.hid (show a + b.length ≤ s'.ram.length by rw [HN'.out]; exact hfit)
            have HSE := Lib.hid (show St.Ok { s' with ram := lay s'.ram a b } from by have := ok_poke HS'.out (2147483648 + (a : Int)) b HBB.out; rw [HP.out] at this; exact this)
            have HLY := Lib.hid (show ∀ j, j ≤ b.length → (lay s'.ram a (b.take j)).length = n from fun j hj => by rw [lay_length _ _ _ (by rw [List.length_take]; have := HF.out; omega), HN'.out])
            have HTK := Lib.hid (show b.take b.length = b from List.take_length)
            obtain ⟨pc, pg, po, hvv, hpc⟩ : ∃ pc pg po, Value.slice VB b.length cb = .slice (some ⟨pg, po, none⟩) b.length pc ∧ ∀ i x, b[i]? = some x → w1.cell? ⟨pg, po + i, none⟩ = some (.int .u8 x) := mem_src HRB.out hbn
            simp only [Value.slice.injEq] at hvv
            obtain ⟨rfl, -, rfl⟩ := hvv
            have HPC := Lib.hid hpc
            clear hbn hbz hpc
            as_aux_lemma =>
            go_wp2_with (first
                      | ((with_reducible refine gate_n (N := 49) rfl ?_); refine wpList_load_mid rfl 54 (.tmp 48) rfl g (off + k * 9) rfl [.int .i64 kind, .int .u64 addr, .int .i64 (sz : Int), .int .u64 v, .slice (some ⟨pg, po, none⟩) b.length cb, .bool tick, .bool ext, .bool soft, vw] _ HRG.out Try.underlying54 rfl (by kernel_rfl) ?_)
                      | (refine wpList_store_row rfl 54 (.tmp 8) (.tmp 49) rfl wr.heap.size _ rfl rfl 54 _ HZO.out (by kernel_rfl) rfl HONE.out ?_)
                      | (go_at_call 31; refine (HAL _).out.mono ?_; rintro e wz ⟨rfl, rfl⟩; rw [HALV.out])
                      | (at_builtin; refine wpList_append_nilw rfl _ _ rfl _ b rfl rfl HRB2.out (by simp; have := HBL.out; omega) ?_; intro v' w6 hg; have hb : Bs w6 v' b := (by simpa using hg.bs); obtain ⟨A3, c3, rfl⟩ := hb.shape; have gk : Kept [] _ w6 := hg.kept; have DC := Lib.hid (HL2.out.1.claim gk (Value.slice A3 b.length c3).ownBlock.toList (fun y hy => ⟨Grew.new hg y (by simpa using hy), hb.lt y (by simpa using hy)⟩)); have htg := gk.row HL2.out.2.1 (by simp); have HTG := Lib.hid htg; have q1 := row_cell htg 1 (.int .u64 addr) rfl; have q4 := row_cell htg 4 (.slice (some ⟨pg, po, none⟩) b.length cb) rfl; have HBS := Lib.hid hb; have HVM := Lib.hid (HL2.out.2.2.keep gk (by simp)); clear hg gk hb htg)
                      | (go_at_call 32; refine (s_poke DC.out HS'.out (2147483648 + (a : Int)) (by omega) (by omega) (.slice A3 b.length c3) b HBS.out.rd (by have := HBL.out; omega)).mono ?_; rw [HP.out]; rintro e w5 ⟨rfl, D5, hx⟩; have ht5 := (hx wr.heap.size (by simp)).trans HTG.out; have HL5 := Lib.hid (show LInv w1 pb gm cm n wr.heap.size _ _ s'.ram w5 from ⟨D5.pop (fun x hx => List.mem_append_right _ hx), ht5, HVM.out.keepX (fun g hg => hx g (by simp only [Value.ownBlock, Option.some.injEq] at hg; subst hg; simp))⟩); have u4 := row_cell ht5 4 (.slice (some ⟨pg, po, none⟩) b.length cb) rfl; clear ht5 D5 hx))

            clear t0 t1 t2 t3 t4 u4 q1 q4 HL2 HZO HRG HRB HRB2 HBL HALV HAL HTG DC HBS HVM
            generalize wr.heap.size = M at *
            obtain ⟨wo, rfl⟩ : ∃ wo : World, wo = wr := ⟨_, rfl⟩
            go_loopw [16] (fun i wq => ∃ j : Nat, j ≤ b.length ∧ i = .int .i64 j ∧ Hid (LInv w1 pb gm cm n M #[.int .i64 kind, .int .u64 addr, .int .i64 (sz : Int), .int .u64 v, .slice (some ⟨pg, po, none⟩) b.length cb, .bool tick, .bool ext, .bool soft, vw] { s' with ram := lay s'.ram a b } (lay s'.ram a (b.take j)) wq)) (fun i _ => b.length - (intOf i).toNat)
            case atStart => exact ⟨0, Nat.zero_le _, rfl, by show LInv _ _ _ _ _ _ _ _ _ _; rw [List.take_zero, lay_nil]; exact HL5.out⟩
            case round =>
              obtain ⟨j, hj, rfl, hq⟩ := hrel
              have HQ := Lib.hid hq.out
              clear hq
              have u4 := row_cell HQ.out.2.1 4 (.slice (some ⟨pg, po, none⟩) b.length cb) rfl
              by_cases hlt2 : j < b.length
              · obtain ⟨x, hx⟩ : ∃ x, (lay s'.ram a (b.take j))[a + j]? = some x := ⟨_, List.getElem?_eq_getElem (by rw [HLY.out j hj]; omega)⟩
                obtain ⟨y, hy⟩ : ∃ y, b[j]? = some y := ⟨_, List.getElem?_eq_getElem hlt2⟩
                have d1 : wr.cell? ⟨gm, a + j, none⟩ = some (.int .u8 x) := HQ.out.2.2.cell rfl (a + j) x hx
                have d2 : wr.frozen? ⟨gm, a + j, none⟩ = false := HQ.out.2.2.frozen rfl (a + j)
                have e0 := HPC.out j y hy
                have d3 : wr.cell? ⟨pg, po + j, none⟩ = some (.int .u8 y) := (HQ.out.1.kept.cell (p := ⟨pg, po + j, none⟩) (World.block_lt_of_cell? w1 _ e0) (by simp)).trans e0
                have y0 := (HBB.out y (List.mem_of_getElem? hy)).1
                have y1 := (HBB.out y (List.mem_of_getElem? hy)).2
                have HY := Lib.hid hy
                clear hx hy e0
                go_wp2
                go_roundw
                case rel =>
                  go_light
                  refine ⟨j + 1, by omega, by go_num, ?_⟩
                  have hkl : (b.take j).length = j := by rw [List.length_take]; omega
                  have h1 := HQ.out.set HG0.out HM.out (a + j) y (by rw [HLY.out j hj]; omega)
                  have h2 := lay_snoc s'.ram a (b.take j) y (by rw [hkl]; have := HF.out; omega)
                  rw [hkl, take_snoc b j y HY.out] at h2
                  rw [h2] at h1
                  exact h1
                case measure => simp [intOf]; omega
              · have hjb : j = b.length := by omega
                have HE := Lib.hid (show MInv w1 pb gm cm n wr from by have h3 := HQ.out; rw [hjb, HTK.out] at h3; exact LInv.out h3 HSE.out (by have := HLY.out b.length (Nat.le_refl _); rw [HTK.out] at this; exact this))
                go_wp2
                go_roundw
                case rel => go_light; exact ⟨k + 1, by omega, by go_num, HE.out⟩
                case measure => simp [intOf]; omega
          have hbn : b ≠ [] := fun h => hbz (by rw [h]; rfl)
          have c9 : ((b.length : Int) == 0) = false := by simpa using hbz
          have c8 : decide ((a : Int) + (b.length : Int) ≤ (n : Int)) = false := decide_eq_false (by omega)
          have c7 : decide ((0 : Int) < (b.length : Int)) = true := decide_eq_true (by omega)
          have c6 : 0 < b.length := by omega
          have c5 : decide (0 < b.length) = true := decide_eq_true c6
          have HP := Lib.hid (show s'.poke (2147483648 + (a : Int)) b = (30, s') from by rw [mem_poke a b hbn, if_neg (by rw [HN'.out]; exact hfit)])
          clear hbn hbz hfit
          as_aux_lemma =>
          go_wp2_with (first
                    | ((with_reducible refine gate_n (N := 49) rfl ?_); refine wpList_load_mid rfl 54 (.tmp 48) rfl g (off + k * 9) rfl [.int .i64 kind, .int .u64 addr, .int .i64 (sz : Int), .int .u64 v, .slice VB b.length cb, .bool tick, .bool ext, .bool soft, vw] _ HRG.out Try.underlying54 rfl (by kernel_rfl) ?_)
                    | (refine wpList_store_row rfl 54 (.tmp 8) (.tmp 49) rfl wr.heap.size _ rfl rfl 54 _ HZO.out (by kernel_rfl) rfl HONE.out ?_)
                    | (go_at_call 31; refine (HAL _).out.mono ?_; rintro e wz ⟨rfl, rfl⟩; rw [HALV.out])
                    | (at_builtin; refine wpList_append_nilw rfl _ _ rfl _ b rfl rfl HRB2.out (by simp; have := HBL.out; omega) ?_; intro v' w6 hg; have hb : Bs w6 v' b := (by simpa using hg.bs); obtain ⟨A3, c3, rfl⟩ := hb.shape; have gk : Kept [] _ w6 := hg.kept; have DC := Lib.hid (HL2.out.1.claim gk (Value.slice A3 b.length c3).ownBlock.toList (fun y hy => ⟨Grew.new hg y (by simpa using hy), hb.lt y (by simpa using hy)⟩)); have htg := gk.row HL2.out.2.1 (by simp); have HTG := Lib.hid htg; have q1 := row_cell htg 1 (.int .u64 addr) rfl; have q4 := row_cell htg 4 (.slice VB b.length cb) rfl; have HBS := Lib.hid hb; have HVM := Lib.hid (HL2.out.2.2.keep gk (by simp)); clear hg gk hb htg)
                    | (go_at_call 32; refine (s_poke DC.out HS'.out (2147483648 + (a : Int)) (by omega) (by omega) (.slice A3 b.length c3) b HBS.out.rd (by have := HBL.out; omega)).mono ?_; rw [HP.out]; rintro e w5 ⟨rfl, D5, hx⟩; have ht5 := (hx wr.heap.size (by simp)).trans HTG.out; have HL5 := Lib.hid (show LInv w1 pb gm cm n wr.heap.size _ _ s'.ram w5 from ⟨D5.pop (fun x hx => List.mem_append_right _ hx), ht5, HVM.out.keepX (fun g hg => hx g (by simp only [Value.ownBlock, Option.some.injEq] at hg; subst hg; simp))⟩); have u4 := row_cell ht5 4 (.slice VB b.length cb) rfl; clear ht5 D5 hx))
          clear t0 t1 t2 t3 t4 u4 q1 q4 HL2 HZO HRG HRB HRB2 HBB HBL HALV HAL HTG DC HBS HVM
          generalize wr.heap.size = M at *
          obtain ⟨wo, rfl⟩ : ∃ wo : World, wo = wr := ⟨_, rfl⟩
          go_loopw [16] (fun i wq => i = .int .i64 0 ∧ Hid (LInv w1 pb gm cm n M #[.int .i64 kind, .int .u64 addr, .int .i64 (sz : Int), .int .u64 v, .slice VB b.length cb, .bool tick, .bool ext, .bool soft, vw] s' s'.ram wq)) (fun _ _ => 0)
          case atStart => exact ⟨rfl, HL5.out⟩
          case round =>
            obtain ⟨rfl, hq⟩ := hrel
            have HQ := Lib.hid hq.out
            clear hq
            have u4 := row_cell HQ.out.2.1 4 (.slice VB b.length cb) rfl
            have HE := Lib.hid (HQ.out.out HS'.out HN'.out)
            go_wp2
            go_roundw
            case rel => go_light; exact ⟨k + 1, by omega, by go_num, HE.out⟩
            case measure => simp [intOf]; omega
        have hk7 := hkd
        clear hkd
        have b1 : (kind == 1) = false := by simpa using hk1
        have b2 : (kind == 2) = false := by simpa using hk2
        have b7 : (kind == 7) = false := by simpa using hk7
        clear hk1 hk2 hk7
        have HE := Lib.hid (LInv.out HL2.out HS'.out HN'.out)
        as_aux_lemma =>
        go_wp2_with (first
          | ((with_reducible refine gate_n (N := 49) rfl ?_); refine wpList_load_mid rfl 54 (.tmp 48) rfl g (off + k * 9) rfl [.int .i64 kind, .int .u64 addr, .int .i64 (sz : Int), .int .u64 v, .slice VB b.length cb, .bool tick, .bool ext, .bool soft, vw] _ HRG.out Try.underlying54 rfl (by kernel_rfl) ?_)
          | (refine wpList_store_row rfl 54 (.tmp 8) (.tmp 49) rfl wr.heap.size _ rfl rfl 54 _ HZO.out (by kernel_rfl) rfl HONE.out ?_)
          | (go_at_call 31; refine (HAL _).out.mono ?_; rintro e wz ⟨rfl, rfl⟩; rw [HALV.out])
          )
        go_wp2
        go_roundw
        case rel => go_light; exact ⟨k + 1, by omega, by go_num, HE.out⟩
        case measure => simp [intOf]; omega
      cases hal : alignedB (2147483648 + (a : Int)) size
      · clear hin
        have HALV := Lib.hid hal
        have HNO := Lib.hid (show ¬ (alignedB (2147483648 + (a : Int)) size = true ∧ (a : Int) + size ≤ s'.ram.length) from fun h => by rw [hal] at h; simp at h)
        clear hal
        by_cases hkd : kind = 1
        · skip
          have b1 : (kind == 1) = true := by rw [hkd]; rfl
          have b2 : (kind == 2) = false := by rw [hkd]; rfl
          have b7 : (kind == 7) = false := by rw [hkd]; rfl
          clear hkd
          as_aux_lemma =>
          go_wp2_with (first
            | ((with_reducible refine gate_n (N := 49) rfl ?_); refine wpList_load_mid rfl 54 (.tmp 48) rfl g (off + k * 9) rfl [.int .i64 kind, .int .u64 addr, .int .i64 size, .int .u64 v, .slice VB b.length cb, .bool tick, .bool ext, .bool soft, vw] _ HRG.out Try.underlying54 rfl (by kernel_rfl) ?_)
            | (refine wpList_store_row rfl 54 (.tmp 8) (.tmp 49) rfl wr.heap.size _ rfl rfl 54 _ HZO.out (by kernel_rfl) rfl HONE.out ?_)
            | (go_at_call 31; refine (HAL _).out.mono ?_; rintro e wz ⟨rfl, rfl⟩; rw [HALV.out])
            | (go_at_call 29; refine (s_load HL2.out.1 HS'.out (2147483648 + (a : Int)) size (by omega) (by omega) s0 s1).mono ?_; rw [mem_load_out a size HNO.out]; rintro e w5 ⟨rfl, D5, hx⟩; have ht5 := (hx wr.heap.size (by simp)).trans HL2.out.2.1; have HL5 := Lib.hid (show LInv w1 pb gm cm n wr.heap.size _ _ s'.ram w5 from ⟨D5, ht5, HL2.out.2.2.keepX (fun g hg => hx g (by simp only [Value.ownBlock, Option.some.injEq] at hg; subst hg; simp))⟩); have u2 := row_cell ht5 2 (.int .i64 size) rfl; clear ht5 D5 hx))

          clear t0 t1 t2 t3 t4 u2 HL2 HZO HRG HRB HBB HBL HALV HAL
          generalize wr.heap.size = M at *
          obtain ⟨wo, rfl⟩ : ∃ wo : World, wo = wr := ⟨_, rfl⟩
          go_loopw [19, 20] (fun x i wq => x = .int .u64 0 ∧ i = .int .i64 0 ∧ Hid (LInv w1 pb gm cm n M #[.int .i64 kind, .int .u64 addr, .int .i64 size, .int .u64 v, .slice VB b.length cb, .bool tick, .bool ext, .bool soft, vw] s' s'.ram wq)) (fun _ _ _ => 0)
          case atStart => exact ⟨rfl, rfl, HL5.out⟩
          case round =>
            obtain ⟨rfl, rfl, hq⟩ := hrel
            have HQ := Lib.hid hq.out
            clear hq
            have u2 := row_cell HQ.out.2.1 2 (.int .i64 size) rfl
            have HE := Lib.hid (HQ.out.out HS'.out HN'.out)
            by_cases hlt2 : 0 < size
            · have e9 : decide (0 < size) = true := decide_eq_true hlt2
              go_wp2
              go_roundw
              case rel => go_light; exact ⟨k + 1, by omega, by go_num, HE.out⟩
              case measure => simp [intOf]; omega
            · have e9 : decide (0 < size) = false := decide_eq_false hlt2
              go_wp2
              go_roundw
              case rel => go_light; exact ⟨k + 1, by omega, by go_num, HE.out⟩
              case measure => simp [intOf]; omega
        have hk1 := hkd
        clear hkd
        by_cases hkd : kind = 2
        · skip
          have b1 : (kind == 1) = false := by rw [hkd]; rfl
          have b2 : (kind == 2) = true := by rw [hkd]; rfl
          have b7 : (kind == 7) = false := by rw [hkd]; rfl
          clear hkd
          as_aux_lemma =>
          go_wp2_with (first
            | ((with_reducible refine gate_n (N := 49) rfl ?_); refine wpList_load_mid rfl 54 (.tmp 48) rfl g (off + k * 9) rfl [.int .i64 kind, .int .u64 addr, .int .i64 size, .int .u64 v, .slice VB b.length cb, .bool tick, .bool ext, .bool soft, vw] _ HRG.out Try.underlying54 rfl (by kernel_rfl) ?_)
            | (refine wpList_store_row rfl 54 (.tmp 8) (.tmp 49) rfl wr.heap.size _ rfl rfl 54 _ HZO.out (by kernel_rfl) rfl HONE.out ?_)
            | (go_at_call 31; refine (HAL _).out.mono ?_; rintro e wz ⟨rfl, rfl⟩; rw [HALV.out])
            | (go_at_call 30; refine (s_store HL2.out.1 HS'.out (2147483648 + (a : Int)) size v (by omega) (by omega) s0 s1 v0 v1).mono ?_; rw [mem_store_out a size v HNO.out]; rintro e w5 ⟨rfl, D5, hx⟩; have ht5 := (hx wr.heap.size (by simp)).trans HL2.out.2.1; have HL5 := Lib.hid (show LInv w1 pb gm cm n wr.heap.size _ _ s'.ram w5 from ⟨D5, ht5, HL2.out.2.2.keepX (fun g hg => hx g (by simp only [Value.ownBlock, Option.some.injEq] at hg; subst hg; simp))⟩); have u2 := row_cell ht5 2 (.int .i64 size) rfl; clear ht5 D5 hx))

          clear t0 t1 t2 t3 t4 u2 HL2 HZO HRG HRB HBB HBL HALV HAL
          generalize wr.heap.size = M at *
          obtain ⟨wo, rfl⟩ : ∃ wo : World, wo = wr := ⟨_, rfl⟩
          go_loopw [13] (fun i wq => i = .int .i64 0 ∧ Hid (LInv w1 pb gm cm n M #[.int .i64 kind, .int .u64 addr, .int .i64 size, .int .u64 v, .slice VB b.length cb, .bool tick, .bool ext, .bool soft, vw] s' s'.ram wq)) (fun _ _ => 0)
          case atStart => exact ⟨rfl, HL5.out⟩
          case round =>
            obtain ⟨rfl, hq⟩ := hrel
            have HQ := Lib.hid hq.out
            clear hq
            have u2 := row_cell HQ.out.2.1 2 (.int .i64 size) rfl
            have HE := Lib.hid (HQ.out.out HS'.out HN'.out)
            by_cases hlt2 : 0 < size
            · have e9 : decide (0 < size) = true := decide_eq_true hlt2
              go_wp2
              go_roundw
              case rel => go_light; exact ⟨k + 1, by omega, by go_num, HE.out⟩
              case measure => simp [intOf]; omega
            · have e9 : decide (0 < size) = false := decide_eq_false hlt2
              go_wp2
              go_roundw
              case rel => go_light; exact ⟨k + 1, by omega, by go_num, HE.out⟩
              case measure => simp [intOf]; omega
        have hk2 := hkd
        clear hkd
        by_cases hkd : kind = 7
        · skip
          have b1 : (kind == 1) = false := by rw [hkd]; rfl
          have b2 : (kind == 2) = false := by rw [hkd]; rfl
          have b7 : (kind == 7) = true := by rw [hkd]; rfl
          clear hkd
          have HRB2 := Lib.hid (HRB.out.keep HL2.out.1.kept)
          have hbl0 : (b.length : Int) ≤ 140737488351232 := by have := HBL.out; omega
          by_cases hbz : b.length = 0
          · have hbn : b = [] := List.length_eq_zero_iff.1 hbz
            have HP := Lib.hid (show s'.poke (2147483648 + (a : Int)) b = (0, s') from by unfold St.poke; rw [if_pos hbn])
            have c9 : ((b.length : Int) == 0) = true := by simpa using hbz
            have c7 : decide ((0 : Int) < (b.length : Int)) = false := decide_eq_false (by omega)
            have c6 : ¬ 0 < b.length := by omega
            have c5 : decide (0 < b.length) = false := decide_eq_false c6
            clear hbn
            by_cases hfit : a + b.length ≤ n
            · have c8 : decide ((a : Int) + (b.length : Int) ≤ (n : Int)) = true := decide_eq_true (by omega)
              clear hfit hbz
              as_aux_lemma =>
              go_wp2_with (first
                        | ((with_reducible refine gate_n (N := 49) rfl ?_); refine wpList_load_mid rfl 54 (.tmp 48) rfl g (off + k * 9) rfl [.int .i64 kind, .int .u64 addr, .int .i64 size, .int .u64 v, .slice VB b.length cb, .bool tick, .bool ext, .bool soft, vw] _ HRG.out Try.underlying54 rfl (by kernel_rfl) ?_)
                        | (refine wpList_store_row rfl 54 (.tmp 8) (.tmp 49) rfl wr.heap.size _ rfl rfl 54 _ HZO.out (by kernel_rfl) rfl HONE.out ?_)
                        | (go_at_call 31; refine (HAL _).out.mono ?_; rintro e wz ⟨rfl, rfl⟩; rw [HALV.out])
                        | (at_builtin; refine wpList_append_nilw rfl _ _ rfl _ b rfl rfl HRB2.out (by simp; have := HBL.out; omega) ?_; intro v' w6 hg; have hb : Bs w6 v' b := (by simpa using hg.bs); obtain ⟨A3, c3, rfl⟩ := hb.shape; have gk : Kept [] _ w6 := hg.kept; have DC := Lib.hid (HL2.out.1.claim gk (Value.slice A3 b.length c3).ownBlock.toList (fun y hy => ⟨Grew.new hg y (by simpa using hy), hb.lt y (by simpa using hy)⟩)); have htg := gk.row HL2.out.2.1 (by simp); have HTG := Lib.hid htg; have q1 := row_cell htg 1 (.int .u64 addr) rfl; have q4 := row_cell htg 4 (.slice VB b.length cb) rfl; have HBS := Lib.hid hb; have HVM := Lib.hid (HL2.out.2.2.keep gk (by simp)); clear hg gk hb htg)
                        | (go_at_call 32; refine (s_poke DC.out HS'.out (2147483648 + (a : Int)) (by omega) (by omega) (.slice A3 b.length c3) b HBS.out.rd (by have := HBL.out; omega)).mono ?_; rw [HP.out]; rintro e w5 ⟨rfl, D5, hx⟩; have ht5 := (hx wr.heap.size (by simp)).trans HTG.out; have HL5 := Lib.hid (show LInv w1 pb gm cm n wr.heap.size _ _ s'.ram w5 from ⟨D5.pop (fun x hx => List.mem_append_right _ hx), ht5, HVM.out.keepX (fun g hg => hx g (by simp only [Value.ownBlock, Option.some.injEq] at hg; subst hg; simp))⟩); have u4 := row_cell ht5 4 (.slice VB b.length cb) rfl; clear ht5 D5 hx))
              clear t0 t1 t2 t3 t4 u4 q1 q4 HL2 HZO HRG HRB HRB2 HBB HBL HALV HAL HTG DC HBS HVM
              generalize wr.heap.size = M at *
              obtain ⟨wo, rfl⟩ : ∃ wo : World, wo = wr := ⟨_, rfl⟩
              go_loopw [16] (fun i wq => i = .int .i64 0 ∧ Hid (LInv w1 pb gm cm n M #[.int .i64 kind, .int .u64 addr, .int .i64 size, .int .u64 v, .slice VB b.length cb, .bool tick, .bool ext, .bool soft, vw] s' s'.ram wq)) (fun _ _ => 0)
              case atStart => exact ⟨rfl, HL5.out⟩
              case round =>
                obtain ⟨rfl, hq⟩ := hrel
                have HQ := Lib.hid hq.out
                clear hq
                have u4 := row_cell HQ.out.2.1 4 (.slice VB b.length cb) rfl
                have HE := Lib.hid (HQ.out.out HS'.out HN'.out)
                go_wp2
                go_roundw
                case rel => go_light; exact ⟨k + 1, by omega, by go_num, HE.out⟩
                case measure => simp [intOf]; omega

            · have c8 : decide ((a : Int) + (b.length : Int) ≤ (n : Int)) = false := decide_eq_false (by omega)
              clear hfit hbz
              as_aux_lemma =>
              go_wp2_with (first
                        | ((with_reducible refine gate_n (N := 49) rfl ?_); refine wpList_load_mid rfl 54 (.tmp 48) rfl g (off + k * 9) rfl [.int .i64 kind, .int .u64 addr, .int .i64 size, .int .u64 v, .slice VB b.length cb, .bool tick, .bool ext, .bool soft, vw] _ HRG.out Try.underlying54 rfl (by kernel_rfl) ?_)
                        | (refine wpList_store_row rfl 54 (.tmp 8) (.tmp 49) rfl wr.heap.size _ rfl rfl 54 _ HZO.out (by kernel_rfl) rfl HONE.out ?_)
                        | (go_at_call 31; refine (HAL _).out.mono ?_; rintro e wz ⟨rfl, rfl⟩; rw [HALV.out])
                        | (at_builtin; refine wpList_append_nilw rfl _ _ rfl _ b rfl rfl HRB2.out (by simp; have := HBL.out; omega) ?_; intro v' w6 hg; have hb : Bs w6 v' b := (by simpa using hg.bs); obtain ⟨A3, c3, rfl⟩ := hb.shape; have gk : Kept [] _ w6 := hg.kept; have DC := Lib.hid (HL2.out.1.claim gk (Value.slice A3 b.length c3).ownBlock.toList (fun y hy => ⟨Grew.new hg y (by simpa using hy), hb.lt y (by simpa using hy)⟩)); have htg := gk.row HL2.out.2.1 (by simp); have HTG := Lib.hid htg; have q1 := row_cell htg 1 (.int .u64 addr) rfl; have q4 := row_cell htg 4 (.slice VB b.length cb) rfl; have HBS := Lib.hid hb; have HVM := Lib.hid (HL2.out.2.2.keep gk (by simp)); clear hg gk hb htg)
                        | (go_at_call 32; refine (s_poke DC.out HS'.out (2147483648 + (a : Int)) (by omega) (by omega) (.slice A3 b.length c3) b HBS.out.rd (by have := HBL.out; omega)).mono ?_; rw [HP.out]; rintro e w5 ⟨rfl, D5, hx⟩; have ht5 := (hx wr.heap.size (by simp)).trans HTG.out; have HL5 := Lib.hid (show LInv w1 pb gm cm n wr.heap.size _ _ s'.ram w5 from ⟨D5.pop (fun x hx => List.mem_append_right _ hx), ht5, HVM.out.keepX (fun g hg => hx g (by simp only [Value.ownBlock, Option.some.injEq] at hg; subst hg; simp))⟩); have u4 := row_cell ht5 4 (.slice VB b.length cb) rfl; clear ht5 D5 hx))
              clear t0 t1 t2 t3 t4 u4 q1 q4 HL2 HZO HRG HRB HRB2 HBB HBL HALV HAL HTG DC HBS HVM
              generalize wr.heap.size = M at *
              obtain ⟨wo, rfl⟩ : ∃ wo : World, wo = wr := ⟨_, rfl⟩
              go_loopw [16] (fun i wq => i = .int .i64 0 ∧ Hid (LInv w1 pb gm cm n M #[.int .i64 kind, .int .u64 addr, .int .i64 size, .int .u64 v, .slice VB b.length cb, .bool tick, .bool ext, .bool soft, vw] s' s'.ram wq)) (fun _ _ => 0)
              case atStart => exact ⟨rfl, HL5.out⟩
              case round =>
                obtain ⟨rfl, hq⟩ := hrel
                have HQ := Lib.hid hq.out
                clear hq
                have u4 := row_cell HQ.out.2.1 4 (.slice VB b.length cb) rfl
                have HE := Lib.hid (HQ.out.out HS'.out HN'.out)
                go_wp2
                go_roundw
                case rel => go_light; exact ⟨k + 1, by omega, by go_num, HE.out⟩
                case measure => simp [intOf]; omega

          by_cases hfit : a + b.length ≤ n
          · have hbn : b ≠ [] := fun h => hbz (by rw [h]; rfl)
            have c9 : ((b.length : Int) == 0) = false := by simpa using hbz
            have c8 : decide ((a : Int) + (b.length : Int) ≤ (n : Int)) = true := decide_eq_true (by omega)
            have HP := Lib.hid (show s'.poke (2147483648 + (a : Int)) b = (0, { s' with ram := lay s'.ram a b }) from by rw [mem_poke a b hbn, if_pos (by rw [HN'.out]; exact hfit)])
            have HF := Lib.hid (show a + b.length ≤ s'.ram.length by rw [HN'.out]; exact hfit)
            have HSE := Lib.hid (show St.Ok { s' with ram := lay s'.ram a b } from by have := ok_poke HS'.out (2147483648 + (a : Int)) b HBB.out; rw [HP.out] at this; exact this)
            have HLY := Lib.hid (show ∀ j, j ≤ b.length → (lay s'.ram a (b.take j)).length = n from fun j hj => by rw [lay_length _ _ _ (by rw [List.length_take]; have := HF.out; omega), HN'.out])
            have HTK := Lib.hid (show b.take b.length = b from List.take_length)
            obtain ⟨pc, pg, po, hvv, hpc⟩ : ∃ pc pg po, Value.slice VB b.length cb = .slice (some ⟨pg, po, none⟩) b.length pc ∧ ∀ i x, b[i]? = some x → w1.cell? ⟨pg, po + i, none⟩ = some (.int .u8 x) := mem_src HRB.out hbn
            simp only [Value.slice.injEq] at hvv
            obtain ⟨rfl, -, rfl⟩ := hvv
            have HPC := Lib.hid hpc
            clear hbn hbz hpc
            as_aux_lemma =>
            go_wp2_with (first
                      | ((with_reducible refine gate_n (N := 49) rfl ?_); refine wpList_load_mid rfl 54 (.tmp 48) rfl g (off + k * 9) rfl [.int .i64 kind, .int .u64 addr, .int .i64 size, .int .u64 v, .slice (some ⟨pg, po, none⟩) b.length cb, .bool tick, .bool ext, .bool soft, vw] _ HRG.out Try.underlying54 rfl (by kernel_rfl) ?_)
                      | (refine wpList_store_row rfl 54 (.tmp 8) (.tmp 49) rfl wr.heap.size _ rfl rfl 54 _ HZO.out (by kernel_rfl) rfl HONE.out ?_)
                      | (go_at_call 31; refine (HAL _).out.mono ?_; rintro e wz ⟨rfl, rfl⟩; rw [HALV.out])
                      | (at_builtin; refine wpList_append_nilw rfl _ _ rfl _ b rfl rfl HRB2.out (by simp; have := HBL.out; omega) ?_; intro v' w6 hg; have hb : Bs w6 v' b := (by simpa using hg.bs); obtain ⟨A3, c3, rfl⟩ := hb.shape; have gk : Kept [] _ w6 := hg.kept; have DC := Lib.hid (HL2.out.1.claim gk (Value.slice A3 b.length c3).ownBlock.toList (fun y hy => ⟨Grew.new hg y (by simpa using hy), hb.lt y (by simpa using hy)⟩)); have htg := gk.row HL2.out.2.1 (by simp); have HTG := Lib.hid htg; have q1 := row_cell htg 1 (.int .u64 addr) rfl; have q4 := row_cell htg 4 (.slice (some ⟨pg, po, none⟩) b.length cb) rfl; have HBS := Lib.hid hb; have HVM := Lib.hid (HL2.out.2.2.keep gk (by simp)); clear hg gk hb htg)
                      | (go_at_call 32; refine (s_poke DC.out HS'.out (2147483648 + (a : Int)) (by omega) (by omega) (.slice A3 b.length c3) b HBS.out.rd (by have := HBL.out; omega)).mono ?_; rw [HP.out]; rintro e w5 ⟨rfl, D5, hx⟩; have ht5 := (hx wr.heap.size (by simp)).trans HTG.out; have HL5 := Lib.hid (show LInv w1 pb gm cm n wr.heap.size _ _ s'.ram w5 from ⟨D5.pop (fun x hx => List.mem_append_right _ hx), ht5, HVM.out.keepX (fun g hg => hx g (by simp only [Value.ownBlock, Option.some.injEq] at hg; subst hg; simp))⟩); have u4 := row_cell ht5 4 (.slice (some ⟨pg, po, none⟩) b.length cb) rfl; clear ht5 D5 hx))

            clear t0 t1 t2 t3 t4 u4 q1 q4 HL2 HZO HRG HRB HRB2 HBL HALV HAL HTG DC HBS HVM
            generalize wr.heap.size = M at *
            obtain ⟨wo, rfl⟩ : ∃ wo : World, wo = wr := ⟨_, rfl⟩
            go_loopw [16] (fun i wq => ∃ j : Nat, j ≤ b.length ∧ i = .int .i64 j ∧ Hid (LInv w1 pb gm cm n M #[.int .i64 kind, .int .u64 addr, .int .i64 size, .int .u64 v, .slice (some ⟨pg, po, none⟩) b.length cb, .bool tick, .bool ext, .bool soft, vw] { s' with ram := lay s'.ram a b } (lay s'.ram a (b.take j)) wq)) (fun i _ => b.length - (intOf i).toNat)
            case atStart => exact ⟨0, Nat.zero_le _, rfl, by show LInv _ _ _ _ _ _ _ _ _ _; rw [List.take_zero, lay_nil]; exact HL5.out⟩
            case round =>
              obtain ⟨j, hj, rfl, hq⟩ := hrel
              have HQ := Lib.hid hq.out
              clear hq
              have u4 := row_cell HQ.out.2.1 4 (.slice (some ⟨pg, po, none⟩) b.length cb) rfl
              by_cases hlt2 : j < b.length
              · obtain ⟨x, hx⟩ : ∃ x, (lay s'.ram a (b.take j))[a + j]? = some x := ⟨_, List.getElem?_eq_getElem (by rw [HLY.out j hj]; omega)⟩
                obtain ⟨y, hy⟩ : ∃ y, b[j]? = some y := ⟨_, List.getElem?_eq_getElem hlt2⟩
                have d1 : wr.cell? ⟨gm, a + j, none⟩ = some (.int .u8 x) := HQ.out.2.2.cell rfl (a + j) x hx
                have d2 : wr.frozen? ⟨gm, a + j, none⟩ = false := HQ.out.2.2.frozen rfl (a + j)
                have e0 := HPC.out j y hy
                have d3 : wr.cell? ⟨pg, po + j, none⟩ = some (.int .u8 y) := (HQ.out.1.kept.cell (p := ⟨pg, po + j, none⟩) (World.block_lt_of_cell? w1 _ e0) (by simp)).trans e0
                have y0 := (HBB.out y (List.mem_of_getElem? hy)).1
                have y1 := (HBB.out y (List.mem_of_getElem? hy)).2
                have HY := Lib.hid hy
                clear hx hy e0
                go_wp2
                go_roundw
                case rel =>
                  go_light
                  refine ⟨j + 1, by omega, by go_num, ?_⟩
                  have hkl : (b.take j).length = j := by rw [List.length_take]; omega
                  have h1 := HQ.out.set HG0.out HM.out (a + j) y (by rw [HLY.out j hj]; omega)
                  have h2 := lay_snoc s'.ram a (b.take j) y (by rw [hkl]; have := HF.out; omega)
                  rw [hkl, take_snoc b j y HY.out] at h2
                  rw [h2] at h1
                  exact h1
                case measure => simp [intOf]; omega
              · have hjb : j = b.length := by omega
                have HE := Lib.hid (show MInv w1 pb gm cm n wr from by have h3 := HQ.out; rw [hjb, HTK.out] at h3; exact LInv.out h3 HSE.out (by have := HLY.out b.length (Nat.le_refl _); rw [HTK.out] at this; exact this))
                go_wp2
                go_roundw
                case rel => go_light; exact ⟨k + 1, by omega, by go_num, HE.out⟩
                case measure => simp [intOf]; omega
          have hbn : b ≠ [] := fun h => hbz (by rw [h]; rfl)
          have c9 : ((b.length : Int) == 0) = false := by simpa using hbz
          have c8 : decide ((a : Int) + (b.length : Int) ≤ (n : Int)) = false := decide_eq_false (by omega)
          have c7 : decide ((0 : Int) < (b.length : Int)) = true := decide_eq_true (by omega)
          have c6 : 0 < b.length := by omega
          have c5 : decide (0 < b.length) = true := decide_eq_true c6
          have HP := Lib.hid (show s'.poke (2147483648 + (a : Int)) b = (30, s') from by rw [mem_poke a b hbn, if_neg (by rw [HN'.out]; exact hfit)])
          clear hbn hbz hfit
          as_aux_lemma =>
          go_wp2_with (first
                    | ((with_reducible refine gate_n (N := 49) rfl ?_); refine wpList_load_mid rfl 54 (.tmp 48) rfl g (off + k * 9) rfl [.int .i64 kind, .int .u64 addr, .int .i64 size, .int .u64 v, .slice VB b.length cb, .bool tick, .bool ext, .bool soft, vw] _ HRG.out Try.underlying54 rfl (by kernel_rfl) ?_)
                    | (refine wpList_store_row rfl 54 (.tmp 8) (.tmp 49) rfl wr.heap.size _ rfl rfl 54 _ HZO.out (by kernel_rfl) rfl HONE.out ?_)
                    | (go_at_call 31; refine (HAL _).out.mono ?_; rintro e wz ⟨rfl, rfl⟩; rw [HALV.out])
                    | (at_builtin; refine wpList_append_nilw rfl _ _ rfl _ b rfl rfl HRB2.out (by simp; have := HBL.out; omega) ?_; intro v' w6 hg; have hb : Bs w6 v' b := (by simpa using hg.bs); obtain ⟨A3, c3, rfl⟩ := hb.shape; have gk : Kept [] _ w6 := hg.kept; have DC := Lib.hid (HL2.out.1.claim gk (Value.slice A3 b.length c3).ownBlock.toList (fun y hy => ⟨Grew.new hg y (by simpa using hy), hb.lt y (by simpa using hy)⟩)); have htg := gk.row HL2.out.2.1 (by simp); have HTG := Lib.hid htg; have q1 := row_cell htg 1 (.int .u64 addr) rfl; have q4 := row_cell htg 4 (.slice VB b.length cb) rfl; have HBS := Lib.hid hb; have HVM := Lib.hid (HL2.out.2.2.keep gk (by simp)); clear hg gk hb htg)
                    | (go_at_call 32; refine (s_poke DC.out HS'.out (2147483648 + (a : Int)) (by omega) (by omega) (.slice A3 b.length c3) b HBS.out.rd (by have := HBL.out; omega)).mono ?_; rw [HP.out]; rintro e w5 ⟨rfl, D5, hx⟩; have ht5 := (hx wr.heap.size (by simp)).trans HTG.out; have HL5 := Lib.hid (show LInv w1 pb gm cm n wr.heap.size _ _ s'.ram w5 from ⟨D5.pop (fun x hx => List.mem_append_right _ hx), ht5, HVM.out.keepX (fun g hg => hx g (by simp only [Value.ownBlock, Option.some.injEq] at hg; subst hg; simp))⟩); have u4 := row_cell ht5 4 (.slice VB b.length cb) rfl; clear ht5 D5 hx))
          clear t0 t1 t2 t3 t4 u4 q1 q4 HL2 HZO HRG HRB HRB2 HBB HBL HALV HAL HTG DC HBS HVM
          generalize wr.heap.size = M at *
          obtain ⟨wo, rfl⟩ : ∃ wo : World, wo = wr := ⟨_, rfl⟩
          go_loopw [16] (fun i wq => i = .int .i64 0 ∧ Hid (LInv w1 pb gm cm n M #[.int .i64 kind, .int .u64 addr, .int .i64 size, .int .u64 v, .slice VB b.length cb, .bool tick, .bool ext, .bool soft, vw] s' s'.ram wq)) (fun _ _ => 0)
          case atStart => exact ⟨rfl, HL5.out⟩
          case round =>
            obtain ⟨rfl, hq⟩ := hrel
            have HQ := Lib.hid hq.out
            clear hq
            have u4 := row_cell HQ.out.2.1 4 (.slice VB b.length cb) rfl
            have HE := Lib.hid (HQ.out.out HS'.out HN'.out)
            go_wp2
            go_roundw
            case rel => go_light; exact ⟨k + 1, by omega, by go_num, HE.out⟩
            case measure => simp [intOf]; omega
        have hk7 := hkd
        clear hkd
        have b1 : (kind == 1) = false := by simpa using hk1
        have b2 : (kind == 2) = false := by simpa using hk2
        have b7 : (kind == 7) = false := by simpa using hk7
        clear hk1 hk2 hk7
        have HE := Lib.hid (LInv.out HL2.out HS'.out HN'.out)
        as_aux_lemma =>
        go_wp2_with (first
          | ((with_reducible refine gate_n (N := 49) rfl ?_); refine wpList_load_mid rfl 54 (.tmp 48) rfl g (off + k * 9) rfl [.int .i64 kind, .int .u64 addr, .int .i64 size, .int .u64 v, .slice VB b.length cb, .bool tick, .bool ext, .bool soft, vw] _ HRG.out Try.underlying54 rfl (by kernel_rfl) ?_)
          | (refine wpList_store_row rfl 54 (.tmp 8) (.tmp 49) rfl wr.heap.size _ rfl rfl 54 _ HZO.out (by kernel_rfl) rfl HONE.out ?_)
          | (go_at_call 31; refine (HAL _).out.mono ?_; rintro e wz ⟨rfl, rfl⟩; rw [HALV.out])
          )
        go_wp2
        go_roundw
        case rel => go_light; exact ⟨k + 1, by omega, by go_num, HE.out⟩
        case measure => simp [intOf]; omega
      · have hle : ¬ ((a : Int) + size ≤ (n : Int)) := fun h => hin ⟨hal, h⟩
        clear hin
        have HALV := Lib.hid hal
        have hsz : size = 1 ∨ size = 2 ∨ size = 4 ∨ size = 8 := by unfold alignedB szOk at hal; simp at hal; omega
        have b9 : decide ((a : Int) + size ≤ (n : Int)) = false := decide_eq_false hle
        have HNO := Lib.hid (show ¬ (alignedB (2147483648 + (a : Int)) size = true ∧ (a : Int) + size ≤ s'.ram.length) from by rw [HN'.out]; exact fun h => hle h.2)
        have z0 : (-9223372036854775808 : Int) ≤ (a : Int) + size := by omega
        have z1 : (a : Int) + size ≤ 9223372036854775807 := by omega
        clear hal hsz
        by_cases hkd : kind = 1
        · skip
          have b1 : (kind == 1) = true := by rw [hkd]; rfl
          have b2 : (kind == 2) = false := by rw [hkd]; rfl
          have b7 : (kind == 7) = false := by rw [hkd]; rfl
          clear hkd
          as_aux_lemma =>
          go_wp2_with (first
            | ((with_reducible refine gate_n (N := 49) rfl ?_); refine wpList_load_mid rfl 54 (.tmp 48) rfl g (off + k * 9) rfl [.int .i64 kind, .int .u64 addr, .int .i64 size, .int .u64 v, .slice VB b.length cb, .bool tick, .bool ext, .bool soft, vw] _ HRG.out Try.underlying54 rfl (by kernel_rfl) ?_)
            | (refine wpList_store_row rfl 54 (.tmp 8) (.tmp 49) rfl wr.heap.size _ rfl rfl 54 _ HZO.out (by kernel_rfl) rfl HONE.out ?_)
            | (go_at_call 31; refine (HAL _).out.mono ?_; rintro e wz ⟨rfl, rfl⟩; rw [HALV.out])
            | (go_at_call 29; refine (s_load HL2.out.1 HS'.out (2147483648 + (a : Int)) size (by omega) (by omega) s0 s1).mono ?_; rw [mem_load_out a size HNO.out]; rintro e w5 ⟨rfl, D5, hx⟩; have ht5 := (hx wr.heap.size (by simp)).trans HL2.out.2.1; have HL5 := Lib.hid (show LInv w1 pb gm cm n wr.heap.size _ _ s'.ram w5 from ⟨D5, ht5, HL2.out.2.2.keepX (fun g hg => hx g (by simp only [Value.ownBlock, Option.some.injEq] at hg; subst hg; simp))⟩); have u2 := row_cell ht5 2 (.int .i64 size) rfl; clear ht5 D5 hx))

          clear t0 t1 t2 t3 t4 u2 HL2 HZO HRG HRB HBB HBL HALV HAL
          generalize wr.heap.size = M at *
          obtain ⟨wo, rfl⟩ : ∃ wo : World, wo = wr := ⟨_, rfl⟩
          go_loopw [19, 20] (fun x i wq => x = .int .u64 0 ∧ i = .int .i64 0 ∧ Hid (LInv w1 pb gm cm n M #[.int .i64 kind, .int .u64 addr, .int .i64 size, .int .u64 v, .slice VB b.length cb, .bool tick, .bool ext, .bool soft, vw] s' s'.ram wq)) (fun _ _ _ => 0)
          case atStart => exact ⟨rfl, rfl, HL5.out⟩
          case round =>
            obtain ⟨rfl, rfl, hq⟩ := hrel
            have HQ := Lib.hid hq.out
            clear hq
            have u2 := row_cell HQ.out.2.1 2 (.int .i64 size) rfl
            have HE := Lib.hid (HQ.out.out HS'.out HN'.out)
            by_cases hlt2 : 0 < size
            · have e9 : decide (0 < size) = true := decide_eq_true hlt2
              go_wp2
              go_roundw
              case rel => go_light; exact ⟨k + 1, by omega, by go_num, HE.out⟩
              case measure => simp [intOf]; omega
            · have e9 : decide (0 < size) = false := decide_eq_false hlt2
              go_wp2
              go_roundw
              case rel => go_light; exact ⟨k + 1, by omega, by go_num, HE.out⟩
              case measure => simp [intOf]; omega
        have hk1 := hkd
        clear hkd
        by_cases hkd : kind = 2
        · skip
          have b1 : (kind == 1) = false := by rw [hkd]; rfl
          have b2 : (kind == 2) = true := by rw [hkd]; rfl
          have b7 : (kind == 7) = false := by rw [hkd]; rfl
          clear hkd
          as_aux_lemma =>
          go_wp2_with (first
            | ((with_reducible refine gate_n (N := 49) rfl ?_); refine wpList_load_mid rfl 54 (.tmp 48) rfl g (off + k * 9) rfl [.int .i64 kind, .int .u64 addr, .int .i64 size, .int .u64 v, .slice VB b.length cb, .bool tick, .bool ext, .bool soft, vw] _ HRG.out Try.underlying54 rfl (by kernel_rfl) ?_)
            | (refine wpList_store_row rfl 54 (.tmp 8) (.tmp 49) rfl wr.heap.size _ rfl rfl 54 _ HZO.out (by kernel_rfl) rfl HONE.out ?_)
            | (go_at_call 31; refine (HAL _).out.mono ?_; rintro e wz ⟨rfl, rfl⟩; rw [HALV.out])
            | (go_at_call 30; refine (s_store HL2.out.1 HS'.out (2147483648 + (a : Int)) size v (by omega) (by omega) s0 s1 v0 v1).mono ?_; rw [mem_store_out a size v HNO.out]; rintro e w5 ⟨rfl, D5, hx⟩; have ht5 := (hx wr.heap.size (by simp)).trans HL2.out.2.1; have HL5 := Lib.hid (show LInv w1 pb gm cm n wr.heap.size _ _ s'.ram w5 from ⟨D5, ht5, HL2.out.2.2.keepX (fun g hg => hx g (by simp only [Value.ownBlock, Option.some.injEq] at hg; subst hg; simp))⟩); have u2 := row_cell ht5 2 (.int .i64 size) rfl; clear ht5 D5 hx))

          clear t0 t1 t2 t3 t4 u2 HL2 HZO HRG HRB HBB HBL HALV HAL
          generalize wr.heap.size = M at *
          obtain ⟨wo, rfl⟩ : ∃ wo : World, wo = wr := ⟨_, rfl⟩
          go_loopw [13] (fun i wq => i = .int .i64 0 ∧ Hid (LInv w1 pb gm cm n M #[.int .i64 kind, .int .u64 addr, .int .i64 size, .int .u64 v, .slice VB b.length cb, .bool tick, .bool ext, .bool soft, vw] s' s'.ram wq)) (fun _ _ => 0)
          case atStart => exact ⟨rfl, HL5.out⟩
          case round =>
            obtain ⟨rfl, hq⟩ := hrel
            have HQ := Lib.hid hq.out
            clear hq
            have u2 := row_cell HQ.out.2.1 2 (.int .i64 size) rfl
            have HE := Lib.hid (HQ.out.out HS'.out HN'.out)
            by_cases hlt2 : 0 < size
            · have e9 : decide (0 < size) = true := decide_eq_true hlt2
              go_wp2
              go_roundw
              case rel => go_light; exact ⟨k + 1, by omega, by go_num, HE.out⟩
              case measure => simp [intOf]; omega
            · have e9 : decide (0 < size) = false := decide_eq_false hlt2
              go_wp2
              go_roundw
              case rel => go_light; exact ⟨k + 1, by omega, by go_num, HE.out⟩
              case measure => simp [intOf]; omega
        have hk2 := hkd
        clear hkd
        by_cases hkd : kind = 7
        · skip
          have b1 : (kind == 1) = false := by rw [hkd]; rfl
          have b2 : (kind == 2) = false := by rw [hkd]; rfl
          have b7 : (kind == 7) = true := by rw [hkd]; rfl
          clear hkd
          have HRB2 := Lib.hid (HRB.out.keep HL2.out.1.kept)
          have hbl0 : (b.length : Int) ≤ 140737488351232 := by have := HBL.out; omega
          by_cases hbz : b.length = 0
          · have hbn : b = [] := List.length_eq_zero_iff.1 hbz
            have HP := Lib.hid (show s'.poke (2147483648 + (a : Int)) b = (0, s') from by unfold St.poke; rw [if_pos hbn])
            have c9 : ((b.length : Int) == 0) = true := by simpa using hbz
            have c7 : decide ((0 : Int) < (b.length : Int)) = false := decide_eq_false (by omega)
            have c6 : ¬ 0 < b.length := by omega
            have c5 : decide (0 < b.length) = false := decide_eq_false c6
            clear hbn
            by_cases hfit : a + b.length ≤ n
            · have c8 : decide ((a : Int) + (b.length : Int) ≤ (n : Int)) = true := decide_eq_true (by omega)
              clear hfit hbz
              as_aux_lemma =>
              go_wp2_with (first
                        | ((with_reducible refine gate_n (N := 49) rfl ?_); refine wpList_load_mid rfl 54 (.tmp 48) rfl g (off + k * 9) rfl [.int .i64 kind, .int .u64 addr, .int .i64 size, .int .u64 v, .slice VB b.length cb, .bool tick, .bool ext, .bool soft, vw] _ HRG.out Try.underlying54 rfl (by kernel_rfl) ?_)
                        | (refine wpList_store_row rfl 54 (.tmp 8) (.tmp 49) rfl wr.heap.size _ rfl rfl 54 _ HZO.out (by kernel_rfl) rfl HONE.out ?_)
                        | (go_at_call 31; refine (HAL _).out.mono ?_; rintro e wz ⟨rfl, rfl⟩; rw [HALV.out])
                        | (at_builtin; refine wpList_append_nilw rfl _ _ rfl _ b rfl rfl HRB2.out (by simp; have := HBL.out; omega) ?_; intro v' w6 hg; have hb : Bs w6 v' b := (by simpa using hg.bs); obtain ⟨A3, c3, rfl⟩ := hb.shape; have gk : Kept [] _ w6 := hg.kept; have DC := Lib.hid (HL2.out.1.claim gk (Value.slice A3 b.length c3).ownBlock.toList (fun y hy => ⟨Grew.new hg y (by simpa using hy), hb.lt y (by simpa using hy)⟩)); have htg := gk.row HL2.out.2.1 (by simp); have HTG := Lib.hid htg; have q1 := row_cell htg 1 (.int .u64 addr) rfl; have q4 := row_cell htg 4 (.slice VB b.length cb) rfl; have HBS := Lib.hid hb; have HVM := Lib.hid (HL2.out.2.2.keep gk (by simp)); clear hg gk hb htg)
                        | (go_at_call 32; refine (s_poke DC.out HS'.out (2147483648 + (a : Int)) (by omega) (by omega) (.slice A3 b.length c3) b HBS.out.rd (by have := HBL.out; omega)).mono ?_; rw [HP.out]; rintro e w5 ⟨rfl, D5, hx⟩; have ht5 := (hx wr.heap.size (by simp)).trans HTG.out; have HL5 := Lib.hid (show LInv w1 pb gm cm n wr.heap.size _ _ s'.ram w5 from ⟨D5.pop (fun x hx => List.mem_append_right _ hx), ht5, HVM.out.keepX (fun g hg => hx g (by simp only [Value.ownBlock, Option.some.injEq] at hg; subst hg; simp))⟩); have u4 := row_cell ht5 4 (.slice VB b.length cb) rfl; clear ht5 D5 hx))
              clear t0 t1 t2 t3 t4 u4 q1 q4 HL2 HZO HRG HRB HRB2 HBB HBL HALV HAL HTG DC HBS HVM
              generalize wr.heap.size = M at *
              obtain ⟨wo, rfl⟩ : ∃ wo : World, wo = wr := ⟨_, rfl⟩
              go_loopw [16] (fun i wq => i = .int .i64 0 ∧ Hid (LInv w1 pb gm cm n M #[.int .i64 kind, .int .u64 addr, .int .i64 size, .int .u64 v, .slice VB b.length cb, .bool tick, .bool ext, .bool soft, vw] s' s'.ram wq)) (fun _ _ => 0)
              case atStart => exact ⟨rfl, HL5.out⟩
              case round =>
                obtain ⟨rfl, hq⟩ := hrel
                have HQ := Lib.hid hq.out
                clear hq
                have u4 := row_cell HQ.out.2.1 4 (.slice VB b.length cb) rfl
                have HE := Lib.hid (HQ.out.out HS'.out HN'.out)
                go_wp2
                go_roundw
                case rel => go_light; exact ⟨k + 1, by omega, by go_num, HE.out⟩
                case measure => simp [intOf]; omega

            · have c8 : decide ((a : Int) + (b.length : Int) ≤ (n : Int)) = false := decide_eq_false (by omega)
              clear hfit hbz
              as_aux_lemma =>
              go_wp2_with (first
                        | ((with_reducible refine gate_n (N := 49) rfl ?_); refine wpList_load_mid rfl 54 (.tmp 48) rfl g (off + k * 9) rfl [.int .i64 kind, .int .u64 addr, .int .i64 size, .int .u64 v, .slice VB b.length cb, .bool tick, .bool ext, .bool soft, vw] _ HRG.out Try.underlying54 rfl (by kernel_rfl) ?_)
                        | (refine wpList_store_row rfl 54 (.tmp 8) (.tmp 49) rfl wr.heap.size _ rfl rfl 54 _ HZO.out (by kernel_rfl) rfl HONE.out ?_)
                        | (go_at_call 31; refine (HAL _).out.mono ?_; rintro e wz ⟨rfl, rfl⟩; rw [HALV.out])
                        | (at_builtin; refine wpList_append_nilw rfl _ _ rfl _ b rfl rfl HRB2.out (by simp; have := HBL.out; omega) ?_; intro v' w6 hg; have hb : Bs w6 v' b := (by simpa using hg.bs); obtain ⟨A3, c3, rfl⟩ := hb.shape; have gk : Kept [] _ w6 := hg.kept; have DC := Lib.hid (HL2.out.1.claim gk (Value.slice A3 b.length c3).ownBlock.toList (fun y hy => ⟨Grew.new hg y (by simpa using hy), hb.lt y (by simpa using hy)⟩)); have htg := gk.row HL2.out.2.1 (by simp); have HTG := Lib.hid htg; have q1 := row_cell htg 1 (.int .u64 addr) rfl; have q4 := row_cell htg 4 (.slice VB b.length cb) rfl; have HBS := Lib.hid hb; have HVM := Lib.hid (HL2.out.2.2.keep gk (by simp)); clear hg gk hb htg)
                        | (go_at_call 32; refine (s_poke DC.out HS'.out (2147483648 + (a : Int)) (by omega) (by omega) (.slice A3 b.length c3) b HBS.out.rd (by have := HBL.out; omega)).mono ?_; rw [HP.out]; rintro e w5 ⟨rfl, D5, hx⟩; have ht5 := (hx wr.heap.size (by simp)).trans HTG.out; have HL5 := Lib.hid (show LInv w1 pb gm cm n wr.heap.size _ _ s'.ram w5 from ⟨D5.pop (fun x hx => List.mem_append_right _ hx), ht5, HVM.out.keepX (fun g hg => hx g (by simp only [Value.ownBlock, Option.some.injEq] at hg; subst hg; simp))⟩); have u4 := row_cell ht5 4 (.slice VB b.length cb) rfl; clear ht5 D5 hx))
              clear t0 t1 t2 t3 t4 u4 q1 q4 HL2 HZO HRG HRB HRB2 HBB HBL HALV HAL HTG DC HBS HVM
              generalize wr.heap.size = M at *
              obtain ⟨wo, rfl⟩ : ∃ wo : World, wo = wr := ⟨_, rfl⟩
              go_loopw [16] (fun i wq => i = .int .i64 0 ∧ Hid (LInv w1 pb gm cm n M #[.int .i64 kind, .int .u64 addr, .int .i64 size, .int .u64 v, .slice VB b.length cb, .bool tick, .bool ext, .bool soft, vw] s' s'.ram wq)) (fun _ _ => 0)
              case atStart => exact ⟨rfl, HL5.out⟩
              case round =>
                obtain ⟨rfl, hq⟩ := hrel
                have HQ := Lib.hid hq.out
                clear hq
                have u4 := row_cell HQ.out.2.1 4 (.slice VB b.length cb) rfl
                have HE := Lib.hid (HQ.out.out HS'.out HN'.out)
                go_wp2
                go_roundw
                case rel => go_light; exact ⟨k + 1, by omega, by go_num, HE.out⟩
                case measure => simp [intOf]; omega

          by_cases hfit : a + b.length ≤ n
          · have hbn : b ≠ [] := fun h => hbz (by rw [h]; rfl)
            have c9 : ((b.length : Int) == 0) = false := by simpa using hbz
            have c8 : decide ((a : Int) + (b.length : Int) ≤ (n : Int)) = true := decide_eq_true (by omega)
            have HP := Lib.hid (show s'.poke (2147483648 + (a : Int)) b = (0, { s' with ram := lay s'.ram a b }) from by rw [mem_poke a b hbn, if_pos (by rw [HN'.out]; exact hfit)])
            have HF := Lib.hid (show a + b.length ≤ s'.ram.length by rw [HN'.out]; exact hfit)
            have HSE := Lib.hid (show St.Ok { s' with ram := lay s'.ram a b } from by have := ok_poke HS'.out (2147483648 + (a : Int)) b HBB.out; rw [HP.out] at this; exact this)
            have HLY := Lib.hid (show ∀ j, j ≤ b.length → (lay s'.ram a (b.take j)).length = n from fun j hj => by rw [lay_length _ _ _ (by rw [List.length_take]; have := HF.out; omega), HN'.out])
            have HTK := Lib.hid (show b.take b.length = b from List.take_length)
            obtain ⟨pc, pg, po, hvv, hpc⟩ : ∃ pc pg po, Value.slice VB b.length cb = .slice (some ⟨pg, po, none⟩) b.length pc ∧ ∀ i x, b[i]? = some x → w1.cell? ⟨pg, po + i, none⟩ = some (.int .u8 x) := mem_src HRB.out hbn
            simp only [Value.slice.injEq] at hvv
            obtain ⟨rfl, -, rfl⟩ := hvv
            have HPC := Lib.hid hpc
            clear hbn hbz hpc
            as_aux_lemma =>
            go_wp2_with (first
                      | ((with_reducible refine gate_n (N := 49) rfl ?_); refine wpList_load_mid rfl 54 (.tmp 48) rfl g (off + k * 9) rfl [.int .i64 kind, .int .u64 addr, .int .i64 size, .int .u64 v, .slice (some ⟨pg, po, none⟩) b.length cb, .bool tick, .bool ext, .bool soft, vw] _ HRG.out Try.underlying54 rfl (by kernel_rfl) ?_)
                      | (refine wpList_store_row rfl 54 (.tmp 8) (.tmp 49) rfl wr.heap.size _ rfl rfl 54 _ HZO.out (by kernel_rfl) rfl HONE.out ?_)
                      | (go_at_call 31; refine (HAL _).out.mono ?_; rintro e wz ⟨rfl, rfl⟩; rw [HALV.out])
                      | (at_builtin; refine wpList_append_nilw rfl _ _ rfl _ b rfl rfl HRB2.out (by simp; have := HBL.out; omega) ?_; intro v' w6 hg; have hb : Bs w6 v' b := (by simpa using hg.bs); obtain ⟨A3, c3, rfl⟩ := hb.shape; have gk : Kept [] _ w6 := hg.kept; have DC := Lib.hid (HL2.out.1.claim gk (Value.slice A3 b.length c3).ownBlock.toList (fun y hy => ⟨Grew.new hg y (by simpa using hy), hb.lt y (by simpa using hy)⟩)); have htg := gk.row HL2.out.2.1 (by simp); have HTG := Lib.hid htg; have q1 := row_cell htg 1 (.int .u64 addr) rfl; have q4 := row_cell htg 4 (.slice (some ⟨pg, po, none⟩) b.length cb) rfl; have HBS := Lib.hid hb; have HVM := Lib.hid (HL2.out.2.2.keep gk (by simp)); clear hg gk hb htg)
                      | (go_at_call 32; refine (s_poke DC.out HS'.out (2147483648 + (a : Int)) (by omega) (by omega) (.slice A3 b.length c3) b HBS.out.rd (by have := HBL.out; omega)).mono ?_; rw [HP.out]; rintro e w5 ⟨rfl, D5, hx⟩; have ht5 := (hx wr.heap.size (by simp)).trans HTG.out; have HL5 := Lib.hid (show LInv w1 pb gm cm n wr.heap.size _ _ s'.ram w5 from ⟨D5.pop (fun x hx => List.mem_append_right _ hx), ht5, HVM.out.keepX (fun g hg => hx g (by simp only [Value.ownBlock, Option.some.injEq] at hg; subst hg; simp))⟩); have u4 := row_cell ht5 4 (.slice (some ⟨pg, po, none⟩) b.length cb) rfl; clear ht5 D5 hx))

            clear t0 t1 t2 t3 t4 u4 q1 q4 HL2 HZO HRG HRB HRB2 HBL HALV HAL HTG DC HBS HVM
            generalize wr.heap.size = M at *
            obtain ⟨wo, rfl⟩ : ∃ wo : World, wo = wr := ⟨_, rfl⟩
            go_loopw [16] (fun i wq => ∃ j : Nat, j ≤ b.length ∧ i = .int .i64 j ∧ Hid (LInv w1 pb gm cm n M #[.int .i64 kind, .int .u64 addr, .int .i64 size, .int .u64 v, .slice (some ⟨pg, po, none⟩) b.length cb, .bool tick, .bool ext, .bool soft, vw] { s' with ram := lay s'.ram a b } (lay s'.ram a (b.take j)) wq)) (fun i _ => b.length - (intOf i).toNat)
            case atStart => exact ⟨0, Nat.zero_le _, rfl, by show LInv _ _ _ _ _ _ _ _ _ _; rw [List.take_zero, lay_nil]; exact HL5.out⟩
            case round =>
              obtain ⟨j, hj, rfl, hq⟩ := hrel
              have HQ := Lib.hid hq.out
              clear hq
              have u4 := row_cell HQ.out.2.1 4 (.slice (some ⟨pg, po, none⟩) b.length cb) rfl
              by_cases hlt2 : j < b.length
              · obtain ⟨x, hx⟩ : ∃ x, (lay s'.ram a (b.take j))[a + j]? = some x := ⟨_, List.getElem?_eq_getElem (by rw [HLY.out j hj]; omega)⟩
                obtain ⟨y, hy⟩ : ∃ y, b[j]? = some y := ⟨_, List.getElem?_eq_getElem hlt2⟩
                have d1 : wr.cell? ⟨gm, a + j, none⟩ = some (.int .u8 x) := HQ.out.2.2.cell rfl (a + j) x hx
                have d2 : wr.frozen? ⟨gm, a + j, none⟩ = false := HQ.out.2.2.frozen rfl (a + j)
                have e0 := HPC.out j y hy
                have d3 : wr.cell? ⟨pg, po + j, none⟩ = some (.int .u8 y) := (HQ.out.1.kept.cell (p := ⟨pg, po + j, none⟩) (World.block_lt_of_cell? w1 _ e0) (by simp)).trans e0
                have y0 := (HBB.out y (List.mem_of_getElem? hy)).1
                have y1 := (HBB.out y (List.mem_of_getElem? hy)).2
                have HY := Lib.hid hy
                clear hx hy e0
                go_wp2
                go_roundw
                case rel =>
                  go_light
                  refine ⟨j + 1, by omega, by go_num, ?_⟩
                  have hkl : (b.take j).length = j := by rw [List.length_take]; omega
                  have h1 := HQ.out.set HG0.out HM.out (a + j) y (by rw [HLY.out j hj]; omega)
                  have h2 := lay_snoc s'.ram a (b.take j) y (by rw [hkl]; have := HF.out; omega)
                  rw [hkl, take_snoc b j y HY.out] at h2
                  rw [h2] at h1
                  exact h1
                case measure => simp [intOf]; omega
              · have hjb : j = b.length := by omega
                have HE := Lib.hid (show MInv w1 pb gm cm n wr from by have h3 := HQ.out; rw [hjb, HTK.out] at h3; exact LInv.out h3 HSE.out (by have := HLY.out b.length (Nat.le_refl _); rw [HTK.out] at this; exact this))
                go_wp2
                go_roundw
                case rel => go_light; exact ⟨k + 1, by omega, by go_num, HE.out⟩
                case measure => simp [intOf]; omega
          have hbn : b ≠ [] := fun h => hbz (by rw [h]; rfl)
          have c9 : ((b.length : Int) == 0) = false := by simpa using hbz
          have c8 : decide ((a : Int) + (b.length : Int) ≤ (n : Int)) = false := decide_eq_false (by omega)
          have c7 : decide ((0 : Int) < (b.length : Int)) = true := decide_eq_true (by omega)
          have c6 : 0 < b.length := by omega
          have c5 : decide (0 < b.length) = true := decide_eq_true c6
          have HP := Lib.hid (show s'.poke (2147483648 + (a : Int)) b = (30, s') from by rw [mem_poke a b hbn, if_neg (by rw [HN'.out]; exact hfit)])
          clear hbn hbz hfit
          as_aux_lemma =>
          go_wp2_with (first
                    | ((with_reducible refine gate_n (N := 49) rfl ?_); refine wpList_load_mid rfl 54 (.tmp 48) rfl g (off + k * 9) rfl [.int .i64 kind, .int .u64 addr, .int .i64 size, .int .u64 v, .slice VB b.length cb, .bool tick, .bool ext, .bool soft, vw] _ HRG.out Try.underlying54 rfl (by kernel_rfl) ?_)
                    | (refine wpList_store_row rfl 54 (.tmp 8) (.tmp 49) rfl wr.heap.size _ rfl rfl 54 _ HZO.out (by kernel_rfl) rfl HONE.out ?_)
                    | (go_at_call 31; refine (HAL _).out.mono ?_; rintro e wz ⟨rfl, rfl⟩; rw [HALV.out])
                    | (at_builtin; refine wpList_append_nilw rfl _ _ rfl _ b rfl rfl HRB2.out (by simp; have := HBL.out; omega) ?_; intro v' w6 hg; have hb : Bs w6 v' b := (by simpa using hg.bs); obtain ⟨A3, c3, rfl⟩ := hb.shape; have gk : Kept [] _ w6 := hg.kept; have DC := Lib.hid (HL2.out.1.claim gk (Value.slice A3 b.length c3).ownBlock.toList (fun y hy => ⟨Grew.new hg y (by simpa using hy), hb.lt y (by simpa using hy)⟩)); have htg := gk.row HL2.out.2.1 (by simp); have HTG := Lib.hid htg; have q1 := row_cell htg 1 (.int .u64 addr) rfl; have q4 := row_cell htg 4 (.slice VB b.length cb) rfl; have HBS := Lib.hid hb; have HVM := Lib.hid (HL2.out.2.2.keep gk (by simp)); clear hg gk hb htg)
                    | (go_at_call 32; refine (s_poke DC.out HS'.out (2147483648 + (a : Int)) (by omega) (by omega) (.slice A3 b.length c3) b HBS.out.rd (by have := HBL.out; omega)).mono ?_; rw [HP.out]; rintro e w5 ⟨rfl, D5, hx⟩; have ht5 := (hx wr.heap.size (by simp)).trans HTG.out; have HL5 := Lib.hid (show LInv w1 pb gm cm n wr.heap.size _ _ s'.ram w5 from ⟨D5.pop (fun x hx => List.mem_append_right _ hx), ht5, HVM.out.keepX (fun g hg => hx g (by simp only [Value.ownBlock, Option.some.injEq] at hg; subst hg; simp))⟩); have u4 := row_cell ht5 4 (.slice VB b.length cb) rfl; clear ht5 D5 hx))
          clear t0 t1 t2 t3 t4 u4 q1 q4 HL2 HZO HRG HRB HRB2 HBB HBL HALV HAL HTG DC HBS HVM
          generalize wr.heap.size = M at *
          obtain ⟨wo, rfl⟩ : ∃ wo : World, wo = wr := ⟨_, rfl⟩
          go_loopw [16] (fun i wq => i = .int .i64 0 ∧ Hid (LInv w1 pb gm cm n M #[.int .i64 kind, .int .u64 addr, .int .i64 size, .int .u64 v, .slice VB b.length cb, .bool tick, .bool ext, .bool soft, vw] s' s'.ram wq)) (fun _ _ => 0)
          case atStart => exact ⟨rfl, HL5.out⟩
          case round =>
            obtain ⟨rfl, hq⟩ := hrel
            have HQ := Lib.hid hq.out
            clear hq
            have u4 := row_cell HQ.out.2.1 4 (.slice VB b.length cb) rfl
            have HE := Lib.hid (HQ.out.out HS'.out HN'.out)
            go_wp2
            go_roundw
            case rel => go_light; exact ⟨k + 1, by omega, by go_num, HE.out⟩
            case measure => simp [intOf]; omega
        have hk7 := hkd
        clear hkd
        have b1 : (kind == 1) = false := by simpa using hk1
        have b2 : (kind == 2) = false := by simpa using hk2
        have b7 : (kind == 7) = false := by simpa using hk7
        clear hk1 hk2 hk7
        have HE := Lib.hid (LInv.out HL2.out HS'.out HN'.out)
        as_aux_lemma =>
        go_wp2_with (first
          | ((with_reducible refine gate_n (N := 49) rfl ?_); refine wpList_load_mid rfl 54 (.tmp 48) rfl g (off + k * 9) rfl [.int .i64 kind, .int .u64 addr, .int .i64 size, .int .u64 v, .slice VB b.length cb, .bool tick, .bool ext, .bool soft, vw] _ HRG.out Try.underlying54 rfl (by kernel_rfl) ?_)
          | (refine wpList_store_row rfl 54 (.tmp 8) (.tmp 49) rfl wr.heap.size _ rfl rfl 54 _ HZO.out (by kernel_rfl) rfl HONE.out ?_)
          | (go_at_call 31; refine (HAL _).out.mono ?_; rintro e wz ⟨rfl, rfl⟩; rw [HALV.out])
          )
        go_wp2
        go_roundw
        case rel => go_light; exact ⟨k + 1, by omega, by go_num, HE.out⟩
        case measure => simp [intOf]; omega
    · obtain rfl : k = ops.length := by omega
      have HE := Lib.hid (HK.out.trans D.kept (by simp))
      have HL := Lib.hid (s_state (D.keep (Kept.refl [] _).drew).1 hs')
      have q0 := run_str wr.drew _ s'.ram (hb.keep (Kept.refl [] wr).drew (by simp)).rd
      have HB := Lib.hid hb
      have HX := Lib.hid (D.keep (Kept.refl [] _).drew).2
      clear D hR hs' hb hn'
      as_aux_lemma =>
      go_wp2
      go_region_with (first
        | (go_at_call 20; refine HL.out.mono ?_; rintro e w5 ⟨u1, u2, u3, rfl, h1, h2, h3, D5, hx⟩; obtain ⟨A1, c1, rfl⟩ := h1.shape; obtain ⟨B1, d1, rfl⟩ := h2.shape; obtain ⟨C1, e1, rfl⟩ := h3.shape; have q1 := run_str w5 _ s'.ram h1.rd; have q2 := run_str w5 _ s'.ram (HB.out.keepX (fun g hg => (hx g (by simpa [Value.ownBlock, eq_comm] using hg)).trans (HX.out g (by simpa [Value.ownBlock, eq_comm] using hg)))).rd; have HK5 := Lib.hid D5.kept; clear h1 h2 h3 D5 hx; have hfd : (Instr.field 26 (.agg #[.slice A1 s'.ram.length c1, .int .u32 s'.msip, .int .u64 s'.cmp, .int .u64 s'.now, .bool s'.ext, .bool s'.soft, .int .u8 s'.ier, .int .u8 s'.lcr, .int .u8 s'.mcr, .int .u8 s'.scr, .bool s'.over, .slice B1 s'.inp.length d1, .slice C1 s'.out.length e1, .int .i64 s'.off, .int .i64 s'.code]) 0).run Try.prog w5 = .ok (.slice A1 s'.ram.length c1) w5 := (by kernel_rfl); unfold sCells))
      all_goals
        go_wp2
        go_ret
        exact ⟨rfl, HK.out.trans HK5.out (by simp)⟩
theorem law_BusMemory (w : World) (s : St) (hs : s.In) (v1 v2 v3 vops : Value) (ops : List OpV) (h1 : Rd w v1 s.ram) (h2 : Rd w v2 s.inp) (h3 : Rd w v3 s.out) (ho : OpsAt w vops ops) :
    Calls Try.prog 7 #[.agg (yCells v1 v2 v3 s vops)] w (TruePost w) := by
  cases hc : s.canBe
  · exact BusMemory_no w s hs v1 v2 v3 vops h1 h2 h3 hc
  · exact BusMemory_yes w s hs v1 v2 v3 vops ops h1 h2 h3 ho hc
end Go.Proofs.Ytkocfcgdjjdnhaa.BW
