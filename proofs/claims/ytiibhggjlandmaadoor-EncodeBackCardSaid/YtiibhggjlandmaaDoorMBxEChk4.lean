/- Texts of this claim, put together by a program: EChk4. -/
import Derived.Test.YtiibhggjlandmaaDoorMB0
import Derived.Deep.LoopGhost
import Derived.Deep.RegionWith
import Derived.Deep.DeepCutAuto
import Derived.Deep.RegionHeld3
/- encode.Check, where the operation is known: registers, fields, reach. -/
namespace Go.Proofs.YtiibhggjlandmaaDoor.PF
open Go.RowKit Go.Proofs.YtiibhggjlandmaaDoorW.PrintWords Go.Proofs.YtiibhggjlandmaaDoorW.PrintMore
set_option linter.unusedVariables false
set_option linter.unusedSimpArgs false
def inV (op rd rs1 rs2 imm : Int) (aq rl : Bool) (len raw : Int) : Array Value := #[.int .i64 op, .int .i64 rd, .int .i64 rs1, .int .i64 rs2, .int .i64 imm, .bool aq, .bool rl, .int .i64 len, .int .u32 raw]
theorem row_alloc {W : World} {g : Nat} {o : Obj} (h : W.heap[g]? = some o) (x : Obj) : (W.alloc x).heap[g]? = some o := by
  obtain ⟨hlt, _⟩ := Array.getElem?_eq_some_iff.mp h
  rw [Below.heap_alloc W x g hlt]; exact h
theorem row_cell {W : World} {g : Nat} {cs : Array Value} {t : TypeId} (h : W.heap[g]? = some (.cells cs t)) (j : Nat) (v : Value) (hv : cs[j]? = some v) : W.cell? ⟨g, j, none⟩ = some v := (cell_of_row W g j cs t (0, 0) h).trans hv
def regs (rd rs1 rs2 : Int) (i : Nat) : Int := [rd, rs1, rs2].getD i 0
def bad (r : Int) : Prop := r < 0 ∨ r > 31
instance (r : Int) : Decidable (bad r) := by unfold bad; infer_instance
def chkR (imm : Int) : Option (Int × Int × Int) → Option Int
  | none => some 0
  | some (lo, hi, st) => if imm < lo ∨ imm > hi then some 61 else if st = 0 then none else if Int.tmod imm st = 0 then some 0 else some 61
/-- What stands in memory behind reaches. -/
structure ChkR (w : World) (gr : Nat) (op rd rs1 rs2 imm : Int) (aq rl : Bool) (len raw : Int) (z : Int × Int × Int) (W : World) : Prop where
  inn : W.heap[w.heap.size]? = some (.cells (inV op rd rs1 rs2 imm aq rl len raw) 24)
  rch : W.heap[gr]? = some (.cells #[.int .i64 z.1, .int .i64 z.2.1, .int .i64 z.2.2] 65)
  below : Below w.heap.size w W
/-- What stands in memory behind the row of fields. -/
structure ChkH (w : World) (g1 gh : Nat) (op rd rs1 rs2 imm : Int) (aq rl : Bool) (len raw s b : Int) (hh : Has) (W : World) : Prop where
  inn : W.heap[w.heap.size]? = some (.cells (inV op rd rs1 rs2 imm aq rl len raw) 24)
  frm : W.heap[g1]? = some (.cells #[.int .i64 s, .int .u32 b] 56)
  has : W.heap[gh]? = some (.cells #[.bool hh.rd, .bool hh.rs1, .bool hh.rs2, .bool hh.imm, .bool hh.order] 61)
  below : Below w.heap.size w W
/-- What stands in memory behind formOf: the instruction, the form, the registers. -/
structure ChkW (w : World) (g1 : Nat) (op rd rs1 rs2 imm : Int) (aq rl : Bool) (len raw s b : Int) (W : World) : Prop where
  inn : W.heap[w.heap.size]? = some (.cells (inV op rd rs1 rs2 imm aq rl len raw) 24)
  frm : W.heap[g1]? = some (.cells #[.int .i64 s, .int .u32 b] 56)
  rgs : W.heap[g1 + 1]? = some (.cells #[.int .i64 rd, .int .i64 rs1, .int .i64 rs2] 3)
  size : W.heap.size = g1 + 2
  below : Below w.heap.size w W
theorem seven (n : Nat) (hh : Has) (hn : n < 12) (h : hasL[n]? = some hh) : hh = ⟨true, false, false, true, false⟩ ∨ hh = ⟨true, true, false, true, false⟩ ∨ hh = ⟨false, true, true, true, false⟩ ∨ hh = ⟨true, true, true, false, false⟩ ∨ hh = ⟨false, false, false, false, false⟩ ∨ hh = ⟨true, true, true, false, true⟩ ∨ hh = ⟨true, true, false, false, true⟩ := by
  rcases (show n = 0 ∨ n = 1 ∨ n = 2 ∨ n = 3 ∨ n = 4 ∨ n = 5 ∨ n = 6 ∨ n = 7 ∨ n = 8 ∨ n = 9 ∨ n = 10 ∨ n = 11 by omega) with rfl | rfl | rfl | rfl | rfl | rfl | rfl | rfl | rfl | rfl | rfl | rfl <;> (simp only [hasL, List.getElem?_cons_zero, List.getElem?_cons_succ, Option.some.injEq] at h; subst h; simp)
theorem has_flat : ∀ (l : List Has) (i j : Nat) (f : Has), l[i]? = some f → j < 5 → (l.flatMap Has.cells)[i * 5 + j]? = f.cells[j]?
  | [], i, j, f, h, hj => by simp at h
  | g :: l, 0, j, f, h, hj => by
    simp only [List.getElem?_cons_zero, Option.some.injEq] at h; subst h
    rw [List.flatMap_cons, Nat.zero_mul, Nat.zero_add, List.getElem?_append_left (by simpa [Has.cells] using hj)]
  | g :: l, i + 1, j, f, h, hj => by
    rw [List.getElem?_cons_succ] at h
    rw [List.flatMap_cons, List.getElem?_append_right (by simp only [Has.cells, List.length_cons, List.length_nil]; omega)]
    rw [← has_flat l i j f h hj]
    congr 1
    simp only [Has.cells, List.length_cons, List.length_nil]; omega
theorem has_cell (n : Nat) (hh : Has) (h : hasL[n]? = some hh) (j : Nat) (hj : j < 5) (v : Value) (hv : hh.cells[j]? = some v) (W : World) : (W.alloc (.cells hasCells 61)).cell? ⟨W.heap.size, n * 5 + j, none⟩ = some v := by
  rw [World.cell?_alloc_new, hasCells, List.getElem?_toArray, has_flat hasL n j hh h hj, hv]
set_option maxHeartbeats 2000000 in
set_option maxRecDepth 100000 in
theorem check_long (op rd rs1 rs2 imm : Int) (aq rl : Bool) (len raw b r : Int) (n : Nat) (w : World) (hT : TabOk w) (hf : encode_formOf.f op = some ((n : Int), b, true)) (hr60 : bad rd ∨ bad rs1 ∨ bad rs2 → r = 60) (hn : n < 12) (hh : Has) (hhas : hasL[n]? = some hh) (hR : ¬ (bad rd ∨ bad rs1 ∨ bad rs2) → ((!hh.rd && (rd != 0)) || (!hh.rs1 && (rs1 != 0)) || (!hh.rs2 && (rs2 != 0)) || (!hh.imm && (imm != 0)) || (!hh.order && (aq || rl))) = false → chkR imm (findR n reachT) = some r) (h60b : ((!hh.rd && (rd != 0)) || (!hh.rs1 && (rs1 != 0)) || (!hh.rs2 && (rs2 != 0)) || (!hh.imm && (imm != 0)) || (!hh.order && (aq || rl))) = true → r = 60) :
    Calls Tryd.prog 11 #[.agg #[.int .i64 op, .int .i64 rd, .int .i64 rs1, .int .i64 rs2, .int .i64 imm, .bool aq, .bool rl, .int .i64 len, .int .u32 raw]] w fun e w' => e = .returned (.int .i64 r) ∧ Below w.heap.size w w' := by
  have hT1 := hT.below (below_alloc (Below.refl _ w) (.cells (inV op rd rs1 rs2 imm aq rl len raw) 24))
  go_enter Tryd.func11, Tryd.ntmps11
  go_wp2_with (first | (go_at_call 23; refine (encode_formOf.calls op n b true _ hT1 hf).mono ?_; rintro e w1 ⟨rfl, hb⟩; have hR := (hb.block w.heap.size (by simp)).trans (heap_alloc_new w (.cells (inV op rd rs1 rs2 imm aq rl len raw) 24)); have hB := (below_alloc (Below.refl _ w) (.cells (inV op rd rs1 rs2 imm aq rl len raw) 24)).trans (hb.mono (by simp)); have hA := row_alloc hR (.cells #[.int .i64 n, .int .u32 b] 56); have d1 := row_cell hA 1 (.int .i64 rd) rfl; have d2 := row_cell hA 2 (.int .i64 rs1) rfl; have d3 := row_cell hA 3 (.int .i64 rs2) rfl; clear hb))
  generalize hW : World.alloc (World.alloc w1 _) _ = W2
  have hC : ChkW w w1.heap.size op rd rs1 rs2 imm aq rl len raw n b W2 := by
    subst hW
    exact ⟨row_alloc hA _, row_alloc (heap_alloc_new w1 _) _, heap_alloc2_new w1 _ _, by simp, below_alloc (below_alloc hB _) _⟩
  clear hW hA d1 d2 d3 hB hR hT1
  generalize w1.heap.size = g1 at hC ⊢
  go_loopg [26] 4 (fun kq v26 W => ∃ i : Nat, v26 = .int .i64 i ∧ Aside0 (i ≤ 3 ∧ kq + i = 4 ∧ ∀ j, j < i → ¬ bad (regs rd rs1 rs2 j)) ∧ Aside0 (W = W2))
  case atStart => exact ⟨0, rfl, ⟨by omega, by omega, fun j hj => absurd hj (by omega)⟩, ⟨rfl⟩⟩
  case round =>
    obtain ⟨i, rfl, ⟨hi, hk, hall⟩, ⟨rfl⟩⟩ := hrel
    by_cases hlt : i < 3
    · have b0 : decide ((i : Int) < 3) = true := decide_eq_true (by omega)
      have b1 : (0 ≤ (i : Int) ∧ (i : Int) < ((3 : Nat) : Int)) := ⟨by omega, by omega⟩
      have hc : wr.cell? ⟨g1 + 1, i, none⟩ = some (.int .i64 (regs rd rs1 rs2 i)) := row_cell hC.rgs i _ (by
        rcases (show i = 0 ∨ i = 1 ∨ i = 2 by omega) with rfl | rfl | rfl <;> rfl)
      have hbad : bad (regs rd rs1 rs2 i) → r = 60 := fun hb => hr60 (by
        rcases (show i = 0 ∨ i = 1 ∨ i = 2 by omega) with rfl | rfl | rfl
        · exact .inl hb
        · exact .inr (.inl hb)
        · exact .inr (.inr hb))
      by_cases c : regs rd rs1 rs2 i < 0
      · have x0 : decide (regs rd rs1 rs2 i < 0) = true := decide_eq_true c
        obtain rfl := hbad (.inl c)
        go_wp2
        go_ret
        exact ⟨rfl, hC.below⟩
      · by_cases c2 : regs rd rs1 rs2 i > 31
        · have x0 : decide (regs rd rs1 rs2 i < 0) = false := decide_eq_false c
          have x1 : decide (31 < regs rd rs1 rs2 i) = true := decide_eq_true c2
          obtain rfl := hbad (.inr c2)
          go_wp2
          go_ret
          exact ⟨rfl, hC.below⟩
        · have x0 : decide (regs rd rs1 rs2 i < 0) = false := decide_eq_false c
          have x1 : decide (31 < regs rd rs1 rs2 i) = false := decide_eq_false c2
          go_wp2
          go_roundg (3 - i)
          case measure => omega
          case rel =>
            refine ⟨i + 1, rfl, ⟨by omega, by omega, fun j hj => ?_⟩, ⟨rfl⟩⟩
            by_cases e : j = i
            · subst e; exact fun hb => by unfold bad at hb; omega
            · exact hall j (by omega)
    · have hi3 : i = 3 := by omega
      subst hi3
      have g3 : wr.cell? ⟨g1, 0, none⟩ = some (.int .i64 n) := row_cell hC.frm 0 _ rfl
      go_upto_region 10 with fail
      have n0 : (0 ≤ (n : Int) ∧ (n : Int) < ((12 : Nat) : Int)) := ⟨by omega, by omega⟩
      have k0 : (wr.drew.alloc (.cells hasCells 61)).cell? ⟨wr.heap.size, n * 5, none⟩ = some (.bool hh.rd) := has_cell n hh hhas 0 (by decide) _ rfl wr.drew
      have m0 : ((wr.drew.alloc (.cells hasCells 61)).alloc (.cells #[.bool false, .bool false, .bool false, .bool false, .bool false] 61)).cell? ⟨wr.heap.size, n * 5, none⟩ = some (.bool hh.rd) := (World.cell?_alloc_lt _ _ _ (by simp)).trans k0
      have q0 : ((wr.drew.alloc (.cells #[.bool false, .bool false, .bool false, .bool false, .bool false] 61)).alloc (.cells hasCells 61)).cell? ⟨wr.heap.size + 1, n * 5, none⟩ = some (.bool hh.rd) := by have := has_cell n hh hhas 0 (by decide) (.bool hh.rd) rfl (wr.drew.alloc (.cells #[.bool false, .bool false, .bool false, .bool false, .bool false] 61)); simpa using this
      have k1 : (wr.drew.alloc (.cells hasCells 61)).cell? ⟨wr.heap.size, n * 5 + 1, none⟩ = some (.bool hh.rs1) := has_cell n hh hhas 1 (by decide) _ rfl wr.drew
      have m1 : ((wr.drew.alloc (.cells hasCells 61)).alloc (.cells #[.bool false, .bool false, .bool false, .bool false, .bool false] 61)).cell? ⟨wr.heap.size, n * 5 + 1, none⟩ = some (.bool hh.rs1) := (World.cell?_alloc_lt _ _ _ (by simp)).trans k1
      have q1 : ((wr.drew.alloc (.cells #[.bool false, .bool false, .bool false, .bool false, .bool false] 61)).alloc (.cells hasCells 61)).cell? ⟨wr.heap.size + 1, n * 5 + 1, none⟩ = some (.bool hh.rs1) := by have := has_cell n hh hhas 1 (by decide) (.bool hh.rs1) rfl (wr.drew.alloc (.cells #[.bool false, .bool false, .bool false, .bool false, .bool false] 61)); simpa using this
      have k2 : (wr.drew.alloc (.cells hasCells 61)).cell? ⟨wr.heap.size, n * 5 + 2, none⟩ = some (.bool hh.rs2) := has_cell n hh hhas 2 (by decide) _ rfl wr.drew
      have m2 : ((wr.drew.alloc (.cells hasCells 61)).alloc (.cells #[.bool false, .bool false, .bool false, .bool false, .bool false] 61)).cell? ⟨wr.heap.size, n * 5 + 2, none⟩ = some (.bool hh.rs2) := (World.cell?_alloc_lt _ _ _ (by simp)).trans k2
      have q2 : ((wr.drew.alloc (.cells #[.bool false, .bool false, .bool false, .bool false, .bool false] 61)).alloc (.cells hasCells 61)).cell? ⟨wr.heap.size + 1, n * 5 + 2, none⟩ = some (.bool hh.rs2) := by have := has_cell n hh hhas 2 (by decide) (.bool hh.rs2) rfl (wr.drew.alloc (.cells #[.bool false, .bool false, .bool false, .bool false, .bool false] 61)); simpa using this
      have k3 : (wr.drew.alloc (.cells hasCells 61)).cell? ⟨wr.heap.size, n * 5 + 3, none⟩ = some (.bool hh.imm) := has_cell n hh hhas 3 (by decide) _ rfl wr.drew
      have m3 : ((wr.drew.alloc (.cells hasCells 61)).alloc (.cells #[.bool false, .bool false, .bool false, .bool false, .bool false] 61)).cell? ⟨wr.heap.size, n * 5 + 3, none⟩ = some (.bool hh.imm) := (World.cell?_alloc_lt _ _ _ (by simp)).trans k3
      have q3 : ((wr.drew.alloc (.cells #[.bool false, .bool false, .bool false, .bool false, .bool false] 61)).alloc (.cells hasCells 61)).cell? ⟨wr.heap.size + 1, n * 5 + 3, none⟩ = some (.bool hh.imm) := by have := has_cell n hh hhas 3 (by decide) (.bool hh.imm) rfl (wr.drew.alloc (.cells #[.bool false, .bool false, .bool false, .bool false, .bool false] 61)); simpa using this
      have k4 : (wr.drew.alloc (.cells hasCells 61)).cell? ⟨wr.heap.size, n * 5 + 4, none⟩ = some (.bool hh.order) := has_cell n hh hhas 4 (by decide) _ rfl wr.drew
      have m4 : ((wr.drew.alloc (.cells hasCells 61)).alloc (.cells #[.bool false, .bool false, .bool false, .bool false, .bool false] 61)).cell? ⟨wr.heap.size, n * 5 + 4, none⟩ = some (.bool hh.order) := (World.cell?_alloc_lt _ _ _ (by simp)).trans k4
      have q4 : ((wr.drew.alloc (.cells #[.bool false, .bool false, .bool false, .bool false, .bool false] 61)).alloc (.cells hasCells 61)).cell? ⟨wr.heap.size + 1, n * 5 + 4, none⟩ = some (.bool hh.order) := by have := has_cell n hh hhas 4 (by decide) (.bool hh.order) rfl (wr.drew.alloc (.cells #[.bool false, .bool false, .bool false, .bool false, .bool false] 61)); simpa using this
      have f0 : wr.drew.cell? ⟨g1, 0, none⟩ = some (.int .i64 n) := g3
      have f1 : (wr.drew.alloc (.cells hasCells 61)).cell? ⟨g1, 0, none⟩ = some (.int .i64 n) := row_cell (row_alloc (W := wr.drew) hC.frm _) 0 _ rfl
      have f2 : (wr.drew.alloc (.cells #[.bool false, .bool false, .bool false, .bool false, .bool false] 61)).cell? ⟨g1, 0, none⟩ = some (.int .i64 n) := row_cell (row_alloc (W := wr.drew) hC.frm _) 0 _ rfl
      have f3 : ((wr.drew.alloc (.cells hasCells 61)).alloc (.cells #[.bool false, .bool false, .bool false, .bool false, .bool false] 61)).cell? ⟨g1, 0, none⟩ = some (.int .i64 n) := row_cell (row_alloc (row_alloc (W := wr.drew) hC.frm _) _) 0 _ rfl
      have f4 : ((wr.drew.alloc (.cells #[.bool false, .bool false, .bool false, .bool false, .bool false] 61)).alloc (.cells hasCells 61)).cell? ⟨g1, 0, none⟩ = some (.int .i64 n) := row_cell (row_alloc (row_alloc (W := wr.drew) hC.frm _) _) 0 _ rfl
      have h0_ : hasCells[n * 5]? = some (.bool hh.rd) := by have := has_flat hasL n 0 hh hhas (by decide); rw [hasCells, List.getElem?_toArray]; exact this.trans rfl
      have h1_ : hasCells[n * 5 + 1]? = some (.bool hh.rs1) := by have := has_flat hasL n 1 hh hhas (by decide); rw [hasCells, List.getElem?_toArray]; exact this.trans rfl
      have h2_ : hasCells[n * 5 + 2]? = some (.bool hh.rs2) := by have := has_flat hasL n 2 hh hhas (by decide); rw [hasCells, List.getElem?_toArray]; exact this.trans rfl
      have h3_ : hasCells[n * 5 + 3]? = some (.bool hh.imm) := by have := has_flat hasL n 3 hh hhas (by decide); rw [hasCells, List.getElem?_toArray]; exact this.trans rfl
      have h4_ : hasCells[n * 5 + 4]? = some (.bool hh.order) := by have := has_flat hasL n 4 hh hhas (by decide); rw [hasCells, List.getElem?_toArray]; exact this.trans rfl
      have e1 : ¬ (g1 = wr.heap.size) := by have := hC.size; omega
      have e2 : ¬ (g1 = wr.heap.size + 1) := by have := hC.size; omega
      have e3 : g1 < wr.heap.size := by have := hC.size; omega
      have e4 : g1 < wr.heap.size + 1 := by omega
      go_cut [7] (fun v7 wc => ∃ gh : Nat, v7 = .pointer (some ⟨gh, 0, none⟩) ∧ Aside0 (ChkH w g1 gh op rd rs1 rs2 imm aq rl len raw n b hh wc))
      case first =>
        go_region_with (go_at_call 24; refine (fields_calls _).mono ?_; rintro e w' ⟨rfl, rfl⟩; dsimp only [hasV])
        all_goals (go_wp2_with fail; go_meet; exact ⟨_, rfl, ⟨⟨row_alloc (row_alloc hC.inn _) _, row_alloc (row_alloc hC.frm _) _, by first | exact heap_alloc2_new _ _ _ | exact heap_alloc2_old _ _ _, below_drew (below_alloc (below_alloc hC.below _) _)⟩⟩⟩)
      case rest =>
        obtain ⟨gh, rfl, ⟨hH⟩⟩ := hcut
        clear k0 k1 k2 k3 k4 m0 m1 m2 m3 m4 q0 q1 q2 q3 q4 f0 f1 f2 f3 f4 h0_ h1_ h2_ h3_ h4_ e1 e2 e3 e4 n0
        have x1 := row_cell hH.inn 1 (.int .i64 rd) rfl
        have x2 := row_cell hH.inn 2 (.int .i64 rs1) rfl
        have x3 := row_cell hH.inn 3 (.int .i64 rs2) rfl
        have x4 := row_cell hH.inn 4 (.int .i64 imm) rfl
        have x5 := row_cell hH.inn 5 (.bool aq) rfl
        have x6 := row_cell hH.inn 6 (.bool rl) rfl
        have y0 := row_cell hH.has 0 (.bool hh.rd) rfl
        have y1 := row_cell hH.has 1 (.bool hh.rs1) rfl
        have y2 := row_cell hH.has 2 (.bool hh.rs2) rfl
        have y3 := row_cell hH.has 3 (.bool hh.imm) rfl
        have y4 := row_cell hH.has 4 (.bool hh.order) rfl
        have z0 := row_cell hH.frm 0 (.int .i64 n) rfl
        go_upto_region 11 with fail
        go_cut [92] (fun v92 wx => Aside0 (v92 = .bool ((!hh.rd && (rd != 0)) || (!hh.rs1 && (rs1 != 0)) || (!hh.rs2 && (rs2 != 0)) || (!hh.imm && (imm != 0)) || (!hh.order && (aq || rl)))) ∧ Aside0 (wx = wc))
        case first =>
          clear z0
          rcases seven n hh hn hhas with rfl | rfl | rfl | rfl | rfl | rfl | rfl
          · by_cases c1 : rs1 = 0
            · have c1a : (rs1 == 0) = true := beq_iff_eq.mpr c1
              have c1b : (rs1 != 0) = false := bne_eq_false_iff_eq.mpr c1
              clear c1
              by_cases c2 : rs2 = 0
              · have c2a : (rs2 == 0) = true := beq_iff_eq.mpr c2
                have c2b : (rs2 != 0) = false := bne_eq_false_iff_eq.mpr c2
                clear c2
                cases aq with
                | true =>
                  go_wp2
                  go_meet
                  exact ⟨⟨by simp [*]⟩, ⟨rfl⟩⟩
                | false => cases rl with
                  | true =>
                    go_wp2
                    go_meet
                    exact ⟨⟨by simp [*]⟩, ⟨rfl⟩⟩
                  | false =>
                    go_wp2
                    go_meet
                    exact ⟨⟨by simp [*]⟩, ⟨rfl⟩⟩
              · have c2a : (rs2 == 0) = false := beq_eq_false_iff_ne.mpr c2
                have c2b : (rs2 != 0) = true := bne_iff_ne.mpr c2
                go_wp2
                go_meet
                exact ⟨⟨by simp [*]⟩, ⟨rfl⟩⟩
            · have c1a : (rs1 == 0) = false := beq_eq_false_iff_ne.mpr c1
              have c1b : (rs1 != 0) = true := bne_iff_ne.mpr c1
              go_wp2
              go_meet
              exact ⟨⟨by simp [*]⟩, ⟨rfl⟩⟩
          · by_cases c2 : rs2 = 0
            · have c2a : (rs2 == 0) = true := beq_iff_eq.mpr c2
              have c2b : (rs2 != 0) = false := bne_eq_false_iff_eq.mpr c2
              clear c2
              cases aq with
              | true =>
                go_wp2
                go_meet
                exact ⟨⟨by simp [*]⟩, ⟨rfl⟩⟩
              | false => cases rl with
                | true =>
                  go_wp2
                  go_meet
                  exact ⟨⟨by simp [*]⟩, ⟨rfl⟩⟩
                | false =>
                  go_wp2
                  go_meet
                  exact ⟨⟨by simp [*]⟩, ⟨rfl⟩⟩
            · have c2a : (rs2 == 0) = false := beq_eq_false_iff_ne.mpr c2
              have c2b : (rs2 != 0) = true := bne_iff_ne.mpr c2
              go_wp2
              go_meet
              exact ⟨⟨by simp [*]⟩, ⟨rfl⟩⟩
          · by_cases c0 : rd = 0
            · have c0a : (rd == 0) = true := beq_iff_eq.mpr c0
              have c0b : (rd != 0) = false := bne_eq_false_iff_eq.mpr c0
              clear c0
              cases aq with
              | true =>
                go_wp2
                go_meet
                exact ⟨⟨by simp [*]⟩, ⟨rfl⟩⟩
              | false => cases rl with
                | true =>
                  go_wp2
                  go_meet
                  exact ⟨⟨by simp [*]⟩, ⟨rfl⟩⟩
                | false =>
                  go_wp2
                  go_meet
                  exact ⟨⟨by simp [*]⟩, ⟨rfl⟩⟩
            · have c0a : (rd == 0) = false := beq_eq_false_iff_ne.mpr c0
              have c0b : (rd != 0) = true := bne_iff_ne.mpr c0
              go_wp2
              go_meet
              exact ⟨⟨by simp [*]⟩, ⟨rfl⟩⟩
          · by_cases c3 : imm = 0
            · have c3a : (imm == 0) = true := beq_iff_eq.mpr c3
              have c3b : (imm != 0) = false := bne_eq_false_iff_eq.mpr c3
              clear c3
              cases aq with
              | true =>
                go_wp2
                go_meet
                exact ⟨⟨by simp [*]⟩, ⟨rfl⟩⟩
              | false => cases rl with
                | true =>
                  go_wp2
                  go_meet
                  exact ⟨⟨by simp [*]⟩, ⟨rfl⟩⟩
                | false =>
                  go_wp2
                  go_meet
                  exact ⟨⟨by simp [*]⟩, ⟨rfl⟩⟩
            · have c3a : (imm == 0) = false := beq_eq_false_iff_ne.mpr c3
              have c3b : (imm != 0) = true := bne_iff_ne.mpr c3
              go_wp2
              go_meet
              exact ⟨⟨by simp [*]⟩, ⟨rfl⟩⟩
          · by_cases c0 : rd = 0
            · have c0a : (rd == 0) = true := beq_iff_eq.mpr c0
              have c0b : (rd != 0) = false := bne_eq_false_iff_eq.mpr c0
              clear c0
              by_cases c1 : rs1 = 0
              · have c1a : (rs1 == 0) = true := beq_iff_eq.mpr c1
                have c1b : (rs1 != 0) = false := bne_eq_false_iff_eq.mpr c1
                clear c1
                by_cases c2 : rs2 = 0
                · have c2a : (rs2 == 0) = true := beq_iff_eq.mpr c2
                  have c2b : (rs2 != 0) = false := bne_eq_false_iff_eq.mpr c2
                  clear c2
                  by_cases c3 : imm = 0
                  · have c3a : (imm == 0) = true := beq_iff_eq.mpr c3
                    have c3b : (imm != 0) = false := bne_eq_false_iff_eq.mpr c3
                    clear c3
                    cases aq with
                    | true =>
                      go_wp2
                      go_meet
                      exact ⟨⟨by simp [*]⟩, ⟨rfl⟩⟩
                    | false => cases rl with
                      | true =>
                        go_wp2
                        go_meet
                        exact ⟨⟨by simp [*]⟩, ⟨rfl⟩⟩
                      | false =>
                        go_wp2
                        go_meet
                        exact ⟨⟨by simp [*]⟩, ⟨rfl⟩⟩
                  · have c3a : (imm == 0) = false := beq_eq_false_iff_ne.mpr c3
                    have c3b : (imm != 0) = true := bne_iff_ne.mpr c3
                    go_wp2
                    go_meet
                    exact ⟨⟨by simp [*]⟩, ⟨rfl⟩⟩
                · have c2a : (rs2 == 0) = false := beq_eq_false_iff_ne.mpr c2
                  have c2b : (rs2 != 0) = true := bne_iff_ne.mpr c2
                  go_wp2
                  go_meet
                  exact ⟨⟨by simp [*]⟩, ⟨rfl⟩⟩
              · have c1a : (rs1 == 0) = false := beq_eq_false_iff_ne.mpr c1
                have c1b : (rs1 != 0) = true := bne_iff_ne.mpr c1
                go_wp2
                go_meet
                exact ⟨⟨by simp [*]⟩, ⟨rfl⟩⟩
            · have c0a : (rd == 0) = false := beq_eq_false_iff_ne.mpr c0
              have c0b : (rd != 0) = true := bne_iff_ne.mpr c0
              go_wp2
              go_meet
              exact ⟨⟨by simp [*]⟩, ⟨rfl⟩⟩
          · by_cases c3 : imm = 0
            · have c3a : (imm == 0) = true := beq_iff_eq.mpr c3
              have c3b : (imm != 0) = false := bne_eq_false_iff_eq.mpr c3
              clear c3
              go_wp2
              go_meet
              exact ⟨⟨by simp [*]⟩, ⟨rfl⟩⟩
            · have c3a : (imm == 0) = false := beq_eq_false_iff_ne.mpr c3
              have c3b : (imm != 0) = true := bne_iff_ne.mpr c3
              go_wp2
              go_meet
              exact ⟨⟨by simp [*]⟩, ⟨rfl⟩⟩
          · by_cases c2 : rs2 = 0
            · have c2a : (rs2 == 0) = true := beq_iff_eq.mpr c2
              have c2b : (rs2 != 0) = false := bne_eq_false_iff_eq.mpr c2
              clear c2
              by_cases c3 : imm = 0
              · have c3a : (imm == 0) = true := beq_iff_eq.mpr c3
                have c3b : (imm != 0) = false := bne_eq_false_iff_eq.mpr c3
                clear c3
                go_wp2
                go_meet
                exact ⟨⟨by simp [*]⟩, ⟨rfl⟩⟩
              · have c3a : (imm == 0) = false := beq_eq_false_iff_ne.mpr c3
                have c3b : (imm != 0) = true := bne_iff_ne.mpr c3
                go_wp2
                go_meet
                exact ⟨⟨by simp [*]⟩, ⟨rfl⟩⟩
            · have c2a : (rs2 == 0) = false := beq_eq_false_iff_ne.mpr c2
              have c2b : (rs2 != 0) = true := bne_iff_ne.mpr c2
              go_wp2
              go_meet
              exact ⟨⟨by simp [*]⟩, ⟨rfl⟩⟩
        case rest =>
          obtain ⟨⟨rfl⟩, ⟨rfl⟩⟩ := hcut
          generalize hb2 : ((!hh.rd && (rd != 0)) || (!hh.rs1 && (rs1 != 0)) || (!hh.rs2 && (rs2 != 0)) || (!hh.imm && (imm != 0)) || (!hh.order && (aq || rl))) = b2 at h60b ⊢
          cases b2 with
          | true =>
            obtain rfl := h60b rfl
            go_wp2
            go_ret
            exact ⟨rfl, hH.below⟩
          | false =>
            go_upto_region 13 with fail
            have z0 := row_cell hH.frm 0 (.int .i64 n) rfl
            have v0 := row_cell (row_alloc (W := wc.drew) hH.frm reachesO) 0 (.int .i64 n) rfl
            have v1 := row_cell (row_alloc (W := wc.drew) hH.frm (.cells #[.int .i64 0, .int .i64 0, .int .i64 0] 65)) 0 (.int .i64 n) rfl
            have v2 := row_cell (row_alloc (row_alloc (W := wc.drew) hH.frm reachesO) (.cells #[.int .i64 0, .int .i64 0, .int .i64 0] 65)) 0 (.int .i64 n) rfl
            have v3 := row_cell (row_alloc (row_alloc (W := wc.drew) hH.frm (.cells #[.int .i64 0, .int .i64 0, .int .i64 0] 65)) reachesO) 0 (.int .i64 n) rfl
            have l0 := run_lookup_reach (wc.alloc reachesO).drew wc.heap.size n (heap_alloc_new wc _)
            have l1 := run_lookup_reach ((wc.alloc reachesO).alloc (.cells #[.int .i64 0, .int .i64 0, .int .i64 0] 65)).drew wc.heap.size n (heap_alloc2_old wc _ _)
            have l2 := run_lookup_reach ((wc.alloc (.cells #[.int .i64 0, .int .i64 0, .int .i64 0] 65)).alloc reachesO).drew (wc.heap.size + 1) n (heap_alloc2_new wc _ _)
            have e0 : g1 < wc.heap.size := World.block_lt_of_cell? wc ⟨g1, 0, none⟩ z0
            have e1 : ¬ (g1 = wc.heap.size) := by omega
            have e2 : ¬ (g1 = wc.heap.size + 1) := by omega
            have e4 : g1 < wc.heap.size + 1 := by omega
            go_cut [8, 9] (fun v8 v9 wy => ∃ gr : Nat, v8 = .pointer (some ⟨gr, 0, none⟩) ∧ v9 = .bool (findR n reachT).isSome ∧ Aside0 (ChkR w gr op rd rs1 rs2 imm aq rl len raw ((findR n reachT).getD (0, 0, 0)) wy))
            case first =>
              go_region_with (go_at_call 25; refine (reaches_calls _).mono ?_; rintro e w' ⟨rfl, rfl⟩; dsimp only [reachesV])
              all_goals (go_wp2_with fail; go_meet; exact ⟨_, rfl, rfl, ⟨⟨row_alloc (row_alloc hH.inn _) _, by first | exact heap_alloc2_new _ _ _ | exact heap_alloc2_old _ _ _, below_drew (below_alloc (below_alloc hH.below _) _)⟩⟩⟩)
            case rest =>
              obtain ⟨gr, rfl, rfl, ⟨hX⟩⟩ := hcut
              clear z0 v0 v1 v2 v3 l0 l1 l2 e0 e1 e2 e4
              replace hR := hR (by
                rintro (h | h | h)
                · exact hall 0 (by decide) h
                · exact hall 1 (by decide) h
                · exact hall 2 (by decide) h) hb2
              have i4 := row_cell hX.inn 4 (.int .i64 imm) rfl
              have r0 := row_cell hX.rch 0 _ rfl
              have r1 := row_cell hX.rch 1 _ rfl
              have r2 := row_cell hX.rch 2 _ rfl
              have hBX := hX.below
              clear hX
              generalize findR n reachT = fr at hR r0 r1 r2 ⊢
              cases fr with
              | none =>
                simp only [chkR, Option.some.injEq] at hR
                subst hR
                dsimp only [Option.isSome]
                go_wp2
                go_ret
                exact ⟨rfl, hBX⟩
              | some z =>
                obtain ⟨lo, hi, st⟩ := z
                dsimp only [Option.getD, Option.isSome] at r0 r1 r2 ⊢
                simp only [chkR] at hR
                by_cases c1 : imm < lo
                · rw [if_pos (.inl c1)] at hR
                  obtain rfl := Option.some.inj hR
                  have d1 : decide (imm < lo) = true := decide_eq_true c1
                  go_wp2
                  go_ret
                  exact ⟨rfl, hBX⟩
                by_cases c2 : imm > hi
                · rw [if_pos (.inr c2)] at hR
                  obtain rfl := Option.some.inj hR
                  have d1 : decide (imm < lo) = false := decide_eq_false c1
                  have d2 : decide (hi < imm) = true := decide_eq_true c2
                  go_wp2
                  go_ret
                  exact ⟨rfl, hBX⟩
                rw [if_neg (by rintro (h | h); exact c1 h; exact c2 h)] at hR
                have d1 : decide (imm < lo) = false := decide_eq_false c1
                have d2 : decide (hi < imm) = false := decide_eq_false c2
                by_cases c3 : st = 0
                · rw [if_pos c3] at hR; exact absurd hR (by simp)
                rw [if_neg c3] at hR
                by_cases c4 : Int.tmod imm st = 0
                · rw [if_pos c4] at hR
                  obtain rfl := Option.some.inj hR
                  have d4 : (Int.tmod imm st != 0) = false := bne_eq_false_iff_eq.mpr c4
                  go_wp2
                  go_ret
                  exact ⟨rfl, hBX⟩
                · rw [if_neg c4] at hR
                  obtain rfl := Option.some.inj hR
                  have d4 : (Int.tmod imm st != 0) = true := bne_iff_ne.mpr c4
                  go_wp2
                  go_ret
                  exact ⟨rfl, hBX⟩
end Go.Proofs.YtiibhggjlandmaaDoor.PF
