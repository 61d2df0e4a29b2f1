/- The law BusStores: it answers true. Premise: the story can be read, and its calls are not too many. -/
import Derived.Test.YtkocfcgdjjdnhaaPairG
namespace Go.Proofs.Ytkocfcgdjjdnhaa.BW
open Go.RowKit
set_option linter.unusedVariables false
set_option linter.unusedSimpArgs false
theorem cells16s {W : World} {p : Nat} {v1 v2 v3 vops : Value} {s : St} (h : W.heap[p]? = some (.cells (yCells v1 v2 v3 s vops) 43 (0, 0))) : W.cell? ⟨p, 0, none⟩ = some (v1) ∧ W.cell? ⟨p, 1, none⟩ = some (.int .u32 s.msip) ∧ W.cell? ⟨p, 2, none⟩ = some (.int .u64 s.cmp) ∧ W.cell? ⟨p, 3, none⟩ = some (.int .u64 s.now) ∧ W.cell? ⟨p, 4, none⟩ = some (.bool s.ext) ∧ W.cell? ⟨p, 5, none⟩ = some (.bool s.soft) ∧ W.cell? ⟨p, 6, none⟩ = some (.int .u8 s.ier) ∧ W.cell? ⟨p, 7, none⟩ = some (.int .u8 s.lcr) ∧ W.cell? ⟨p, 8, none⟩ = some (.int .u8 s.mcr) ∧ W.cell? ⟨p, 9, none⟩ = some (.int .u8 s.scr) ∧ W.cell? ⟨p, 10, none⟩ = some (.bool s.over) ∧ W.cell? ⟨p, 11, none⟩ = some (v2) ∧ W.cell? ⟨p, 12, none⟩ = some (v3) ∧ W.cell? ⟨p, 13, none⟩ = some (.int .i64 s.off) ∧ W.cell? ⟨p, 14, none⟩ = some (.int .i64 s.code) ∧ W.cell? ⟨p, 15, none⟩ = some (vops) :=
  ⟨row_cell h 0 _ rfl, row_cell h 1 _ rfl, row_cell h 2 _ rfl, row_cell h 3 _ rfl, row_cell h 4 _ rfl, row_cell h 5 _ rfl, row_cell h 6 _ rfl, row_cell h 7 _ rfl, row_cell h 8 _ rfl, row_cell h 9 _ rfl, row_cell h 10 _ rfl, row_cell h 11 _ rfl, row_cell h 12 _ rfl, row_cell h 13 _ rfl, row_cell h 14 _ rfl, row_cell h 15 _ rfl⟩
def kst : OpV := ⟨12, 0, 0, 0, .slice none 0 0, [], false, false, false, .slice none 0 0, []⟩
theorem kst_at (w : World) : kst.At w :=
  ⟨by simp [kst], by simp [kst], by simp [kst], by simp [kst], .inl (.inl ⟨rfl, rfl⟩), by intro n hn; simp [kst] at hn, by simp [kst], .inl (.inl ⟨rfl, rfl⟩), by intro n hn; simp [kst] at hn, by simp [kst]⟩
def flat (ops : List OpV) : List Value := ops.flatMap fun o => o.cells.toList
theorem cells_len (o : OpV) : o.cells.toList.length = 9 := rfl
theorem flat_len (ops : List OpV) : (flat ops).length = ops.length * 9 := by
  unfold flat
  induction ops with
  | nil => rfl
  | cons a r ih => rw [List.flatMap_cons, List.length_append, ih, cells_len, List.length_cons]; omega
theorem flat_get : ∀ (ops : List OpV) (i : Nat) (o : OpV) (j : Nat) (v : Value), ops[i]? = some o → o.cells.toList[j]? = some v → (flat ops)[i * 9 + j]? = some v
  | a :: r, 0, o, j, v, h1, h2 => by
    have hj : j < 9 := by have := (List.getElem?_eq_some_iff.mp h2).1; rw [cells_len] at this; exact this
    simp at h1; subst h1
    unfold flat
    rw [List.flatMap_cons, Nat.zero_mul, Nat.zero_add, List.getElem?_append_left (by rw [cells_len]; exact hj)]; exact h2
  | a :: r, i + 1, o, j, v, h1, h2 => by
    have ih := flat_get r i o j v (by simpa using h1) h2
    unfold flat at ih ⊢
    rw [List.flatMap_cons, List.getElem?_append_right (by rw [cells_len]; omega), cells_len, show (i + 1) * 9 + j - 9 = i * 9 + j by omega]
    exact ih
theorem flat_inv : ∀ (ops : List OpV) (j : Nat) (u : Value), (flat ops)[j]? = some u → ∃ o, ops[j / 9]? = some o ∧ o.cells.toList[j % 9]? = some u
  | [], j, u, h => by simp [flat] at h
  | a :: r, j, u, h => by
    unfold flat at h
    rw [List.flatMap_cons] at h
    by_cases hj : j < 9
    · rw [List.getElem?_append_left (by rw [cells_len]; exact hj)] at h
      exact ⟨a, by rw [Nat.div_eq_of_lt hj]; rfl, by rw [Nat.mod_eq_of_lt hj]; exact h⟩
    · rw [List.getElem?_append_right (by rw [cells_len]; omega), cells_len] at h
      obtain ⟨o, h1, h2⟩ := flat_inv r (j - 9) u h
      refine ⟨o, ?_, ?_⟩
      · rw [show j / 9 = (j - 9) / 9 + 1 by omega]; simpa using h1
      · rw [show j % 9 = (j - 9) % 9 by omega]; exact h2
theorem info54 : (Try.prog.info? 54).map (fun i => (i.zero, i.size, i.bytes)) = some (some (.agg zOp), 9, 88) := by kernel_rfl
theorem flat_one {w : World} {ops : List OpV} (h : ∀ o ∈ ops, o.At w) : ∀ u ∈ flat ops, u.oneCell' = true := by
  intro u hu
  unfold flat at hu
  obtain ⟨o, ho, hu⟩ := List.mem_flatMap.mp hu
  have := (h o ho).one
  rw [Array.all_eq_true_iff_forall_mem] at this
  exact this u (by simpa using hu)
/-- A row of calls of one's own. -/
theorem ops_copy {w : World} (ty : TypeId) {vops : Value} {ops : List OpV} (h : OpsAt w vops ops) (hl : ops.length * 88 ≤ 140737488351232) :
    ∃ v' w', (Builtin.append_ #[41, 41] ty #[.slice none 0 0, vops]).run Try.prog w = .ok v' w' ∧ w'.ownsRow w.heap.size 54 9 v' ops.length (flat ops) ∧ Kept [] w w' := by
  obtain ⟨i0, hi, hz0, hz1, hz2⟩ := info_parts info54
  rcases h.2 with ⟨rfl, rfl⟩ | ⟨g, off, cap, rfl, hc⟩
  · exact ⟨.slice none 0 0, w, run_append_owned_none (P := Try.prog) (w := w) 0 41 ty 54 i0 9 Try.underlying41 hi (.slice none 0 0) 0 [] (World.ownsRow_nil w 0 54 9), World.ownsRow_nil w _ 54 9, Kept.refl _ _⟩
  · have hat : ∀ o ∈ ops, o.At w := fun o ho => by
      obtain ⟨i, hi2, rfl⟩ := List.mem_iff_getElem.mp ho
      exact (hc i _ (List.getElem?_eq_getElem hi2)).2
    obtain ⟨v', w', hr, h2, h3, h4⟩ := run_append_own (P := Try.prog) w w.heap.size 41 ty 54 i0 (.agg zOp) 9 88 Try.underlying41 hi hz0 hz1 hz2 rfl (by decide) (.slice none 0 0) 0 [] (World.ownsRow_nil w _ 54 9) ⟨g, off, none⟩ ops.length cap (flat ops) (flat_len ops) (fun j u hu => by
      obtain ⟨o, h1, h2⟩ := flat_inv ops j u hu
      have := (hc _ o h1).1 _ u h2
      rw [addr_add, show off + j = off + j / 9 * 9 + j % 9 by omega]
      exact this) (flat_one hat) (by unfold maxLen; omega) (by omega) (Nat.le_refl _)
    refine ⟨v', w', hr, ?_, (Kept.refl [] w).grown h3 (fun k e => by simp [Value.ownBlock] at e)⟩
    simpa using h2
/-- One call more at its end. -/
theorem ops_more {w0 w : World} (ty : TypeId) {v : Value} {ops : List OpV} (hb : w0.heap.size ≤ w.heap.size) (h : w.ownsRow w0.heap.size 54 9 v ops.length (flat ops)) (hl : ops.length * 88 ≤ 140737488351232) :
    ∃ g cap w', (Builtin.append_ #[41, 41] ty #[v, .slice (some ⟨w.heap.size, 0, none⟩) 1 1]).run Try.prog (w.alloc (.cells kst.cells 54)) = .ok (.slice (some ⟨g, 0, none⟩) (ops.length + 1) cap) w' ∧ w'.ownsRow w0.heap.size 54 9 (.slice (some ⟨g, 0, none⟩) (ops.length + 1) cap) (ops.length + 1) (flat (ops ++ [kst])) ∧ w0.heap.size ≤ g ∧ (w.alloc (.cells kst.cells 54)).grownBy w' v.ownBlock := by
  obtain ⟨i0, hi, hz0, hz1, hz2⟩ := info_parts info54
  obtain ⟨v', w', hr, h2, h3, h4⟩ := run_append_own (P := Try.prog) (w.alloc (.cells kst.cells 54)) w0.heap.size 41 ty 54 i0 (.agg zOp) 9 88 Try.underlying41 hi hz0 hz1 hz2 rfl (by decide) v ops.length (flat ops) (h.alloc _) ⟨w.heap.size, 0, none⟩ 1 1 kst.cells.toList rfl (fun j u hu => by
    rw [addr_add, Nat.zero_add, World.cell?_alloc_new]
    simpa using hu) (by intro u hu; have := (kst_at w).one; rw [Array.all_eq_true_iff_forall_mem] at this; exact this u (by simpa using hu)) (by unfold maxLen; omega) (by omega) (by simp; omega)
  have e : flat ops ++ kst.cells.toList = flat (ops ++ [kst]) := by unfold flat; simp
  rw [e] at h2
  rcases h2.2 with ⟨_, h5⟩ | ⟨g, cap, cur, rfl, h6, _⟩
  · omega
  · exact ⟨g, cap, w', hr, h2, h6, h3⟩
theorem wpList_append_run {w w' : World} {ops : Array Oper} {rest : List Oper} {o : Oper} {a : Act} {Q : Exit → Act → World → Prop} (hgd : o.guard = none) (s x : Operand)
    (ho : o.op = .call { callee := .builtin .append, args := #[s, x], argTypes := #[41, 41] }) (v y v' : Value) (hs : a.eval s = v) (hy : a.eval x = y) (hr : (Builtin.append_ #[41, 41] o.type #[v, y]).run Try.prog w = .ok v' w')
    (h : wpList Try.prog ops Q rest (a.put o.dst v') w') : wpList Try.prog ops Q (o :: rest) a w :=
  wpList_plain hgd fun _ hK => by
    unfold Oper.wp execOp
    simp only [ho, resolve, invoke, builtin, Sem.run_bind, Sem.run_pure, Result.andThen_ok, List.map_toArray, List.map_cons, List.map_nil, hs, hy, hr]
    exact hK _ _ h
/-- The calls and one more, as they lie behind both appends. -/
theorem ops_laid {w0 w' : World} {vops : Value} {ops : List OpV} {g cap base : Nat} (h0 : OpsAt w0 vops ops) (h : w'.ownsRow base 54 9 (.slice (some ⟨g, 0, none⟩) (ops.length + 1) cap) (ops.length + 1) (flat (ops ++ [kst]))) (hl : ops.length * 88 ≤ 140737488351232) (hk : Kept [] w0 w') :
    OpsAt w' (.slice (some ⟨g, 0, none⟩) (ops.length + 1) cap) (ops ++ [kst]) := by
  refine ⟨by simp; omega, .inr ⟨g, 0, cap, by simp, fun i o hi => ⟨fun j v hv => ?_, ?_⟩⟩⟩
  · have hc := World.ownsRow.cells h (g := g) rfl
    have := hc (i * 9 + j) v (flat_get _ i o j v hi hv)
    rw [addr_add] at this
    rw [show 0 + i * 9 + j = 0 + (i * 9 + j) by omega]; exact this
  · by_cases hlt : i < ops.length
    · rw [List.getElem?_append_left hlt] at hi
      rcases h0.2 with ⟨_, e⟩ | ⟨g', off, cap', _, hc⟩
      · rw [e] at hlt; simp at hlt
      · exact (hc i o hi).2.keep hk
    · rw [List.getElem?_append_right (by omega)] at hi
      have : o = kst := by
        cases hq : i - ops.length with
        | zero => rw [hq] at hi; simpa using hi.symm
        | succ m => rw [hq] at hi; simp at hi
      subst this
      exact kst_at w'
set_option maxHeartbeats 16000000 in
set_option maxRecDepth 100000 in
theorem stores_no (w : World) (s : St) (hs : s.In) (v1 v2 v3 vops : Value) (ops : List OpV) (h1 : Rd w v1 s.ram) (h2 : Rd w v2 s.inp) (h3 : Rd w v3 s.out) (ho : OpsAt w vops ops) (hl : ops.length * 88 ≤ 140737488351232) (hc : s.canBe = false) :
    Calls Try.prog 9 #[.agg (yCells v1 v2 v3 s vops)] w (TruePost w) := by
  obtain ⟨A, c, rfl⟩ := h1.shape
  obtain ⟨B, d, rfl⟩ := h2.shape
  obtain ⟨C, e, rfl⟩ := h3.shape
  obtain ⟨AO, cO, rfl⟩ : ∃ A c, vops = .slice A ops.length c := by
    rcases ho.2 with ⟨rfl, rfl⟩ | ⟨g, off, cap, rfl, _⟩
    · exact ⟨_, _, rfl⟩
    · exact ⟨_, _, rfl⟩
  have hlen : ops.length ≤ 140737488351232 := ho.1
  have kA : Kept [] w (w.alloc (.cells (yCells (.slice A s.ram.length c) (.slice B s.inp.length d) (.slice C s.out.length e) s (.slice AO ops.length cO)) 43)) := (Kept.refl [] w).alloc _
  have hrow : (w.alloc (.cells (yCells (.slice A s.ram.length c) (.slice B s.inp.length d) (.slice C s.out.length e) s (.slice AO ops.length cO)) 43)).heap[w.heap.size]? = some (.cells (yCells (.slice A s.ram.length c) (.slice B s.inp.length d) (.slice C s.out.length e) s (.slice AO ops.length cO)) 43 (0, 0)) := heap_alloc_new w _
  obtain ⟨vc, wc, hr1, hown1, hkc⟩ := ops_copy 41 (ho.keep kA) hl
  obtain ⟨g, cap, wd, hr2, hown2, hg, hgr⟩ := ops_more 41 hkc.size hown1 hl
  have hsz : (w.alloc (.cells (yCells (.slice A s.ram.length c) (.slice B s.inp.length d) (.slice C s.out.length e) s (.slice AO ops.length cO)) 43)).heap.size = w.heap.size + 1 := by simp
  have hkd : Kept [] (w.alloc (.cells (yCells (.slice A s.ram.length c) (.slice B s.inp.length d) (.slice C s.out.length e) s (.slice AO ops.length cO)) 43)) wd := (hkc.alloc (.cells kst.cells 54)).grown hgr (fun k e hl => by have := (hown1.lt k e).1; omega)
  have hrd := hkd.row hrow (by simp)
  obtain ⟨f0, f1, f2, f3, f4, f5, f6, f7, f8, f9, f10, f11, f12, f13, f14, f15⟩ := cells16s hrd
  have z15 : wd.frozen? ⟨w.heap.size, 15, none⟩ = false := frozen_of_row _ _ _ _ _ hrd
  have ks : Kept [w.heap.size] wd (wd.setCell ⟨w.heap.size, 15, none⟩ (.slice (some ⟨g, 0, none⟩) (ops.length + 1) cap)) := (Kept.refl [w.heap.size] wd).setCell (by simp) _
  have hke : Kept [] w (wd.setCell ⟨w.heap.size, 15, none⟩ (.slice (some ⟨g, 0, none⟩) (ops.length + 1) cap)) := (kA.trans hkd (by simp)).trans ks (fun x hx hl => by simp at hx; omega)
  have hrow5 : (wd.setCell ⟨w.heap.size, 15, none⟩ (.slice (some ⟨g, 0, none⟩) (ops.length + 1) cap)).heap[w.heap.size]? = some (.cells (yCells (.slice A s.ram.length c) (.slice B s.inp.length d) (.slice C s.out.length e) s (.slice (some ⟨g, 0, none⟩) (ops.length + 1) cap)) 43 (0, 0)) := row_set hrd 15 _ rfl
  have hops : OpsAt (wd.setCell ⟨w.heap.size, 15, none⟩ (.slice (some ⟨g, 0, none⟩) (ops.length + 1) cap)) (.slice (some ⟨g, 0, none⟩) (ops.length + 1) cap) (ops ++ [kst]) := by
    refine ops_laid (base := (w.alloc (.cells (yCells (.slice A s.ram.length c) (.slice B s.inp.length d) (.slice C s.out.length e) s (.slice AO ops.length cO)) 43)).heap.size) ho ⟨hown2.1, ?_⟩ hl hke
    rcases hown2.2 with ⟨h5, _⟩ | ⟨g', cap', cur, h5, h6, h7, h8⟩
    · exact .inl ⟨h5, by simp at h5⟩
    · refine .inr ⟨g', cap', cur, h5, h6, ks.row h7 (by simp; omega), h8⟩
  have HB := Lib.hid (begin_no (wd.setCell ⟨w.heap.size, 15, none⟩ (.slice (some ⟨g, 0, none⟩) (ops.length + 1) cap)) s hs A B C _ _ _ c d e (h1.keep hke (by simp)) (h2.keep hke (by simp)) (h3.keep hke (by simp)) hc)
  have HA1 := Lib.hid hr1
  have HA2 := Lib.hid hr2
  have HK := Lib.hid hke
  clear h1 h2 h3 hs hc kA hrow ho hr1 hown1 hkc hr2 hown2 hg hgr hsz hkd hrd ks hke hrow5 hops hl
  unfold yCells at HA1 HA2 ⊢
  unfold sCells at HB
  go_enter Try.func9, Try.ntmps9
  go_wp2_with (first
    | ((with_reducible refine gate_n (N := 13) rfl ?_); at_builtin; refine wpList_append_run rfl _ _ rfl _ _ vc rfl rfl HA1.out ?_)
    | ((with_reducible refine gate_n (N := 16) rfl ?_); at_builtin; refine wpList_append_run rfl _ _ rfl _ _ (.slice (some ⟨g, 0, none⟩) (ops.length + 1) cap) rfl rfl HA2.out ?_)
    | (go_at_call 22; refine HB.out.mono ?_; rintro e w2 ⟨rfl, hk⟩; have HK2 := Lib.hid (HK.out.trans hk (by simp)); clear hk))
  go_ret
  exact ⟨rfl, HK2.out.alloc _⟩
set_option maxHeartbeats 16000000 in
set_option maxRecDepth 100000 in
theorem stores_yes (w : World) (s : St) (hs : s.In) (v1 v2 v3 vops : Value) (ops : List OpV) (h1 : Rd w v1 s.ram) (h2 : Rd w v2 s.inp) (h3 : Rd w v3 s.out) (ho : OpsAt w vops ops) (hl : ops.length * 88 ≤ 140737488351232) (hc : s.canBe = true) :
    Calls Try.prog 9 #[.agg (yCells v1 v2 v3 s vops)] w (TruePost w) := by
  obtain ⟨A, c, rfl⟩ := h1.shape
  obtain ⟨B, d, rfl⟩ := h2.shape
  obtain ⟨C, e, rfl⟩ := h3.shape
  obtain ⟨AO, cO, rfl⟩ : ∃ A c, vops = .slice A ops.length c := by
    rcases ho.2 with ⟨rfl, rfl⟩ | ⟨g, off, cap, rfl, _⟩
    · exact ⟨_, _, rfl⟩
    · exact ⟨_, _, rfl⟩
  have hlen : ops.length ≤ 140737488351232 := ho.1
  have kA : Kept [] w (w.alloc (.cells (yCells (.slice A s.ram.length c) (.slice B s.inp.length d) (.slice C s.out.length e) s (.slice AO ops.length cO)) 43)) := (Kept.refl [] w).alloc _
  have hrow : (w.alloc (.cells (yCells (.slice A s.ram.length c) (.slice B s.inp.length d) (.slice C s.out.length e) s (.slice AO ops.length cO)) 43)).heap[w.heap.size]? = some (.cells (yCells (.slice A s.ram.length c) (.slice B s.inp.length d) (.slice C s.out.length e) s (.slice AO ops.length cO)) 43 (0, 0)) := heap_alloc_new w _
  obtain ⟨vc, wc, hr1, hown1, hkc⟩ := ops_copy 41 (ho.keep kA) hl
  obtain ⟨g, cap, wd, hr2, hown2, hg, hgr⟩ := ops_more 41 hkc.size hown1 hl
  have hsz : (w.alloc (.cells (yCells (.slice A s.ram.length c) (.slice B s.inp.length d) (.slice C s.out.length e) s (.slice AO ops.length cO)) 43)).heap.size = w.heap.size + 1 := by simp
  have hkd : Kept [] (w.alloc (.cells (yCells (.slice A s.ram.length c) (.slice B s.inp.length d) (.slice C s.out.length e) s (.slice AO ops.length cO)) 43)) wd := (hkc.alloc (.cells kst.cells 54)).grown hgr (fun k e hl => by have := (hown1.lt k e).1; omega)
  have hrd := hkd.row hrow (by simp)
  obtain ⟨f0, f1, f2, f3, f4, f5, f6, f7, f8, f9, f10, f11, f12, f13, f14, f15⟩ := cells16s hrd
  have z15 : wd.frozen? ⟨w.heap.size, 15, none⟩ = false := frozen_of_row _ _ _ _ _ hrd
  have ks : Kept [w.heap.size] wd (wd.setCell ⟨w.heap.size, 15, none⟩ (.slice (some ⟨g, 0, none⟩) (ops.length + 1) cap)) := (Kept.refl [w.heap.size] wd).setCell (by simp) _
  have hke : Kept [] w (wd.setCell ⟨w.heap.size, 15, none⟩ (.slice (some ⟨g, 0, none⟩) (ops.length + 1) cap)) := (kA.trans hkd (by simp)).trans ks (fun x hx hl => by simp at hx; omega)
  have hrow5 : (wd.setCell ⟨w.heap.size, 15, none⟩ (.slice (some ⟨g, 0, none⟩) (ops.length + 1) cap)).heap[w.heap.size]? = some (.cells (yCells (.slice A s.ram.length c) (.slice B s.inp.length d) (.slice C s.out.length e) s (.slice (some ⟨g, 0, none⟩) (ops.length + 1) cap)) 43 (0, 0)) := row_set hrd 15 _ rfl
  have hops : OpsAt (wd.setCell ⟨w.heap.size, 15, none⟩ (.slice (some ⟨g, 0, none⟩) (ops.length + 1) cap)) (.slice (some ⟨g, 0, none⟩) (ops.length + 1) cap) (ops ++ [kst]) := by
    refine ops_laid (base := (w.alloc (.cells (yCells (.slice A s.ram.length c) (.slice B s.inp.length d) (.slice C s.out.length e) s (.slice AO ops.length cO)) 43)).heap.size) ho ⟨hown2.1, ?_⟩ hl hke
    rcases hown2.2 with ⟨h5, _⟩ | ⟨g', cap', cur, h5, h6, h7, h8⟩
    · exact .inl ⟨h5, by simp at h5⟩
    · refine .inr ⟨g', cap', cur, h5, h6, ks.row h7 (by simp; omega), h8⟩
  have HB := Lib.hid (begin_yes (wd.setCell ⟨w.heap.size, 15, none⟩ (.slice (some ⟨g, 0, none⟩) (ops.length + 1) cap)) s hs A B C _ _ _ c d e (h1.keep hke (by simp)) (h2.keep hke (by simp)) (h3.keep hke (by simp)) hc)
  have HA1 := Lib.hid hr1
  have HA2 := Lib.hid hr2
  have HK := Lib.hid hke
  have HO := Lib.hid hops
  have HROW := Lib.hid hrow5
  have HSOK := Lib.hid (hs.ok hc)
  clear h1 h2 h3 hs hc kA hrow ho hr1 hown1 hkc hr2 hown2 hg hgr hsz hkd hrd ks hke hrow5 hops hl
  unfold yCells at HA1 HA2 HROW ⊢
  unfold sCells at HB
  go_enter Try.func9, Try.ntmps9
  go_wp2_with (first
    | ((with_reducible refine gate_n (N := 13) rfl ?_); at_builtin; refine wpList_append_run rfl _ _ rfl _ _ vc rfl rfl HA1.out ?_)
    | ((with_reducible refine gate_n (N := 16) rfl ?_); at_builtin; refine wpList_append_run rfl _ _ rfl _ _ (.slice (some ⟨g, 0, none⟩) (ops.length + 1) cap) rfl rfl HA2.out ?_)
    | (go_at_call 22; refine HB.out.mono ?_; rintro e w2 ⟨pb, rb, rfl, hD⟩; obtain ⟨hz, hD3, hM⟩ := hD.pairbox; have HZ := Lib.hid hz; have HPL := Lib.hid (show Playing _ w2.heap.size pb rb _ from ⟨s, HSOK.out, hD3, hM⟩); clear hD hz hD3 hM)
    | (refine wpList_store_row rfl 37 (.tmp 4) (.tmp 26) rfl w2.heap.size _ rfl rfl 37 _ HZ.out (by kernel_rfl) rfl (by simp [Value.oneCell']) ?_))
  clear f0 f1 f2 f3 f4 f5 f6 f7 f8 f9 f10 f11 f12 f13 f14 f15 z15 HA1 HA2 HB HZ HSOK
  generalize (wd.setCell ⟨w.heap.size, 15, none⟩ (.slice (some ⟨g, 0, none⟩) (ops.length + 1) cap)) = w1 at *
  generalize w.heap.size = N at *
  generalize w2.heap.size = M at *
  have hL : (ops ++ [kst]).length = ops.length + 1 := by simp
  generalize hops : ops ++ [kst] = opt at *
  generalize ops.length = L at *
  go_loopw [7] (fun i wr => ∃ k : Nat, k ≤ L + 1 ∧ i = .int .i64 k ∧ Hid (Playing w1 M pb rb wr)) (fun i _ => L + 1 - (intOf i).toNat)
  case atStart => exact ⟨0, Nat.zero_le _, rfl, HPL.out⟩
  case round =>
    obtain ⟨k, hk, rfl, hp⟩ := hrel
    obtain ⟨s', hs', D, hM⟩ := hp.out
    have hR := D.kept.row HROW.out (by simp)
    have d15 : wr.cell? ⟨N, 15, none⟩ = some (.slice (some ⟨g, 0, none⟩) (L + 1) cap) := row_cell hR 15 _ rfl
    have hMl : M < wr.heap.size := D.xl M (by simp)
    by_cases hlt : k < L + 1
    · obtain ⟨o, hoi⟩ : ∃ o, opt[k]? = some o := ⟨_, List.getElem?_eq_getElem (by omega)⟩
      have hcs : w1.rangeAt g (0 + k * 9) o.cells.toList ∧ o.At w1 := by
        rcases HO.out.2 with ⟨h, _⟩ | ⟨g', off, cap', hve, h⟩
        · simp at h
        · simp only [Value.slice.injEq, Option.some.injEq, Addr.mk.injEq] at hve
          obtain ⟨⟨rfl, rfl, _⟩, _, _⟩ := hve
          exact h k o hoi
      have hrg := rangeAt_keep hcs.1 D.kept
      rw [Nat.zero_add] at hrg
      have HRG := Lib.hid hrg
      have HA := Lib.hid hcs.2
      obtain ⟨hz, D2, hT, hx2⟩ := D.opbox o.cells
      have HZO := Lib.hid hz
      have HD2 := Lib.hid D2
      have HT2 := Lib.hid hT
      have hm2 := (hx2 M (by simp)).trans hM
      have HM2 := Lib.hid hm2
      have HS' := Lib.hid hs'
      have HS'' := Lib.hid (hcs.2.ok hs')
      have HPS := Lib.hid (show Playing w1 M pb rb ((wr.alloc (.cells zOp 54)).setRow wr.heap.size o.cells) from ⟨s', hs', D2.pop (fun x hx => List.mem_cons_of_mem _ hx), hm2⟩)
      have k0 : ((wr.alloc (.cells zOp 54)).setRow wr.heap.size o.cells).cell? ⟨wr.heap.size, 0, none⟩ = some (.int .i64 o.kind) := row_cell hT 0 _ rfl
      clear D hs' hM hR hcs hoi hz D2 hT hx2 hm2 hrg
      by_cases h2 : o.kind = 2
      · have b2 : (o.kind != 2) = false := by simpa using h2
        clear h2
        go_wp2_with (first
          | ((with_reducible refine gate_n (N := 45) rfl ?_); refine wpList_load_mid rfl 54 (.tmp 44) rfl g (k * 9) rfl o.cells.toList _ HRG.out Try.underlying54 rfl (by kernel_rfl) ?_; rw [Array.toArray_toList])
          | (refine wpList_store_row rfl 54 (.tmp 8) (.tmp 45) rfl wr.heap.size _ rfl rfl 54 _ HZO.out (by kernel_rfl) rfl HA.out.one ?_)
          | ((with_reducible refine gate_n (N := 54) rfl ?_); refine wpList_load_row rfl 37 (.tmp 4) rfl M rfl 37 _ (0, 0) _ HM2.out Try.underlying37 rfl (by kernel_rfl) ?_)
          | ((with_reducible refine gate_n (N := 55) rfl ?_); refine wpList_load_row rfl 54 (.tmp 8) rfl wr.heap.size rfl 54 _ (0, 0) _ HT2.out Try.underlying54 rfl (by kernel_rfl) ?_)
          | (go_at_call 34; refine (changes_any HD2.out HS'.out o HA.out).mono ?_; rintro e w4 ⟨rfl, D4, hx⟩; have HD4 := Lib.hid D4; have HM4 := Lib.hid ((hx M (by simp)).trans HM2.out); have HT4 := Lib.hid ((hx wr.heap.size (by simp)).trans HT2.out); clear D4 hx)
          | ((with_reducible refine gate_n (N := 57) rfl ?_); refine wpList_load_row rfl 37 (.tmp 4) rfl M rfl 37 _ (0, 0) _ HM4.out Try.underlying37 rfl (by kernel_rfl) ?_)
          | ((with_reducible refine gate_n (N := 58) rfl ?_); refine wpList_load_row rfl 54 (.tmp 8) rfl wr.heap.size rfl 54 _ (0, 0) _ HT4.out Try.underlying54 rfl (by kernel_rfl) ?_)
          | (go_at_call 35; refine (asks_any HD4.out HS''.out o HA.out).mono ?_; rintro e w5 ⟨rfl, D5, hx⟩; have HPL5 := Lib.hid (show Playing w1 M pb rb w5 from ⟨_, HS''.out, D5.pop (fun x hx => List.mem_cons_of_mem _ hx), (hx M (by simp)).trans HM4.out⟩); clear D5 hx))
        all_goals
          go_roundw
          case rel => go_light; exact ⟨k + 1, by omega, by go_num, HPL5.out⟩
          case measure => simp [intOf]; omega
      · have b2 : (o.kind != 2) = true := by simpa using h2
        clear h2
        by_cases hkl : k < L
        · have b3 : decide ((k : Int) < (L : Int)) = true := by simp; omega
          go_wp2_with (first
            | ((with_reducible refine gate_n (N := 45) rfl ?_); refine wpList_load_mid rfl 54 (.tmp 44) rfl g (k * 9) rfl o.cells.toList _ HRG.out Try.underlying54 rfl (by kernel_rfl) ?_; rw [Array.toArray_toList])
            | (refine wpList_store_row rfl 54 (.tmp 8) (.tmp 45) rfl wr.heap.size _ rfl rfl 54 _ HZO.out (by kernel_rfl) rfl HA.out.one ?_))
          all_goals
            go_roundw
            case rel => go_light; exact ⟨k + 1, by omega, by go_num, HPS.out⟩
            case measure => simp [intOf]; omega
        · have b3 : decide ((k : Int) < (L : Int)) = false := by simp; omega
          go_wp2_with (first
            | ((with_reducible refine gate_n (N := 45) rfl ?_); refine wpList_load_mid rfl 54 (.tmp 44) rfl g (k * 9) rfl o.cells.toList _ HRG.out Try.underlying54 rfl (by kernel_rfl) ?_; rw [Array.toArray_toList])
            | (refine wpList_store_row rfl 54 (.tmp 8) (.tmp 45) rfl wr.heap.size _ rfl rfl 54 _ HZO.out (by kernel_rfl) rfl HA.out.one ?_)
            | ((with_reducible refine gate_n (N := 54) rfl ?_); refine wpList_load_row rfl 37 (.tmp 4) rfl M rfl 37 _ (0, 0) _ HM2.out Try.underlying37 rfl (by kernel_rfl) ?_)
            | ((with_reducible refine gate_n (N := 55) rfl ?_); refine wpList_load_row rfl 54 (.tmp 8) rfl wr.heap.size rfl 54 _ (0, 0) _ HT2.out Try.underlying54 rfl (by kernel_rfl) ?_)
            | (go_at_call 34; refine (changes_any HD2.out HS'.out o HA.out).mono ?_; rintro e w4 ⟨rfl, D4, hx⟩; have HD4 := Lib.hid D4; have HM4 := Lib.hid ((hx M (by simp)).trans HM2.out); have HT4 := Lib.hid ((hx wr.heap.size (by simp)).trans HT2.out); clear D4 hx)
            | ((with_reducible refine gate_n (N := 57) rfl ?_); refine wpList_load_row rfl 37 (.tmp 4) rfl M rfl 37 _ (0, 0) _ HM4.out Try.underlying37 rfl (by kernel_rfl) ?_)
            | ((with_reducible refine gate_n (N := 58) rfl ?_); refine wpList_load_row rfl 54 (.tmp 8) rfl wr.heap.size rfl 54 _ (0, 0) _ HT4.out Try.underlying54 rfl (by kernel_rfl) ?_)
            | (go_at_call 35; refine (asks_any HD4.out HS''.out o HA.out).mono ?_; rintro e w5 ⟨rfl, D5, hx⟩; have HPL5 := Lib.hid (show Playing w1 M pb rb w5 from ⟨_, HS''.out, D5.pop (fun x hx => List.mem_cons_of_mem _ hx), (hx M (by simp)).trans HM4.out⟩); clear D5 hx))
          all_goals
            go_roundw
            case rel => go_light; exact ⟨k + 1, by omega, by go_num, HPL5.out⟩
            case measure => simp [intOf]; omega
    · obtain rfl : k = L + 1 := by omega
      have HE := Lib.hid (HK.out.trans D.kept (by simp))
      clear D hM hR hs'
      go_wp2
      go_ret
      exact ⟨rfl, HE.out⟩
theorem law_BusStores (w : World) (s : St) (hs : s.In) (v1 v2 v3 vops : Value) (ops : List OpV) (h1 : Rd w v1 s.ram) (h2 : Rd w v2 s.inp) (h3 : Rd w v3 s.out) (ho : OpsAt w vops ops) (hl : ops.length * 88 ≤ 140737488351232) :
    Calls Try.prog 9 #[.agg (yCells v1 v2 v3 s vops)] w (TruePost w) := by
  cases hc : s.canBe
  · exact stores_no w s hs v1 v2 v3 vops ops h1 h2 h3 ho hl hc
  · exact stores_yes w s hs v1 v2 v3 vops ops h1 h2 h3 ho hl hc
end Go.Proofs.Ytkocfcgdjjdnhaa.BW
