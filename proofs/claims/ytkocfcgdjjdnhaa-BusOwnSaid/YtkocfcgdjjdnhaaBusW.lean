/- The program's bus: From. Premise: the state can be read. -/
import Derived.Test.YtkocfcgdjjdnhaaBusV
import Derived.StillTailTactics
namespace Go.Proofs.Ytkocfcgdjjdnhaa.BW
open Go.RowKit
set_option linter.unusedVariables false
set_option linter.unusedSimpArgs false
/-- What From leaves of a state that can be. -/
def FromPost (w : World) (s : St) (e : Ending) (w' : World) : Prop :=
  ∃ b vr vi vo, e = .returned (.tuple #[.pointer (some ⟨b, 0, none⟩), .int .i64 0]) ∧ PL w' b vr vi vo s ∧ (∀ x ∈ foot b vr vi vo, w.heap.size ≤ x) ∧ Kept [] w w'
theorem load_st {cs : Array Value} (hsz : cs.size = 15) {W : World} {B : Nat} {t : TypeId} (h : W.heap[B]? = some (.cells cs t (0, 0))) : (loadVar 26 ⟨B, 0, none⟩).run Try.prog W = .ok (.agg cs) W :=
  run_loadVar_row W B t 26 cs (0, 0) _ h Try.underlying26 rfl (by rw [hsz]; kernel_rfl)
theorem below_one {w w2 : World} {o : Obj} (hb : Below (w.alloc o).heap.size (w.alloc o) w2) : Below w.heap.size w w2 := ((Below.refl _ w).alloc (Nat.le_refl _) _).trans (hb.mono (by simp))
def st0 (e f : Bool) : St := { ram := [], inp := [], out := [], msip := 0, cmp := 0, now := 0, ier := 0, lcr := 0, mcr := 0, scr := 0, over := false, ext := e, soft := f, off := 0, code := 0 }
/-- The cells of a new bus. -/
abbrev nRow (e f : Bool) : Array Value := #[.slice none 0 0, .int .i64 0, .int .i64 0, .int .u32 0, .int .u64 0, .int .u64 0, .int .i32 0, .int .u32 0, .slice none 0 0, .slice none 0 0, .int .u8 0, .int .u8 0, .int .u8 0, .int .u8 0, .bool false, .bool e, .bool f]
theorem start_pl (W : World) (e f : Bool) : PL (W.alloc (.cells (nRow e f) 85)) W.heap.size (.slice none 0 0) (.slice none 0 0) (.slice none 0 0) (st0 e f) :=
  ⟨heap_alloc_new W _, Bs.nil _, Bs.nil _, Bs.nil _, by simp [foot, Value.ownBlock]⟩
/-- What own leaves beside a new bus and a box. -/
theorem own_new {W : World} {v : Value} {l : List Int} {b B : Nat} {e f : Bool} {cs : Array Value} (h : PL W b (.slice none 0 0) (.slice none 0 0) (.slice none 0 0) (st0 e f)) (hB : W.heap[B]? = some (.cells cs 26 (0, 0))) (y1 y2 y3 y13 y14 : Value) (h1 : cs[1]? = some y1) (h2 : cs[2]? = some y2) (h3 : cs[3]? = some y3) (h13 : cs[13]? = some y13) (h14 : cs[14]? = some y14) (hr : Rd W v l) (hl : l.length ≤ 140737488351232) :
    Calls Try.prog 39 #[v] W fun e' w2 => ∃ A c, e' = .returned (.slice A l.length c) ∧ w2.cell? ⟨B, 1, none⟩ = some y1 ∧ w2.cell? ⟨B, 2, none⟩ = some y2 ∧ w2.cell? ⟨B, 3, none⟩ = some y3 ∧ w2.cell? ⟨B, 13, none⟩ = some y13 ∧ w2.cell? ⟨B, 14, none⟩ = some y14 ∧ w2.cell? ⟨b, 0, none⟩ = some (.slice none 0 0) ∧ w2.cell? ⟨b, 1, none⟩ = some (.int .i64 0) ∧ w2.cell? ⟨b, 2, none⟩ = some (.int .i64 0) ∧ w2.cell? ⟨b, 3, none⟩ = some (.int .u32 0) ∧ w2.cell? ⟨b, 4, none⟩ = some (.int .u64 0) ∧ w2.cell? ⟨b, 5, none⟩ = some (.int .u64 0) ∧ (∀ j, w2.frozen? ⟨b, j, none⟩ = false) ∧
      Hid (Bs w2 (.slice A l.length c) l ∧ (∀ g, (Value.slice A l.length c).ownBlock = some g → W.heap.size ≤ g) ∧ Kept [] W w2 ∧ PL w2 b (.slice none 0 0) (.slice none 0 0) (.slice none 0 0) (st0 e f) ∧ w2.heap[B]? = some (.cells cs 26 (0, 0))) :=
  (own_any W v l hr hl).mono fun e' w2 ⟨v', he, hb, hn, hk⟩ => by
    obtain ⟨A, c, rfl⟩ := hb.shape
    have p2 := h.keep0 hk
    have hB2 := hk.row hB (by simp)
    exact ⟨A, c, he, row_cell hB2 1 _ h1, row_cell hB2 2 _ h2, row_cell hB2 3 _ h3, row_cell hB2 13 _ h13, row_cell hB2 14 _ h14, p2.cell 0 _ rfl, p2.cell 1 _ rfl, p2.cell 2 _ rfl, p2.cell 3 _ rfl, p2.cell 4 _ rfl, p2.cell 5 _ rfl, fun j => p2.frozen j, hb, hn, hk, p2, hB2⟩
set_option maxHeartbeats 8000000 in
set_option maxRecDepth 100000 in
theorem from_no (w : World) (s : St) (hs : s.In) (A B C : Option Addr) (n m k c d e : Nat) (hn : n = s.ram.length) (hm : m = s.inp.length) (hk : k = s.out.length) (hc : s.canBe = false) :
    Calls Try.prog 41 #[.agg (sCells (.slice A n c) (.slice B m d) (.slice C k e) s)] w fun e w' => e = .returned (.tuple #[.pointer none, .int .i64 31]) ∧ Below w.heap.size w w' := by
  have HC := Lib.hid (can_in (w.alloc (.cells (sCells (.slice A n c) (.slice B m d) (.slice C k e) s) 26)) s hs A B C n m k c d e hn hm hk)
  have hF := Lib.hid hc
  have hrow : (w.alloc (.cells (sCells (.slice A n c) (.slice B m d) (.slice C k e) s) 26)).heap[w.heap.size]? = some (.cells (sCells (.slice A n c) (.slice B m d) (.slice C k e) s) 26 (0, 0)) := heap_alloc_new w _
  have HROW := Lib.hid hrow
  clear hrow hc hs hn hm hk
  go_enter Try.func41, Try.ntmps41
  go_wp2_with (first | (refine wpList_load_row rfl 26 (.tmp 1) rfl w.heap.size rfl 26 _ (0, 0) _ HROW.out Try.underlying26 rfl (by kernel_rfl) ?_) | (go_at_call 64; refine HC.out.mono ?_; rw [hF.out]; rintro e w2 ⟨rfl, hb⟩; have HB := Lib.hid hb; clear hb))
  refine bodyPost_ret (results_tmp2 rfl _ _ _) rfl ⟨rfl, (below_one HB.out)⟩
theorem Rd.below2 {w w2 : World} {o : Obj} {A : Option Addr} {n c : Nat} {l : List Int} (hr : Rd w (.slice A n c) l) (hb : Below (w.alloc o).heap.size (w.alloc o) w2) (e f : Bool) (hA : ∀ g o, A = some ⟨g, o, none⟩ → g < w.heap.size) : Rd (w2.alloc (.cells (nRow e f) 85)) (.slice A n c) l :=
  (hr.keep (.of_below (F := []) (below_one hb)) (by simp)).keep ((Kept.refl [] w2).alloc _) (by simp)
theorem wpStill_load_row {P : Program} {ops : Array Oper} {w : World} {Q : Act → Prop} {o : Oper} {rest : List Oper} {a : Act} (hg : o.guard = none) (ty : TypeId) (x : Operand) (ho : o.op = .load ty x) (g : Nat) (hx : a.eval x = .pointer (some ⟨g, 0, none⟩)) (v : Value) (hld : (loadVar ty ⟨g, 0, none⟩).run P w = .ok v w) (h : wpStill P ops w Q rest (a.put o.dst v)) : wpStill P ops w Q (o :: rest) a := by
  show if Region.wanted o (yielded ops a.tmps) then o.still P a w (wpStill P ops w Q rest) else _
  rw [if_pos (by simp [Region.wanted, hg])]
  unfold Oper.still execOp
  simp only [ho, hx, Instr.loadAt, Instr.sureAddr, Sem.run_bind, Sem.run_pure, Result.andThen_ok, hld]
  exact ⟨rfl, h⟩
/-- A new bus, but for its console. -/
structure FromN (w W : World) (b B : Nat) (v : Value) (s : St) (cs : Array Value) : Prop where
  lies : PL W.drew b v (.slice none 0 0) (.slice none 0 0) { st0 s.ext s.soft with ram := s.ram, off := s.off, code := s.code, msip := s.msip, cmp := s.cmp, now := s.now }
  box : W.drew.heap[B]? = some (.cells cs 26 (0, 0))
  kept : Kept [] w W.drew
  new : ∀ x ∈ foot b v (.slice none 0 0) (.slice none 0 0), w.heap.size ≤ x
theorem FromN.of {w w2 w3 : World} {v : Value} {s : St} {cs : Array Value} (h1 : Bs w3 v s.ram) (h2 : ∀ g, v.ownBlock = some g → (w2.alloc (.cells (nRow s.ext s.soft) 85)).heap.size ≤ g) (h3 : Kept [] (w2.alloc (.cells (nRow s.ext s.soft) 85)) w3) (h4 : PL w3 w2.heap.size (.slice none 0 0) (.slice none 0 0) (.slice none 0 0) (st0 s.ext s.soft)) (h5 : w3.heap[w.heap.size]? = some (.cells cs 26 (0, 0))) (hz : w.heap.size < w2.heap.size) (hk : Kept [] w w2) :
    FromN w ((((((w3.setCell ⟨w2.heap.size, 0, none⟩ v).setCell ⟨w2.heap.size, 1, none⟩ (.int .i64 s.off)).setCell ⟨w2.heap.size, 2, none⟩ (.int .i64 s.code)).setCell ⟨w2.heap.size, 3, none⟩ (.int .u32 s.msip)).setCell ⟨w2.heap.size, 4, none⟩ (.int .u64 s.cmp)).setCell ⟨w2.heap.size, 5, none⟩ (.int .u64 s.now)) w2.heap.size w.heap.size v s cs := by
  have n1 : ∀ g, v.ownBlock = some g → w2.heap.size + 1 ≤ g := fun g hg => by have := h2 g hg; simpa using this
  have kb : Kept [w2.heap.size] w3 (w3.setCell ⟨w2.heap.size, 0, none⟩ v) := (Kept.refl [w2.heap.size] w3).setCell (by simp) _
  have r0 := row_set h4.blk 0 v rfl
  have l0 : PL (w3.setCell ⟨w2.heap.size, 0, none⟩ v) w2.heap.size v (.slice none 0 0) (.slice none 0 0) { st0 s.ext s.soft with ram := s.ram } :=
    ⟨r0, h1.keep kb (fun g hg => by have := n1 g hg; simp; omega), Bs.nil _, Bs.nil _, by rw [foot_nodup]; exact ⟨fun g hg => by have := n1 g hg; omega, by simp [Value.ownBlock], by simp [Value.ownBlock], by simp [Value.ownBlock], by simp [Value.ownBlock], by simp [Value.ownBlock]⟩⟩
  have l1 := l0.set 1 (.int .i64 s.off) (s' := { st0 s.ext s.soft with ram := s.ram, off := s.off }) (cs' := fun vr vi vo s => pCells vr vi vo s) rfl
  have l2 := l1.set 2 (.int .i64 s.code) (s' := { st0 s.ext s.soft with ram := s.ram, off := s.off, code := s.code }) (cs' := fun vr vi vo s => pCells vr vi vo s) rfl
  have l3 := l2.set 3 (.int .u32 s.msip) (s' := { st0 s.ext s.soft with ram := s.ram, off := s.off, code := s.code, msip := s.msip }) (cs' := fun vr vi vo s => pCells vr vi vo s) rfl
  have l4 := l3.set 4 (.int .u64 s.cmp) (s' := { st0 s.ext s.soft with ram := s.ram, off := s.off, code := s.code, msip := s.msip, cmp := s.cmp }) (cs' := fun vr vi vo s => pCells vr vi vo s) rfl
  have l5 := l4.set 5 (.int .u64 s.now) (s' := { st0 s.ext s.soft with ram := s.ram, off := s.off, code := s.code, msip := s.msip, cmp := s.cmp, now := s.now }) (cs' := fun vr vi vo s => pCells vr vi vo s) rfl
  have ka : Kept [w2.heap.size] w3 (((((((w3.setCell ⟨w2.heap.size, 0, none⟩ v).setCell ⟨w2.heap.size, 1, none⟩ (.int .i64 s.off)).setCell ⟨w2.heap.size, 2, none⟩ (.int .i64 s.code)).setCell ⟨w2.heap.size, 3, none⟩ (.int .u32 s.msip)).setCell ⟨w2.heap.size, 4, none⟩ (.int .u64 s.cmp)).setCell ⟨w2.heap.size, 5, none⟩ (.int .u64 s.now)).drew) :=
    Kept.drew (Kept.setCell (Kept.setCell (Kept.setCell (Kept.setCell (Kept.setCell kb (by simp) _) (by simp) _) (by simp) _) (by simp) _) (by simp) _)
  refine ⟨l5.keep0 (Kept.refl [] _).drew, ka.row h5 (by simp; omega), ((hk.trans ((Kept.refl [] w2).alloc _) (by simp)).trans h3 (by simp)).trans ka (fun x hx hl => by simp at hx; omega), ?_⟩
  intro x hx
  simp only [foot, List.mem_cons, List.mem_append, Option.mem_toList] at hx
  rcases hx with rfl | hx | hx | hx
  · omega
  · have := n1 x hx; omega
  · simp [Value.ownBlock] at hx
  · simp [Value.ownBlock] at hx
/-- The operation that writes slot 5 comes up. -/
theorem gate5 {P : Program} {ops : Array Oper} {rest : List Oper} {o : Oper} {a : Act} {Q : Exit → Act → World → Prop} {w : World} (_ : o.dst = some 5) (h : wpList P ops Q (o :: rest) a w) : wpList P ops Q (o :: rest) a w := h
set_option maxHeartbeats 8000000 in
set_option maxRecDepth 100000 in
theorem from_yes (w : World) (s : St) (hs : s.In) (A B C : Option Addr) (n m k c d e : Nat) (hn : n = s.ram.length) (hm : m = s.inp.length) (hk : k = s.out.length) (hr : Rd w (.slice A n c) s.ram) (hi : Rd w (.slice B m d) s.inp) (ho : Rd w (.slice C k e) s.out) (hA : ∀ g o, A = some ⟨g, o, none⟩ → g < w.heap.size) (hBl : ∀ g o, B = some ⟨g, o, none⟩ → g < w.heap.size) (hCl : ∀ g o, C = some ⟨g, o, none⟩ → g < w.heap.size) (hc : s.canBe = true) :
    Calls Try.prog 41 #[.agg (sCells (.slice A n c) (.slice B m d) (.slice C k e) s)] w (FromPost w s) := by
  subst hn hm hk
  have hcan := can_in (w.alloc (.cells (sCells (.slice A s.ram.length c) (.slice B s.inp.length d) (.slice C s.out.length e) s) 26)) s hs A B C _ _ _ c d e rfl rfl rfl
  rw [hc] at hcan
  have HC := Lib.hid hcan
  have hrow : (w.alloc (.cells (sCells (.slice A s.ram.length c) (.slice B s.inp.length d) (.slice C s.out.length e) s) 26)).heap[w.heap.size]? = some (.cells (sCells (.slice A s.ram.length c) (.slice B s.inp.length d) (.slice C s.out.length e) s) 26 (0, 0)) := heap_alloc_new w _
  have HROW := Lib.hid hrow
  have HCB := Lib.hid hc
  have HR := Lib.hid hr
  have HI := Lib.hid hi
  have HO := Lib.hid ho
  have HSS := Lib.hid hs
  have hrl := hs.rl
  clear hrow hcan hc hr hi ho hs
  go_enter Try.func41, Try.ntmps41
  go_wp2_with (first | (with_reducible refine gate5 rfl ?_; refine wpList_load_row rfl 26 (.tmp 1) rfl w.heap.size rfl 26 _ (0, 0) _ HROW.out Try.underlying26 rfl (by kernel_rfl) ?_) | (go_at_call 64; refine HC.out.mono ?_; rintro e w2 ⟨rfl, hb⟩; have HB := Lib.hid hb; have hrow2 := HB.out.block w.heap.size (by simp) ▸ HROW.out; have d4 := row_cell hrow2 4 (.bool s.ext) rfl; have d5 := row_cell hrow2 5 (.bool s.soft) rfl; have d0 := row_cell hrow2 0 (.slice A s.ram.length c) rfl; have hz : w.heap.size < w2.heap.size := (by have := hb.size; simp at this; omega); have hz2 : ¬ w2.heap.size = w.heap.size := (by omega); have hz3 : ¬ w.heap.size = w2.heap.size := (by omega); have HP0 := Lib.hid (start_pl w2 s.ext s.soft); have HBX := Lib.hid (((Kept.refl [] w2).alloc (.cells (nRow s.ext s.soft) 85)).row hrow2 (by simp)); have HRD := Lib.hid (HR.out.below2 hb (s.ext) (s.soft) hA); have HB0 := Lib.hid hb; clear hb) | (go_at_call 39; refine (own_new HP0.out HBX.out (.int .u32 s.msip) (.int .u64 s.cmp) (.int .u64 s.now) (.int .i64 s.off) (.int .i64 s.code) rfl rfl rfl rfl rfl HRD.out hrl).mono ?_; rintro e w3 ⟨A3, c3, rfl, f1, f2, f3, f13, f14, g0, g1, g2, g3, g4, g5, zz, HO3⟩))
  have hN := FromN.of (w := w) (w2 := w2) HO3.out.1 HO3.out.2.1 HO3.out.2.2.1 HO3.out.2.2.2.1 HO3.out.2.2.2.2 hz (Kept.of_below (F := []) (below_one HB0.out))
  have HN := Lib.hid hN
  clear hN f1 f2 f3 f13 f14 g0 g1 g2 g3 g4 g5 zz HO3 HP0 HBX HRD d0 d4 d5
  generalize hW : ((((((w3.setCell ⟨w2.heap.size, 0, none⟩ (.slice A3 s.ram.length c3)).setCell ⟨w2.heap.size, 1, none⟩ (.int .i64 s.off)).setCell ⟨w2.heap.size, 2, none⟩ (.int .i64 s.code)).setCell ⟨w2.heap.size, 3, none⟩ (.int .u32 s.msip)).setCell ⟨w2.heap.size, 4, none⟩ (.int .u64 s.cmp)).setCell ⟨w2.heap.size, 5, none⟩ (.int .u64 s.now)) = W at HN ⊢
  clear hW
  have hld := load_st rfl HN.out.box
  clear HROW hrow2
  go_still_tail 4, (by kernel_rfl)
  refine wpStill_load_row rfl 26 (.tmp 1) rfl w.heap.size rfl _ hld ?_
  refine wpStill_nil ?_
  have hnb : ∀ (X : Option Addr), (∀ g o, X = some ⟨g, o, none⟩ → g < w.heap.size) → ∀ (n : Nat) g o n' c', Value.slice X n c' = .slice (some ⟨g, o, none⟩) n' c' → g ≠ w2.heap.size := fun X hX n g o n' c' e => by cases e; have := hX g o rfl; omega
  have hset := set_any HN.out.lies s HSS.out (.slice A s.ram.length c) (.slice B s.inp.length d) (.slice C s.out.length e) (HI.out.keep HN.out.kept (by simp)) (HO.out.keep HN.out.kept (by simp)) (fun g o n c e => by cases e; have := hBl g o rfl; omega) (fun g o n c e => by cases e; have := hCl g o rfl; omega)
  have HSET := Lib.hid hset
  clear hset hnb hld
  go_wp2_with (go_at_call 65; refine HSET.out.mono ?_; rintro e' w5 ⟨vi', vo', rfl, hp5, ht5⟩; have HP5 := Lib.hid hp5; have HT5 := Lib.hid ht5; clear hp5 ht5)
  go_ret2
  refine ⟨w2.heap.size, _, _, _, rfl, HP5.out, fun x hx => ?_, HN.out.kept.trans HT5.out.kept (fun x hx hl => by have := HN.out.new x hx; omega)⟩
  rcases HT5.out.new x hx with h | h
  · exact HN.out.new x h
  · exact Nat.le_trans HN.out.kept.size h
end Go.Proofs.Ytkocfcgdjjdnhaa.BW
