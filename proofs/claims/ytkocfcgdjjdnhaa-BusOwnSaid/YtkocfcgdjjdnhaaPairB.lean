/- Two buses: each method's contract over both; the statements' word 'world'. No condition. -/
import Derived.Test.YtkocfcgdjjdnhaaPairA
import Derived.Test.YtkocfcgdjjdnhaaBusS
namespace Go.Proofs.Ytkocfcgdjjdnhaa.BW
open Go.RowKit
set_option linter.unusedVariables false
set_option linter.unusedSimpArgs false
section
variable {w0 w w' : World} {X : List Nat} {pb rb : Nat} {s t : St}
theorem p_load (D : DuoE w0 X w pb rb s t) (hs : s.Ok) (addr size : Int) (a0 : 0 ≤ addr) (a1 : addr ≤ 18446744073709551615) (s0 : -9223372036854775808 ≤ size) (s1 : size ≤ 9223372036854775807) :
    Calls Try.prog 29 #[.pointer (some ⟨pb, 0, none⟩), .int .u64 addr, .int .i64 size] w fun e w' => e = .returned (.tuple #[.int .u64 (s.load addr size).1.1, .bool (s.load addr size).1.2]) ∧ DuoE w0 X w' pb rb (s.load addr size).2 t ∧ SameX X w w' := by
  obtain ⟨vr, vi, vo, ur, ui, uo, D⟩ := D
  exact (load_any D.p hs addr size a0 a1 s0 s1).mono fun e w' ⟨vi', he, hp, ht⟩ => ⟨he, D.stepP hp ht⟩
theorem d_load (D : DuoE w0 X w pb rb s t) (ht : t.Ok) (addr size : Int) (a0 : 0 ≤ addr) (a1 : addr ≤ 18446744073709551615) :
    Calls Try.prog 47 #[.pointer (some ⟨rb, 0, none⟩), .int .u64 addr, .int .i64 size] w fun e w' => e = .returned (.tuple #[.int .u64 (t.load addr size).1.1, .bool (t.load addr size).1.2]) ∧ DuoE w0 X w' pb rb s (t.load addr size).2 ∧ SameX X w w' := by
  obtain ⟨vr, vi, vo, ur, ui, uo, D⟩ := D
  exact (r_load_any D.r ht addr size a0 a1).mono fun e w' ⟨vi', he, hp, ht⟩ => ⟨he, D.stepR hp ht⟩
theorem p_store (D : DuoE w0 X w pb rb s t) (hs : s.Ok) (addr size v : Int) (a0 : 0 ≤ addr) (a1 : addr ≤ 18446744073709551615) (s0 : -9223372036854775808 ≤ size) (s1 : size ≤ 9223372036854775807) (v0 : 0 ≤ v) (v1 : v ≤ 18446744073709551615) :
    Calls Try.prog 30 #[.pointer (some ⟨pb, 0, none⟩), .int .u64 addr, .int .i64 size, .int .u64 v] w fun e w' => e = .returned (.bool (s.store addr size v).1) ∧ DuoE w0 X w' pb rb (s.store addr size v).2 t ∧ SameX X w w' := by
  obtain ⟨vr, vi, vo, ur, ui, uo, D⟩ := D
  exact (store_any D.p hs addr size v a0 a1 s0 s1 v0 v1).mono fun e w' ⟨vi', vo', he, hp, ht⟩ => ⟨he, D.stepP hp ht⟩
theorem d_store (D : DuoE w0 X w pb rb s t) (ht : t.Ok) (addr size v : Int) (a0 : 0 ≤ addr) (a1 : addr ≤ 18446744073709551615) (v0 : 0 ≤ v) (v1 : v ≤ 18446744073709551615) :
    Calls Try.prog 48 #[.pointer (some ⟨rb, 0, none⟩), .int .u64 addr, .int .i64 size, .int .u64 v] w fun e w' => e = .returned (.bool (t.store addr size v).1) ∧ DuoE w0 X w' pb rb s (t.store addr size v).2 ∧ SameX X w w' := by
  obtain ⟨vr, vi, vo, ur, ui, uo, D⟩ := D
  exact (r_store_any D.r ht addr size v a0 a1 v0 v1).mono fun e w' ⟨vi', vo', he, hp, ht⟩ => ⟨he, D.stepR hp ht⟩
theorem p_poke (D : DuoE w0 X w pb rb s t) (hs : s.Ok) (addr : Int) (a0 : 0 ≤ addr) (a1 : addr ≤ 18446744073709551615) (v : Value) (p : List Int) (hr : Rd w v p) (hl : p.length ≤ 140737488351232) :
    Calls Try.prog 32 #[.pointer (some ⟨pb, 0, none⟩), .int .u64 addr, v] w fun e w' => e = .returned (.int .i64 (s.poke addr p).1) ∧ DuoE w0 X w' pb rb (s.poke addr p).2 t ∧ SameX X w w' := by
  obtain ⟨vr, vi, vo, ur, ui, uo, D⟩ := D
  exact (poke_any D.p hs addr a0 a1 v p hr hl).mono fun e w' ⟨he, hp, ht⟩ => ⟨he, D.stepP hp ht⟩
/-- A slice that stood there before the buses is none of theirs. -/
theorem Duo.far {vr vi vo ur ui uo : Value} (D : Duo w0 X w pb rb vr vi vo ur ui uo s t) {v : Value} {l : List Int} (hr : Rd w0 v l) (h0 : l ≠ []) : ∀ g o n c, v = .slice (some ⟨g, o, none⟩) n c → g ∉ foot pb vr vi vo ∧ g ∉ foot rb ur ui uo := by
  intro g o n c e
  have hlt := hr.ltHeap h0 g o n c e
  exact ⟨fun hm => by have := (D.pf g hm).1; omega, fun hm => by have := (D.rf g hm).1; omega⟩
/-- A slice of bytes that reads so, or an empty one that points wherever it may. -/
def RdW (w : World) (v : Value) (l : List Int) : Prop := Rd w v l ∨ (l = [] ∧ ∃ A c, v = .slice (some A) 0 c)
theorem RdW.keep {v : Value} {l : List Int} (h : RdW w v l) (hk : Kept [] w w') : RdW w' v l := h.imp (fun h => h.keep hk (by simp)) id
theorem RdW.shape {v : Value} {l : List Int} (h : RdW w v l) : ∃ A c, v = .slice A l.length c := by
  rcases h with h | ⟨rfl, A, c, rfl⟩
  · exact h.shape
  · exact ⟨_, _, rfl⟩
theorem run_append_nilw (w : World) (ty : TypeId) (x : Value) (m : List Int) (hx : RdW w x m) (hl : ([] : List Int).length + m.length ≤ 140737488355328) :
    ∃ v' w', (Builtin.append_ #[22, 22] ty #[.slice none 0 0, x]).run Try.prog w = .ok v' w' ∧ Grew w w' (.slice none 0 0) v' ([] ++ m) := by
  rcases hx with hx | ⟨rfl, A, c, rfl⟩
  · exact run_append_bs w ty (.slice none 0 0) x [] m (Bs.nil w) hx hl
  · obtain ⟨i0, hi, hz0, hz1, hz2⟩ := info_parts info5
    obtain ⟨v', w', hr, h2, h3, h4⟩ := run_append_own (P := Try.prog) w w.heap.size 22 ty 5 i0 (.int .u8 0) 1 1 Try.underlying22 hi hz0 hz1 hz2 rfl (by decide) (.slice none 0 0) 0 [] (World.ownsRow_nil w _ 5 1) A 0 c [] rfl (by simp) (by simp) (by unfold maxLen; omega) (by omega) (Nat.le_refl _)
    have hb := Bs.of_owns (l := []) h2
    exact ⟨v', w', hr, hb.1, (Kept.refl _ w).grown h3 (fun k e _ => by simp [e]), fun g hg => .inr (hb.2 g hg)⟩
theorem wpList_append_nilw {w : World} {ops : Array Oper} {rest : List Oper} {o : Oper} {a : Act} {Q : Exit → Act → World → Prop} (hgd : o.guard = none) (s x : Operand)
    (ho : o.op = .call { callee := .builtin .append, args := #[s, x], argTypes := #[22, 22] }) (y : Value) (m : List Int) (hs : a.eval s = .slice none 0 0) (hy : a.eval x = y) (hx : RdW w y m) (hl : ([] : List Int).length + m.length ≤ 140737488355328)
    (h : ∀ v' w', Grew w w' (.slice none 0 0) v' ([] ++ m) → wpList Try.prog ops Q rest (a.put o.dst v') w') : wpList Try.prog ops Q (o :: rest) a w :=
  wpList_plain hgd fun _ hK => by
    obtain ⟨v', w', hr, hg⟩ := run_append_nilw w o.type y m hx hl
    unfold Oper.wp execOp
    simp only [ho, resolve, invoke, builtin, Sem.run_bind, Sem.run_pure, Result.andThen_ok, List.map_toArray, List.map_cons, List.map_nil, hs, hy, hr]
    exact hK _ _ (h v' w' hg)
theorem run_strw (w : World) (v : Value) (l : List Int) (h : RdW w v l) : (convert 22 9 v).run Try.prog w = .ok (.string (strOfNums l)) w := by
  rcases h with h | ⟨rfl, A, c, rfl⟩
  · exact run_str w v l h
  · rw [run_convert_bytes_string w 22 9 5 _ 0 c Try.underlying22 Try.underlying5 Try.underlying9]
    exact run_bytesToString w A 0 c [] (run_loadCells_list (P := Try.prog) w A [] (by simp))
theorem d_poke (D : DuoE w0 X w pb rb s t) (ht : t.Ok) (addr : Int) (a0 : 0 ≤ addr) (a1 : addr ≤ 18446744073709551615) (v : Value) (p : List Int) (hr : RdW w0 v p) (hb : Byts p) (hl : p.length ≤ 140737488351232) :
    Calls Try.prog 50 #[.pointer (some ⟨rb, 0, none⟩), .int .u64 addr, v] w fun e w' => e = .returned (.int .i64 (t.poke addr p).1) ∧ DuoE w0 X w' pb rb s (t.poke addr p).2 ∧ SameX X w w' := by
  obtain ⟨vr, vi, vo, ur, ui, uo, D⟩ := D
  rcases hr with hr | ⟨rfl, A, c, rfl⟩
  · exact (r_poke_any D.r ht addr a0 a1 v p (hr.keep D.kept (by simp)) hb hl (fun h0 g o n c e => (D.far hr h0 g o n c e).2)).mono fun e w' ⟨he, hp, ht⟩ => ⟨he, D.stepR hp ht⟩
  · exact (r_poke_nil D.r addr (some A) c).mono fun e w' ⟨he, hp, ht⟩ => ⟨he, D.stepR hp ht⟩
theorem Bs.lens {v : Value} {l : List Int} (h : Bs w v l) {A : Option Addr} {n c : Nat} (e : v = .slice A n c) : n ≤ c ∧ c ≤ maxLen := by
  rcases h.at with ⟨rfl, rfl⟩ | ⟨g, cap, cur, rfl, hg, h3, h4, _⟩
  · simp only [Value.slice.injEq] at e; obtain ⟨-, rfl, rfl⟩ := e; unfold maxLen; omega
  · simp only [Value.slice.injEq] at e; obtain ⟨-, rfl, rfl⟩ := e; exact ⟨h3, h4⟩
theorem p_begin (D : DuoE w0 X w pb rb s t) (hs : s.Ok) (tick ext soft : Bool) (A : Option Addr) (n c : Nat) (l : List Int) (hb : Bs w (.slice A n c) l) (hn : ∀ g, (Value.slice A n c).ownBlock = some g → g ∈ X) (hl : l.length ≤ 140737488351232) :
    Calls Try.prog 27 #[.pointer (some ⟨pb, 0, none⟩), .agg #[.bool tick, .bool ext, .bool soft, .slice A n c]] w fun e w' => e = .returned (.tuple #[]) ∧ DuoE w0 X w' pb rb (s.begin tick ext soft l) t ∧ SameX X w w' := by
  obtain ⟨vr, vi, vo, ur, ui, uo, D⟩ := D
  refine (begin_any D.p hs tick ext soft A n c l hb.rd (hb.lens rfl) (fun g o e => ?_) hl).mono fun e w' ⟨vi', he, hp, ht⟩ => ⟨he, D.stepP hp ht⟩
  subst e
  rcases hb.at with ⟨e, _⟩ | ⟨g', cap, cur, e, hg, _⟩
  · simp at e
  · simp only [Value.slice.injEq, Option.some.injEq, Addr.mk.injEq] at e
    obtain ⟨⟨rfl, rfl, _⟩, rfl, rfl⟩ := e
    exact ⟨fun hm => (D.pf g hm).2 (hn g rfl), (Array.getElem?_eq_some_iff.1 hg).1⟩
theorem d_begin (D : DuoE w0 X w pb rb s t) (ht : t.Ok) (tick ext soft : Bool) (v : Value) (l : List Int) (hr : RdW w0 v l) (hb : Byts l) (hl : l.length ≤ 140737488351232) :
    Calls Try.prog 49 #[.pointer (some ⟨rb, 0, none⟩), .agg #[.bool tick, .bool ext, .bool soft, v]] w fun e w' => e = .returned (.tuple #[]) ∧ DuoE w0 X w' pb rb s (t.begin tick ext soft l) ∧ SameX X w w' := by
  obtain ⟨vr, vi, vo, ur, ui, uo, D⟩ := D
  rcases hr with hr | ⟨rfl, A, c, rfl⟩
  · exact (r_begin_any D.r ht tick ext soft v l (hr.keep D.kept (by simp)) hb hl (fun h0 g o n c e => (D.far hr h0 g o n c e).2)).mono fun e w' ⟨vi', he, hp, ht⟩ => ⟨he, D.stepR hp ht⟩
  · by_cases h0 : t.off = 0
    · exact (r_begin_on D.r ht tick ext soft (some A) 0 c [] rfl (by simp) hb (by simp) h0).mono fun e w' ⟨vi', he, hp, ht⟩ => ⟨he, D.stepR hp ht⟩
    · exact (r_begin_off D.r tick ext soft _ [] h0).mono fun e w' ⟨vi', he, hp, ht⟩ => ⟨he, D.stepR hp ht⟩
theorem SameX.sub {Y : List Nat} (h : SameX Y w w') (hs : ∀ x ∈ X, x ∈ Y) : SameX X w w' := fun x hx => h x (hs x hx)
/-- Two boxes laid beside the buses. -/
theorem DuoE.push2 (D : DuoE w0 X w pb rb s t) (a b : Array Value) (ta tb : TypeId) :
    DuoE w0 ((w.heap.size + 1) :: w.heap.size :: X) ((w.alloc (.cells a ta)).alloc (.cells b tb)) pb rb s t ∧ ((w.alloc (.cells a ta)).alloc (.cells b tb)).heap[w.heap.size]? = some (.cells a ta (0, 0)) ∧ ((w.alloc (.cells a ta)).alloc (.cells b tb)).heap[w.heap.size + 1]? = some (.cells b tb (0, 0)) ∧ SameX X w ((w.alloc (.cells a ta)).alloc (.cells b tb)) := by
  have h := (D.push (.cells a ta)).push (.cells b tb)
  rw [show (w.alloc (.cells a ta)).heap.size = w.heap.size + 1 by simp] at h
  exact ⟨h, heap_alloc2_old w _ _, heap_alloc2_new w _ _, SameX.of_kept D.xl (((Kept.refl [] w).alloc _).alloc _)⟩
/-! ### world -/
def WorldPost (w : World) (tick ext soft : Bool) (l : List Int) (e : Ending) (w' : World) : Prop :=
  ∃ A c, e = .returned (.agg #[.bool tick, .bool ext, .bool soft, .slice A l.length c]) ∧ Bs w' (.slice A l.length c) l ∧ (∀ g, (Value.slice A l.length c).ownBlock = some g → w.heap.size ≤ g) ∧ Kept [] w w'
abbrev zW : Array Value := #[.bool false, .bool false, .bool false, .slice none 0 0]
theorem world_close {W w2 : World} {v' : Value} {tick ext soft : Bool} {A : Option Addr} {n c c' : Nat} {A' : Option Addr} {l : List Int} (hW : W = (w.alloc (.cells #[.bool tick, .bool ext, .bool soft, .slice A n c] 52)).alloc (.cells zW 52))
    (hg : Grew W w2 (.slice none 0 0) (.slice A' l.length c') ([] ++ l)) :
    (w2.setCell ⟨w.heap.size, 3, none⟩ (.slice A' l.length c')).heap[w.heap.size]? = some (.cells #[.bool tick, .bool ext, .bool soft, .slice A' l.length c'] 52 (0, 0)) ∧
    (w2.setCell ⟨w.heap.size, 3, none⟩ (.slice A' l.length c')).heap[w.heap.size + 1]? = some (.cells zW 52 (0, 0)) ∧
    WorldPost w tick ext soft l (.returned (.agg #[.bool tick, .bool ext, .bool soft, .slice A' l.length c'])) ((w2.setCell ⟨w.heap.size, 3, none⟩ (.slice A' l.length c')).setRow (w.heap.size + 1) #[.bool tick, .bool ext, .bool soft, .slice A' l.length c']) := by
  have gk : Kept [] W w2 := hg.kept
  have r0 : W.heap[w.heap.size]? = some (.cells #[.bool tick, .bool ext, .bool soft, .slice A n c] 52 (0, 0)) := by rw [hW]; exact heap_alloc2_old w _ _
  have r1 : W.heap[w.heap.size + 1]? = some (.cells zW 52 (0, 0)) := by rw [hW]; exact heap_alloc2_new w _ _
  have hz : W.heap.size = w.heap.size + 2 := by rw [hW]; simp
  have kW : Kept [] w W := by rw [hW]; exact ((Kept.refl [] w).alloc _).alloc _
  have ks : Kept [w.heap.size] w2 (w2.setCell ⟨w.heap.size, 3, none⟩ (.slice A' l.length c')) := (Kept.refl [w.heap.size] w2).setCell (by simp) _
  have kr : Kept [w.heap.size + 1] (w2.setCell ⟨w.heap.size, 3, none⟩ (.slice A' l.length c')) ((w2.setCell ⟨w.heap.size, 3, none⟩ (.slice A' l.length c')).setRow (w.heap.size + 1) #[.bool tick, .bool ext, .bool soft, .slice A' l.length c']) := (Kept.refl [w.heap.size + 1] _).setRow (by simp) _
  have hn : ∀ x, (Value.slice A' l.length c').ownBlock = some x → w.heap.size + 2 ≤ x := fun x hx => (hg.blk x hx).elim (fun e => by simp [Value.ownBlock] at e) (fun e => by omega)
  have hbs : Bs w2 (.slice A' l.length c') l := by simpa using hg.bs
  refine ⟨row_set (gk.row r0 (by simp)) 3 _ rfl, ks.row (gk.row r1 (by simp)) (by simp), A', c', rfl, ?_, fun g hg => by have := hn g hg; omega, ?_⟩
  · exact (hbs.keep ks (fun x hx => by have := hn x hx; simp; omega)).keep kr (fun x hx => by have := hn x hx; simp; omega)
  · exact ((kW.trans gk (by simp)).trans ks (fun x hx hl => by simp at hx; omega)).trans kr (fun x hx hl => by simp at hx; omega)
set_option maxHeartbeats 8000000 in
set_option maxRecDepth 100000 in
theorem world_any (tick ext soft : Bool) (A : Option Addr) (n c : Nat) (l : List Int) (hr : RdW w (.slice A n c) l) (hl : l.length ≤ 140737488351232) :
    Calls Try.prog 28 #[.agg #[.bool tick, .bool ext, .bool soft, .slice A n c]] w (WorldPost w tick ext soft l) := by
  have HR := Lib.hid (hr.keep (((Kept.refl [] w).alloc (.cells #[.bool tick, .bool ext, .bool soft, .slice A n c] 52)).alloc (.cells zW 52)))
  have HL := Lib.hid (show ([] : List Int).length + l.length ≤ 140737488355328 by simp; omega)
  have hw1 : w.heap.size < ((w.alloc (.cells #[.bool tick, .bool ext, .bool soft, .slice A n c] 52)).alloc (.cells zW 52)).heap.size := by simp; omega
  have d0 : ((w.alloc (.cells #[.bool tick, .bool ext, .bool soft, .slice A n c] 52)).alloc (.cells zW 52)).cell? ⟨w.heap.size, 3, none⟩ = some (.slice A n c) := row_cell (heap_alloc2_old w _ _) 3 _ rfl
  have z0 : ((w.alloc (.cells #[.bool tick, .bool ext, .bool soft, .slice A n c] 52)).alloc (.cells zW 52)).frozen? ⟨w.heap.size, 3, none⟩ = false := frozen_of_row _ _ _ _ _ (heap_alloc2_old w _ _)
  have HD := Lib.hid d0
  have HZ := Lib.hid z0
  have HW1 := Lib.hid hw1
  clear hr d0 z0 hw1
  go_enter Try.func28, Try.ntmps28
  go_wp2_with (first
    | (at_builtin; refine wpList_append_nilw rfl _ _ rfl _ l rfl rfl HR.out HL.out ?_; intro v' w2 hg; obtain ⟨A', c', rfl⟩ := hg.bs.shape; have gk : Kept [] ((w.alloc (.cells #[.bool tick, .bool ext, .bool soft, .slice A n c] 52)).alloc (.cells zW 52)) w2 := hg.kept; have e3 := (gk.cell (p := ⟨w.heap.size, 3, none⟩) HW1.out (by simp)).trans HD.out; have f3 := (gk.frozen (p := ⟨w.heap.size, 3, none⟩) HW1.out (by simp)).trans HZ.out; have HC := Lib.hid (world_close (v' := .slice none 0 0) rfl hg); clear hg gk)
    | (refine wpList_load_row rfl 52 (.tmp 1) rfl w.heap.size rfl 52 _ (0, 0) _ HC.out.1 Try.underlying52 rfl (by kernel_rfl) ?_)
    | (refine wpList_store_row rfl 52 (.tmp 2) (.tmp 7) rfl (w.heap.size + 1) _ rfl rfl 52 _ HC.out.2.1 (by kernel_rfl) rfl (by simp [Value.oneCell']) ?_))
  exact bodyPost_ret (results_cell_row rfl _ _ (w.heap.size + 1) 52 _ (0, 0) _ rfl (setRow_heap _ _ _ _ 52 (0, 0) HC.out.2.1) Try.underlying52 rfl (by kernel_rfl)) rfl HC.out.2.2
end
end Go.Proofs.Ytkocfcgdjjdnhaa.BW
