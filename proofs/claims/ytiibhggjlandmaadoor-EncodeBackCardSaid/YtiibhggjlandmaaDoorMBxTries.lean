/- Texts of this claim, put together by a program: Tries. -/
import Derived.Test.YtiibhggjlandmaaDoorMB2
import Derived.Test.YtiibhggjlandmaaDoorMB4
import Derived.Deep.RegionWith
import Derived.BigQuiet
import Derived.Deep.DeepCutAuto
/- encode.tries: the parcels that it tries, in their order; its contract. No condition. -/
namespace Go.Proofs.YtiibhggjlandmaaDoor.TR
open Go.RowKit Go.Proofs.YtiibhggjlandmaaDoorW.PrintWords Go.Proofs.YtiibhggjlandmaaDoorW.PrintMore Go.Proofs.YtiibhggjlandmaaDoor.PT Go.Proofs.YtiibhggjlandmaaDoor.PL
set_option linter.unusedVariables false
set_option linter.unusedSimpArgs false
section
variable {P : Program}
theorem setRow_new (W : World) (old cells : Array Value) (t : TypeId) : (W.alloc (.cells old t)).setRow W.heap.size cells = W.alloc (.cells cells t) := by
  have h : (W.heap.push (.cells old t)).modify W.heap.size (fun x => match x with | .cells c elem frozen => .cells cells elem frozen | o => o) = W.heap.push (.cells cells t) := by
    apply Array.ext
    · simp
    · intro i h1 h2
      simp only [Array.size_modify, Array.size_push] at h1
      rw [Array.getElem_modify]
      by_cases e : W.heap.size = i
      · subst e; simp
      · rw [if_neg e, Array.getElem_push_lt (by omega), Array.getElem_push_lt (by omega)]
  unfold World.setRow World.alloc
  exact congrArg (fun h => ({ heap := h, tape := W.tape, drawn := W.drawn, os := W.os, output := W.output } : World)) h
theorem heap_at (W : World) (o : Obj) (k : Nat) (h : k = W.heap.size) : (W.alloc o).heap[k]? = some o := by subst h; exact heap_alloc_new W o
theorem heap_up (W : World) (o x : Obj) (k : Nat) (h : k < W.heap.size) (r : W.heap[k]? = some x) : (W.alloc o).heap[k]? = some x := (Below.heap_alloc W o k h).trans r
/-- A whole row stored into the block that was made just now. -/
theorem store_new {ops : Array Oper} {rest : List Oper} {o : Oper} {a : Act} {Q : Exit → Act → World → Prop} (hgd : o.guard = none) (ty : TypeId) (x y : Operand) (ho : o.op = .store ty x y) (W : World) (g : Nat) (hg : g = W.heap.size)
    (old cells : Array Value) (hx : a.eval x = .pointer (some ⟨g, 0, none⟩)) (hy : a.eval y = .agg cells) (hi : (P.info? ty).map (·.size) = some cells.size) (hold : old.size = cells.size) (h1 : cells.all (·.oneCell') = true)
    (h : wpList P ops Q rest (a.put o.dst undef) (W.alloc (.cells cells ty))) : wpList P ops Q (o :: rest) a (W.alloc (.cells old ty)) := by
  subst hg
  refine wpList_store_row hgd ty x y ho W.heap.size cells hx hy ty old (heap_alloc_new W _) hi hold h1 ?_
  rw [setRow_new]; exact h
end
def mvCells (l : List S78) : List Value := l.flatMap fun m => [.int .i64 m.f0, .int .i64 m.f1, .int .i64 m.f2]
theorem mv_get : ∀ (l : List S78) (i j : Nat) (m : S78), l[i]? = some m → j < 3 → (mvCells l)[i * 3 + j]? = [Value.int .i64 m.f0, .int .i64 m.f1, .int .i64 m.f2][j]?
  | [], i, j, f, h, hj => by simp at h
  | g :: l, 0, j, f, h, hj => by
    simp only [List.getElem?_cons_zero, Option.some.injEq] at h; subst h
    rw [mvCells, List.flatMap_cons, Nat.zero_mul, Nat.zero_add, List.getElem?_append_left (by simpa using hj)]
  | g :: l, i + 1, j, f, h, hj => by
    rw [List.getElem?_cons_succ] at h
    rw [mvCells, List.flatMap_cons, List.getElem?_append_right (by simp only [List.length_cons, List.length_nil]; omega)]
    rw [← mv_get l i j f h hj, mvCells]
    congr 1
    simp only [List.length_cons, List.length_nil]; omega
theorem arr_C {w : World} {g : Nat} {l : List S78} {T : TypeId} (h : w.heap[g]? = some (.cells (mvCells l).toArray T (0, 0))) (hl : l.length ≤ 100) : Kd.C k78 w (some ⟨g, 0, none⟩) l.length l := by
  refine ⟨rfl, by omega, fun _ => ⟨_, rfl, fun j p hp => ⟨_, rfl, k78_mk w p, fun i u hu => ?_⟩⟩⟩
  have hi : i < 3 := (List.getElem?_eq_some_iff.mp hu).1
  rw [add_plain, cell_of_row w g _ _ T (0, 0) h, List.getElem?_toArray]
  show (mvCells l)[j * 3 + i]? = some u
  rw [mv_get l j i p hp hi]; exact hu
def a_six : List S78 := [⟨5, 5, 12⟩, ⟨4, 0, 2⟩]
def a_spn : List S78 := [⟨5, 4, 11⟩, ⟨9, 6, 7⟩, ⟨2, 2, 6⟩, ⟨3, 3, 5⟩]
def a_sp16 : List S78 := [⟨9, 9, 12⟩, ⟨4, 4, 6⟩, ⟨6, 6, 5⟩, ⟨8, 7, 3⟩, ⟨5, 5, 2⟩]
def a_lw : List S78 := [⟨5, 3, 10⟩, ⟨2, 2, 6⟩, ⟨6, 6, 5⟩]
def a_ld : List S78 := [⟨5, 3, 10⟩, ⟨7, 6, 5⟩]
def a_lwsp : List S78 := [⟨5, 5, 12⟩, ⟨4, 2, 4⟩, ⟨7, 6, 2⟩]
def a_ldsp : List S78 := [⟨5, 5, 12⟩, ⟨4, 3, 5⟩, ⟨8, 6, 2⟩]
def a_swsp : List S78 := [⟨5, 2, 9⟩, ⟨7, 6, 7⟩]
def a_sdsp : List S78 := [⟨5, 3, 10⟩, ⟨8, 6, 7⟩]
def a_jump : List S78 := [⟨11, 11, 12⟩, ⟨4, 4, 11⟩, ⟨9, 8, 9⟩, ⟨10, 10, 8⟩, ⟨6, 6, 7⟩, ⟨7, 7, 6⟩, ⟨3, 1, 3⟩, ⟨5, 5, 2⟩]
def a_branch : List S78 := [⟨8, 8, 12⟩, ⟨4, 3, 10⟩, ⟨7, 6, 5⟩, ⟨2, 1, 3⟩, ⟨5, 5, 2⟩]
/-- The rows of moves. -/
structure Arr (w0 : World) (g : Nat) : Prop where
  size : g + 12 ≤ w0.heap.size
  six : w0.heap[g + 1]? = some (.cells (mvCells a_six).toArray 99 (0, 0))
  spn : w0.heap[g + 1 + 1]? = some (.cells (mvCells a_spn).toArray 100 (0, 0))
  sp16 : w0.heap[g + 1 + 1 + 1]? = some (.cells (mvCells a_sp16).toArray 101 (0, 0))
  lw : w0.heap[g + 1 + 1 + 1 + 1]? = some (.cells (mvCells a_lw).toArray 102 (0, 0))
  ld : w0.heap[g + 1 + 1 + 1 + 1 + 1]? = some (.cells (mvCells a_ld).toArray 99 (0, 0))
  lwsp : w0.heap[g + 1 + 1 + 1 + 1 + 1 + 1]? = some (.cells (mvCells a_lwsp).toArray 102 (0, 0))
  ldsp : w0.heap[g + 1 + 1 + 1 + 1 + 1 + 1 + 1]? = some (.cells (mvCells a_ldsp).toArray 102 (0, 0))
  swsp : w0.heap[g + 1 + 1 + 1 + 1 + 1 + 1 + 1 + 1]? = some (.cells (mvCells a_swsp).toArray 99 (0, 0))
  sdsp : w0.heap[g + 1 + 1 + 1 + 1 + 1 + 1 + 1 + 1 + 1]? = some (.cells (mvCells a_sdsp).toArray 99 (0, 0))
  jump : w0.heap[g + 1 + 1 + 1 + 1 + 1 + 1 + 1 + 1 + 1 + 1]? = some (.cells (mvCells a_jump).toArray 103 (0, 0))
  branch : w0.heap[g + 1 + 1 + 1 + 1 + 1 + 1 + 1 + 1 + 1 + 1 + 1]? = some (.cells (mvCells a_branch).toArray 101 (0, 0))
def hd (q h : Int) : Int := (encode_head.f q h).getD 0
def lo (r a : Int) : Int := (encode_low.f r a).getD 0
def wh (r a : Int) : Int := (encode_whole.f r a).getD 0
def sc (n : Int) (l : List S78) : Int := (encode_scatter.f 20 n l).getD 0
theorem hd_ok (q h : Int) : encode_head.f q h = some (hd q h) := rfl
theorem lo_ok (r a : Int) (h : 0 ≤ a) : encode_low.f r a = some (lo r a) := by unfold lo encode_low.f; rw [if_pos h]; rfl
theorem wh_ok (r a : Int) (h : 0 ≤ a) : encode_whole.f r a = some (wh r a) := by unfold wh encode_whole.f; rw [if_pos h]; rfl
theorem sc_some (n : Int) (l : List S78) (hl : l.length < 10) (ho : ∀ m ∈ l, Enc.mvOk m = true) : encode_scatter.f 20 n l = some (sc n l) := by
  have h := Enc.scatter_ok n l 20 (by decide) hl ho
  unfold sc; rw [h]; rfl
theorem parts_new (w : World) (ps : List Int) (T : TypeId) : ∀ j, j < ps.length → (w.alloc (.cells (ps.map (Value.int .u32)).toArray T)).cell? ⟨w.heap.size, j, none⟩ = some (.int .u32 (ps.getD j 0)) := by
  intro j hj
  rw [cell_of_row _ w.heap.size j _ T (0, 0) (heap_alloc_new w _), List.getElem?_toArray, List.getElem?_map, List.getElem?_eq_getElem hj, List.getD_eq_getElem?_getD, List.getElem?_eq_getElem hj]
  rfl
theorem sc_six (n : Int) : encode_scatter.f 20 n a_six = some (sc n a_six) := sc_some n a_six (by decide) (by decide +kernel)
theorem sc_spn (n : Int) : encode_scatter.f 20 n a_spn = some (sc n a_spn) := sc_some n a_spn (by decide) (by decide +kernel)
theorem sc_sp16 (n : Int) : encode_scatter.f 20 n a_sp16 = some (sc n a_sp16) := sc_some n a_sp16 (by decide) (by decide +kernel)
theorem sc_lw (n : Int) : encode_scatter.f 20 n a_lw = some (sc n a_lw) := sc_some n a_lw (by decide) (by decide +kernel)
theorem sc_ld (n : Int) : encode_scatter.f 20 n a_ld = some (sc n a_ld) := sc_some n a_ld (by decide) (by decide +kernel)
theorem sc_lwsp (n : Int) : encode_scatter.f 20 n a_lwsp = some (sc n a_lwsp) := sc_some n a_lwsp (by decide) (by decide +kernel)
theorem sc_ldsp (n : Int) : encode_scatter.f 20 n a_ldsp = some (sc n a_ldsp) := sc_some n a_ldsp (by decide) (by decide +kernel)
theorem sc_swsp (n : Int) : encode_scatter.f 20 n a_swsp = some (sc n a_swsp) := sc_some n a_swsp (by decide) (by decide +kernel)
theorem sc_sdsp (n : Int) : encode_scatter.f 20 n a_sdsp = some (sc n a_sdsp) := sc_some n a_sdsp (by decide) (by decide +kernel)
theorem sc_jump (n : Int) : encode_scatter.f 20 n a_jump = some (sc n a_jump) := sc_some n a_jump (by decide) (by decide +kernel)
theorem sc_branch (n : Int) : encode_scatter.f 20 n a_branch = some (sc n a_branch) := sc_some n a_branch (by decide) (by decide +kernel)
theorem ts_start (W0 : World) (go : Nat) (h : W0.heap.size = go) : TS W0 go [] (W0.alloc (.cells #[.slice none 0 0] 80)) := by
  subst h
  exact ⟨below_alloc (Below.refl _ _) _, by simp, _, heap_alloc_new _ _, ⟨rfl, .inl ⟨rfl, rfl⟩⟩⟩
theorem row_cell {w : World} {g : Nat} {cs : Array Value} {t : TypeId} (h : w.heap[g]? = some (.cells cs t (0, 0))) (j : Nat) (v : Value) (hv : cs[j]? = some v) : w.cell? ⟨g, j, none⟩ = some v := by
  rw [cell_of_row w g j cs t (0, 0) h]; exact hv
def preW (w : World) (op rd rs1 rs2 n : Int) (aq rl : Bool) (len raw : Int) : World := ((((((((((((w.alloc (.cells #[.int .i64 op, .int .i64 rd, .int .i64 rs1, .int .i64 rs2, .int .i64 n, .bool aq, .bool rl, .int .i64 len, .int .u32 raw] 24)).alloc (.cells #[.int .i64 5, .int .i64 5, .int .i64 12, .int .i64 4, .int .i64 0, .int .i64 2] 99)).alloc (.cells #[.int .i64 5, .int .i64 4, .int .i64 11, .int .i64 9, .int .i64 6, .int .i64 7, .int .i64 2, .int .i64 2, .int .i64 6, .int .i64 3, .int .i64 3, .int .i64 5] 100)).alloc (.cells #[.int .i64 9, .int .i64 9, .int .i64 12, .int .i64 4, .int .i64 4, .int .i64 6, .int .i64 6, .int .i64 6, .int .i64 5, .int .i64 8, .int .i64 7, .int .i64 3, .int .i64 5, .int .i64 5, .int .i64 2] 101)).alloc (.cells #[.int .i64 5, .int .i64 3, .int .i64 10, .int .i64 2, .int .i64 2, .int .i64 6, .int .i64 6, .int .i64 6, .int .i64 5] 102)).alloc (.cells #[.int .i64 5, .int .i64 3, .int .i64 10, .int .i64 7, .int .i64 6, .int .i64 5] 99)).alloc (.cells #[.int .i64 5, .int .i64 5, .int .i64 12, .int .i64 4, .int .i64 2, .int .i64 4, .int .i64 7, .int .i64 6, .int .i64 2] 102)).alloc (.cells #[.int .i64 5, .int .i64 5, .int .i64 12, .int .i64 4, .int .i64 3, .int .i64 5, .int .i64 8, .int .i64 6, .int .i64 2] 102)).alloc (.cells #[.int .i64 5, .int .i64 2, .int .i64 9, .int .i64 7, .int .i64 6, .int .i64 7] 99)).alloc (.cells #[.int .i64 5, .int .i64 3, .int .i64 10, .int .i64 8, .int .i64 6, .int .i64 7] 99)).alloc (.cells #[.int .i64 11, .int .i64 11, .int .i64 12, .int .i64 4, .int .i64 4, .int .i64 11, .int .i64 9, .int .i64 8, .int .i64 9, .int .i64 10, .int .i64 10, .int .i64 8, .int .i64 6, .int .i64 6, .int .i64 7, .int .i64 7, .int .i64 7, .int .i64 6, .int .i64 3, .int .i64 1, .int .i64 3, .int .i64 5, .int .i64 5, .int .i64 2] 103)).alloc (.cells #[.int .i64 8, .int .i64 8, .int .i64 12, .int .i64 4, .int .i64 3, .int .i64 10, .int .i64 7, .int .i64 6, .int .i64 5, .int .i64 2, .int .i64 1, .int .i64 3, .int .i64 5, .int .i64 5, .int .i64 2] 101))
structure Pre (w W0 : World) (op rd rs1 rs2 n : Int) (aq rl : Bool) (len raw : Int) : Prop where
  below : Below w.heap.size w W0
  size : W0.heap.size = w.heap.size + 12
  inn : W0.heap[w.heap.size]? = some (.cells #[.int .i64 op, .int .i64 rd, .int .i64 rs1, .int .i64 rs2, .int .i64 n, .bool aq, .bool rl, .int .i64 len, .int .u32 raw] 24 (0, 0))
  arr : Arr W0 w.heap.size
set_option maxRecDepth 100000 in
theorem pre_ok (w : World) (op rd rs1 rs2 n : Int) (aq rl : Bool) (len raw : Int) : Pre w (preW w op rd rs1 rs2 n aq rl len raw) op rd rs1 rs2 n aq rl len raw := by
  unfold preW
  refine ⟨by repeat (first | exact Below.refl _ _ | apply below_alloc), by simp, ?_, ⟨by simp, ?_, ?_, ?_, ?_, ?_, ?_, ?_, ?_, ?_, ?_, ?_⟩⟩ <;>
    repeat (first | exact heap_at _ _ _ (by simp) | refine heap_up _ _ _ _ (by simp; try omega) ?_)
def dropSeq : Nat → Code → Code
  | 0, c => c
  | k + 1, .seq _ b => dropSeq k b
  | _, c => c
noncomputable def rest15 : Code := dropSeq 15 (Tryd.f32.body.getD .skip)
set_option maxRecDepth 100000 in
def fr15 (w : World) (op rd rs1 rs2 n : Int) (aq rl : Bool) (len raw : Int) (u22 u23 u24 u25 u26 u27 u28 u29 u30 u31 u32 u33 u34 u35 u36 u37 u38 u39 u40 u41 u42 u43 u44 u45 u46 u47 u48 u49 u50 u51 u52 u53 u54 u55 u56 u57 u58 u59 u60 u61 u62 u63 u64 u65 u66 u67 u68 u69 u70 u71 u72 u73 u74 u75 u76 u77 u78 u79 u80 : Value) : Act := ⟨#[.agg #[.int .i64 op, .int .i64 rd, .int .i64 rs1, .int .i64 rs2, .int .i64 n, .bool aq, .bool rl, .int .i64 len, .int .u32 raw], .pointer (some ⟨w.heap.size, 0, none⟩), .slice none 0 0, .pointer (some ⟨w.heap.size + 1, 0, none⟩), .pointer (some ⟨w.heap.size + 1 + 1, 0, none⟩), .pointer (some ⟨w.heap.size + 1 + 1 + 1, 0, none⟩), .pointer (some ⟨w.heap.size + 1 + 1 + 1 + 1, 0, none⟩), .pointer (some ⟨w.heap.size + 1 + 1 + 1 + 1 + 1, 0, none⟩), .pointer (some ⟨w.heap.size + 1 + 1 + 1 + 1 + 1 + 1, 0, none⟩), .pointer (some ⟨w.heap.size + 1 + 1 + 1 + 1 + 1 + 1 + 1, 0, none⟩), .pointer (some ⟨w.heap.size + 1 + 1 + 1 + 1 + 1 + 1 + 1 + 1, 0, none⟩), .pointer (some ⟨w.heap.size + 1 + 1 + 1 + 1 + 1 + 1 + 1 + 1 + 1, 0, none⟩), .pointer (some ⟨w.heap.size + 1 + 1 + 1 + 1 + 1 + 1 + 1 + 1 + 1 + 1, 0, none⟩), .pointer (some ⟨w.heap.size + 1 + 1 + 1 + 1 + 1 + 1 + 1 + 1 + 1 + 1 + 1, 0, none⟩), .pointer (some ⟨w.heap.size + 1 + 1 + 1 + 1 + 1 + 1 + 1 + 1 + 1 + 1 + 1 + 1, 0, none⟩), .func (.func 44) #[] #[.pointer (some ⟨w.heap.size + 1 + 1 + 1 + 1 + 1 + 1 + 1 + 1 + 1 + 1 + 1 + 1, 0, none⟩)], .int .i64 rd, .int .i64 rs1, .int .i64 rs2, .int .i64 n, undef, undef, u22, u23, u24, u25, u26, u27, u28, u29, u30, u31, u32, u33, u34, u35, u36, u37, u38, u39, u40, u41, u42, u43, u44, u45, u46, u47, u48, u49, u50, u51, u52, u53, u54, u55, u56, u57, u58, u59, u60, u61, u62, u63, u64, u65, u66, u67, u68, u69, u70, u71, u72, u73, u74, u75, u76, u77, u78, u79, u80, undef, undef, undef, undef, undef, undef, undef, undef, undef, undef, undef, undef, undef, undef, undef, undef, undef, undef, undef, undef, undef, undef, undef, undef, undef, undef, undef, undef, undef, undef, undef, undef, undef, undef, undef, undef, undef, undef, undef, undef, undef, undef, undef, undef, undef, undef, undef, undef, undef, undef, undef, undef, undef, undef, undef, undef, undef, undef, undef, undef, undef, undef, undef, undef, undef, undef, undef, undef, undef, undef, undef, undef, undef, undef, undef, undef, undef, undef, undef, undef, undef, undef, undef, undef, undef, undef, undef, undef, undef, undef, undef, undef, undef, undef, undef, undef, undef, undef, undef, undef, undef, undef, undef, undef, undef, undef, undef, undef, undef, undef, undef, undef, undef, undef, undef, undef, undef, undef, undef, undef, undef, undef, undef, undef, undef, undef, undef, undef, undef, undef, undef, undef, undef, undef, undef, undef, undef, undef, undef, undef, undef, undef, undef, undef, undef, undef, undef, undef, undef, undef, undef, undef, undef, undef, undef, undef, undef, undef, undef, undef, undef, undef, undef, undef, undef, undef, undef, undef, undef, undef, undef, undef, undef, undef, undef, undef, undef, undef, undef, undef, undef, undef, undef, undef, undef, undef, undef, undef, undef, undef, undef, undef, undef, undef, undef, undef, undef, undef, undef, undef, undef, undef, undef, undef, undef, undef, undef, undef, undef, undef, undef, undef, undef, undef, undef, undef, undef, undef, undef, undef, undef, undef, undef, undef, undef, undef, undef, undef, undef, undef, undef, undef, undef, undef, undef, undef, undef, undef, undef, undef, undef, undef, undef, undef, undef, undef, undef, undef, undef, undef, undef, undef, undef, undef, undef, undef, undef, undef, undef, undef, undef, undef, undef, undef, undef, undef, undef, undef, undef, undef, undef, undef, undef, undef, undef, undef, undef, undef, undef, undef, undef], []⟩
set_option maxHeartbeats 8000000 in
set_option maxRecDepth 1000000 in
theorem tries_pre (w : World) (op rd rs1 rs2 n : Int) (aq rl : Bool) (len raw : Int) (post : Ending → World → Prop)
    (h : ∀ (W0 W : World) (u22 u23 u24 u25 u26 u27 u28 u29 u30 u31 u32 u33 u34 u35 u36 u37 u38 u39 u40 u41 u42 u43 u44 u45 u46 u47 u48 u49 u50 u51 u52 u53 u54 u55 u56 u57 u58 u59 u60 u61 u62 u63 u64 u65 u66 u67 u68 u69 u70 u71 u72 u73 u74 u75 u76 u77 u78 u79 u80 : Value), Pre w W0 op rd rs1 rs2 n aq rl len raw → TS W0 (w.heap.size + 1 + 1 + 1 + 1 + 1 + 1 + 1 + 1 + 1 + 1 + 1 + 1) [] W → rest15.wp Tryd.prog (bodyPost Tryd.prog Tryd.f32 post) (fr15 w op rd rs1 rs2 n aq rl len raw u22 u23 u24 u25 u26 u27 u28 u29 u30 u31 u32 u33 u34 u35 u36 u37 u38 u39 u40 u41 u42 u43 u44 u45 u46 u47 u48 u49 u50 u51 u52 u53 u54 u55 u56 u57 u58 u59 u60 u61 u62 u63 u64 u65 u66 u67 u68 u69 u70 u71 u72 u73 u74 u75 u76 u77 u78 u79 u80) W) :
    Calls Tryd.prog 32 #[.agg #[.int .i64 op, .int .i64 rd, .int .i64 rs1, .int .i64 rs2, .int .i64 n, .bool aq, .bool rl, .int .i64 len, .int .u32 raw]] w post := by
  go_enter Tryd.func32, Tryd.ntmps32
  go_upto_region 14 with (first
    | ((with_reducible refine gate_store (t := 99) (p := 3) (v := .tmp 24) rfl ?_); go_must (refine store_new rfl 99 _ _ rfl _ (w.heap.size + 1) ?hg _ #[.int .i64 5, .int .i64 5, .int .i64 12, .int .i64 4, .int .i64 0, .int .i64 2] rfl rfl (by kernel_rfl) rfl (by kernel_rfl) ?_); (case hg => simp))
    | ((with_reducible refine gate_store (t := 100) (p := 4) (v := .tmp 29) rfl ?_); go_must (refine store_new rfl 100 _ _ rfl _ (w.heap.size + 2) ?hg _ #[.int .i64 5, .int .i64 4, .int .i64 11, .int .i64 9, .int .i64 6, .int .i64 7, .int .i64 2, .int .i64 2, .int .i64 6, .int .i64 3, .int .i64 3, .int .i64 5] rfl rfl (by kernel_rfl) rfl (by kernel_rfl) ?_); (case hg => simp))
    | ((with_reducible refine gate_store (t := 101) (p := 5) (v := .tmp 35) rfl ?_); go_must (refine store_new rfl 101 _ _ rfl _ (w.heap.size + 3) ?hg _ #[.int .i64 9, .int .i64 9, .int .i64 12, .int .i64 4, .int .i64 4, .int .i64 6, .int .i64 6, .int .i64 6, .int .i64 5, .int .i64 8, .int .i64 7, .int .i64 3, .int .i64 5, .int .i64 5, .int .i64 2] rfl rfl (by kernel_rfl) rfl (by kernel_rfl) ?_); (case hg => simp))
    | ((with_reducible refine gate_store (t := 102) (p := 6) (v := .tmp 39) rfl ?_); go_must (refine store_new rfl 102 _ _ rfl _ (w.heap.size + 4) ?hg _ #[.int .i64 5, .int .i64 3, .int .i64 10, .int .i64 2, .int .i64 2, .int .i64 6, .int .i64 6, .int .i64 6, .int .i64 5] rfl rfl (by kernel_rfl) rfl (by kernel_rfl) ?_); (case hg => simp))
    | ((with_reducible refine gate_store (t := 99) (p := 7) (v := .tmp 42) rfl ?_); go_must (refine store_new rfl 99 _ _ rfl _ (w.heap.size + 5) ?hg _ #[.int .i64 5, .int .i64 3, .int .i64 10, .int .i64 7, .int .i64 6, .int .i64 5] rfl rfl (by kernel_rfl) rfl (by kernel_rfl) ?_); (case hg => simp))
    | ((with_reducible refine gate_store (t := 102) (p := 8) (v := .tmp 46) rfl ?_); go_must (refine store_new rfl 102 _ _ rfl _ (w.heap.size + 6) ?hg _ #[.int .i64 5, .int .i64 5, .int .i64 12, .int .i64 4, .int .i64 2, .int .i64 4, .int .i64 7, .int .i64 6, .int .i64 2] rfl rfl (by kernel_rfl) rfl (by kernel_rfl) ?_); (case hg => simp))
    | ((with_reducible refine gate_store (t := 102) (p := 9) (v := .tmp 50) rfl ?_); go_must (refine store_new rfl 102 _ _ rfl _ (w.heap.size + 7) ?hg _ #[.int .i64 5, .int .i64 5, .int .i64 12, .int .i64 4, .int .i64 3, .int .i64 5, .int .i64 8, .int .i64 6, .int .i64 2] rfl rfl (by kernel_rfl) rfl (by kernel_rfl) ?_); (case hg => simp))
    | ((with_reducible refine gate_store (t := 99) (p := 10) (v := .tmp 53) rfl ?_); go_must (refine store_new rfl 99 _ _ rfl _ (w.heap.size + 8) ?hg _ #[.int .i64 5, .int .i64 2, .int .i64 9, .int .i64 7, .int .i64 6, .int .i64 7] rfl rfl (by kernel_rfl) rfl (by kernel_rfl) ?_); (case hg => simp))
    | ((with_reducible refine gate_store (t := 99) (p := 11) (v := .tmp 56) rfl ?_); go_must (refine store_new rfl 99 _ _ rfl _ (w.heap.size + 9) ?hg _ #[.int .i64 5, .int .i64 3, .int .i64 10, .int .i64 8, .int .i64 6, .int .i64 7] rfl rfl (by kernel_rfl) rfl (by kernel_rfl) ?_); (case hg => simp))
    | ((with_reducible refine gate_store (t := 103) (p := 12) (v := .tmp 65) rfl ?_); go_must (refine store_new rfl 103 _ _ rfl _ (w.heap.size + 10) ?hg _ #[.int .i64 11, .int .i64 11, .int .i64 12, .int .i64 4, .int .i64 4, .int .i64 11, .int .i64 9, .int .i64 8, .int .i64 9, .int .i64 10, .int .i64 10, .int .i64 8, .int .i64 6, .int .i64 6, .int .i64 7, .int .i64 7, .int .i64 7, .int .i64 6, .int .i64 3, .int .i64 1, .int .i64 3, .int .i64 5, .int .i64 5, .int .i64 2] rfl rfl (by kernel_rfl) rfl (by kernel_rfl) ?_); (case hg => simp))
    | ((with_reducible refine gate_store (t := 101) (p := 13) (v := .tmp 71) rfl ?_); go_must (refine store_new rfl 101 _ _ rfl _ (w.heap.size + 11) ?hg _ #[.int .i64 8, .int .i64 8, .int .i64 12, .int .i64 4, .int .i64 3, .int .i64 10, .int .i64 7, .int .i64 6, .int .i64 5, .int .i64 2, .int .i64 1, .int .i64 3, .int .i64 5, .int .i64 5, .int .i64 2] rfl rfl (by kernel_rfl) rfl (by kernel_rfl) ?_); (case hg => simp)))
  rw [show ((((((((((((w.alloc (.cells #[.int .i64 op, .int .i64 rd, .int .i64 rs1, .int .i64 rs2, .int .i64 n, .bool aq, .bool rl, .int .i64 len, .int .u32 raw] 24)).alloc (.cells #[.int .i64 5, .int .i64 5, .int .i64 12, .int .i64 4, .int .i64 0, .int .i64 2] 99)).alloc (.cells #[.int .i64 5, .int .i64 4, .int .i64 11, .int .i64 9, .int .i64 6, .int .i64 7, .int .i64 2, .int .i64 2, .int .i64 6, .int .i64 3, .int .i64 3, .int .i64 5] 100)).alloc (.cells #[.int .i64 9, .int .i64 9, .int .i64 12, .int .i64 4, .int .i64 4, .int .i64 6, .int .i64 6, .int .i64 6, .int .i64 5, .int .i64 8, .int .i64 7, .int .i64 3, .int .i64 5, .int .i64 5, .int .i64 2] 101)).alloc (.cells #[.int .i64 5, .int .i64 3, .int .i64 10, .int .i64 2, .int .i64 2, .int .i64 6, .int .i64 6, .int .i64 6, .int .i64 5] 102)).alloc (.cells #[.int .i64 5, .int .i64 3, .int .i64 10, .int .i64 7, .int .i64 6, .int .i64 5] 99)).alloc (.cells #[.int .i64 5, .int .i64 5, .int .i64 12, .int .i64 4, .int .i64 2, .int .i64 4, .int .i64 7, .int .i64 6, .int .i64 2] 102)).alloc (.cells #[.int .i64 5, .int .i64 5, .int .i64 12, .int .i64 4, .int .i64 3, .int .i64 5, .int .i64 8, .int .i64 6, .int .i64 2] 102)).alloc (.cells #[.int .i64 5, .int .i64 2, .int .i64 9, .int .i64 7, .int .i64 6, .int .i64 7] 99)).alloc (.cells #[.int .i64 5, .int .i64 3, .int .i64 10, .int .i64 8, .int .i64 6, .int .i64 7] 99)).alloc (.cells #[.int .i64 11, .int .i64 11, .int .i64 12, .int .i64 4, .int .i64 4, .int .i64 11, .int .i64 9, .int .i64 8, .int .i64 9, .int .i64 10, .int .i64 10, .int .i64 8, .int .i64 6, .int .i64 6, .int .i64 7, .int .i64 7, .int .i64 7, .int .i64 6, .int .i64 3, .int .i64 1, .int .i64 3, .int .i64 5, .int .i64 5, .int .i64 2] 103)).alloc (.cells #[.int .i64 8, .int .i64 8, .int .i64 12, .int .i64 4, .int .i64 3, .int .i64 10, .int .i64 7, .int .i64 6, .int .i64 5, .int .i64 2, .int .i64 1, .int .i64 3, .int .i64 5, .int .i64 5, .int .i64 2] 101)) = preW w op rd rs1 rs2 n aq rl len raw from rfl]
  have hP := pre_ok w op rd rs1 rs2 n aq rl len raw
  generalize preW w op rd rs1 rs2 n aq rl len raw = W0 at hP ⊢
  have hT : TS W0 (w.heap.size + 1 + 1 + 1 + 1 + 1 + 1 + 1 + 1 + 1 + 1 + 1 + 1) [] (W0.alloc (.cells #[.slice none 0 0] 80)) := ts_start W0 _ hP.size
  have hI : (W0.alloc (.cells #[.slice none 0 0] 80)).heap[w.heap.size]? = some (.cells #[.int .i64 op, .int .i64 rd, .int .i64 rs1, .int .i64 rs2, .int .i64 n, .bool aq, .bool rl, .int .i64 len, .int .u32 raw] 24 (0, 0)) := (hT.old (by omega)).trans hP.inn
  have p1 := row_cell hI 1 _ rfl
  have p2 := row_cell hI 2 _ rfl
  have p3 := row_cell hI 3 _ rfl
  have p4 := row_cell hI 4 _ rfl
  have HT0 := Lib.hid hT
  have HP := Lib.hid hP
  clear hT hP hI
  generalize W0.alloc (.cells #[.slice none 0 0] 80) = W at *
  go_quiet (fail)
  rename_i hK
  refine hK _ _ ?_
  refine h W0 _ _ _ _ _ _ _ _ _ _ _ _ _ _ _ _ _ _ _ _ _ _ _ _ _ _ _ _ _ _ _ _ _ _ _ _ _ _ _ _ _ _ _ _ _ _ _ _ _ _ _ _ _ _ _ _ _ _ _ _ HP.out ?_
  exact (by with_reducible (repeat (first | exact HT0.out | apply TS.drew | apply TS.drewN)))
/-- What the call leaves. -/
def TPost (w : World) (l : List Int) : Ending → World → Prop := fun e w' => ∃ v, e = .returned v ∧ w'.ownsRow w.heap.size 34 1 v l.length (nums .u16 l) ∧ Below w.heap.size w w'
theorem TS.post {w w0 : World} {go : Nat} {xs : List Int} {W : World} (h : TS w0 go xs W) (hb : Below w.heap.size w w0) (hg : w.heap.size ≤ go) : ∃ A c, W.cell? ⟨go, 0, none⟩ = some (.slice A xs.length c) ∧ W.ownsRow w.heap.size 34 1 (.slice A xs.length c) xs.length (nums .u16 xs) ∧ Below w.heap.size w W := by
  obtain ⟨v, h1, h2⟩ := h.own
  obtain ⟨A, c, rfl⟩ := own_shape h2
  refine ⟨A, c, cell_of_one h1, ⟨h2.1, ?_⟩, ⟨h.below.os.trans hb.os, h.below.tape.trans hb.tape, h.below.output.trans hb.output, Nat.le_trans hb.size h.below.size, fun k hk => (h.below.block k (by omega)).trans (hb.block k hk)⟩⟩
  rcases h2.2 with h3 | ⟨g, cap, cur, e, hg2, r⟩
  · exact .inl h3
  · exact .inr ⟨g, cap, cur, e, by omega, r⟩
end Go.Proofs.YtiibhggjlandmaaDoor.TR
