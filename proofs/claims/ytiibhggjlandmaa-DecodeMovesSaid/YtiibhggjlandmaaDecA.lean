/- Helpers of decode.Decode's contract: the search of a form, as a plain function; the cells of the row of forms. No condition. -/
import Derived.Test.YtiibhggjlandmaaPBx
import Derived.Test.YtiibhggjlandmaaForms
import Derived.Test.YtiibhggjlandmaaScope
namespace Go.Proofs.Ytiibhggjlandmaa.PB
open Go.RowKit Go.Proofs.YtiibhggjlandmaaW.PrintWords Go.Proofs.YtiibhggjlandmaaW.PrintLast Go.Proofs.YtiibhggjlandmaaW.PrintMore Go.Proofs.Ytiibhggjlandmaa.PE Go.Proofs.Ytiibhggjlandmaa.PF
set_option linter.unusedVariables false
set_option linter.unusedSimpArgs false
def findF (long : Int) : List Frm → Option Frm
  | [] => none
  | f :: r => if Go.bits .and .u32 long f.mask = f.code then some f else findF long r
def decode_dec (k : Nat) (long len raw : Int) : Option (Int × Int × Int × Int × Int × Bool × Bool × Int × Int) := match findF long formsL with
  | none => some (0, 0, 0, 0, 0, false, false, len, raw)
  | some f => decode_fill.f k f.op 0 0 0 0 false false len raw long f.shape
def decode_Decode.f (k : Nat) (a0 : Int) : Option (Int × Int × Int × Int × Int × Bool × Bool × Int × Int) :=
  if Go.bits .and .u32 a0 3 = 3 then decode_dec k a0 4 a0
  else (decode_Expand.f k (IntKind.u16.wrap a0)).bind fun e => if e.2 = true then decode_dec k e.1 2 (Go.bits .and .u32 a0 65535) else some (0, 0, 0, 0, 0, false, false, 2, Go.bits .and .u32 a0 65535)
theorem decode_dec.mono (long len raw : Int) (k : Nat) : LeO (decode_dec k long len raw) (decode_dec (k + 1) long len raw) := by
  unfold decode_dec
  split
  · exact LeO.refl _
  · exact decode_fill.mono _ _ _ _ _ _ _ _ _ _ _ _
theorem decode_Decode.mono : ∀ a0 k, LeO (decode_Decode.f k a0) (decode_Decode.f (k + 1) a0) := by
  intro a0 k
  unfold decode_Decode.f
  refine LeO.ite (decode_dec.mono _ _ _ _) ?_
  refine LeO.bind (decode_Expand.mono _ _) (fun e => ?_)
  exact LeO.ite (decode_dec.mono _ _ _ _) (LeO.refl _)
theorem flat_get : ∀ (l : List Frm) (i j : Nat) (f : Frm), l[i]? = some f → j < 4 → (l.flatMap Frm.cells)[i * 4 + j]? = f.cells[j]?
  | [], i, j, f, h, hj => by simp at h
  | g :: l, 0, j, f, h, hj => by
    simp only [List.getElem?_cons_zero, Option.some.injEq] at h; subst h
    rw [List.flatMap_cons, Nat.zero_mul, Nat.zero_add, List.getElem?_append_left (by simpa [Frm.cells] using hj)]
  | g :: l, i + 1, j, f, h, hj => by
    rw [List.getElem?_cons_succ] at h
    rw [List.flatMap_cons, List.getElem?_append_right (by simp only [Frm.cells, List.length_cons, List.length_nil]; omega)]
    rw [← flat_get l i j f h hj]
    congr 1
    simp only [Frm.cells, List.length_cons, List.length_nil]; omega
theorem form_cell (w : World) (g i : Nat) (f : Frm) (hg : w.heap[g]? = some (.cells formCells 50)) (hf : formsL[i]? = some f) (j : Nat) (v : Value) (hj : f.cells[j]? = some v) : w.cell? ((⟨g, i * 4, none⟩ : Addr).add j) = some v := by
  have hadd : (⟨g, i * 4, none⟩ : Addr).add j = ⟨g, i * 4 + j, none⟩ := by unfold Addr.add; split <;> simp_all
  have hlt : j < 4 := by
    have := (List.getElem?_eq_some_iff.mp hj).1
    simpa [Frm.cells] using this
  rw [hadd, cell_of_row w g _ formCells 50 (0, 0) hg, formCells, List.getElem?_toArray, flat_get formsL i j f hf hlt, hj]
section
variable {P : Program}
theorem run_loadVar_cells (w : World) (ty : TypeId) (a : Addr) (cs : List Value) (d : TypeDesc) (h : ∀ j v, cs[j]? = some v → w.cell? (a.add j) = some v)
    (hu : P.underlying ty = some d) (hd : (match d with | .struct _ | .array _ _ => true | _ => false) = true) (hi : (P.info? ty).map (·.size) = some cs.length) :
    (loadVar ty a).run P w = .ok (.agg cs.toArray) w := by
  have hl := run_loadCells_list (P := P) w a cs h
  cases hq : P.info? ty with
  | none => simp [hq] at hi
  | some i =>
    have hs : i.size = cs.length := by simpa [hq] using hi
    have hagg : (isAgg ty).run P w = .ok true w := by
      unfold isAgg
      rw [Sem.run_bind, run_underlying hu w]
      cases d <;> simp_all
    simp [loadVar, Sem.run_bind, hagg, sizeOf, typeInfo, hq, hs, hl]
theorem wpList_load_cells {ops : Array Oper} {rest : List Oper} {o : Oper} {a : Act} {w : World} {Q : Exit → Act → World → Prop} (hgd : o.guard = none) (ty : TypeId) (x : Operand) (ho : o.op = .load ty x)
    (ad : Addr) (hx : a.eval x = .pointer (some ad)) (cs : List Value) (d : TypeDesc) (hc : ∀ j v, cs[j]? = some v → w.cell? (ad.add j) = some v)
    (hu : P.underlying ty = some d) (hd : (match d with | .struct _ | .array _ _ => true | _ => false) = true) (hi : (P.info? ty).map (·.size) = some cs.length)
    (h : wpList P ops Q rest (a.put o.dst (.agg cs.toArray)) w) : wpList P ops Q (o :: rest) a w := by
  refine wpList_plain hgd fun K hK => ?_
  unfold Oper.wp execOp
  simp only [ho, hx, Instr.loadAt, Instr.sureAddr, Sem.run_bind, Sem.run_pure, Result.andThen_ok, run_loadVar_cells w ty ad cs d hc hu hd hi]
  exact hK _ _ h
end
end Go.Proofs.Ytiibhggjlandmaa.PB
