/- The law BusConsole, its plain parts: a slice of bytes that is cut from the front and grown at its end; a load of the console's registers. No condition. -/
import Derived.Test.YtkocfcgdjjdnhaaLawMem
import Derived.ArgAppend
namespace Go.Proofs.Ytkocfcgdjjdnhaa.BW
open Go.RowKit
set_option linter.unusedVariables false
set_option linter.unusedSimpArgs false
/-- A slice of bytes that may begin anywhere in its block. -/
def Qs (w : World) (v : Value) (l : List Int) : Prop :=
  (v = .slice none 0 0 ∧ l = []) ∨ ∃ g off cap cur, v = .slice (some ⟨g, off, none⟩) l.length cap ∧ w.heap[g]? = some (.cells cur 5 (0, 0)) ∧ l.length ≤ cap ∧ off + cap ≤ cur.size ∧ ∀ i x, l[i]? = some x → cur[off + i]? = some (.int .u8 x)
section
variable {w w' w1 : World} {v : Value} {l : List Int} {X : List Nat} {pb : Nat} {s : St}
theorem Qs.of_bs (h : Bs w v l) : Qs w v l := by
  rcases h.at with h | ⟨g, cap, cur, rfl, hg, h3, h4, h5, h6⟩
  · exact .inl h
  · refine .inr ⟨g, 0, cap, cur, rfl, hg, h3, by omega, fun i x hx => ?_⟩
    have hi : i < l.length := (List.getElem?_eq_some_iff.mp hx).1
    have h7 : (cur.toList.take l.length)[i]? = (u8s l)[i]? := by rw [h6]
    rw [List.getElem?_take_of_lt hi, u8s_get, hx] at h7
    simpa using h7
theorem Qs.shape (h : Qs w v l) : ∃ A c, v = .slice A l.length c := by
  rcases h with ⟨rfl, rfl⟩ | ⟨g, off, cap, cur, rfl, _⟩
  · exact ⟨_, _, rfl⟩
  · exact ⟨_, _, rfl⟩
theorem Qs.keepX (h : Qs w v l) (hx : ∀ g, v.ownBlock = some g → w'.heap[g]? = w.heap[g]?) : Qs w' v l := by
  rcases h with h | ⟨g, off, cap, cur, rfl, hg, h⟩
  · exact .inl h
  · exact .inr ⟨g, off, cap, cur, rfl, (hx g rfl).trans hg, h⟩
theorem Qs.at (h : Qs w v l) (hl : l ≠ []) : ∃ g off cap, v = .slice (some ⟨g, off, none⟩) l.length cap ∧ l.length ≤ cap ∧ ∀ i x, l[i]? = some x → w.cell? ⟨g, off + i, none⟩ = some (.int .u8 x) := by
  rcases h with ⟨_, h⟩ | ⟨g, off, cap, cur, rfl, hg, h1, _, h3⟩
  · exact absurd h hl
  · exact ⟨g, off, cap, rfl, h1, fun i x hx => (cell_of_row w g _ cur 5 (0, 0) hg).trans (h3 i x hx)⟩
theorem Qs.tail {g off n c : Nat} {y : Int} {r : List Int} (h : Qs w (.slice (some ⟨g, off, none⟩) n c) (y :: r)) : Qs w (.slice (some ⟨g, off + 1, none⟩) r.length (c - 1)) r := by
  rcases h with ⟨h, _⟩ | ⟨g', off', cap, cur, e, hg, h1, h2, h3⟩
  · simp at h
  · simp only [Value.slice.injEq, Option.some.injEq, Addr.mk.injEq] at e
    obtain ⟨⟨rfl, rfl, _⟩, -, rfl⟩ := e
    rw [List.length_cons] at h1
    refine .inr ⟨g, off + 1, c - 1, cur, rfl, hg, by omega, by omega, fun i x hx => ?_⟩
    have := h3 (i + 1) x (by simpa using hx)
    rw [← this]; congr 1; omega
theorem setCells_one (w : World) (b o : Nat) (u : Value) : w.setCells b o [u] = w.setCell ⟨b, o, none⟩ u := rfl
/-- What a byte's append makes of it. -/
theorem run_append_q (w : World) (ty : TypeId) (h : Qs w v l) (g0 c1 : Nat) (y : Int) (hy : w.cell? ⟨g0, 0, none⟩ = some (.int .u8 y)) (hl : l.length ≤ 64) :
    ∃ v' w', (Builtin.append_ #[22, 22] ty #[v, .slice (some ⟨g0, 0, none⟩) 1 c1]).run Try.prog w = .ok v' w' ∧ Qs w' v' (l ++ [y]) ∧ ((Kept [] w w' ∧ ∀ g, v'.ownBlock = some g → w.heap.size ≤ g ∧ g < w'.heap.size) ∨ (∃ g, v.ownBlock = some g ∧ v'.ownBlock = some g ∧ Kept [g] w w')) := by
  have hu := Try.underlying22
  obtain ⟨i0, hi, hz0, hz1, hz2⟩ := info_parts info5
  have hrd : Rd w (.slice (some ⟨g0, 0, none⟩) 1 c1) [y] := .inr ⟨c1, g0, 0, rfl, fun i x hx => by
    cases i with
    | zero => simp at hx; subst hx; exact hy
    | succ i => simp at hx⟩
  rcases h with ⟨rfl, rfl⟩ | ⟨g, off, cap, cur, rfl, hg, h1, h2, h3⟩
  · obtain ⟨v', w', hr, hG⟩ := run_append_bs w ty (.slice none 0 0) _ [] [y] (Bs.nil w) hrd (by simp)
    refine ⟨v', w', hr, Qs.of_bs hG.bs, .inl ⟨hG.kept, fun g hg => ⟨Grew.new hG g hg, hG.bs.lt g hg⟩⟩⟩
  · by_cases hroom : l.length + 1 ≤ cap
    · have hlt : off + l.length < cur.size := by omega
      have hr := run_append_room_cells (P := Try.prog) w 22 ty 5 i0 hu hi g off l.length cap ⟨g0, 0, none⟩ 1 c1 [.int .u8 y] (by rw [hz1]; rfl) (fun j u hj => by
          cases j with
          | zero => simp at hj; subst hj; exact hy
          | succ j => simp at hj) (by simp [Value.oneCell']) hroom
          (fun j hj => by
            have : j = 0 := by simpa using hj
            subst this
            rw [hz1, Nat.mul_one, Nat.add_zero, cell_of_row w g _ cur 5 (0, 0) hg, Array.getElem?_eq_getElem hlt]; rfl)
          (fun j hj => frozen_of_row w g _ cur 5 hg)
      rw [hz1, Nat.mul_one, setCells_one] at hr
      have hk : Kept [g] w (w.setCell ⟨g, off + l.length, none⟩ (.int .u8 y)) := (Kept.refl [g] w).setCell (fun _ => by simp) _
      refine ⟨_, _, hr, .inr ⟨g, off, cap, cur.setIfInBounds (off + l.length) (.int .u8 y), by simp, heap_setCell_same w g _ cur 5 _ hg, by simpa using hroom, by simpa using h2, fun i x hx => ?_⟩, .inr ⟨g, rfl, rfl, hk⟩⟩
      rw [Array.getElem?_setIfInBounds]
      by_cases he : i < l.length
      · rw [if_neg (by omega)]
        rw [List.getElem?_append_left he] at hx
        exact h3 i x hx
      · rw [List.getElem?_append_right (by omega)] at hx
        have hi : i - l.length = 0 := by
          have := (List.getElem?_eq_some_iff.mp hx).1
          simp at this; omega
        rw [hi] at hx
        simp at hx
        subst hx
        rw [if_pos (by omega), if_pos hlt]
    · obtain ⟨v', w', hr, r1, r2⟩ := run_append_arg_grows (P := Try.prog) w 22 ty 5 i0 (.int .u8 0) 1 1 hu hi hz0 hz1 hz2 rfl (by decide) ⟨g, off, none⟩ l.length cap (u8s l) (by rw [u8s_length]; omega)
        (fun j u hj => by
          rw [u8s_get] at hj
          obtain ⟨x, hx, rfl⟩ := Option.map_eq_some_iff.mp hj
          rw [Addr.add_lit]
          exact (cell_of_row w g _ cur 5 (0, 0) hg).trans (h3 j x hx))
        ⟨g0, 0, none⟩ 1 c1 [.int .u8 y] rfl (fun j u hj => by
          cases j with
          | zero => simp at hj; subst hj; exact hy
          | succ j => simp at hj) (by omega) (by unfold maxLen; omega) (by omega)
      have e : u8s l ++ [.int .u8 y] = u8s (l ++ [y]) := by simp [u8s]
      rw [e] at r1
      have hb := Bs.of_owns r1
      have hk : Kept [] w w' := (Kept.refl _ w).grown r2 (fun k e _ => by simp at e)
      exact ⟨v', w', hr, Qs.of_bs hb.1, .inl ⟨hk, fun g hg => ⟨hb.2 g hg, hb.1.lt g hg⟩⟩⟩
/-- The bus beside such a slice, and boxes X. -/
structure CInv (w1 : World) (pb : Nat) (X : List Nat) (v : Value) (l : List Int) (s : St) (w : World) : Prop where
  d : SoloE w1 (v.ownBlock.toList ++ X) w pb s
  q : Qs w v l
  own : ∀ g, v.ownBlock = some g → w1.heap.size ≤ g ∧ g ∉ X
theorem CInv.keep (h : CInv w1 pb X v l s w) (hk : Kept [] w w') : CInv w1 pb X v l s w' ∧ SameX X w w' := by
  obtain ⟨D, hx⟩ := h.d.keep hk
  exact ⟨⟨D, h.q.keepX (fun g hg => hx g (by simp [hg])), h.own⟩, fun x hm => hx x (by simp [hm])⟩
theorem CInv.turn {s' : St} (h : CInv w1 pb X v l s w) (D : SoloE w1 (v.ownBlock.toList ++ X) w' pb s') (hx : SameX (v.ownBlock.toList ++ X) w w') : CInv w1 pb X v l s' w' ∧ SameX X w w' :=
  ⟨⟨D, h.q.keepX (fun g hg => hx g (by simp [hg])), h.own⟩, fun x hm => hx x (by simp [hm])⟩
theorem CInv.app (h : CInv w1 pb X v l s w) (ty : TypeId) (g0 c1 : Nat) (y : Int) (hy : w.cell? ⟨g0, 0, none⟩ = some (.int .u8 y)) (hl : l.length ≤ 64) :
    ∃ v' w', (Builtin.append_ #[22, 22] ty #[v, .slice (some ⟨g0, 0, none⟩) 1 c1]).run Try.prog w = .ok v' w' ∧ CInv w1 pb X v' (l ++ [y]) s w' ∧ SameX X w w' := by
  obtain ⟨v', w', hr, hq, hc⟩ := run_append_q w ty h.q g0 c1 y hy hl
  refine ⟨v', w', hr, ?_⟩
  rcases hc with ⟨hk, hn⟩ | ⟨g, e1, e2, hk⟩
  · have hz := h.d.kept.size
    have D := (h.d.pop (X := X) (fun x hx => by simp [hx])).claim hk v'.ownBlock.toList (fun x hx => hn x (by simpa using hx))
    exact ⟨⟨D, hq, fun g hg => ⟨Nat.le_trans hz (hn g hg).1, fun hm => by have := h.d.xl g (by simp [hm]); have := (hn g hg).1; omega⟩⟩, SameX.of_kept (fun x hx => h.d.xl x (by simp [hx])) hk⟩
  · have hg := h.own g e1
    have D := h.d.write (x := g) (by simp [e1]) hg.1 hk
    rw [e1, ← e2] at D
    refine ⟨⟨D, hq, fun g' hg' => by rw [e2] at hg'; simp at hg'; subst hg'; exact hg⟩, fun x hx => hk.block x (h.d.xl x (by simp [hx])) (by simp; rintro rfl; exact hg.2 hx)⟩
theorem CInv.tail {g off n c : Nat} {y : Int} {r : List Int} (h : CInv w1 pb X (.slice (some ⟨g, off, none⟩) n c) (y :: r) s w) : CInv w1 pb X (.slice (some ⟨g, off + 1, none⟩) r.length (c - 1)) r s w :=
  ⟨h.d, h.q.tail, h.own⟩
/-- .. as Go cuts it: a slice without room keeps its address. -/
theorem CInv.tail' {g off n c : Nat} {y : Int} {r : List Int} (h : CInv w1 pb X (.slice (some ⟨g, off, none⟩) n c) (y :: r) s w) : CInv w1 pb X (.slice (if c = 1 then some ⟨g, off, none⟩ else some ⟨g, off + 1, none⟩) r.length (c - 1)) r s w := by
  split
  · rename_i hc
    subst hc
    refine ⟨h.d, ?_, h.own⟩
    rcases h.q with ⟨e, _⟩ | ⟨g', off', cap, cur, e, hg, h1, h2, h3⟩
    · simp at e
    · simp only [Value.slice.injEq, Option.some.injEq, Addr.mk.injEq] at e
      obtain ⟨⟨rfl, rfl, _⟩, -, rfl⟩ := e
      rw [List.length_cons] at h1
      have hr : r = [] := List.length_eq_zero_iff.1 (by omega)
      subst hr
      exact .inr ⟨g, off, 0, cur, rfl, hg, by simp, by omega, fun i x hx => by simp at hx⟩
  · exact h.tail
theorem CInv.sub {Y : List Nat} (h : CInv w1 pb Y v l s w) (hs : ∀ x ∈ X, x ∈ Y) : CInv w1 pb X v l s w :=
  ⟨h.d.pop (fun x hx => by simp at hx ⊢; exact hx.imp id (hs x)), h.q, fun g hg => ⟨(h.own g hg).1, fun hm => (h.own g hg).2 (hs g hm)⟩⟩
theorem wpList_append_q {ops : Array Oper} {rest : List Oper} {o : Oper} {a : Act} {Q : Exit → Act → World → Prop} (hgd : o.guard = none) (t u : Operand)
    (ho : o.op = .call { callee := .builtin .append, args := #[t, u], argTypes := #[22, 22] }) (v : Value) (g0 c1 : Nat) (y : Int) (l : List Int) (hs : a.eval t = v) (hy : a.eval u = .slice (some ⟨g0, 0, none⟩) 1 c1) (hx : w.cell? ⟨g0, 0, none⟩ = some (.int .u8 y)) (hc : CInv w1 pb X v l s w) (hl : l.length ≤ 64)
    (h : ∀ v' w', CInv w1 pb X v' (l ++ [y]) s w' → SameX X w w' → wpList Try.prog ops Q rest (a.put o.dst v') w') : wpList Try.prog ops Q (o :: rest) a w :=
  wpList_plain hgd fun _ hK => by
    obtain ⟨v', w', hr, h1, h2⟩ := hc.app o.type g0 c1 y hx hl
    unfold Oper.wp execOp
    simp only [ho, resolve, invoke, builtin, Sem.run_bind, Sem.run_pure, Result.andThen_ok, List.map_toArray, List.map_cons, List.map_nil, hs, hy, hr]
    exact hK _ _ (h v' w' h1 h2)
end
/-- The queue beside the bus, and the box of a call. -/
def CB (w1 : World) (pb M : Nat) (cs : Array Value) (v : Value) (l : List Int) (s : St) (w : World) : Prop := CInv w1 pb [M] v l s w ∧ w.heap[M]? = some (.cells cs 54 (0, 0))
theorem CInv.box {w1 w : World} {pb : Nat} {v : Value} {l : List Int} {s : St} (h : CInv w1 pb [] v l s w) (cs : Array Value) :
    (w.alloc (.cells zOp 54)).heap[w.heap.size]? = some (.cells zOp 54 (0, 0)) ∧ CB w1 pb w.heap.size cs v l s ((w.alloc (.cells zOp 54)).setRow w.heap.size cs) := by
  obtain ⟨hz, D2, hT, hx⟩ := h.d.opbox cs
  refine ⟨hz, ⟨D2.pop (fun x hx => by simp at hx ⊢; exact hx.symm), h.q.keepX (fun g hg => hx g (by simp [hg])), fun g hg => ⟨(h.own g hg).1, fun hm => ?_⟩⟩, hT⟩
  have := h.d.xl g (by simp [hg])
  simp at hm; omega
theorem load_uart0 (s : St) : s.load 268435456 1 = ((s.inp.headD 0, true), { s with inp := s.inp.tail }) := by
  have hr : reach s.ram.length 268435456 1 = 10 := by unfold reach inRam; simp
  unfold St.load St.tells
  simp [hr]
theorem load_uart5 (s : St) : s.load 268435461 1 = ((s.status, true), { s with over := false }) := by
  have hr : reach s.ram.length 268435461 1 = 10 := by unfold reach inRam; simp
  unfold St.load St.tells
  simp [hr]
end Go.Proofs.Ytkocfcgdjjdnhaa.BW
