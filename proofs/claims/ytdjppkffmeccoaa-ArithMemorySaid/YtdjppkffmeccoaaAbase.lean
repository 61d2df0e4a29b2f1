/- Bytes in memory (for the laws on Take and Put). No condition. -/
import Derived.Test.YtdjppkffmeccoaaProg
import Derived.WalkKit
import Derived.Below
import Derived.Laws.OwnMore
import Derived.Laws.AppendOwn
import Derived.Laws.Tables
import Derived.Deep.Draws
import Derived.Laws.AppendOwnNone
import Derived.RowKit3
import Derived.Laws.BitsAllLaws
import Derived.Laws.BitsLemmas
import Derived.Lib.EndianBits
import Derived.Deep.LoopGhost
import Derived.Deep.QuietTactic
import Derived.BigQuiet
import Derived.Deep.RegionWith
import Derived.Deep.OwnRows
import Derived.Lib.Hide
import Derived.Laws.BytesArg
import Derived.ArgAppend
import Derived.Deep.Light
namespace Go.Proofs.Ytdjppkffmeccoaa.BW
open Go.RowKit
set_option linter.unusedVariables false
set_option linter.unusedSimpArgs false
/-- Of what was there when the call began nothing has turned but the blocks of F. -/
structure Kept (F : List Nat) (w w' : World) : Prop where
  os : w'.os = w.os
  tape : w'.tape = w.tape
  output : w'.output = w.output
  size : w.heap.size ≤ w'.heap.size
  block : ∀ k, k < w.heap.size → k ∉ F → w'.heap[k]? = w.heap[k]?
section
variable {F G : List Nat} {a b w w' : World}
theorem Kept.refl (F : List Nat) (w : World) : Kept F w w := ⟨rfl, rfl, rfl, Nat.le_refl _, fun _ _ _ => rfl⟩
theorem Kept.trans (h : Kept F a w) (k : Kept G w w') (hG : ∀ x ∈ G, x < a.heap.size → x ∈ F) : Kept F a w' :=
  ⟨k.os.trans h.os, k.tape.trans h.tape, k.output.trans h.output, Nat.le_trans h.size k.size, fun x hx hF => (k.block x (Nat.lt_of_lt_of_le hx h.size) (fun hg => hF (hG x hg hx))).trans (h.block x hx hF)⟩
theorem Kept.mono (h : Kept F a w) (hF : ∀ x ∈ F, x ∈ G) : Kept G a w := ⟨h.os, h.tape, h.output, h.size, fun x hx hG => h.block x hx fun hf => hG (hF x hf)⟩
theorem Kept.of_below (h : Below a.heap.size a w) : Kept F a w := ⟨h.os, h.tape, h.output, h.size, fun x hx _ => h.block x hx⟩
theorem Kept.below (h : Kept F a w) {B : Nat} (hB : B ≤ a.heap.size) (hF : ∀ x ∈ F, B ≤ x) : Below B a w := ⟨h.os, h.tape, h.output, h.size, fun x hx => h.block x (by omega) fun hf => by have := hF x hf; omega⟩
theorem Kept.drew (h : Kept F a w) : Kept F a w.drew := ⟨h.os, h.tape, h.output, h.size, h.block⟩
theorem drewN_heap (w : World) (n : Nat) : (w.drewN n).heap = w.heap := rfl
theorem Kept.drewN (h : Kept F a w) (n : Nat) : Kept F a (w.drewN n) := ⟨h.os, h.tape, h.output, h.size, h.block⟩
theorem Kept.alloc (h : Kept F a w) (o : Obj) : Kept F a (w.alloc o) :=
  h.trans (G := []) ⟨rfl, rfl, rfl, by simp, fun k hk _ => Below.heap_alloc _ _ _ hk⟩ (by simp)
theorem Kept.setCell (h : Kept F a w) {p : Addr} (hp : p.block < a.heap.size → p.block ∈ F) (u : Value) : Kept F a (w.setCell p u) :=
  h.trans (G := [p.block]) ⟨rfl, rfl, rfl, by simp [World.setCell], fun k hk hn => Below.heap_setCell _ _ _ _ (by simpa using hn)⟩ (by intro x hx; simp at hx; subst hx; exact hp)
theorem Kept.setRow (h : Kept F a w) {g : Nat} (hp : g < a.heap.size → g ∈ F) (cs : Array Value) : Kept F a (w.setRow g cs) :=
  h.trans (G := [g]) ⟨rfl, rfl, rfl, by simp, fun k hk hn => setRow_other _ _ _ _ (by simpa using hn)⟩ (by intro x hx; simp at hx; subst hx; exact hp)
theorem Kept.grown (h : Kept F a w) {row : Option Nat} (hg : w.grownBy w' row) (hr : ∀ k, row = some k → k < a.heap.size → k ∈ F) : Kept F a w' :=
  h.trans (G := row.toList) ⟨hg.os, hg.tape, hg.output, hg.size, fun k hk hn => hg.block k hk (by intro e; subst e; simp at hn)⟩ (by intro x hx hl; simp at hx; exact hr x hx hl)
theorem Kept.row (h : Kept F a w) {g : Nat} {o : Obj} (hg : a.heap[g]? = some o) (hF : g ∉ F) : w.heap[g]? = some o := by
  rw [h.block g (Array.getElem?_eq_some_iff.1 hg).1 hF]; exact hg
theorem Kept.cell (h : Kept F a w) {p : Addr} (hp : p.block < a.heap.size) (hF : p.block ∉ F) : w.cell? p = a.cell? p := World.cell?_of_block (h.block _ hp hF)
theorem Kept.frozen (h : Kept F a w) {p : Addr} (hp : p.block < a.heap.size) (hF : p.block ∉ F) : w.frozen? p = a.frozen? p := World.frozen?_of_block (h.block _ hp hF)
end
/-- Numbers as the cells of bytes. -/
def u8s (l : List Int) : List Value := l.map (Value.int .u8)
theorem u8s_length (l : List Int) : (u8s l).length = l.length := by simp [u8s]
theorem u8s_get (l : List Int) (i : Nat) : (u8s l)[i]? = l[i]?.map (Value.int .u8) := by simp [u8s]
def Byts (l : List Int) : Prop := ∀ n ∈ l, 0 ≤ n ∧ n ≤ 255
/-- A slice of bytes with a block of its own (or nil). -/
def Bs (w : World) (v : Value) (l : List Int) : Prop := w.ownsRow 0 5 1 v l.length (u8s l)
section
variable {F G : List Nat} {w w' : World} {v : Value} {l : List Int}
theorem Bs.nil (w : World) : Bs w (.slice none 0 0) [] := World.ownsRow_nil w 0 5 1
theorem Bs.lt (h : Bs w v l) : ∀ k, v.ownBlock = some k → k < w.heap.size := fun k hk => (World.ownsRow.lt h k hk).2
theorem Bs.keep (h : Bs w v l) (hk : Kept F w w') (hF : ∀ g, v.ownBlock = some g → g ∉ F) : Bs w' v l := by
  refine ⟨h.1, h.2.imp id ?_⟩
  rintro ⟨g, cap, cur, rfl, hb, hg, r⟩
  exact ⟨g, cap, cur, rfl, hb, hk.row hg (hF g rfl), r⟩
/-- Where it lies. -/
theorem Bs.at (h : Bs w v l) : (v = .slice none 0 0 ∧ l = []) ∨ ∃ g cap cur, v = .slice (some ⟨g, 0, none⟩) l.length cap ∧ w.heap[g]? = some (.cells cur 5 (0, 0)) ∧ l.length ≤ cap ∧ cap ≤ maxLen ∧ cur.size = cap ∧ cur.toList.take l.length = u8s l := by
  rcases h.2 with ⟨h1, h2⟩ | ⟨g, cap, cur, h1, _, h2, h3, h4, h5, h6⟩
  · exact .inl ⟨h1, List.length_eq_zero_iff.mp h2⟩
  · exact .inr ⟨g, cap, cur, h1, h2, h3, h4, by simpa using h5, by simpa using h6⟩
theorem Bs.len (h : Bs w v l) : l.length ≤ maxLen := by
  rcases h.at with ⟨_, rfl⟩ | ⟨g, cap, cur, _, _, h3, h4, _⟩
  · simp
  · omega
theorem Bs.cell (h : Bs w v l) {g c n : Nat} (hv : v = .slice (some ⟨g, 0, none⟩) n c) (i : Nat) (x : Int) (hx : l[i]? = some x) : w.cell? ⟨g, i, none⟩ = some (.int .u8 x) := by
  rcases h.at with ⟨rfl, _⟩ | ⟨g', cap, cur, rfl, hg, h3, h4, h5, h6⟩
  · simp at hv
  · simp only [Value.slice.injEq, Option.some.injEq, Addr.mk.injEq] at hv
    obtain ⟨⟨rfl, _⟩, _⟩ := hv
    rw [cell_of_row w g' i cur 5 (0, 0) hg]
    have hi : i < l.length := (List.getElem?_eq_some_iff.mp hx).1
    have h7 : (cur.toList.take l.length)[i]? = (u8s l)[i]? := by rw [h6]
    rw [List.getElem?_take_of_lt hi, u8s_get, hx] at h7
    simpa using h7
theorem Bs.frozen (h : Bs w v l) {g c n : Nat} (hv : v = .slice (some ⟨g, 0, none⟩) n c) (i : Nat) : w.frozen? ⟨g, i, none⟩ = false := by
  rcases h.at with ⟨rfl, _⟩ | ⟨g', cap, cur, rfl, hg, h3, h4, h5, h6⟩
  · simp at hv
  · simp only [Value.slice.injEq, Option.some.injEq, Addr.mk.injEq] at hv
    obtain ⟨⟨rfl, _⟩, _⟩ := hv
    exact frozen_of_row w g' i cur 5 hg
/-- One byte written. -/
theorem Bs.set (h : Bs w v l) {g c n : Nat} (hv : v = .slice (some ⟨g, 0, none⟩) n c) (i : Nat) (x : Int) (hi : i < l.length) : Bs (w.setCell ⟨g, i, none⟩ (.int .u8 x)) v (l.set i x) := by
  rcases h.at with ⟨rfl, _⟩ | ⟨g', cap, cur, rfl, hg, h3, h4, h5, h6⟩
  · simp at hv
  · simp only [Value.slice.injEq, Option.some.injEq, Addr.mk.injEq] at hv
    obtain ⟨⟨rfl, _⟩, _⟩ := hv
    refine ⟨by simp [u8s], .inr ⟨g', cap, cur.setIfInBounds i (.int .u8 x), by simp, Nat.zero_le _, ?_, by simpa using h3, h4, by simpa using h5, ?_⟩⟩
    · rw [heap_setCell_same w g' i cur 5 _ hg]
    · simp only [Array.toList_setIfInBounds, Nat.mul_one, List.length_set, u8s, List.map_set]
      rw [List.take_set, h6]; rfl
end
/-- A slice of bytes that reads so. -/
def Rd (w : World) (v : Value) (l : List Int) : Prop :=
  (v = .slice none 0 0 ∧ l = []) ∨ ∃ c g o, v = .slice (some ⟨g, o, none⟩) l.length c ∧ ∀ i x, l[i]? = some x → w.cell? ⟨g, o + i, none⟩ = some (.int .u8 x)
theorem Bs.shape {w : World} {v : Value} {l : List Int} (h : Bs w v l) : ∃ A c, v = .slice A l.length c := by
  rcases h.at with ⟨rfl, rfl⟩ | ⟨g, cap, cur, rfl, _⟩
  · exact ⟨none, 0, rfl⟩
  · exact ⟨_, cap, rfl⟩
theorem Bs.rd {w : World} {v : Value} {l : List Int} (h : Bs w v l) : Rd w v l := by
  rcases h.at with ⟨rfl, rfl⟩ | ⟨g, cap, cur, rfl, hg, h3, h4, h5, h6⟩
  · exact .inl ⟨rfl, rfl⟩
  · exact .inr ⟨cap, g, 0, rfl, fun i x hx => by rw [Nat.zero_add]; exact h.cell rfl i x hx⟩
theorem Rd.keep {w w' : World} {v : Value} {l : List Int} {F : List Nat} (h : Rd w v l) (hk : Kept F w w') (hF : ∀ g o n c, v = .slice (some ⟨g, o, none⟩) n c → g ∉ F) : Rd w' v l := by
  rcases h with h | ⟨c, g, o, rfl, hc⟩
  · exact .inl h
  · exact .inr ⟨c, g, o, rfl, fun i x hx => by
      have h1 := hc i x hx
      rw [hk.cell (p := ⟨g, o + i, none⟩) (World.block_lt_of_cell? w _ h1) (hF g o _ _ rfl)]; exact h1⟩
theorem addr_add (g o j : Nat) : (⟨g, o, none⟩ : Addr).add j = ⟨g, o + j, none⟩ := by unfold Addr.add; split <;> simp_all
theorem rd_news {w : World} {g o : Nat} {l : List Int} (hc : ∀ i x, l[i]? = some x → w.cell? ⟨g, o + i, none⟩ = some (.int .u8 x)) : ∀ j u, (u8s l)[j]? = some u → w.cell? ((⟨g, o, none⟩ : Addr).add j) = some u := by
  intro j u hu
  rw [u8s_get] at hu
  obtain ⟨x, hx, rfl⟩ := Option.map_eq_some_iff.mp hu
  rw [addr_add]; exact hc j x hx
theorem info5 : (Try.prog.info? 5).map (fun i => (i.zero, i.size, i.bytes)) = some (some (.int .u8 0), 1, 1) := by kernel_rfl
theorem Bs.of_owns {w : World} {base : Nat} {v : Value} {n : Nat} {l : List Int} (h : w.ownsRow base 5 1 v n (u8s l)) : Bs w v l ∧ ∀ g, v.ownBlock = some g → base ≤ g := by
  have hn : n = l.length := by have := h.1; rw [u8s_length] at this; omega
  subst hn
  exact ⟨⟨h.1, h.2.imp id fun ⟨g, cap, cur, h1, h2, h3⟩ => ⟨g, cap, cur, h1, Nat.zero_le _, h3⟩⟩, fun g hg => (h.lt g hg).1⟩
theorem Kept.of_grown {w w' : World} (h : w.grownBy w' none) : Kept [] w w' := (Kept.refl [] w).grown h (by simp)
theorem u8s_one (l : List Int) : ∀ u ∈ u8s l, u.oneCell' = true := by
  intro u hu
  simp only [u8s, List.mem_map] at hu
  obtain ⟨n, _, rfl⟩ := hu
  rfl
/-- What append leaves of a slice with a block of its own. -/
structure Grew (w w' : World) (v v' : Value) (l : List Int) : Prop where
  bs : Bs w' v' l
  kept : Kept v.ownBlock.toList w w'
  blk : ∀ g, v'.ownBlock = some g → v.ownBlock = some g ∨ w.heap.size ≤ g
theorem run_append_bs (w : World) (ty : TypeId) (v x : Value) (l m : List Int) (hv : Bs w v l) (hx : Rd w x m) (hl : l.length + m.length ≤ 140737488355328) :
    ∃ v' w', (Builtin.append_ #[22, 22] ty #[v, x]).run Try.prog w = .ok v' w' ∧ Grew w w' v v' (l ++ m) := by
  obtain ⟨i0, hi, hz0, hz1, hz2⟩ := info_parts info5
  have hu := Try.underlying22
  rcases hx with ⟨rfl, rfl⟩ | ⟨c, g, o, rfl, hc⟩
  · exact ⟨v, w, run_append_owned_none (P := Try.prog) (w := w) 0 22 ty 5 i0 1 hu hi v l.length (u8s l) hv, by rw [List.append_nil]; exact hv, Kept.refl _ _, fun g hg => .inl hg⟩
  · have hn := rd_news hc
    have hml : (u8s m).length = m.length * 1 := by rw [u8s_length, Nat.mul_one]
    obtain ⟨v', w', hr, h2, h3, h4⟩ := run_append_own (P := Try.prog) w 0 22 ty 5 i0 (.int .u8 0) 1 1 hu hi hz0 hz1 hz2 rfl (by decide) v l.length (u8s l) hv ⟨g, o, none⟩ m.length c (u8s m) hml hn (u8s_one m) (by unfold maxLen; omega) (by omega) (Nat.zero_le _)
    rw [show u8s l ++ u8s m = u8s (l ++ m) by simp [u8s]] at h2
    refine ⟨v', w', hr, (Bs.of_owns h2).1, (Kept.refl _ w).grown h3 (fun k e _ => by simp [e]), fun g' hg' => ?_⟩
    rcases hv.at with ⟨rfl, rfl⟩ | ⟨gv, cap, cur, rfl, hg, h5, h6, h7, h8⟩
    · obtain ⟨v2, w2, hr2, h2', _, _⟩ := run_append_own (P := Try.prog) w w.heap.size 22 ty 5 i0 (.int .u8 0) 1 1 hu hi hz0 hz1 hz2 rfl (by decide) (.slice none 0 0) 0 [] (World.ownsRow_nil w _ 5 1) ⟨g, o, none⟩ m.length c (u8s m) hml hn (u8s_one m) (by unfold maxLen; omega) (by omega) (Nat.le_refl _)
      rw [hr2] at hr
      simp only [Result.ok.injEq] at hr
      obtain ⟨rfl, rfl⟩ := hr
      exact .inr (h2'.lt g' hg').1
    · by_cases hroom : l.length + m.length ≤ cap
      · have hr2 := run_append_room (P := Try.prog) w 22 ty 5 i0 hu hi gv l.length cap cur hg ⟨g, o, none⟩ m.length c (u8s m) (by rw [hz1]; exact hml) hn (u8s_one m) hroom (by rw [hz1, u8s_length]; omega)
        rw [hr2] at hr
        simp only [Result.ok.injEq] at hr
        obtain ⟨rfl, rfl⟩ := hr
        exact .inl hg'
      · have holds : ∀ j u, (u8s l)[j]? = some u → w.cell? ((⟨gv, 0, none⟩ : Addr).add j) = some u := World.ownsRow.cells hv (g := gv) rfl
        have hr2 := run_append_grow (P := Try.prog) w 22 ty 5 i0 (.int .u8 0) hu hi hz0 ⟨gv, 0, none⟩ l.length cap (u8s l) (by rw [hz1, u8s_length, Nat.mul_one]) holds ⟨g, o, none⟩ m.length c (u8s m) (by rw [hz1]; exact hml) hn (by omega) (by omega) (growslice_fits (by omega) (by rw [hz2]; omega))
        rw [hr2] at hr
        simp only [Result.ok.injEq] at hr
        obtain ⟨rfl, rfl⟩ := hr
        simp only [Value.ownBlock, Option.some.injEq] at hg'
        exact .inr (by omega)
theorem wpList_append_bs {w : World} {ops : Array Oper} {rest : List Oper} {o : Oper} {a : Act} {Q : Exit → Act → World → Prop} (hgd : o.guard = none) (s x : Operand)
    (ho : o.op = .call { callee := .builtin .append, args := #[s, x], argTypes := #[22, 22] }) (v y : Value) (l m : List Int) (hs : a.eval s = v) (hy : a.eval x = y) (hv : Bs w v l) (hx : Rd w y m) (hl : l.length + m.length ≤ 140737488355328)
    (h : ∀ v' w', Grew w w' v v' (l ++ m) → wpList Try.prog ops Q rest (a.put o.dst v') w') : wpList Try.prog ops Q (o :: rest) a w :=
  wpList_plain hgd fun _ hK => by
    obtain ⟨v', w', hr, hg⟩ := run_append_bs w o.type v y l m hv hx hl
    unfold Oper.wp execOp
    simp only [ho, resolve, invoke, builtin, Sem.run_bind, Sem.run_pure, Result.andThen_ok, List.map_toArray, List.map_cons, List.map_nil, hs, hy, hr]
    exact hK _ _ (h v' w' hg)
def leVal : List Int → Int
  | [] => 0
  | b :: r => b + 256 * leVal r
def leOf (v : Int) : Nat → List Int
  | 0 => []
  | n + 1 => v % 256 :: leOf (v / 256) n
theorem wraps_u64 (n : Int) (h₀ : 0 ≤ n) (h₁ : n < 2 ^ 64) : IntKind.u64.wrap n = n := by rw [IntKind.wrap_u64]; omega
theorem leVal_bd : ∀ (p : List Int), Byts p → 0 ≤ leVal p ∧ leVal p < 256 ^ p.length
  | [], _ => by simp [leVal]
  | b :: r, h => by
    have h1 := leVal_bd r fun n hn => h n (List.mem_cons_of_mem _ hn)
    have h2 := h b (List.mem_cons_self ..)
    rw [leVal, List.length_cons, Int.pow_succ]; omega
theorem leOf_length (v : Int) : ∀ n, (leOf v n).length = n := by
  intro n; induction n generalizing v with
  | zero => rfl
  | succ n ih => rw [leOf, List.length_cons, ih]
theorem leOf_snoc (v : Int) (n : Nat) : leOf v (n + 1) = leOf v n ++ [v / 256 ^ n % 256] := by
  induction n generalizing v with
  | zero => simp [leOf]
  | succ n ih =>
    rw [leOf, ih (v / 256), leOf, List.cons_append, Int.pow_succ, Int.ediv_ediv_of_nonneg (by decide), Int.mul_comm 256]
theorem take_snoc (p : List Int) (k : Nat) (x : Int) (hx : p[k]? = some x) : p.take k ++ [x] = p.take (k + 1) := by
  rw [List.take_add_one, hx]; rfl
theorem Rd.shape {w : World} {v : Value} {l : List Int} (h : Rd w v l) : ∃ A c, v = .slice A l.length c := by
  rcases h with ⟨rfl, rfl⟩ | ⟨c, g, o, rfl, _⟩
  · exact ⟨none, 0, rfl⟩
  · exact ⟨_, c, rfl⟩
theorem ret_bool {a b : Bool} (h : a = b) : Ending.returned (.bool a) = .returned (.bool b) := by rw [h]
theorem ret_int {k : IntKind} {a b : Int} (h : a = b) : Ending.returned (.int k a) = .returned (.int k b) := by rw [h]
theorem row_cell {W : World} {g : Nat} {cs : Array Value} {t : TypeId} (h : W.heap[g]? = some (.cells cs t (0, 0))) (j : Nat) (v : Value) (hv : cs[j]? = some v) : W.cell? ⟨g, j, none⟩ = some v := (cell_of_row W g j cs t (0, 0) h).trans hv
theorem leVal_leOf : ∀ (n : Nat) (v : Int), leVal (leOf v n) = v % 256 ^ n
  | 0, v => by simp [leOf, leVal, Int.emod_one]
  | n + 1, v => by
    rw [leOf, leVal, leVal_leOf n (v / 256), Int.pow_succ, Int.mul_comm (256 ^ n) 256]
    have h := Int.emod_add_mul_ediv v 256
    have hp : (0 : Int) < 256 ^ n := Int.pow_pos (by decide)
    have h2 := Int.emod_add_mul_ediv (v / 256) (256 ^ n)
    have b1 := Int.emod_nonneg v (show (256 : Int) ≠ 0 by decide)
    have b2 := Int.emod_lt_of_pos v (show (0 : Int) < 256 by decide)
    have b3 := Int.emod_nonneg (v / 256) (Int.ne_of_gt hp)
    have b4 := Int.emod_lt_of_pos (v / 256) hp
    have e : v = (v % 256 + 256 * (v / 256 % 256 ^ n)) + (256 * 256 ^ n) * (v / 256 / 256 ^ n) := by
      rw [Int.mul_assoc, Int.add_assoc, ← Int.mul_add, h2, h]
    have hr : v % (256 * 256 ^ n) = (v % 256 + 256 * (v / 256 % 256 ^ n)) % (256 * 256 ^ n) := by
      conv => lhs; rw [e]
      rw [Int.add_mul_emod_self_left]
    rw [hr]
    exact (Int.emod_eq_of_lt (by omega) (by omega)).symm
theorem leVal_snoc : ∀ (p : List Int) (x : Int), leVal (p ++ [x]) = leVal p + x * 256 ^ p.length
  | [], x => by simp [leVal]
  | b :: r, x => by
    rw [List.cons_append, leVal, leVal_snoc r x, leVal, List.length_cons, Int.pow_succ, Int.mul_add, ← Int.add_assoc]
    congr 1
    rw [Int.mul_left_comm, Int.mul_comm (256 ^ r.length) 256]
theorem load_step (l : List Int) (a j : Nat) (y : Int) (hb : Byts l) (hy : l[a + j]? = some y) (hj : j ≤ 7) (y0 : 0 ≤ y) (y1 : y ≤ 255) : bits .or .u64 (leVal ((l.drop a).take j)) (IntKind.u64.wrap (y * 2 ^ (8 * j))) = leVal ((l.drop a).take (j + 1)) := by
  have hd : (l.drop a)[j]? = some y := by rw [List.getElem?_drop]; exact hy
  have hl : ((l.drop a).take j).length = j := by
    have := (List.getElem?_eq_some_iff.1 hd).1
    rw [List.length_take]; omega
  rw [← take_snoc _ j y hd, leVal_snoc, hl]
  have h1 := leVal_bd ((l.drop a).take j) (fun n hn => hb n (List.mem_of_mem_drop (List.mem_of_mem_take hn)))
  rw [hl] at h1
  have hp : (256 : Int) ^ j = 2 ^ (8 * j) := by rw [Int.pow_mul]; rfl
  rw [hp] at h1 ⊢
  have hq : ∀ j : Nat, j < 8 → (0 : Int) < 2 ^ (8 * j) ∧ (2 : Int) ^ (8 * j) * 256 ≤ 18446744073709551616 := by decide
  obtain ⟨q0, q1⟩ := hq j (by omega)
  have q2 : y * 2 ^ (8 * j) ≤ 255 * 2 ^ (8 * j) := Int.mul_le_mul_of_nonneg_right y1 (Int.le_of_lt q0)
  have q3 : 0 ≤ y * 2 ^ (8 * j) := Int.mul_nonneg y0 (Int.le_of_lt q0)
  have q4 : y * 2 ^ (8 * j) < 2 ^ 64 := by
    show y * 2 ^ (8 * j) < 18446744073709551616
    omega
  have q5 : leVal ((l.drop a).take j) < 2 ^ 64 := by
    show leVal ((l.drop a).take j) < 18446744073709551616
    omega
  rw [wraps_u64 _ q3 q4]
  exact bits_join_low .u64 64 (by decide) wraps_u64 (8 * j) _ _ h1.1 h1.2 q5 q3 (Int.mul_emod_left _ _) q4
theorem made_cells (n : Nat) : (madeCells #[Value.int .u8 0] n).toList = u8s (List.replicate n 0) := by
  apply List.ext_getElem?
  intro i
  unfold madeCells u8s
  by_cases hi : i < n <;> simp [hi, Nat.mod_one]
theorem Bs.made {w : World} {n : Nat} (hn : n ≤ maxLen) : Bs (w.alloc (.cells (madeCells #[.int .u8 0] n) 5)) (.slice (some ⟨w.heap.size, 0, none⟩) n n) (List.replicate n 0) := by
  refine ⟨by simp [u8s], .inr ⟨w.heap.size, n, madeCells #[.int .u8 0] n, by simp, Nat.zero_le _, ?_, by simp, hn, by rw [size_madeCells]; omega, ?_⟩⟩
  · exact heap_alloc_new w _
  · rw [made_cells]; simp [u8s]
section
variable {F G : List Nat} {w w' : World}
theorem Grew.new {v' : Value} {l : List Int} (hg : Grew w w' (.slice none 0 0) v' l) (g : Nat) (h : v'.ownBlock = some g) : w.heap.size ≤ g := (hg.blk g h).elim (fun e => by simp [Value.ownBlock] at e) id
def RdW (w : World) (v : Value) (l : List Int) : Prop := Rd w v l ∨ (l = [] ∧ ∃ A c, v = .slice (some A) 0 c)
theorem RdW.keep {v : Value} {l : List Int} (h : RdW w v l) (hk : Kept [] w w') : RdW w' v l := h.imp (fun h => h.keep hk (by simp)) id
theorem RdW.shape {v : Value} {l : List Int} (h : RdW w v l) : ∃ A c, v = .slice A l.length c := by
  rcases h with h | ⟨rfl, A, c, rfl⟩
  · exact h.shape
  · exact ⟨_, _, rfl⟩
theorem run_append_nilw (w : World) (ty : TypeId) (x : Value) (m : List Int) (hx : RdW w x m) (hl : ([] : List Int).length + m.length ≤ 140737488355328) :
    ∃ v' w', (Builtin.append_ #[22, 22] ty #[.slice none 0 0, x]).run Try.prog w = .ok v' w' ∧ Grew w w' (.slice none 0 0) v' ([] ++ m) := by
  rcases hx with hx | ⟨rfl, A, c, rfl⟩
  · exact run_append_bs w ty (.slice none 0 0) x [] m (Bs.nil w) hx hl
  · obtain ⟨i0, hi, hz0, hz1, hz2⟩ := info_parts info5
    obtain ⟨v', w', hr, h2, h3, h4⟩ := run_append_own (P := Try.prog) w w.heap.size 22 ty 5 i0 (.int .u8 0) 1 1 Try.underlying22 hi hz0 hz1 hz2 rfl (by decide) (.slice none 0 0) 0 [] (World.ownsRow_nil w _ 5 1) A 0 c [] rfl (by simp) (by simp) (by unfold maxLen; omega) (by omega) (Nat.le_refl _)
    have hb := Bs.of_owns (l := []) h2
    exact ⟨v', w', hr, hb.1, (Kept.refl _ w).grown h3 (fun k e _ => by simp [e]), fun g hg => .inr (hb.2 g hg)⟩
theorem wpList_append_nilw {w : World} {ops : Array Oper} {rest : List Oper} {o : Oper} {a : Act} {Q : Exit → Act → World → Prop} (hgd : o.guard = none) (s x : Operand)
    (ho : o.op = .call { callee := .builtin .append, args := #[s, x], argTypes := #[22, 22] }) (y : Value) (m : List Int) (hs : a.eval s = .slice none 0 0) (hy : a.eval x = y) (hx : RdW w y m) (hl : ([] : List Int).length + m.length ≤ 140737488355328)
    (h : ∀ v' w', Grew w w' (.slice none 0 0) v' ([] ++ m) → wpList Try.prog ops Q rest (a.put o.dst v') w') : wpList Try.prog ops Q (o :: rest) a w :=
  wpList_plain hgd fun _ hK => by
    obtain ⟨v', w', hr, hg⟩ := run_append_nilw w o.type y m hx hl
    unfold Oper.wp execOp
    simp only [ho, resolve, invoke, builtin, Sem.run_bind, Sem.run_pure, Result.andThen_ok, List.map_toArray, List.map_cons, List.map_nil, hs, hy, hr]
    exact hK _ _ (h v' w' hg)
theorem run_str (w : World) (v : Value) (l : List Int) (h : Rd w v l) : (convert 22 9 v).run Try.prog w = .ok (.string (strOfNums l)) w := by
  rcases h with ⟨rfl, rfl⟩ | ⟨c, g, o, rfl, hc⟩
  · exact run_convert_bytes_nil w 22 5 Try.underlying22 Try.underlying5 0 0 9 Try.underlying9
  · exact run_convert_bytes_arg w 22 5 Try.underlying22 Try.underlying5 g o l.length c l rfl (fun i hi => hc i _ (by simp [List.getD, hi])) 9 Try.underlying9
theorem run_strw (w : World) (v : Value) (l : List Int) (h : RdW w v l) : (convert 22 9 v).run Try.prog w = .ok (.string (strOfNums l)) w := by
  rcases h with h | ⟨rfl, A, c, rfl⟩
  · exact run_str w v l h
  · rw [run_convert_bytes_string w 22 9 5 _ 0 c Try.underlying22 Try.underlying5 Try.underlying9]
    exact run_bytesToString w A 0 c [] (run_loadCells_list (P := Try.prog) w A [] (by simp))
end
end Go.Proofs.Ytdjppkffmeccoaa.BW
