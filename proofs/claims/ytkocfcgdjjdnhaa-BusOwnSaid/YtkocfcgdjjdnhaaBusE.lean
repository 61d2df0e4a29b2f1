/- bus.own: bytes of their own. No condition but the length. -/
import Derived.Test.YtkocfcgdjjdnhaaBusD
import Derived.Laws.AppendOwnNone
import Derived.RowKit3
namespace Go.Proofs.Ytkocfcgdjjdnhaa.BW
open Go.RowKit
set_option linter.unusedVariables false
set_option linter.unusedSimpArgs false
/-- A slice of bytes that reads so. -/
def Rd (w : World) (v : Value) (l : List Int) : Prop :=
  (v = .slice none 0 0 ∧ l = []) ∨ ∃ c g o, v = .slice (some ⟨g, o, none⟩) l.length c ∧ ∀ i x, l[i]? = some x → w.cell? ⟨g, o + i, none⟩ = some (.int .u8 x)
theorem Bs.shape {w : World} {v : Value} {l : List Int} (h : Bs w v l) : ∃ A c, v = .slice A l.length c := by
  rcases h.at with ⟨rfl, rfl⟩ | ⟨g, cap, cur, rfl, _⟩
  · exact ⟨none, 0, rfl⟩
  · exact ⟨_, cap, rfl⟩
theorem Bs.rd {w : World} {v : Value} {l : List Int} (h : Bs w v l) : Rd w v l := by
  rcases h.at with ⟨rfl, rfl⟩ | ⟨g, cap, cur, rfl, hg, h3, h4, h5, h6⟩
  · exact .inl ⟨rfl, rfl⟩
  · exact .inr ⟨cap, g, 0, rfl, fun i x hx => by rw [Nat.zero_add]; exact h.cell rfl i x hx⟩
theorem Rd.keep {w w' : World} {v : Value} {l : List Int} {F : List Nat} (h : Rd w v l) (hk : Kept F w w') (hF : ∀ g o n c, v = .slice (some ⟨g, o, none⟩) n c → g ∉ F) : Rd w' v l := by
  rcases h with h | ⟨c, g, o, rfl, hc⟩
  · exact .inl h
  · exact .inr ⟨c, g, o, rfl, fun i x hx => by
      have h1 := hc i x hx
      rw [hk.cell (p := ⟨g, o + i, none⟩) (World.block_lt_of_cell? w _ h1) (hF g o _ _ rfl)]; exact h1⟩
theorem addr_add (g o j : Nat) : (⟨g, o, none⟩ : Addr).add j = ⟨g, o + j, none⟩ := by unfold Addr.add; split <;> simp_all
theorem rd_news {w : World} {g o : Nat} {l : List Int} (hc : ∀ i x, l[i]? = some x → w.cell? ⟨g, o + i, none⟩ = some (.int .u8 x)) : ∀ j u, (u8s l)[j]? = some u → w.cell? ((⟨g, o, none⟩ : Addr).add j) = some u := by
  intro j u hu
  rw [u8s_get] at hu
  obtain ⟨x, hx, rfl⟩ := Option.map_eq_some_iff.mp hu
  rw [addr_add]; exact hc j x hx
theorem info5 : (Try.prog.info? 5).map (fun i => (i.zero, i.size, i.bytes)) = some (some (.int .u8 0), 1, 1) := by kernel_rfl
/-- What a call leaves that has made bytes of their own. -/
def OwnPost (w : World) (l : List Int) (e : Ending) (w' : World) : Prop := ∃ v', e = .returned v' ∧ Bs w' v' l ∧ (∀ g, v'.ownBlock = some g → w.heap.size ≤ g) ∧ Kept [] w w'
theorem Bs.of_owns {w : World} {base : Nat} {v : Value} {n : Nat} {l : List Int} (h : w.ownsRow base 5 1 v n (u8s l)) : Bs w v l ∧ ∀ g, v.ownBlock = some g → base ≤ g := by
  have hn : n = l.length := by have := h.1; rw [u8s_length] at this; omega
  subst hn
  exact ⟨⟨h.1, h.2.imp id fun ⟨g, cap, cur, h1, h2, h3⟩ => ⟨g, cap, cur, h1, Nat.zero_le _, h3⟩⟩, fun g hg => (h.lt g hg).1⟩
theorem Kept.of_grown {w w' : World} (h : w.grownBy w' none) : Kept [] w w' := (Kept.refl [] w).grown h (by simp)
theorem u8s_one (l : List Int) : ∀ u ∈ u8s l, u.oneCell' = true := by
  intro u hu
  simp only [u8s, List.mem_map] at hu
  obtain ⟨n, _, rfl⟩ := hu
  rfl
set_option maxHeartbeats 4000000 in
set_option maxRecDepth 100000 in
theorem own_any (w : World) (v : Value) (l : List Int) (hr : Rd w v l) (hl : l.length ≤ 140737488351232) : Calls Try.prog 39 #[v] w (OwnPost w l) := by
  obtain ⟨i0, hi, hz0, hz1, hz2⟩ := info_parts info5
  have hu := Try.underlying22
  rcases hr with ⟨rfl, rfl⟩ | ⟨c, g, o, rfl, hc⟩
  · go_enter Try.func39, Try.ntmps39
    go_wp2
    go_ret
    exact ⟨_, rfl, Bs.nil _, by simp [Value.ownBlock], Kept.refl _ _⟩
  · have hnews := rd_news hc
    have HN := Lib.hid hnews; clear hnews hc
    go_enter Try.func39, Try.ntmps39
    go_wp2_with (at_builtin; refine wpList_append_own _ rfl _ _ 22 rfl w.heap.size 5 i0 (.int .u8 0) 1 1 hu hi hz0 hz1 hz2 rfl (by decide) _ _ _ rfl (World.ownsRow_nil w w.heap.size 5 1) ⟨g, o, none⟩ l.length c (u8s l) rfl (by rw [u8s_length, Nat.mul_one]) HN.out (u8s_one l) (by unfold maxLen; omega) (by omega) (Nat.le_refl _) ?_; intro v' w' ho hg _; have hp : OwnPost w l (.returned v') w' := (⟨v', rfl, (Bs.of_owns ho).1, (Bs.of_owns ho).2, Kept.of_grown hg⟩); have HP := Lib.hid hp; clear hp ho hg)
    go_ret
    exact HP.out
/-- What append leaves of a slice with a block of its own. -/
structure Grew (w w' : World) (v v' : Value) (l : List Int) : Prop where
  bs : Bs w' v' l
  kept : Kept v.ownBlock.toList w w'
  blk : ∀ g, v'.ownBlock = some g → v.ownBlock = some g ∨ w.heap.size ≤ g
theorem run_append_bs (w : World) (ty : TypeId) (v x : Value) (l m : List Int) (hv : Bs w v l) (hx : Rd w x m) (hl : l.length + m.length ≤ 140737488355328) :
    ∃ v' w', (Builtin.append_ #[22, 22] ty #[v, x]).run Try.prog w = .ok v' w' ∧ Grew w w' v v' (l ++ m) := by
  obtain ⟨i0, hi, hz0, hz1, hz2⟩ := info_parts info5
  have hu := Try.underlying22
  rcases hx with ⟨rfl, rfl⟩ | ⟨c, g, o, rfl, hc⟩
  · exact ⟨v, w, run_append_owned_none (P := Try.prog) (w := w) 0 22 ty 5 i0 1 hu hi v l.length (u8s l) hv, by rw [List.append_nil]; exact hv, Kept.refl _ _, fun g hg => .inl hg⟩
  · have hn := rd_news hc
    have hml : (u8s m).length = m.length * 1 := by rw [u8s_length, Nat.mul_one]
    obtain ⟨v', w', hr, h2, h3, h4⟩ := run_append_own (P := Try.prog) w 0 22 ty 5 i0 (.int .u8 0) 1 1 hu hi hz0 hz1 hz2 rfl (by decide) v l.length (u8s l) hv ⟨g, o, none⟩ m.length c (u8s m) hml hn (u8s_one m) (by unfold maxLen; omega) (by omega) (Nat.zero_le _)
    rw [show u8s l ++ u8s m = u8s (l ++ m) by simp [u8s]] at h2
    refine ⟨v', w', hr, (Bs.of_owns h2).1, (Kept.refl _ w).grown h3 (fun k e _ => by simp [e]), fun g' hg' => ?_⟩
    rcases hv.at with ⟨rfl, rfl⟩ | ⟨gv, cap, cur, rfl, hg, h5, h6, h7, h8⟩
    · obtain ⟨v2, w2, hr2, h2', _, _⟩ := run_append_own (P := Try.prog) w w.heap.size 22 ty 5 i0 (.int .u8 0) 1 1 hu hi hz0 hz1 hz2 rfl (by decide) (.slice none 0 0) 0 [] (World.ownsRow_nil w _ 5 1) ⟨g, o, none⟩ m.length c (u8s m) hml hn (u8s_one m) (by unfold maxLen; omega) (by omega) (Nat.le_refl _)
      rw [hr2] at hr
      simp only [Result.ok.injEq] at hr
      obtain ⟨rfl, rfl⟩ := hr
      exact .inr (h2'.lt g' hg').1
    · by_cases hroom : l.length + m.length ≤ cap
      · have hr2 := run_append_room (P := Try.prog) w 22 ty 5 i0 hu hi gv l.length cap cur hg ⟨g, o, none⟩ m.length c (u8s m) (by rw [hz1]; exact hml) hn (u8s_one m) hroom (by rw [hz1, u8s_length]; omega)
        rw [hr2] at hr
        simp only [Result.ok.injEq] at hr
        obtain ⟨rfl, rfl⟩ := hr
        exact .inl hg'
      · have holds : ∀ j u, (u8s l)[j]? = some u → w.cell? ((⟨gv, 0, none⟩ : Addr).add j) = some u := World.ownsRow.cells hv (g := gv) rfl
        have hr2 := run_append_grow (P := Try.prog) w 22 ty 5 i0 (.int .u8 0) hu hi hz0 ⟨gv, 0, none⟩ l.length cap (u8s l) (by rw [hz1, u8s_length, Nat.mul_one]) holds ⟨g, o, none⟩ m.length c (u8s m) (by rw [hz1]; exact hml) hn (by omega) (by omega) (growslice_fits (by omega) (by rw [hz2]; omega))
        rw [hr2] at hr
        simp only [Result.ok.injEq] at hr
        obtain ⟨rfl, rfl⟩ := hr
        simp only [Value.ownBlock, Option.some.injEq] at hg'
        exact .inr (by omega)
theorem wpList_append_bs {w : World} {ops : Array Oper} {rest : List Oper} {o : Oper} {a : Act} {Q : Exit → Act → World → Prop} (hgd : o.guard = none) (s x : Operand)
    (ho : o.op = .call { callee := .builtin .append, args := #[s, x], argTypes := #[22, 22] }) (v y : Value) (l m : List Int) (hs : a.eval s = v) (hy : a.eval x = y) (hv : Bs w v l) (hx : Rd w y m) (hl : l.length + m.length ≤ 140737488355328)
    (h : ∀ v' w', Grew w w' v v' (l ++ m) → wpList Try.prog ops Q rest (a.put o.dst v') w') : wpList Try.prog ops Q (o :: rest) a w :=
  wpList_plain hgd fun _ hK => by
    obtain ⟨v', w', hr, hg⟩ := run_append_bs w o.type v y l m hv hx hl
    unfold Oper.wp execOp
    simp only [ho, resolve, invoke, builtin, Sem.run_bind, Sem.run_pure, Result.andThen_ok, List.map_toArray, List.map_cons, List.map_nil, hs, hy, hr]
    exact hK _ _ (h v' w' hg)
theorem step_append_bs {ops : Array Oper} {o : Oper} {a : Act} {w : World} {K : Act → World → Prop} {Q : Exit → Act → World → Prop} {E : Prop} (hgd : o.guard = none) (s x : Operand)
    (ho : o.op = .call { callee := .builtin .append, args := #[s, x], argTypes := #[22, 22] }) (v y : Value) (l m : List Int) (hs : a.eval s = v) (hy : a.eval x = y) (hv : Bs w v l) (hx : Rd w y m) (hl : l.length + m.length ≤ 140737488355328)
    (h : ∀ v' w', Grew w w' v v' (l ++ m) → K (a.put o.dst v') w') : if Region.wanted o (yielded ops a.tmps) = true then Oper.wp Try.prog o a w K Q else E := by
  have hw : Region.wanted o (yielded ops a.tmps) = true := by simp [Region.wanted, hgd]
  rw [if_pos hw]
  obtain ⟨v', w', hr, hg⟩ := run_append_bs w o.type v y l m hv hx hl
  unfold Oper.wp execOp
  simp only [ho, resolve, invoke, builtin, Sem.run_bind, Sem.run_pure, Result.andThen_ok, List.map_toArray, List.map_cons, List.map_nil, hs, hy, hr]
  exact h v' w' hg
end Go.Proofs.Ytkocfcgdjjdnhaa.BW
