/- A row of slices of bytes, each with blocks of its own: read, written, grown. No condition. -/
import Derived.Test.YtdjppkffmeccoaaAmem
import Derived.ArgAppend
namespace Go.Proofs.Ytdjppkffmeccoaa.BW
open Go.RowKit
set_option linter.unusedVariables false
set_option linter.unusedSimpArgs false
def SameG (X : List Nat) (w w' : World) : Prop := ∀ x ∈ X, w'.heap[x]? = w.heap[x]?
theorem SameG.trans {X : List Nat} {a w w' : World} (h : SameG X a w) (k : SameG X w w') : SameG X a w' := fun x hx => (k x hx).trans (h x hx)
theorem SameG.sub {X Y : List Nat} {w w' : World} (h : SameG Y w w') (hs : ∀ x ∈ X, x ∈ Y) : SameG X w w' := fun x hx => h x (hs x hx)
theorem SameG.of_kept {X G : List Nat} {w w' : World} (hx : ∀ x ∈ X, x < w.heap.size) (hk : Kept G w w') (hG : ∀ x ∈ G, x ∉ X) : SameG X w w' := fun x h => hk.block x (hx x h) (fun hg => hG x hg h)
theorem Bs.keepG {w w' : World} {v : Value} {l : List Int} (h : Bs w v l) (hx : ∀ g, v.ownBlock = some g → w'.heap[g]? = w.heap[g]?) : Bs w' v l := by
  refine ⟨h.1, h.2.imp id ?_⟩
  rintro ⟨g, cap, cur, rfl, hb, hg, r⟩
  exact ⟨g, cap, cur, rfl, hb, (hx g rfl).trans hg, r⟩
theorem row_keepG {w w' : World} {e n : Nat} {v : Value} {xs : List Value} (h : w.ownsRow 0 e 1 v n xs) (hx : ∀ g, v.ownBlock = some g → w'.heap[g]? = w.heap[g]?) : w'.ownsRow 0 e 1 v n xs := by
  refine ⟨h.1, h.2.imp id ?_⟩
  rintro ⟨g, cap, cur, rfl, hb, hg, r⟩
  exact ⟨g, cap, cur, rfl, hb, (hx g rfl).trans hg, r⟩
theorem setCells_uno (w : World) (b o : Nat) (u : Value) : w.setCells b o [u] = w.setCell ⟨b, o, none⟩ u := rfl
/-- One cell more at the end of a row of one's own: in its spare room, or in a new block. -/
theorem append_one {P : Program} (w : World) (t ty e : TypeId) (i : TypeInfo) (z : Value) (bytes : Nat) (ht : P.underlying t = some (.slice e)) (hi : P.info? e = some i) (hz : i.zero = some z) (hs : i.size = 1) (hby : i.bytes = bytes) (hzs : z.cells.size = 1)
    (v : Value) (n : Nat) (xs : List Value) (hown : w.ownsRow 0 e 1 v n xs) (g0 c : Nat) (u : Value) (hu : w.cell? ⟨g0, 0, none⟩ = some u) (h1 : u.oneCell' = true) (h63 : n + 1 ≤ maxLen) (hbytes : (n + 1) * bytes ≤ 140737488355328) :
    ∃ v' w', (Builtin.append_ #[t, t] ty #[v, .slice (some ⟨g0, 0, none⟩) 1 c]).run P w = .ok v' w' ∧ w'.ownsRow 0 e 1 v' (n + 1) (xs ++ [u]) ∧
      ((∃ b cap, v = .slice (some ⟨b, 0, none⟩) n cap ∧ v' = .slice (some ⟨b, 0, none⟩) (n + 1) cap ∧ w' = w.setCell ⟨b, n, none⟩ u) ∨ (Kept [] w w' ∧ ∃ b cap, v' = .slice (some ⟨b, 0, none⟩) (n + 1) cap ∧ w.heap.size ≤ b ∧ b < w'.heap.size)) := by
  have hnews : ∀ j x, [u][j]? = some x → w.cell? ((⟨g0, 0, none⟩ : Addr).add j) = some x := fun j x hj => by
    cases j with
    | zero => simp at hj; subst hj; exact hu
    | succ j => simp at hj
  have fin : ∀ v' w', w'.ownsRow w.heap.size e 1 v' (n + 1) (xs ++ [u]) → Kept [] w w' → w'.ownsRow 0 e 1 v' (n + 1) (xs ++ [u]) ∧ (Kept [] w w' ∧ ∃ b cap, v' = .slice (some ⟨b, 0, none⟩) (n + 1) cap ∧ w.heap.size ≤ b ∧ b < w'.heap.size) := by
    intro v' w' h hk
    rcases h.2 with ⟨_, h0⟩ | ⟨b, cap, cur, rfl, hb, hg, r⟩
    · omega
    · exact ⟨⟨h.1, .inr ⟨b, cap, cur, rfl, Nat.zero_le _, hg, r⟩⟩, hk, b, cap, rfl, hb, (Array.getElem?_eq_some_iff.1 hg).1⟩
  rcases hown.2 with ⟨rfl, rfl⟩ | ⟨g, cap, cur, rfl, _, hg, h3, h4, h5, h6⟩
  · have hx : xs = [] := List.eq_nil_of_length_eq_zero (by have := hown.1; omega)
    subst hx
    obtain ⟨v', w', hr, h2, h3, _⟩ := run_append_own (P := P) w w.heap.size t ty e i z 1 bytes ht hi hz hs hby hzs (by decide) (.slice none 0 0) 0 [] (World.ownsRow_nil w _ e 1) ⟨g0, 0, none⟩ 1 c [u] rfl hnews (by simpa using h1) h63 hbytes (Nat.le_refl _)
    have hk : Kept [] w w' := (Kept.refl _ w).grown h3 (fun k e _ => by simp [Value.ownBlock] at e)
    have h := fin v' w' h2 hk
    exact ⟨v', w', hr, h.1, .inr h.2⟩
  · have hx1 : xs.length = n := by have := hown.1; omega
    rw [Nat.mul_one] at h5 h6
    by_cases hroom : n + 1 ≤ cap
    · have hr := run_append_room_cells (P := P) w t ty e i ht hi g 0 n cap ⟨g0, 0, none⟩ 1 c [u] (by rw [hs]; rfl) hnews (by simpa using h1) hroom
          (fun j hj => by
            have : j = 0 := by simpa using hj
            subst this
            rw [hs, Nat.mul_one, Nat.add_zero, Nat.zero_add, cell_of_row w g n cur e (0, 0) hg, Array.getElem?_eq_getElem (by omega)]; rfl)
          (fun j hj => frozen_of_row w g _ cur e hg)
      rw [hs, Nat.mul_one, Nat.zero_add, setCells_uno] at hr
      refine ⟨_, _, hr, ⟨by simp [hx1], .inr ⟨g, cap, cur.setIfInBounds n u, rfl, Nat.zero_le _, heap_setCell_same w g n cur e u hg, hroom, h4, by simpa using h5, ?_⟩⟩, .inl ⟨g, cap, rfl, rfl, rfl⟩⟩
      rw [Nat.mul_one, Array.toList_setIfInBounds]
      apply List.ext_getElem?
      intro j
      by_cases hj : j < n
      · rw [List.getElem?_take_of_lt (by omega), List.getElem?_set_ne (by omega), List.getElem?_append_left (by omega), ← h6, List.getElem?_take_of_lt hj]
      · by_cases hj2 : j = n
        · subst hj2
          rw [List.getElem?_take_of_lt (by omega), List.getElem?_append_right (by omega), hx1, Nat.sub_self, List.getElem?_set_self (by simp; omega)]; rfl
        · rw [List.getElem?_take_eq_none (by omega), List.getElem?_append_right (by omega), hx1]
          have : ([u] : List Value).length ≤ j - n := by simp; omega
          rw [List.getElem?_eq_none this]
    · obtain ⟨v', w', hr, r1, r2⟩ := run_append_arg_grows (P := P) w t ty e i z 1 bytes ht hi hz hs hby hzs (by decide) ⟨g, 0, none⟩ n cap xs (by omega)
        (fun j x hj => by
          have hjn : j < n := by have := (List.getElem?_eq_some_iff.mp hj).1; omega
          rw [Addr.add_lit, Nat.zero_add, cell_of_row w g j cur e (0, 0) hg]
          rw [← h6, List.getElem?_take_of_lt hjn] at hj
          simpa using hj)
        ⟨g0, 0, none⟩ 1 c [u] rfl hnews (by omega) h63 hbytes
      have hk : Kept [] w w' := (Kept.refl _ w).grown r2 (fun k e _ => by simp at e)
      have h := fin v' w' r1 hk
      exact ⟨v', w', hr, h.1, .inr h.2⟩
/-- A cell behind the end of a slice written: it reads as it did. -/
theorem Bs.setFar {w : World} {v : Value} {l : List Int} (h : Bs w v l) (b j : Nat) (u : Value) (hj : v.ownBlock = some b → l.length ≤ j) : Bs (w.setCell ⟨b, j, none⟩ u) v l := by
  rcases h.at with ⟨rfl, rfl⟩ | ⟨g, cap, cur, rfl, hg, h3, h4, h5, h6⟩
  · exact Bs.nil _
  · by_cases hb : g = b
    · subst hb
      have hlj := hj rfl
      refine ⟨by simp [u8s], .inr ⟨g, cap, cur.setIfInBounds j u, rfl, Nat.zero_le _, heap_setCell_same w g j cur 5 u hg, h3, h4, by simpa using h5, ?_⟩⟩
      rw [Array.toList_setIfInBounds, Nat.mul_one]
      rw [List.take_set_of_le hlj]
      exact h6
    · have hk : Kept [b] w (w.setCell ⟨b, j, none⟩ u) := (Kept.refl [b] w).setCell (fun _ => by simp) _
      exact h.keep hk (fun g' hg' => by simp [Value.ownBlock] at hg'; subst hg'; simpa using hb)
theorem infoTS : (Try.prog.info? 22).map (fun i => (i.zero, i.size, i.bytes)) = some (some (.slice none 0 0), 1, 24) := by kernel_rfl
/-- n slices of bytes in a row vL, each in blocks F j of its own; the blocks of X are no one's. -/
structure Gr (w1 : World) (X : List Nat) (vL : Value) (n : Nat) (F : Nat → List Nat) (v : Nat → Value) (l : Nat → List Int) (w : World) : Prop where
  kept : Kept [] w1 w
  xl : ∀ x ∈ X, x < w.heap.size
  ge : ∀ j, j < n → ∀ x ∈ F j, w1.heap.size ≤ x ∧ x < w.heap.size ∧ x ∉ X
  dj : ∀ i j, i < n → j < n → i ≠ j → ∀ x ∈ F i, x ∉ F j
  vo : ∀ j, j < n → ∀ b, (v j).ownBlock = some b → b ∈ F j
  vb : ∀ j, j < n → Bs w (v j) (l j)
  row : w.ownsRow 0 22 1 vL n ((List.range n).map v)
  rx : ∀ b, vL.ownBlock = some b → w1.heap.size ≤ b ∧ b < w.heap.size ∧ b ∉ X ∧ ∀ j, j < n → b ∉ F j
section
variable {w1 w w' : World} {X Y : List Nat} {vL vG : Value} {n i : Nat} {F : Nat → List Nat} {v g : Nat → Value} {l m : Nat → List Int}
theorem Gr.keep (h : Gr w1 X vL n F v l w) (hk : Kept [] w w') : Gr w1 X vL n F v l w' :=
  ⟨h.kept.trans hk (by simp), fun x hx => Nat.lt_of_lt_of_le (h.xl x hx) hk.size, fun j hj x hx => ⟨(h.ge j hj x hx).1, Nat.lt_of_lt_of_le (h.ge j hj x hx).2.1 hk.size, (h.ge j hj x hx).2.2⟩, h.dj, h.vo,
    fun j hj => (h.vb j hj).keep hk (by simp), row_keepG h.row (fun b hb => hk.block b (h.rx b hb).2.1 (by simp)), fun b hb => ⟨(h.rx b hb).1, Nat.lt_of_lt_of_le (h.rx b hb).2.1 hk.size, (h.rx b hb).2.2⟩⟩
theorem Gr.sub (h : Gr w1 Y vL n F v l w) (hs : ∀ x ∈ X, x ∈ Y) : Gr w1 X vL n F v l w :=
  ⟨h.kept, fun x hx => h.xl x (hs x hx), fun j hj x hx => ⟨(h.ge j hj x hx).1, (h.ge j hj x hx).2.1, fun hm => (h.ge j hj x hx).2.2 (hs x hm)⟩, h.dj, h.vo, h.vb, h.row, fun b hb => ⟨(h.rx b hb).1, (h.rx b hb).2.1, fun hm => (h.rx b hb).2.2.1 (hs b hm), (h.rx b hb).2.2.2⟩⟩
/-- A call that turned blocks of X alone, and made the blocks of Y. -/
theorem Gr.touch {G : List Nat} (h : Gr w1 X vL n F v l w) (hk : Kept G w w') (hG : ∀ x ∈ G, x ∈ X ∧ w1.heap.size ≤ x) (hY : ∀ x ∈ Y, w.heap.size ≤ x ∧ x < w'.heap.size) : Gr w1 (Y ++ X) vL n F v l w' := by
  have hF : ∀ j, j < n → ∀ x ∈ F j, x ∉ G := fun j hj x hx hg => (h.ge j hj x hx).2.2 (hG x hg).1
  refine ⟨h.kept.trans hk (fun x hx hl => by have := (hG x hx).2; omega), ?_, ?_, h.dj, h.vo, ?_, ?_, ?_⟩
  · intro x hx
    rcases List.mem_append.mp hx with hx | hx
    · exact (hY x hx).2
    · exact Nat.lt_of_lt_of_le (h.xl x hx) hk.size
  · intro j hj x hx
    have h1 := h.ge j hj x hx
    refine ⟨h1.1, Nat.lt_of_lt_of_le h1.2.1 hk.size, fun hm => ?_⟩
    rcases List.mem_append.mp hm with hm | hm
    · have := (hY x hm).1; omega
    · exact h1.2.2 hm
  · exact fun j hj => (h.vb j hj).keep hk (fun b hb => hF j hj b (h.vo j hj b hb))
  · exact row_keepG h.row (fun b hb => hk.block b (h.rx b hb).2.1 (fun hg => (h.rx b hb).2.2.1 (hG b hg).1))
  · intro b hb
    have h1 := h.rx b hb
    refine ⟨h1.1, Nat.lt_of_lt_of_le h1.2.1 hk.size, fun hm => ?_, h1.2.2.2⟩
    rcases List.mem_append.mp hm with hm | hm
    · have := (hY b hm).1; omega
    · exact h1.2.2.1 hm
theorem Gr.nil {w : World} (hk : Kept [] w1 w) (hx : ∀ x ∈ X, x < w.heap.size) : Gr w1 X (.slice none 0 0) 0 (fun _ => []) (fun _ => .slice none 0 0) (fun _ => []) w :=
  ⟨hk, hx, by simp, by simp, by simp, by simp, World.ownsRow_nil w 0 22 1, by simp [Value.ownBlock]⟩
/-- A byte of a list written. -/
theorem Gr.set (h : Gr w1 X vL n F v l w) (hi : i < n) (b : Nat) (hb : (v i).ownBlock = some b) (k : Nat) (x : Int) (hk : k < (l i).length) :
    Gr w1 X vL n F v (fun j => if j = i then (l i).set k x else l j) (w.setCell ⟨b, k, none⟩ (.int .u8 x)) ∧ SameG X w (w.setCell ⟨b, k, none⟩ (.int .u8 x)) := by
  have hbF := h.vo i hi b hb
  have hg := h.ge i hi b hbF
  have hK : Kept [b] w (w.setCell ⟨b, k, none⟩ (.int .u8 x)) := (Kept.refl [b] w).setCell (fun _ => by simp) _
  refine ⟨⟨h.kept.trans hK (fun y hy hl => by simp at hy; omega), fun y hy => Nat.lt_of_lt_of_le (h.xl y hy) hK.size, fun j hj y hy => ⟨(h.ge j hj y hy).1, Nat.lt_of_lt_of_le (h.ge j hj y hy).2.1 hK.size, (h.ge j hj y hy).2.2⟩, h.dj, h.vo, ?_, ?_, ?_⟩, SameG.of_kept h.xl hK (fun y hy => by simp at hy; subst hy; exact hg.2.2)⟩
  · intro j hj
    by_cases hji : j = i
    · subst hji
      simp only [if_true]
      rcases (h.vb j hj).at with ⟨e, _⟩ | ⟨g', cap, cur, e, _⟩
      · rw [e] at hb; simp [Value.ownBlock] at hb
      · have hgb : g' = b := by rw [e] at hb; simpa [Value.ownBlock] using hb
        subst hgb
        exact (h.vb j hj).set e k x hk
    · simp only [if_neg hji]
      exact (h.vb j hj).keep hK (fun b' hb' => by simp; rintro rfl; exact h.dj i j hi hj (fun e => hji e.symm) _ hbF (h.vo j hj _ hb'))
  · exact row_keepG h.row (fun b' hb' => hK.block b' (h.rx b' hb').2.1 (by simp; rintro rfl; exact (h.rx _ hb').2.2.2 i hi hbF))
  · exact fun b' hb' => ⟨(h.rx b' hb').1, Nat.lt_of_lt_of_le (h.rx b' hb').2.1 hK.size, (h.rx b' hb').2.2⟩
/-- The i-th list as the row's cell tells it. -/
theorem Gr.cell (h : Gr w1 X vL n F v l w) (hi : i < n) : ∃ bL cap, vL = .slice (some ⟨bL, 0, none⟩) n cap ∧ w.cell? ⟨bL, i, none⟩ = some (v i) := by
  rcases h.row.2 with ⟨_, h0⟩ | ⟨g, cap, cur, e, _, hg, h3, h4, h5, h6⟩
  · omega
  · refine ⟨g, cap, e, ?_⟩
    rw [Nat.mul_one] at h6
    rw [cell_of_row w g i cur 22 (0, 0) hg]
    have : (cur.toList.take n)[i]? = ((List.range n).map v)[i]? := by rw [h6]
    rw [List.getElem?_take_of_lt hi] at this
    simpa [hi] using this
/-- One list more. -/
theorem Gr.add (ty : TypeId) (u : Value) (c : List Int) (h : Gr w1 (u.ownBlock.toList ++ X) vL n F v l w) (hb : Bs w u c) (hu : ∀ b, u.ownBlock = some b → w1.heap.size ≤ b ∧ b ∉ X) (hn : n ≤ 1000) (g0 c0 : Nat) (hc : w.cell? ⟨g0, 0, none⟩ = some u) :
    ∃ A c1 w', (Builtin.append_ #[29, 29] ty #[vL, .slice (some ⟨g0, 0, none⟩) 1 c0]).run Try.prog w = .ok (.slice A (n + 1) c1) w' ∧
      Gr w1 X (.slice A (n + 1) c1) (n + 1) (fun j => if j = n then u.ownBlock.toList else F j) (fun j => if j = n then u else v j) (fun j => if j = n then c else l j) w' ∧ SameG X w w' := by
  obtain ⟨i0, hi0, hz0, hz1, hz2⟩ := info_parts infoTS
  have h1c : u.oneCell' = true := by obtain ⟨A, c, rfl⟩ := hb.shape; rfl
  obtain ⟨v', w', hr, ho, hcase⟩ := append_one (P := Try.prog) w 29 ty 22 i0 (.slice none 0 0) 24 Try.underlying29 hi0 hz0 hz1 hz2 rfl vL n _ h.row g0 c0 u hc h1c (by unfold maxLen; omega) (by omega)
  have e : (List.range n).map v ++ [u] = (List.range (n + 1)).map (fun j => if j = n then u else v j) := by
    have e1 : (List.range n).map v = (List.range n).map (fun j => if j = n then u else v j) := by
      apply List.map_congr_left
      intro j hj
      have := List.mem_range.mp hj
      rw [if_neg (by omega)]
    rw [List.range_succ, List.map_append, e1]
    simp
  rw [e] at ho
  have hX := h.sub (X := X) (fun x hx => by simp [hx])
  -- blocks that turned: none of X, of F, of u
  have key : ∃ A c1, v' = .slice A (n + 1) c1 ∧ ∃ G : List Nat, Kept G w w' ∧ (∀ x ∈ G, vL.ownBlock = some x) ∧ (∀ b, v'.ownBlock = some b → (vL.ownBlock = some b ∧ b < w'.heap.size) ∨ (w.heap.size ≤ b ∧ b < w'.heap.size)) := by
    rcases hcase with ⟨b, cap, rfl, rfl, rfl⟩ | ⟨hk, b, cap, rfl, hb1, hb2⟩
    · refine ⟨some ⟨b, 0, none⟩, cap, rfl, [b], ?_, ?_, ?_⟩
      · exact (Kept.refl [b] w).setCell (fun _ => by simp) _
      · intro x hx
        simp only [List.mem_singleton] at hx
        subst hx; rfl
      · intro b' hb'
        refine .inl ⟨hb', ?_⟩
        have := (h.rx b' hb').2.1
        simpa [World.setCell] using this
    · refine ⟨some ⟨b, 0, none⟩, cap, rfl, [], hk, ?_, ?_⟩
      · intro x hx; simp at hx
      · intro b' hb'
        have e : b = b' := by simpa [Value.ownBlock] using hb'
        subst e
        exact .inr ⟨hb1, hb2⟩
  obtain ⟨A, c1, rfl, G, hk, hG, hn'⟩ := key
  have hGX : ∀ x ∈ G, x ∉ u.ownBlock.toList ++ X := fun x hx => (h.rx x (hG x hx)).2.2.1
  have hGF : ∀ x ∈ G, ∀ j, j < n → x ∉ F j := fun x hx => (h.rx x (hG x hx)).2.2.2
  refine ⟨A, c1, w', hr, ⟨h.kept.trans hk (fun x hx hl => by have := (h.rx x (hG x hx)).1; omega), fun x hx => Nat.lt_of_lt_of_le (hX.xl x hx) hk.size, ?_, ?_, ?_, ?_, ho, ?_⟩, SameG.of_kept hX.xl hk (fun x hx hm => hGX x hx (by simp [hm]))⟩
  · intro j hj x hx
    by_cases hjn : j = n
    · simp only [hjn, if_true, Option.mem_toList] at hx
      exact ⟨(hu x hx).1, Nat.lt_of_lt_of_le (h.xl x (by simp [hx])) hk.size, (hu x hx).2⟩
    · simp only [if_neg hjn] at hx
      have h1 := hX.ge j (by omega) x hx
      exact ⟨h1.1, Nat.lt_of_lt_of_le h1.2.1 hk.size, h1.2.2⟩
  · intro a b ha hb' hab x hx
    by_cases han : a = n
    · have hbn : ¬ b = n := by omega
      simp only [han, if_true, Option.mem_toList] at hx
      simp only [if_neg hbn]
      exact fun hm => (h.ge b (by omega) x hm).2.2 (by simp [hx])
    · simp only [if_neg han] at hx
      by_cases hbn : b = n
      · simp only [hbn, if_true, Option.mem_toList]
        exact fun hm => (h.ge a (by omega) x hx).2.2 (by simp [hm])
      · simp only [if_neg hbn]
        exact h.dj a b (by omega) (by omega) hab x hx
  · intro j hj b hb'
    by_cases hjn : j = n
    · simp only [hjn, if_true] at hb' ⊢
      simp [hb']
    · simp only [if_neg hjn] at hb' ⊢
      exact h.vo j (by omega) b hb'
  · intro j hj
    by_cases hjn : j = n
    · simp only [hjn, if_true]
      exact hb.keep hk (fun b hb' hm => hGX b hm (by simp [hb']))
    · simp only [if_neg hjn]
      exact (h.vb j (by omega)).keep hk (fun b hb' hm => hGF b hm j (by omega) (h.vo j (by omega) b hb'))
  · intro b hb'
    rcases hn' b hb' with ⟨h1, h2⟩ | ⟨h1, h2⟩
    · have h3 := h.rx b h1
      refine ⟨h3.1, h2, fun hm => h3.2.2.1 (by simp [hm]), fun j hj => ?_⟩
      by_cases hjn : j = n
      · simp only [hjn, if_true]; exact fun hm => h3.2.2.1 (List.mem_append_left _ hm)
      · simp only [if_neg hjn]; exact h3.2.2.2 j (by omega)
    · refine ⟨Nat.le_trans h.kept.size h1, h2, fun hm => by have := h.xl b (by simp [hm]); omega, fun j hj hm => ?_⟩
      by_cases hjn : j = n
      · simp only [hjn, if_true] at hm
        have := h.xl b (List.mem_append_left _ hm); omega
      · simp only [if_neg hjn] at hm
        have := (h.ge j (by omega) b hm).2.1; omega
/-- The first i of them grown, in a row vG. -/
structure Gr2 (w1 : World) (X : List Nat) (vL : Value) (n : Nat) (F : Nat → List Nat) (v : Nat → Value) (l : Nat → List Int) (vG : Value) (i : Nat) (g : Nat → Value) (m : Nat → List Int) (w : World) : Prop extends Gr w1 X vL n F v l w where
  go : ∀ j, j < i → ∀ b, (g j).ownBlock = some b → b ∈ F j
  gb : ∀ j, j < i → Bs w (g j) (m j)
  rowG : w.ownsRow 0 22 1 vG i ((List.range i).map g)
  gx : ∀ b, vG.ownBlock = some b → w1.heap.size ≤ b ∧ b < w.heap.size ∧ b ∉ X ∧ (∀ j, j < n → b ∉ F j) ∧ vL.ownBlock ≠ some b
theorem Gr2.nil (h : Gr w1 X vL n F v l w) : Gr2 w1 X vL n F v l (.slice none 0 0) 0 (fun _ => .slice none 0 0) (fun _ => []) w :=
  ⟨h, by simp, by simp, World.ownsRow_nil w 0 22 1, by simp [Value.ownBlock]⟩
theorem Gr2.keep (h : Gr2 w1 X vL n F v l vG i g m w) (hin : i ≤ n) (hk : Kept [] w w') : Gr2 w1 X vL n F v l vG i g m w' :=
  ⟨h.toGr.keep hk, h.go, fun j hj => (h.gb j hj).keep hk (by simp), row_keepG h.rowG (fun b hb => hk.block b (h.gx b hb).2.1 (by simp)), fun b hb => ⟨(h.gx b hb).1, Nat.lt_of_lt_of_le (h.gx b hb).2.1 hk.size, (h.gx b hb).2.2⟩⟩
theorem Gr2.cellG (h : Gr2 w1 X vL n F v l vG i g m w) {k : Nat} (hk : k < i) : ∃ bG cap, vG = .slice (some ⟨bG, 0, none⟩) i cap ∧ w.cell? ⟨bG, k, none⟩ = some (g k) := by
  rcases h.rowG.2 with ⟨_, h0⟩ | ⟨b, cap, cur, e, _, hg, h3, h4, h5, h6⟩
  · omega
  · refine ⟨b, cap, e, ?_⟩
    rw [Nat.mul_one] at h6
    rw [cell_of_row w b k cur 22 (0, 0) hg]
    have : (cur.toList.take i)[k]? = ((List.range i).map g)[k]? := by rw [h6]
    rw [List.getElem?_take_of_lt hk] at this
    simpa [hk] using this
/-- A byte more at the end of what the i-th list grew to. -/
theorem Gr2.grow (ty : TypeId) (h : Gr2 w1 X vL n F v l vG i g m w) (hi : i < n) (gc : Value) (L : List Int) (hb : Bs w gc L) (ho : ∀ b, gc.ownBlock = some b → b ∈ F i) (hl : (l i).length ≤ L.length) (hL : L.length ≤ 1000000) (g0 c0 : Nat) (y : Int) (hc : w.cell? ⟨g0, 0, none⟩ = some (.int .u8 y)) :
    ∃ A c1 w' F', (Builtin.append_ #[22, 22] ty #[gc, .slice (some ⟨g0, 0, none⟩) 1 c0]).run Try.prog w = .ok (.slice A (L.length + 1) c1) w' ∧ Gr2 w1 X vL n F' v l vG i g m w' ∧ Bs w' (.slice A (L.length + 1) c1) (L ++ [y]) ∧ (∀ b, (Value.slice A (L.length + 1) c1).ownBlock = some b → b ∈ F' i) ∧ SameG X w w' := by
  obtain ⟨i0, hi0, hz0, hz1, hz2⟩ := info_parts info5
  obtain ⟨v', w', hr, hown, hcase⟩ := append_one (P := Try.prog) w 22 ty 5 i0 (.int .u8 0) 1 Try.underlying22 hi0 hz0 hz1 hz2 rfl gc L.length _ hb g0 c0 (.int .u8 y) hc rfl (by unfold maxLen; omega) (by omega)
  have e : u8s L ++ [.int .u8 y] = u8s (L ++ [y]) := by simp [u8s]
  rw [e] at hown
  have hbs : Bs w' v' (L ++ [y]) := by have := Bs.of_owns hown; exact this.1
  rcases hcase with ⟨b, cap, rfl, rfl, rfl⟩ | ⟨hk, b, cap, rfl, hb1, hb2⟩
  · -- in its own room
    have hbF := ho b rfl
    have hg := h.ge i hi b hbF
    have hK : Kept [b] w (w.setCell ⟨b, L.length, none⟩ (.int .u8 y)) := (Kept.refl [b] w).setCell (fun _ => by simp) _
    have hother : ∀ j, j < n → j ≠ i → ∀ b', b' ∈ F j → b' ∉ [b] := fun j hj hji b' hb' hm => by
      simp at hm; subst hm; exact h.dj i j hi hj (fun e => hji e.symm) _ hbF hb'
    refine ⟨_, _, _, F, hr, ⟨⟨h.kept.trans hK (fun y hy hl => by simp at hy; omega), fun y hy => Nat.lt_of_lt_of_le (h.xl y hy) hK.size, fun j hj y hy => ⟨(h.ge j hj y hy).1, Nat.lt_of_lt_of_le (h.ge j hj y hy).2.1 hK.size, (h.ge j hj y hy).2.2⟩, h.dj, h.vo, ?_, ?_, ?_⟩, h.go, ?_, ?_, ?_⟩, hbs, fun b' hb' => by simp [Value.ownBlock] at hb'; subst hb'; exact hbF, SameG.of_kept h.xl hK (fun y hy => by simp at hy; subst hy; exact hg.2.2)⟩
    · intro j hj
      by_cases hji : j = i
      · subst hji
        exact (h.vb j hj).setFar b _ _ (fun _ => hl)
      · exact (h.vb j hj).keep hK (fun b' hb' => hother j hj hji b' (h.vo j hj b' hb'))
    · exact row_keepG h.row (fun b' hb' => hK.block b' (h.rx b' hb').2.1 (by simp; rintro rfl; exact (h.rx _ hb').2.2.2 i hi hbF))
    · exact fun b' hb' => ⟨(h.rx b' hb').1, Nat.lt_of_lt_of_le (h.rx b' hb').2.1 hK.size, (h.rx b' hb').2.2⟩
    · exact fun j hj => (h.gb j hj).keep hK (fun b' hb' => hother j (by omega) (by omega) b' (h.go j hj b' hb'))
    · exact row_keepG h.rowG (fun b' hb' => hK.block b' (h.gx b' hb').2.1 (by simp; rintro rfl; exact (h.gx _ hb').2.2.2.1 i hi hbF))
    · exact fun b' hb' => ⟨(h.gx b' hb').1, Nat.lt_of_lt_of_le (h.gx b' hb').2.1 hK.size, (h.gx b' hb').2.2⟩
  · -- in a new block
    have h2 := h.keep (Nat.le_of_lt hi) hk
    refine ⟨_, _, _, (fun j => if j = i then b :: F j else F j), hr, ⟨⟨h2.kept, h2.xl, ?_, ?_, ?_, h2.vb, h2.row, ?_⟩, ?_, h2.gb, h2.rowG, ?_⟩, hbs, fun b' hb' => by simp [Value.ownBlock] at hb'; subst hb'; simp, SameG.of_kept h.xl hk (by simp)⟩
    · intro j hj x hx
      by_cases hji : j = i
      · simp only [hji, if_true, List.mem_cons] at hx
        rcases hx with rfl | hx
        · exact ⟨Nat.le_trans h.kept.size hb1, hb2, fun hm => by have := h.xl x hm; omega⟩
        · exact h2.ge i hi x hx
      · simp only [if_neg hji] at hx
        exact h2.ge j hj x hx
    · intro a b' ha hb' hab x hx
      by_cases hai : a = i
      · have hbi : ¬ b' = i := by omega
        simp only [hai, if_true, List.mem_cons] at hx
        simp only [if_neg hbi]
        rcases hx with rfl | hx
        · exact fun hm => by have := (h.ge b' hb' x hm).2.1; omega
        · exact h.dj i b' hi hb' (by omega) x hx
      · simp only [if_neg hai] at hx
        by_cases hbi : b' = i
        · simp only [hbi, if_true, List.mem_cons]
          rintro (rfl | hm)
          · have := (h.ge a ha x hx).2.1; omega
          · exact h.dj a i ha hi hai x hx hm
        · simp only [if_neg hbi]
          exact h.dj a b' ha hb' hab x hx
    · intro j hj b' hb'
      have := h.vo j hj b' hb'
      by_cases hji : j = i
      · simp only [hji, if_true]; rw [hji] at this; simp [this]
      · simp only [if_neg hji]; exact this
    · intro b' hb'
      have h1 := h2.rx b' hb'
      refine ⟨h1.1, h1.2.1, h1.2.2.1, fun j hj => ?_⟩
      by_cases hji : j = i
      · simp only [hji, if_true, List.mem_cons]
        rintro (rfl | hm)
        · have := (h.rx _ hb').2.1; omega
        · exact h1.2.2.2 i hi hm
      · simp only [if_neg hji]; exact h1.2.2.2 j hj
    · intro j hj b' hb'
      have := h.go j hj b' hb'
      simp only [if_neg (show ¬ j = i by omega)]; exact this
    · intro b' hb'
      have h1 := h2.gx b' hb'
      refine ⟨h1.1, h1.2.1, h1.2.2.1, fun j hj => ?_, h1.2.2.2.2⟩
      by_cases hji : j = i
      · simp only [hji, if_true, List.mem_cons]
        rintro (rfl | hm)
        · have := (h.gx _ hb').2.1; omega
        · exact h1.2.2.2.1 i hi hm
      · simp only [if_neg hji]; exact h1.2.2.2.1 j hj
/-- What the i-th list grew to, put into the row. -/
theorem Gr2.add (ty : TypeId) (h : Gr2 w1 X vL n F v l vG i g m w) (hi : i < n) (hn : n ≤ 1000) (gc : Value) (L : List Int) (hb : Bs w gc L) (ho : ∀ b, gc.ownBlock = some b → b ∈ F i) (g0 c0 : Nat) (hc : w.cell? ⟨g0, 0, none⟩ = some gc) :
    ∃ A c1 w', (Builtin.append_ #[29, 29] ty #[vG, .slice (some ⟨g0, 0, none⟩) 1 c0]).run Try.prog w = .ok (.slice A (i + 1) c1) w' ∧
      Gr2 w1 X vL n F v l (.slice A (i + 1) c1) (i + 1) (fun j => if j = i then gc else g j) (fun j => if j = i then L else m j) w' ∧ SameG X w w' := by
  obtain ⟨i0, hi0, hz0, hz1, hz2⟩ := info_parts infoTS
  have h1c : gc.oneCell' = true := by obtain ⟨A, c, rfl⟩ := hb.shape; rfl
  obtain ⟨v', w', hr, hown, hcase⟩ := append_one (P := Try.prog) w 29 ty 22 i0 (.slice none 0 0) 24 Try.underlying29 hi0 hz0 hz1 hz2 rfl vG i _ h.rowG g0 c0 gc hc h1c (by unfold maxLen; omega) (by omega)
  have e : (List.range i).map g ++ [gc] = (List.range (i + 1)).map (fun j => if j = i then gc else g j) := by
    have e1 : (List.range i).map g = (List.range i).map (fun j => if j = i then gc else g j) := by
      apply List.map_congr_left
      intro j hj
      have := List.mem_range.mp hj
      rw [if_neg (by omega)]
    rw [List.range_succ, List.map_append, e1]
    simp
  rw [e] at hown
  have key : ∃ A c1, v' = .slice A (i + 1) c1 ∧ ∃ G : List Nat, Kept G w w' ∧ (∀ x ∈ G, vG.ownBlock = some x) ∧ (∀ b, v'.ownBlock = some b → (vG.ownBlock = some b ∧ b < w'.heap.size) ∨ (w.heap.size ≤ b ∧ b < w'.heap.size)) := by
    rcases hcase with ⟨b, cap, rfl, rfl, rfl⟩ | ⟨hk, b, cap, rfl, hb1, hb2⟩
    · refine ⟨some ⟨b, 0, none⟩, cap, rfl, [b], ?_, ?_, ?_⟩
      · exact (Kept.refl [b] w).setCell (fun _ => by simp) _
      · intro x hx
        simp only [List.mem_singleton] at hx
        subst hx; rfl
      · intro b' hb'
        refine .inl ⟨hb', ?_⟩
        have := (h.gx b' hb').2.1
        simpa [World.setCell] using this
    · refine ⟨some ⟨b, 0, none⟩, cap, rfl, [], hk, ?_, ?_⟩
      · intro x hx; simp at hx
      · intro b' hb'
        have e : b = b' := by simpa [Value.ownBlock] using hb'
        subst e
        exact .inr ⟨hb1, hb2⟩
  obtain ⟨A, c1, rfl, G, hk, hG, hn'⟩ := key
  have hGX : ∀ x ∈ G, x ∉ X := fun x hx => (h.gx x (hG x hx)).2.2.1
  have hGF : ∀ x ∈ G, ∀ j, j < n → x ∉ F j := fun x hx => (h.gx x (hG x hx)).2.2.2.1
  have hGL : ∀ x ∈ G, vL.ownBlock ≠ some x := fun x hx => (h.gx x (hG x hx)).2.2.2.2
  refine ⟨A, c1, w', hr, ⟨⟨h.kept.trans hk (fun x hx hl => by have := (h.gx x (hG x hx)).1; omega), fun x hx => Nat.lt_of_lt_of_le (h.xl x hx) hk.size, fun j hj y hy => ⟨(h.ge j hj y hy).1, Nat.lt_of_lt_of_le (h.ge j hj y hy).2.1 hk.size, (h.ge j hj y hy).2.2⟩, h.dj, h.vo, fun j hj => (h.vb j hj).keep hk (fun b hb' hm => hGF b hm j hj (h.vo j hj b hb')), row_keepG h.row (fun b' hb' => hk.block b' (h.rx b' hb').2.1 (fun hm => hGL b' hm hb')), fun b' hb' => ⟨(h.rx b' hb').1, Nat.lt_of_lt_of_le (h.rx b' hb').2.1 hk.size, (h.rx b' hb').2.2⟩⟩, ?_, ?_, hown, ?_⟩, SameG.of_kept h.xl hk hGX⟩
  · intro j hj b hb'
    by_cases hji : j = i
    · simp only [hji, if_true] at hb' ⊢; exact ho b hb'
    · simp only [if_neg hji] at hb'; exact h.go j (by omega) b hb'
  · intro j hj
    by_cases hji : j = i
    · simp only [hji, if_true]; exact hb.keep hk (fun b hb' hm => hGF b hm i hi (ho b hb'))
    · simp only [if_neg hji]; exact (h.gb j (by omega)).keep hk (fun b hb' hm => hGF b hm j (by omega) (h.go j (by omega) b hb'))
  · intro b hb'
    rcases hn' b hb' with ⟨h1, h2⟩ | ⟨h1, h2⟩
    · have h3 := h.gx b h1
      exact ⟨h3.1, h2, h3.2.2⟩
    · exact ⟨Nat.le_trans h.kept.size h1, h2, fun hm => by have := h.xl b hm; omega, fun j hj hm => by have := (h.ge j hj b hm).2.1; omega, fun hv => by have := (h.rx b hv).2.1; omega⟩
end
/-! ### The other loops -/
/-- The mark of the i-th list. -/
def ci (i : Nat) : Int := (i : Int) + 1
section
variable {w1 w w' : World} {X : List Nat} {vL vG gc : Value} {n i k : Nat}
/-- The lists before the i-th are full, the i-th up to k. -/
def FInv (w1 : World) (X : List Nat) (vL : Value) (n i k : Nat) (w : World) : Prop := ∃ F v l, Gr w1 X vL n F v l w ∧ (∀ j, j < n → (l j).length ≤ 65536) ∧ (∀ j, j < i → j < n → ∀ y ∈ l j, y = ci j) ∧ (∀ t, t < k → t < (l i).length → (l i)[t]? = some (ci i))
theorem FInv.set (h : FInv w1 X vL n i k w) (hi : i < n) : ∃ A N c bL cap, vL = .slice (some ⟨bL, 0, none⟩) n cap ∧ w.cell? ⟨bL, i, none⟩ = some (.slice A N c) ∧ N ≤ 65536 ∧ (N ≤ k → FInv w1 X vL n (i + 1) 0 w) ∧ (k < N → ∃ b, A = some ⟨b, 0, none⟩ ∧ (∃ y, w.cell? ⟨b, k, none⟩ = some (.int .u8 y)) ∧ w.frozen? ⟨b, k, none⟩ = false ∧ FInv w1 X vL n i (k + 1) (w.setCell ⟨b, k, none⟩ (.int .u8 (ci i))) ∧ SameG X w (w.setCell ⟨b, k, none⟩ (.int .u8 (ci i)))) := by
  obtain ⟨F, v, l, hg, hl, hd, hp⟩ := h
  obtain ⟨bL, cap, e, hc⟩ := hg.cell hi
  obtain ⟨A, c, hv⟩ := (hg.vb i hi).shape
  refine ⟨A, (l i).length, c, bL, cap, e, by rw [hc, hv], hl i hi, fun hk => ⟨F, v, l, hg, hl, fun j hj hjn => ?_, fun t ht => by omega⟩, fun hk => ?_⟩
  · by_cases hji : j = i
    · subst hji
      intro y hy
      obtain ⟨t, ht, rfl⟩ := List.mem_iff_getElem.mp hy
      have := hp t (by omega) ht
      rw [List.getElem?_eq_getElem ht] at this
      exact Option.some.inj this
    · exact hd j (by omega) hjn
  · rcases (hg.vb i hi).at with ⟨_, h0⟩ | ⟨b, cap', cur, e', _⟩
    · rw [h0] at hk; simp at hk
    · have hA : A = some ⟨b, 0, none⟩ := by rw [hv] at e'; simp only [Value.slice.injEq] at e'; exact e'.1
      have hob : (v i).ownBlock = some b := by rw [e']; rfl
      obtain ⟨h1, h2⟩ := hg.set hi b hob k (ci i) hk
      have hx : (l i)[k]? = some ((l i)[k]) := List.getElem?_eq_getElem hk
      refine ⟨b, hA, ⟨_, (hg.vb i hi).cell e' k _ hx⟩, (hg.vb i hi).frozen e' k, ⟨F, v, _, h1, fun j hj => ?_, fun j hj hjn => ?_, fun t ht htl => ?_⟩, h2⟩
      · by_cases hji : j = i
        · simp only [hji, if_true, List.length_set]; exact hl i hi
        · simp only [if_neg hji]; exact hl j hj
      · simp only [if_neg (show ¬ j = i by omega)]; exact hd j hj hjn
      · simp only [if_true, List.length_set] at htl ⊢
        by_cases htk : t = k
        · subst htk; rw [List.getElem?_set_self hk]
        · rw [List.getElem?_set_ne (by omega)]; exact hp t (by omega) htl
/-- All full, the first i grown. -/
def HInv (w1 : World) (X : List Nat) (vL : Value) (n : Nat) (vG : Value) (i : Nat) (w : World) : Prop := ∃ F v l g m, Gr2 w1 X vL n F v l vG i g m w ∧ (∀ j, j < n → (l j).length ≤ 65536) ∧ (∀ j, j < n → ∀ y ∈ l j, y = ci j) ∧ (∀ j, j < i → (m j).length ≤ 100000) ∧ (∀ j, j < i → ∀ y ∈ m j, y = ci j)
/-- .. and what grows of the i-th: k bytes more. -/
def JInv (w1 : World) (X : List Nat) (vL : Value) (n : Nat) (vG : Value) (i : Nat) (gc : Value) (N k : Nat) (w : World) : Prop := ∃ F v l g m, Gr2 w1 X vL n F v l vG i g m w ∧ (∀ j, j < n → (l j).length ≤ 65536) ∧ (∀ j, j < n → ∀ y ∈ l j, y = ci j) ∧ (∀ j, j < i → (m j).length ≤ 100000) ∧ (∀ j, j < i → ∀ y ∈ m j, y = ci j) ∧ ∃ L, Bs w gc L ∧ (∀ b, gc.ownBlock = some b → b ∈ F i) ∧ (l i).length ≤ L.length ∧ N = L.length ∧ N ≤ 65536 + k ∧ ∀ y ∈ L, y = ci i
theorem HInv.of (h : FInv w1 X vL n n 0 w) : HInv w1 X vL n (.slice none 0 0) 0 w := by
  obtain ⟨F, v, l, hg, hl, hd, _⟩ := h
  exact ⟨F, v, l, _, _, Gr2.nil hg, hl, fun j hj => hd j hj hj, by simp, by simp⟩
theorem HInv.start (h : HInv w1 X vL n vG i w) (hi : i < n) : ∃ A N c bL cap, vL = .slice (some ⟨bL, 0, none⟩) n cap ∧ w.cell? ⟨bL, i, none⟩ = some (.slice A N c) ∧ JInv w1 X vL n vG i (.slice A N c) N 0 w := by
  obtain ⟨F, v, l, g, m, hg, hl, hd, hm, hq⟩ := h
  obtain ⟨bL, cap, e, hc⟩ := hg.toGr.cell hi
  obtain ⟨A, c, hv⟩ := (hg.vb i hi).shape
  have hb := hg.vb i hi
  have ho := hg.vo i hi
  rw [hv] at hc hb ho
  exact ⟨A, _, c, bL, cap, e, hc, F, v, l, g, m, hg, hl, hd, hm, hq, l i, hb, ho, Nat.le_refl _, rfl, hl i hi, hd i hi⟩
theorem JInv.keep {N : Nat} (h : JInv w1 X vL n vG i gc N k w) (hi : i < n) (hk : Kept [] w w') : JInv w1 X vL n vG i gc N k w' := by
  obtain ⟨F, v, l, g, m, hg, hl, hd, hm, hq, L, hb, r⟩ := h
  exact ⟨F, v, l, g, m, hg.keep (Nat.le_of_lt hi) hk, hl, hd, hm, hq, L, hb.keep hk (by simp), r⟩
theorem JInv.shape {N : Nat} (h : JInv w1 X vL n vG i gc N k w) : ∃ A c, gc = .slice A N c := by
  obtain ⟨F, v, l, g, m, hg, hl, hd, hm, hq, L, hb, _, _, rfl, _⟩ := h
  exact hb.shape
theorem JInv.grow {N : Nat} (ty : TypeId) (h : JInv w1 X vL n vG i gc N k w) (hi : i < n) (hk : k ≤ 1000) (g0 c0 : Nat) (hc : w.cell? ⟨g0, 0, none⟩ = some (.int .u8 (ci i))) :
    ∃ A c1 w', (Builtin.append_ #[22, 22] ty #[gc, .slice (some ⟨g0, 0, none⟩) 1 c0]).run Try.prog w = .ok (.slice A (N + 1) c1) w' ∧ JInv w1 X vL n vG i (.slice A (N + 1) c1) (N + 1) (k + 1) w' ∧ SameG X w w' := by
  obtain ⟨F, v, l, g, m, hg, hl, hd, hm, hq, L, hb, ho, hlL, rfl, hLk, hL⟩ := h
  obtain ⟨A, c1, w', F', hr, hg', hb', ho', hs⟩ := hg.grow ty hi gc L hb ho hlL (by omega) g0 c0 (ci i) hc
  refine ⟨A, c1, w', hr, ⟨F', v, l, g, m, hg', hl, hd, hm, hq, L ++ [ci i], hb', ho', by simp; omega, by simp, by omega, ?_⟩, hs⟩
  intro y hy
  rcases List.mem_append.mp hy with hy | hy
  · exact hL y hy
  · simpa using hy
theorem JInv.add {N : Nat} (ty : TypeId) (h : JInv w1 X vL n vG i gc N k w) (hi : i < n) (hn : n ≤ 1000) (hk : k ≤ 1000) (g0 c0 : Nat) (hc : w.cell? ⟨g0, 0, none⟩ = some gc) :
    ∃ A c1 w', (Builtin.append_ #[29, 29] ty #[vG, .slice (some ⟨g0, 0, none⟩) 1 c0]).run Try.prog w = .ok (.slice A (i + 1) c1) w' ∧ HInv w1 X vL n (.slice A (i + 1) c1) (i + 1) w' ∧ SameG X w w' := by
  obtain ⟨F, v, l, g, m, hg, hl, hd, hm, hq, L, hb, ho, hlL, rfl, hLk, hL⟩ := h
  obtain ⟨A, c1, w', hr, hg', hs⟩ := hg.add ty hi hn gc L hb ho g0 c0 hc
  refine ⟨A, c1, w', hr, ⟨F, v, l, _, _, hg', hl, hd, fun j hj => ?_, fun j hj => ?_⟩, hs⟩
  · by_cases hji : j = i
    · simp only [hji, if_true]; omega
    · simp only [if_neg hji]; exact hm j (by omega)
  · by_cases hji : j = i
    · simp only [hji, if_true]; exact hL
    · simp only [if_neg hji]; exact hq j (by omega)
theorem HInv.read (h : HInv w1 X vL n vG n w) (hi : i < n) : ∃ A N c bL cap A2 N2 c2 bG cap2, vL = .slice (some ⟨bL, 0, none⟩) n cap ∧ vG = .slice (some ⟨bG, 0, none⟩) n cap2 ∧ w.cell? ⟨bL, i, none⟩ = some (.slice A N c) ∧ w.cell? ⟨bG, i, none⟩ = some (.slice A2 N2 c2) ∧ N2 ≤ 100000 ∧ (k < N → ∃ b, A = some ⟨b, 0, none⟩ ∧ w.cell? ⟨b, k, none⟩ = some (.int .u8 (ci i))) ∧ (k < N2 → ∃ b, A2 = some ⟨b, 0, none⟩ ∧ w.cell? ⟨b, k, none⟩ = some (.int .u8 (ci i))) := by
  obtain ⟨F, v, l, g, m, hg, hl, hd, hm, hq⟩ := h
  obtain ⟨bL, cap, e, hc⟩ := hg.toGr.cell hi
  obtain ⟨bG, cap2, e2, hc2⟩ := hg.cellG hi
  obtain ⟨A, c, hv⟩ := (hg.vb i hi).shape
  obtain ⟨A2, c2, hv2⟩ := (hg.gb i hi).shape
  have rd : ∀ {u : Value} {L : List Int} {A : Option Addr} {c : Nat}, Bs w u L → u = .slice A L.length c → (∀ y ∈ L, y = ci i) → k < L.length → ∃ b, A = some ⟨b, 0, none⟩ ∧ w.cell? ⟨b, k, none⟩ = some (.int .u8 (ci i)) := by
    intro u L A c hb hu hL hk
    rcases hb.at with ⟨_, h0⟩ | ⟨b, cap', cur, e', _⟩
    · rw [h0] at hk; simp at hk
    · have hx : L[k]? = some (L[k]) := List.getElem?_eq_getElem hk
      have h1 := hb.cell e' k _ hx
      rw [hL _ (List.getElem_mem hk)] at h1
      rw [hu] at e'
      simp only [Value.slice.injEq] at e'
      exact ⟨b, e'.1, h1⟩
  exact ⟨A, _, c, bL, cap, A2, _, c2, bG, cap2, e, e2, by rw [hc, hv], by rw [hc2, hv2], hm i hi, rd (hg.vb i hi) hv (hd i hi), rd (hg.gb i hi) hv2 (hq i hi)⟩
theorem wpList_j_grow {ops : Array Oper} {rest : List Oper} {o : Oper} {a : Act} {Q : Exit → Act → World → Prop} {N : Nat} (hgd : o.guard = none) (t x : Operand)
    (ho : o.op = .call { callee := .builtin .append, args := #[t, x], argTypes := #[22, 22] }) (gc : Value) (g0 c0 : Nat) (hs : a.eval t = gc) (hy : a.eval x = .slice (some ⟨g0, 0, none⟩) 1 c0) (hT : JInv w1 X vL n vG i gc N k w) (hi : i < n) (hk : k ≤ 1000) (hc : w.cell? ⟨g0, 0, none⟩ = some (.int .u8 (ci i)))
    (h : ∀ A c1 w', JInv w1 X vL n vG i (.slice A (N + 1) c1) (N + 1) (k + 1) w' → SameG X w w' → wpList Try.prog ops Q rest (a.put o.dst (.slice A (N + 1) c1)) w') : wpList Try.prog ops Q (o :: rest) a w :=
  wpList_plain hgd fun _ hK => by
    obtain ⟨A, c1, w', hr, h1, h2⟩ := hT.grow o.type hi hk g0 c0 hc
    unfold Oper.wp execOp
    simp only [ho, resolve, invoke, builtin, Sem.run_bind, Sem.run_pure, Result.andThen_ok, List.map_toArray, List.map_cons, List.map_nil, hs, hy, hr]
    exact hK _ _ (h A c1 w' h1 h2)
theorem wpList_j_add {ops : Array Oper} {rest : List Oper} {o : Oper} {a : Act} {Q : Exit → Act → World → Prop} {N : Nat} (hgd : o.guard = none) (t x : Operand)
    (ho : o.op = .call { callee := .builtin .append, args := #[t, x], argTypes := #[29, 29] }) (vG gc : Value) (g0 c0 : Nat) (hs : a.eval t = vG) (hy : a.eval x = .slice (some ⟨g0, 0, none⟩) 1 c0) (hT : JInv w1 X vL n vG i gc N k w) (hi : i < n) (hn : n ≤ 1000) (hk : k ≤ 1000) (hc : w.cell? ⟨g0, 0, none⟩ = some gc)
    (h : ∀ A c1 w', HInv w1 X vL n (.slice A (i + 1) c1) (i + 1) w' → SameG X w w' → wpList Try.prog ops Q rest (a.put o.dst (.slice A (i + 1) c1)) w') : wpList Try.prog ops Q (o :: rest) a w :=
  wpList_plain hgd fun _ hK => by
    obtain ⟨A, c1, w', hr, h1, h2⟩ := hT.add o.type hi hn hk g0 c0 hc
    unfold Oper.wp execOp
    simp only [ho, resolve, invoke, builtin, Sem.run_bind, Sem.run_pure, Result.andThen_ok, List.map_toArray, List.map_cons, List.map_nil, hs, hy, hr]
    exact hK _ _ (h A c1 w' h1 h2)
end
end Go.Proofs.Ytdjppkffmeccoaa.BW
