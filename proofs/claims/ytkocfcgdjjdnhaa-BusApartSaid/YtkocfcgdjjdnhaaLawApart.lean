/- The law BusApart: it answers true. Premise: the story can be read. -/
import Derived.Test.YtkocfcgdjjdnhaaLawTwin
import Derived.Deep.Cut
import Derived.Deep.CutRange
namespace Go.Proofs.Ytkocfcgdjjdnhaa.BW
open Go.RowKit
set_option linter.unusedVariables false
set_option linter.unusedSimpArgs false
theorem cells16a {W : World} {p : Nat} {v1 v2 v3 vops : Value} {s : St} (h : W.heap[p]? = some (.cells (yCells v1 v2 v3 s vops) 43 (0, 0))) : W.cell? ⟨p, 0, none⟩ = some (v1) ∧ W.cell? ⟨p, 1, none⟩ = some (.int .u32 s.msip) ∧ W.cell? ⟨p, 2, none⟩ = some (.int .u64 s.cmp) ∧ W.cell? ⟨p, 3, none⟩ = some (.int .u64 s.now) ∧ W.cell? ⟨p, 4, none⟩ = some (.bool s.ext) ∧ W.cell? ⟨p, 5, none⟩ = some (.bool s.soft) ∧ W.cell? ⟨p, 6, none⟩ = some (.int .u8 s.ier) ∧ W.cell? ⟨p, 7, none⟩ = some (.int .u8 s.lcr) ∧ W.cell? ⟨p, 8, none⟩ = some (.int .u8 s.mcr) ∧ W.cell? ⟨p, 9, none⟩ = some (.int .u8 s.scr) ∧ W.cell? ⟨p, 10, none⟩ = some (.bool s.over) ∧ W.cell? ⟨p, 11, none⟩ = some (v2) ∧ W.cell? ⟨p, 12, none⟩ = some (v3) ∧ W.cell? ⟨p, 13, none⟩ = some (.int .i64 s.off) ∧ W.cell? ⟨p, 14, none⟩ = some (.int .i64 s.code) ∧ W.cell? ⟨p, 15, none⟩ = some (vops) :=
  ⟨row_cell h 0 _ rfl, row_cell h 1 _ rfl, row_cell h 2 _ rfl, row_cell h 3 _ rfl, row_cell h 4 _ rfl, row_cell h 5 _ rfl, row_cell h 6 _ rfl, row_cell h 7 _ rfl, row_cell h 8 _ rfl, row_cell h 9 _ rfl, row_cell h 10 _ rfl, row_cell h 11 _ rfl, row_cell h 12 _ rfl, row_cell h 13 _ rfl, row_cell h 14 _ rfl, row_cell h 15 _ rfl⟩
/-! ### Two stores in either order -/
structure Apart (s : St) (a b : Nat) (xn xv yn yv : Int) (fx fy : Bool) (v : Int) (s1 s2 t1 t2 : St) : Prop where
  x1 : s.store (2147483648 + (a : Int)) xn xv = (fx, s1)
  l1 : s1.load (2147483648 + (a : Int)) xn = ((v, fx), s1)
  y1 : s1.store (2147483648 + (b : Int)) yn yv = (fy, s2)
  y2 : s.store (2147483648 + (b : Int)) yn yv = (fy, t1)
  x2 : t1.store (2147483648 + (a : Int)) xn xv = (fx, t2)
  o0 : s.Ok
  o1 : s1.Ok
  o2 : s2.Ok
  p1 : t1.Ok
  p2 : t2.Ok
  eq : ¬ (fx = true ∧ fy = true ∧ (a : Int) < b + yn ∧ (b : Int) < a + xn) → s2 = t2
theorem mem_nat {a : Nat} {size : Int} (h : alignedB (2147483648 + (a : Int)) size = true) : ∃ sz : Nat, size = (sz : Int) ∧ (sz = 1 ∨ sz = 2 ∨ sz = 4 ∨ sz = 8) := by
  have hsz : size = 1 ∨ size = 2 ∨ size = 4 ∨ size = 8 := by unfold alignedB szOk at h; simp at h; omega
  exact ⟨size.toNat, by omega, by omega⟩
theorem apart_of {s : St} (hs : s.Ok) (a b : Nat) (xn xv yn yv : Int) (v0 : 0 ≤ xv) (v1 : xv ≤ 18446744073709551615) (u0 : 0 ≤ yv) (u1 : yv ≤ 18446744073709551615) (fx fy : Bool)
    (hx : fx = true ↔ (alignedB (2147483648 + (a : Int)) xn = true ∧ (a : Int) + xn ≤ s.ram.length)) (hy : fy = true ↔ (alignedB (2147483648 + (b : Int)) yn = true ∧ (b : Int) + yn ≤ s.ram.length)) :
    ∃ v s1 s2 t1 t2, Apart s a b xn xv yn yv fx fy v s1 s2 t1 t2 ∧ (fx = true → v = xv % 256 ^ xn.toNat) ∧ (fx = false → v = 0) := by
  have okx := ok_store hs (2147483648 + (a : Int)) xn xv v0 v1
  have oky := ok_store hs (2147483648 + (b : Int)) yn yv u0 u1
  cases fx with
  | false =>
    have nx := fun h => Bool.false_ne_true (hx.2 h)
    have ex := mem_store_out (s := s) a xn xv nx
    have el := mem_load_out (s := s) a xn nx
    cases fy with
    | false =>
      have ny := fun h => Bool.false_ne_true (hy.2 h)
      have ey := mem_store_out (s := s) b yn yv ny
      exact ⟨0, s, s, s, s, ⟨ex, el, ey, ey, ex, hs, hs, hs, hs, hs, fun _ => rfl⟩, fun h => absurd h (by decide), fun _ => rfl⟩
    | true =>
      obtain ⟨g1, g2⟩ := hy.1 rfl
      obtain ⟨sz, rfl, hsz⟩ := mem_nat g1
      have ey := mem_store_in (s := s) b sz yv g1 (by omega)
      rw [ey] at oky
      have ln : (lay s.ram b (leOf yv sz)).length = s.ram.length := lay_length _ _ _ (by rw [leOf_length]; omega)
      refine ⟨0, s, _, _, _, ⟨ex, el, ey, ey, mem_store_out (s := { s with ram := lay s.ram b (leOf yv sz) }) a xn xv (by show ¬ (_ ∧ _ ≤ (((lay s.ram b (leOf yv sz)).length : Nat) : Int)); rw [ln]; exact nx), hs, hs, oky, oky, oky, fun _ => rfl⟩, fun h => absurd h (by decide), fun _ => rfl⟩
  | true =>
    obtain ⟨k1, k2⟩ := hx.1 rfl
    obtain ⟨sx, rfl, hsx⟩ := mem_nat k1
    have ex := mem_store_in (s := s) a sx xv k1 (by omega)
    rw [ex] at okx
    have lx : (lay s.ram a (leOf xv sx)).length = s.ram.length := lay_length _ _ _ (by rw [leOf_length]; omega)
    have el := mem_load_in (s := { s with ram := lay s.ram a (leOf xv sx) }) a sx k1 (by show _ ≤ (lay s.ram a (leOf xv sx)).length; rw [lx]; omega)
    have hv : leVal (((lay s.ram a (leOf xv sx)).drop a).take sx) = xv % 256 ^ sx := by
      have h := lay_read s.ram a (leOf xv sx) (by rw [leOf_length]; omega)
      rw [leOf_length] at h
      rw [h, leVal_leOf]
    cases fy with
    | false =>
      have ny := fun h => Bool.false_ne_true (hy.2 h)
      have ey := mem_store_out (s := s) b yn yv ny
      refine ⟨_, _, _, s, _, ⟨ex, el, mem_store_out (s := { s with ram := lay s.ram a (leOf xv sx) }) b yn yv (by show ¬ (_ ∧ _ ≤ (((lay s.ram a (leOf xv sx)).length : Nat) : Int)); rw [lx]; exact ny), ey, ex, hs, okx, okx, hs, okx, fun _ => rfl⟩, fun _ => hv, fun h => absurd h (by decide)⟩
    | true =>
      obtain ⟨g1, g2⟩ := hy.1 rfl
      obtain ⟨sy, rfl, hsy⟩ := mem_nat g1
      have ey := mem_store_in (s := s) b sy yv g1 (by omega)
      rw [ey] at oky
      have ly : (lay s.ram b (leOf yv sy)).length = s.ram.length := lay_length _ _ _ (by rw [leOf_length]; omega)
      have ey1 := mem_store_in (s := { s with ram := lay s.ram a (leOf xv sx) }) b sy yv g1 (by show _ ≤ (lay s.ram a (leOf xv sx)).length; rw [lx]; omega)
      have ex2 := mem_store_in (s := { s with ram := lay s.ram b (leOf yv sy) }) a sx xv k1 (by show _ ≤ (lay s.ram b (leOf yv sy)).length; rw [ly]; omega)
      have o2 := ok_store okx (2147483648 + (b : Int)) sy yv u0 u1
      rw [ey1] at o2
      have p2 := ok_store oky (2147483648 + (a : Int)) sx xv v0 v1
      rw [ex2] at p2
      refine ⟨_, _, _, _, _, ⟨ex, el, ey1, ey, ex2, hs, okx, o2, oky, p2, fun hn => ?_⟩, fun _ => hv, fun h => absurd h (by decide)⟩
      have hc := lay_comm s.ram a b (leOf xv sx) (leOf yv sy) (by rw [leOf_length]; omega) (by rw [leOf_length]; omega) (by
        rw [leOf_length, leOf_length]
        by_cases q1 : (a : Int) < b + sy
        · by_cases q2 : (b : Int) < a + sx
          · exact absurd ⟨rfl, rfl, q1, q2⟩ hn
          · left; omega
        · right; omega)
      show St.mk _ _ _ _ _ _ _ _ _ _ _ _ _ _ _ = St.mk _ _ _ _ _ _ _ _ _ _ _ _ _ _ _
      simp only [hc]
/-- Two buses of one state, and the boxes of two calls beside them. -/
structure Two (w1 : World) (pb rb M N : Nat) (cx cy : Array Value) (s t : St) (wc : World) : Prop where
  ne : M ≠ N
  m0 : w1.heap.size ≤ M
  n0 : w1.heap.size ≤ N
  d : TwinE w1 [M, N] wc pb rb s t
  x : wc.heap[M]? = some (.cells cx 54 (0, 0))
  y : wc.heap[N]? = some (.cells cy 54 (0, 0))
section
variable {w1 w w' : World} {pb rb M N : Nat} {cx cy : Array Value} {s t : St}
theorem Two.turn {s' t' : St} (T : Two w1 pb rb M N cx cy s t w) (D : TwinE w1 [M, N] w' pb rb s' t') (hx : SameX [M, N] w w') : Two w1 pb rb M N cx cy s' t' w' :=
  ⟨T.ne, T.m0, T.n0, D, (hx M (by simp)).trans T.x, (hx N (by simp)).trans T.y⟩
theorem Two.setx (T : Two w1 pb rb M N cx cy s t w) (j : Nat) (u : Value) : Two w1 pb rb M N (cx.setIfInBounds j u) cy s t (w.setCell ⟨M, j, none⟩ u) := by
  have hk : Kept [M] w (w.setCell ⟨M, j, none⟩ u) := (Kept.refl [M] w).setCell (fun _ => by simp) _
  exact ⟨T.ne, T.m0, T.n0, T.d.write (by simp) T.m0 hk, heap_setCell_same w M j _ 54 u T.x, hk.row T.y (by simpa using T.ne.symm)⟩
theorem Two.sety (T : Two w1 pb rb M N cx cy s t w) (j : Nat) (u : Value) : Two w1 pb rb M N cx (cy.setIfInBounds j u) s t (w.setCell ⟨N, j, none⟩ u) := by
  have hk : Kept [N] w (w.setCell ⟨N, j, none⟩ u) := (Kept.refl [N] w).setCell (fun _ => by simp) _
  exact ⟨T.ne, T.m0, T.n0, T.d.write (by simp) T.n0 hk, hk.row T.x (by simpa using T.ne), heap_setCell_same w N j _ 54 u T.y⟩
theorem Two.store1 (T : Two w1 pb rb M N cx cy s t w) (hs : s.Ok) (addr size v : Int) (a0 : 0 ≤ addr) (a1 : addr ≤ 18446744073709551615) (s0 : -9223372036854775808 ≤ size) (s1 : size ≤ 9223372036854775807) (v0 : 0 ≤ v) (v1 : v ≤ 18446744073709551615) {b : Bool} {s' : St} (he : s.store addr size v = (b, s')) :
    Calls Try.prog 30 #[.pointer (some ⟨pb, 0, none⟩), .int .u64 addr, .int .i64 size, .int .u64 v] w fun e w' => e = .returned (.bool b) ∧ Two w1 pb rb M N cx cy s' t w' := by
  have h := t_store1 T.d hs addr size v a0 a1 s0 s1 v0 v1
  rw [he] at h
  exact h.mono fun e w' ⟨e1, D, hx⟩ => ⟨e1, T.turn D hx⟩
theorem Two.store2 (T : Two w1 pb rb M N cx cy s t w) (hs : t.Ok) (addr size v : Int) (a0 : 0 ≤ addr) (a1 : addr ≤ 18446744073709551615) (s0 : -9223372036854775808 ≤ size) (s1 : size ≤ 9223372036854775807) (v0 : 0 ≤ v) (v1 : v ≤ 18446744073709551615) {b : Bool} {t' : St} (he : t.store addr size v = (b, t')) :
    Calls Try.prog 30 #[.pointer (some ⟨rb, 0, none⟩), .int .u64 addr, .int .i64 size, .int .u64 v] w fun e w' => e = .returned (.bool b) ∧ Two w1 pb rb M N cx cy s t' w' := by
  have h := t_store2 T.d hs addr size v a0 a1 s0 s1 v0 v1
  rw [he] at h
  exact h.mono fun e w' ⟨e1, D, hx⟩ => ⟨e1, T.turn D hx⟩
theorem Two.load1 (T : Two w1 pb rb M N cx cy s t w) (hs : s.Ok) (addr size : Int) (a0 : 0 ≤ addr) (a1 : addr ≤ 18446744073709551615) (s0 : -9223372036854775808 ≤ size) (s1 : size ≤ 9223372036854775807) {v : Int} {b : Bool} {s' : St} (he : s.load addr size = ((v, b), s')) :
    Calls Try.prog 29 #[.pointer (some ⟨pb, 0, none⟩), .int .u64 addr, .int .i64 size] w fun e w' => e = .returned (.tuple #[.int .u64 v, .bool b]) ∧ Two w1 pb rb M N cx cy s' t w' := by
  have h := t_load1 T.d hs addr size a0 a1 s0 s1
  rw [he] at h
  exact h.mono fun e w' ⟨e1, D, hx⟩ => ⟨e1, T.turn D hx⟩
theorem TwinE.rlt {X : List Nat} (D : TwinE w1 X w pb rb s t) : rb < w.heap.size := by
  obtain ⟨vr, vi, vo, ur, ui, uo, D⟩ := D
  exact D.r.lt rb (foot_self _ _ _ _)
theorem Two.drew (T : Two w1 pb rb M N cx cy s t w) : Two w1 pb rb M N cx cy s t w.drew :=
  T.turn (T.d.keep (Kept.refl [] w).drew).1 (T.d.keep (Kept.refl [] w).drew).2
theorem Two.drewN (T : Two w1 pb rb M N cx cy s t w) (n : Nat) : Two w1 pb rb M N cx cy s t (w.drewN n) :=
  T.turn (T.d.keep ((Kept.refl [] w).drewN n)).1 (T.d.keep ((Kept.refl [] w).drewN n)).2
/-- What the two States tell reads alike. -/
theorem Two.state1 (T : Two w1 pb rb M N cx cy s t w) (hs : s.Ok) :
    Calls Try.prog 20 #[.pointer (some ⟨pb, 0, none⟩)] w fun e w' => ∃ v1 v2 v3, e = .returned (.agg (sCells v1 v2 v3 s)) ∧ Bs w' v1 s.ram ∧ Bs w' v2 s.inp ∧ Bs w' v3 s.out ∧ Two w1 pb rb M N cx cy s t w' ∧ (∀ g, v1.ownBlock = some g → rb < g) ∧ (∀ g, v2.ownBlock = some g → rb < g) ∧ (∀ g, v3.ownBlock = some g → rb < g) := by
  have hl := T.d.rlt
  refine (t_state1 T.d hs).mono fun e w' ⟨v1, v2, v3, he, h1, h2, h3, D, hx, n1, n2, n3, hk⟩ => ?_
  exact ⟨v1, v2, v3, he, h1, h2, h3, T.turn D hx, fun g hg => Nat.lt_of_lt_of_le hl (n1 g hg), fun g hg => Nat.lt_of_lt_of_le hl (n2 g hg), fun g hg => Nat.lt_of_lt_of_le hl (n3 g hg)⟩
theorem Two.state2 (T : Two w1 pb rb M N cx cy s t w) (hs : t.Ok) {v1 v2 v3 : Value} {s0 : St} (h1 : Bs w v1 s0.ram) (h2 : Bs w v2 s0.inp) (h3 : Bs w v3 s0.out) (n1 : ∀ g, v1.ownBlock = some g → rb < g) (n2 : ∀ g, v2.ownBlock = some g → rb < g) (n3 : ∀ g, v3.ownBlock = some g → rb < g) :
    Calls Try.prog 20 #[.pointer (some ⟨rb, 0, none⟩)] w fun e w' => ∃ u1 u2 u3, e = .returned (.agg (sCells u1 u2 u3 t)) ∧ Bs w' u1 t.ram ∧ Bs w' u2 t.inp ∧ Bs w' u3 t.out ∧ Two w1 pb rb M N cx cy s t w' ∧ Bs w' v1 s0.ram ∧ Bs w' v2 s0.inp ∧ Bs w' v3 s0.out := by
  refine (t_state2 T.d hs).mono fun e w' ⟨u1, u2, u3, he, g1, g2, g3, D, hx, _, _, _, hk⟩ => ?_
  exact ⟨u1, u2, u3, he, g1, g2, g3, T.turn D hx, h1.keep hk (fun g hg => by have := n1 g hg; simp; omega), h2.keep hk (fun g hg => by have := n2 g hg; simp; omega), h3.keep hk (fun g hg => by have := n3 g hg; simp; omega)⟩
/-! ### The region in which both calls are read and boxed -/
/-- The buses, and the boxes made so far. -/
structure Box2 (w1 : World) (pb rb : Nat) (s : St) (l : List (Nat × Array Value)) (w : World) : Prop where
  d : TwinE w1 (l.map (·.1)) w pb rb s s
  nd : (l.map (·.1)).Nodup
  ge : ∀ p ∈ l, w1.heap.size ≤ p.1
  row : ∀ p ∈ l, w.heap[p.1]? = some (.cells p.2 54 (0, 0))
theorem Box2.alloc {l : List (Nat × Array Value)} (h : Box2 w1 pb rb s l w) : Box2 w1 pb rb s ((w.heap.size, zOp) :: l) (w.alloc (.cells zOp 54)) := by
  have hk : Kept [] w (w.alloc (.cells zOp 54)) := (Kept.refl [] w).alloc _
  refine ⟨h.d.push _, ?_, ?_, ?_⟩
  · rw [List.map_cons, List.nodup_cons]
    exact ⟨fun hm => by have := h.d.xl _ hm; omega, h.nd⟩
  · intro p hp
    rcases List.mem_cons.mp hp with rfl | hp
    · exact h.d.kept.size
    · exact h.ge p hp
  · intro p hp
    rcases List.mem_cons.mp hp with rfl | hp
    · exact heap_alloc_new w _
    · exact hk.row (h.row p hp) (by simp)
theorem Box2.store {l : List (Nat × Array Value)} (h : Box2 w1 pb rb s l w) (g : Nat) (c0 cs : Array Value) (hg : (g, c0) ∈ l) : Box2 w1 pb rb s (l.map fun p => if p.1 = g then (g, cs) else p) (w.setRow g cs) := by
  have e : (l.map fun p => if p.1 = g then (g, cs) else p).map (·.1) = l.map (·.1) := by
    rw [List.map_map]
    apply List.map_congr_left
    intro p _
    simp only [Function.comp]
    split <;> simp [*]
  have hk : Kept [g] w (w.setRow g cs) := (Kept.refl [g] w).setRow (by simp) cs
  refine ⟨?_, ?_, ?_, ?_⟩
  · rw [e]
    exact h.d.write (List.mem_map.mpr ⟨_, hg, rfl⟩) (h.ge _ hg) hk
  · rw [e]; exact h.nd
  · intro p hp
    obtain ⟨q, hq, rfl⟩ := List.mem_map.mp hp
    split
    · exact h.ge (g, c0) hg
    · exact h.ge q hq
  · intro p hp
    obtain ⟨q, hq, rfl⟩ := List.mem_map.mp hp
    split
    · exact setRow_heap _ _ _ _ 54 (0, 0) (h.row (g, c0) hg)
    · rename_i hne
      exact hk.row (h.row q hq) (by simpa using hne)
theorem Box2.alloc' {l : List (Nat × Array Value)} (h : Box2 w1 pb rb s l w) (n : Nat) (hn : w.heap.size = n) : Box2 w1 pb rb s ((n, zOp) :: l) (w.alloc (.cells zOp 54)) := by subst hn; exact h.alloc
theorem Box2.store0 {l : List (Nat × Array Value)} {g : Nat} {c0 : Array Value} (h : Box2 w1 pb rb s ((g, c0) :: l) w) (cs : Array Value) : Box2 w1 pb rb s ((g, cs) :: l) (w.setRow g cs) := by
  have h1 := h.store g c0 cs (by simp)
  have e : (((g, c0) :: l).map fun p => if p.1 = g then (g, cs) else p) = (g, cs) :: l := by
    have hn := h.nd
    rw [List.map_cons, List.nodup_cons] at hn
    rw [List.map_cons, if_pos rfl]
    congr 1
    conv => rhs; rw [← List.map_id l]
    apply List.map_congr_left
    intro p hp
    rw [if_neg (fun e => hn.1 (List.mem_map.mpr ⟨p, hp, e⟩))]; rfl
  rw [e] at h1; exact h1
theorem Box2.store1 {q : Nat × Array Value} {g : Nat} {c0 : Array Value} (h : Box2 w1 pb rb s [q, (g, c0)] w) (cs : Array Value) : Box2 w1 pb rb s [q, (g, cs)] (w.setRow g cs) := by
  have h1 := h.store g c0 cs (by simp)
  have e : ([q, (g, c0)].map fun p => if p.1 = g then (g, cs) else p) = [q, (g, cs)] := by
    have hn := h.nd
    simp at hn
    simp [hn]
  rw [e] at h1; exact h1
theorem Box2.two {M N : Nat} {cx cy : Array Value} (h : Box2 w1 pb rb s [(M, cx), (N, cy)] w) : Two w1 pb rb M N cx cy s s w :=
  ⟨by have := h.nd; simpa using this, h.ge (M, cx) (by simp), h.ge (N, cy) (by simp), h.d, h.row (M, cx) (by simp), h.row (N, cy) (by simp)⟩
theorem Box2.two' {M N : Nat} {cx cy : Array Value} (h : Box2 w1 pb rb s [(N, cy), (M, cx)] w) : Two w1 pb rb M N cx cy s s w :=
  ⟨by have := h.nd; simp at this; exact fun e => this e.symm, h.ge (M, cx) (by simp), h.ge (N, cy) (by simp), h.d.pop (by simp), h.row (M, cx) (by simp), h.row (N, cy) (by simp)⟩
theorem Box2.nil (h : TwinE w1 [] w pb rb s s) : Box2 w1 pb rb s [] w := ⟨h, by simp, by simp, by simp⟩
end
set_option maxHeartbeats 8000000 in
set_option maxRecDepth 100000 in
theorem BusApart_no (w : World) (s : St) (hs : s.In) (v1 v2 v3 vops : Value) (h1 : Rd w v1 s.ram) (h2 : Rd w v2 s.inp) (h3 : Rd w v3 s.out) (hc : s.canBe = false) :
    Calls Try.prog 6 #[.agg (yCells v1 v2 v3 s vops)] w (TruePost w) := by
  obtain ⟨A, c, rfl⟩ := h1.shape
  obtain ⟨B, d, rfl⟩ := h2.shape
  obtain ⟨C, e, rfl⟩ := h3.shape
  have kA : Kept [] w (w.alloc (.cells (yCells (.slice A s.ram.length c) (.slice B s.inp.length d) (.slice C s.out.length e) s vops) 43)) := (Kept.refl [] w).alloc _
  have HC := Lib.hid (r_canbe_rd _ s hs _ _ _ (h1.keep kA (by simp)) (h2.keep kA (by simp)) (h3.keep kA (by simp)))
  rw [hc] at HC
  have HK := Lib.hid kA
  clear h1 h2 h3 hs hc kA
  unfold yCells at *
  unfold sCells at HC
  go_enter Try.func6, Try.ntmps6
  go_wp2_with (go_at_call 23; refine HC.out.mono ?_; rintro e w2 ⟨rfl, hb⟩; have HK2 := Lib.hid (HK.out.trans (Kept.of_below (F := []) hb) (by simp)); clear hb)
  go_ret
  exact ⟨rfl, HK2.out⟩
set_option maxHeartbeats 8000000 in
set_option maxRecDepth 100000 in
theorem BusApart_short (w : World) (s : St) (hs : s.In) (v1 v2 v3 : Value) (h1 : Rd w v1 s.ram) (h2 : Rd w v2 s.inp) (h3 : Rd w v3 s.out) (AO : Option Addr) (cO nO : Nat) (hn : nO < 2) (hc : s.canBe = true) :
    Calls Try.prog 6 #[.agg (yCells v1 v2 v3 s (.slice AO nO cO))] w (TruePost w) := by
  obtain ⟨A, c, rfl⟩ := h1.shape
  obtain ⟨B, d, rfl⟩ := h2.shape
  obtain ⟨C, e, rfl⟩ := h3.shape
  have kA : Kept [] w (w.alloc (.cells (yCells (.slice A s.ram.length c) (.slice B s.inp.length d) (.slice C s.out.length e) s (.slice AO nO cO)) 43)) := (Kept.refl [] w).alloc _
  have HC := Lib.hid (r_canbe_rd _ s hs _ _ _ (h1.keep kA (by simp)) (h2.keep kA (by simp)) (h3.keep kA (by simp)))
  rw [hc] at HC
  have HK := Lib.hid kA
  have HROW := Lib.hid (heap_alloc_new w (.cells (yCells (.slice A s.ram.length c) (.slice B s.inp.length d) (.slice C s.out.length e) s (.slice AO nO cO)) 43))
  have hd1 : decide ((nO : Int) < 2) = true := decide_eq_true (by omega)
  have hd2 : decide (nO < 2) = true := decide_eq_true hn
  clear h1 h2 h3 hs hc kA
  unfold yCells at *
  unfold sCells at HC
  go_enter Try.func6, Try.ntmps6
  go_wp2_with (go_at_call 23; refine HC.out.mono ?_; rintro e w2 ⟨rfl, hb⟩; have HK2 := Lib.hid (HK.out.trans (Kept.of_below (F := []) hb) (by simp)); have f15 : w2.cell? ⟨w.heap.size, 15, none⟩ = some (.slice AO nO cO) := row_cell ((Kept.of_below (F := []) hb).row HROW.out (by simp)) 15 _ rfl; clear hb)
  go_ret
  exact ⟨rfl, HK2.out⟩
set_option maxHeartbeats 40000000 in
set_option maxRecDepth 100000 in
theorem BusApart_yes (w : World) (s : St) (hs : s.In) (v1 v2 v3 vops : Value) (ops : List OpV) (h1 : Rd w v1 s.ram) (h2 : Rd w v2 s.inp) (h3 : Rd w v3 s.out) (ho : OpsAt w vops ops) (x y : OpV) (hx0 : ops[0]? = some x) (hy0 : ops[1]? = some y) (hc : s.canBe = true) :
    Calls Try.prog 6 #[.agg (yCells v1 v2 v3 s vops)] w (TruePost w) := by
  obtain ⟨A, c, rfl⟩ := h1.shape
  obtain ⟨B, d, rfl⟩ := h2.shape
  obtain ⟨C, e, rfl⟩ := h3.shape
  obtain ⟨AO, cO, rfl⟩ : ∃ A c, vops = .slice A ops.length c := by
    rcases ho.2 with ⟨rfl, rfl⟩ | ⟨g, off, cap, rfl, _⟩
    · exact ⟨_, _, rfl⟩
    · exact ⟨_, _, rfl⟩
  have hlen : ops.length ≤ 140737488351232 := ho.1
  have kA : Kept [] w (w.alloc (.cells (yCells (.slice A s.ram.length c) (.slice B s.inp.length d) (.slice C s.out.length e) s (.slice AO ops.length cO)) 43)) := (Kept.refl [] w).alloc _
  have hrow : (w.alloc (.cells (yCells (.slice A s.ram.length c) (.slice B s.inp.length d) (.slice C s.out.length e) s (.slice AO ops.length cO)) 43)).heap[w.heap.size]? = some (.cells (yCells (.slice A s.ram.length c) (.slice B s.inp.length d) (.slice C s.out.length e) s (.slice AO ops.length cO)) 43 (0, 0)) := heap_alloc_new w _
  have r1 := h1.keep kA (by simp)
  have r2 := h2.keep kA (by simp)
  have r3 := h3.keep kA (by simp)
  have hcan := r_canbe_rd _ s hs _ _ _ r1 r2 r3
  rw [hc] at hcan
  have HC := Lib.hid hcan
  have HR1 := Lib.hid r1
  have HR2 := Lib.hid r2
  have HR3 := Lib.hid r3
  have HSI := Lib.hid hs
  have HCB := Lib.hid hc
  have HO := Lib.hid (ho.keep kA)
  have HK := Lib.hid kA
  have HROW := Lib.hid hrow
  have hok := hs.ok hc
  have HSOK := Lib.hid hok
  have hn0 := hok.r0
  have hn1 := hok.r1
  clear h1 h2 h3 hs hc kA hrow ho r1 r2 r3 hcan hok
  unfold yCells at HC HR1 HR2 HR3 HO HK HROW ⊢
  unfold sCells at HC
  have hl2 : 2 ≤ ops.length := by have := (List.getElem?_eq_some_iff.1 hy0).1; omega
  have hd1 : decide ((ops.length : Int) < 2) = false := decide_eq_false (by omega)
  have hd2 : decide (ops.length < 2) = false := decide_eq_false (by omega)
  have hd3 : (0 : Int) < (ops.length : Int) := by omega
  have hd4 : (1 : Int) < (ops.length : Int) := by omega
  have hd5 : 0 < ops.length := by omega
  have hd6 : 1 < ops.length := by omega
  obtain ⟨g, off, cap, hve, hcs⟩ : ∃ g off cap, Value.slice AO ops.length cO = .slice (some ⟨g, off, none⟩) ops.length cap ∧ ∀ (i : Nat) (o : OpV), ops[i]? = some o → (w.alloc (.cells (yCells (.slice A s.ram.length c) (.slice B s.inp.length d) (.slice C s.out.length e) s (.slice AO ops.length cO)) 43)).rangeAt g (off + i * 9) o.cells.toList ∧ o.At (w.alloc (.cells (yCells (.slice A s.ram.length c) (.slice B s.inp.length d) (.slice C s.out.length e) s (.slice AO ops.length cO)) 43)) := by
    rcases HO.out.2 with ⟨_, h⟩ | h
    · rw [h] at hl2; simp at hl2
    · exact h
  simp only [Value.slice.injEq] at hve
  obtain ⟨rfl, -, rfl⟩ := hve
  have HX := Lib.hid (hcs 0 x hx0)
  have HY := Lib.hid (hcs 1 y hy0)
  clear hcs hx0 hy0
  unfold yCells at HX HY
  go_enter Try.func6, Try.ntmps6
  go_upto_region 8 with (first
    | (go_at_call 23; refine HC.out.mono ?_; rintro e w2 ⟨rfl, hb⟩; have hk2 := Kept.of_below (F := []) hb; obtain ⟨f0, f1, f2, f3, f4, f5, f6, f7, f8, f9, f10, f11, f12, f13, f14, f15⟩ := cells16a (hk2.row HROW.out (by simp)); have HMD := Lib.hid (made_any w2 s HSI.out A B C _ _ _ c d e (HR1.out.keep hk2 (by simp)) (HR2.out.keep hk2 (by simp)) (HR3.out.keep hk2 (by simp)) HCB.out); have HK2 := Lib.hid hk2; clear hb hk2)
    | (go_at_call 24; (unfold sCells at HMD); refine HMD.out.mono ?_; intro e w3 hm; obtain ⟨pb, rfl, D3⟩ := SoloE.of_made hm; have D4 := D3.rebase HK2.out; have HD4 := Lib.hid D4; clear f0 f1 f2 f3 f4 f5 f6 f7 f8 f9 f10 f11 f12 f13 f14 f15; obtain ⟨f0, f1, f2, f3, f4, f5, f6, f7, f8, f9, f10, f11, f12, f13, f14, f15⟩ := cells16a (D4.kept.row HROW.out (by simp)); have HMT := Lib.hid (made_any w3 s HSI.out A B C _ _ _ c d e (HR1.out.keep D4.kept (by simp)) (HR2.out.keep D4.kept (by simp)) (HR3.out.keep D4.kept (by simp)) HCB.out); clear hm D3 HMD D4)
    | (go_at_call 24; (unfold sCells at HMT); refine HMT.out.mono ?_; intro e w4 hm; obtain ⟨rb, rfl, D5, hx5⟩ := HD4.out.twin hm; have HD5 := Lib.hid D5; clear f0 f1 f2 f3 f4 f5 f6 f7 f8 f9 f10 f11 f12 f13 f14 f15; clear hm HD4 HMT D5 hx5))
  have hrow := HD5.out.kept.row HROW.out (by simp)
  have f15 : w4.cell? ⟨w.heap.size, 15, none⟩ = some (.slice (some ⟨g, off, none⟩) ops.length cO) := row_cell hrow 15 _ rfl
  have f0 : w4.cell? ⟨w.heap.size, 0, none⟩ = some (.slice A s.ram.length c) := row_cell hrow 0 _ rfl
  clear hrow HC HR1 HR2 HR3 HSI HCB HK2
  generalize (w.alloc (.cells #[.slice A s.ram.length c, .int .u32 s.msip, .int .u64 s.cmp, .int .u64 s.now, .bool s.ext, .bool s.soft, .int .u8 s.ier, .int .u8 s.lcr, .int .u8 s.mcr, .int .u8 s.scr, .bool s.over, .slice B s.inp.length d, .slice C s.out.length e, .int .i64 s.off, .int .i64 s.code, .slice (some ⟨g, off, none⟩) ops.length cO] 43)) = w1 at *
  generalize w.heap.size = N at *
  have n0 := s.ram.length
  go_cut [8, 9] from 19 (fun v8 v9 wc => ∃ MX MY, v8 = .pointer (some ⟨MX, 0, none⟩) ∧ v9 = .pointer (some ⟨MY, 0, none⟩) ∧ Hid (Two w1 pb rb MX MY x.cells y.cells s s wc))
  case first =>
    as_aux_lemma =>
    have f15w : w1.cell? ⟨N, 15, none⟩ = some (.slice (some ⟨g, off, none⟩) ops.length cO) := row_cell HROW.out 15 _ rfl
    have r8x := HX.out.1
    have r8y := HY.out.1
    rw [show off + 0 * 9 = off by omega] at r8x
    rw [show off + 1 * 9 = off + 9 by omega] at r8y
    have HSK := Lib.hid (show ∀ W, Kept [] w1 W → (W.cell? ⟨N, 15, none⟩ = some (.slice (some ⟨g, off, none⟩) ops.length cO) ∧ W.rangeAt g off x.cells.toList ∧ W.rangeAt g (off + 9) y.cells.toList) from fun W hk => ⟨(hk.cell (World.block_lt_of_cell? w1 _ f15w) (by simp)).trans f15w, rangeAt_keep r8x hk, rangeAt_keep r8y hk⟩)
    have HB1 := Lib.hid (show Box2 w1 pb rb s [] w4.drew from Box2.nil ((HD5.out.keep (Kept.refl [] w4).drew).1))
    have HHX := Lib.hid HX.out.2.one
    have HHY := Lib.hid HY.out.2.one
    clear r8x r8y f15w
    refine wp_region_held_drew (S := fun W => W.cell? ⟨N, 15, none⟩ = some (.slice (some ⟨g, off, none⟩) ops.length cO) ∧ W.rangeAt g off x.cells.toList ∧ W.rangeAt g (off + 9) y.cells.toList) (by kernel_rfl) (HSK.out _ HB1.out.d.kept) (fun hS => ?_)
    refine wpAnyH_take (i := 0) (v := ?_) rfl (by kernel_rfl) (by kernel_rfl) (by kernel_rfl) (fun _ _ _ h => h) (Or.inl ⟨by rfl, fun w' hw' => by go_simp; with_reducible rfl⟩) hS ?_
    try simp only [Act.put, List.setIfInBounds_toArray, List.set_cons_zero, List.set_cons_succ]
    refine wpAnyH_take (i := 1) (v := ?_) rfl (by kernel_rfl) (by kernel_rfl) (by kernel_rfl) (fun _ _ _ h => h) (Or.inl ⟨by rfl, fun w' hw' => by obtain ⟨q1, -, -⟩ := hw'; go_simp; with_reducible rfl⟩) hS ?_
    try simp only [Act.put, List.setIfInBounds_toArray, List.set_cons_zero, List.set_cons_succ]
    refine wpAnyH_take (i := 2) (v := ?_) rfl (by kernel_rfl) (by kernel_rfl) (by kernel_rfl) (fun _ _ _ h => h) (Or.inl ⟨by rfl, fun w' hw' => by go_simp; with_reducible rfl⟩) hS ?_
    try simp only [Act.put, List.setIfInBounds_toArray, List.set_cons_zero, List.set_cons_succ]
    refine wpAnyH_take (i := 3) (v := .agg x.cells.toList.toArray) rfl (by kernel_rfl) (by kernel_rfl) (by kernel_rfl) (fun _ _ _ h => h) (yieldsIf_load_mid (by rfl) 54 (.tmp 50) rfl g off rfl x.cells.toList _ (fun w h => h.2.1) Try.underlying54 rfl (by kernel_rfl)) hS ?_
    try simp only [Act.put, List.setIfInBounds_toArray, List.set_cons_zero, List.set_cons_succ]
    refine wpAnyH_take (i := 4) (v := ?_) rfl (by kernel_rfl) (by kernel_rfl) (by kernel_rfl) (fun _ _ _ h => h) (Or.inl ⟨by rfl, fun w' hw' => by go_simp; with_reducible rfl⟩) hS ?_
    try simp only [Act.put, List.setIfInBounds_toArray, List.set_cons_zero, List.set_cons_succ]
    refine wpAnyH_take (i := 5) (v := ?_) rfl (by kernel_rfl) (by kernel_rfl) (by kernel_rfl) (fun _ _ _ h => h) (Or.inl ⟨by rfl, fun w' hw' => by obtain ⟨q1, -, -⟩ := hw'; go_simp; with_reducible rfl⟩) hS ?_
    try simp only [Act.put, List.setIfInBounds_toArray, List.set_cons_zero, List.set_cons_succ]
    refine wpAnyH_take (i := 6) (v := ?_) rfl (by kernel_rfl) (by kernel_rfl) (by kernel_rfl) (fun _ _ _ h => h) (Or.inl ⟨by rfl, fun w' hw' => by go_simp; with_reducible rfl⟩) hS ?_
    try simp only [Act.put, List.setIfInBounds_toArray, List.set_cons_zero, List.set_cons_succ]
    refine wpAnyH_take (i := 7) (v := .agg y.cells.toList.toArray) rfl (by kernel_rfl) (by kernel_rfl) (by kernel_rfl) (fun _ _ _ h => h) (yieldsIf_load_mid (by rfl) 54 (.tmp 54) rfl g (off + 9) rfl y.cells.toList _ (fun w h => h.2.2) Try.underlying54 rfl (by kernel_rfl)) hS ?_
    try simp only [Act.put, List.setIfInBounds_toArray, List.set_cons_zero, List.set_cons_succ]
    refine wpAnyH_ready (rs := [8, 9]) (by kernel_rfl) (by simp) ?_
    refine AllReadyH.cons rfl (fun K hK => ?_) ?_
    · skip
      go_simp
      have HB2 := Lib.hid (HB1.out.alloc' (w4.heap.size) (by simp))
      refine hK.out _ _ (HSK.out _ HB2.out.d.kept) (fun hS => ?_)
      clear hK K
      try simp only [Act.put, List.setIfInBounds_toArray, List.set_cons_zero, List.set_cons_succ]
      refine wpAnyH_ready (rs := [9]) (by kernel_rfl) (by simp) ?_
      refine AllReadyH.cons rfl (fun K hK => ?_) ?_
      · skip
        go_simp
        have HB3 := Lib.hid (HB2.out.alloc' (w4.heap.size + 1) (by simp))
        refine hK.out _ _ (HSK.out _ HB3.out.d.kept) (fun hS => ?_)
        clear hK K
        try simp only [Act.put, List.setIfInBounds_toArray, List.set_cons_zero, List.set_cons_succ]
        refine wpAnyH_ready (rs := [10]) (by kernel_rfl) (by simp) ?_
        refine AllReadyH.cons rfl (fun K hK => ?_) ?_
        · skip
          rw [if_pos (by rfl)]
          refine wp_store_row 54 (.tmp 8) (.tmp 51) rfl _ x.cells.toList.toArray rfl rfl 54 zOp (HB3.out.row _ (List.mem_cons_of_mem _ List.mem_cons_self)) (by kernel_rfl) rfl HHX.out ?_
          have HB4 := Lib.hid (HB3.out.store1 x.cells)
          refine hK.out _ _ (HSK.out _ HB4.out.d.kept) (fun hS => ?_)
          clear hK K
          try simp only [Act.put, List.setIfInBounds_toArray, List.set_cons_zero, List.set_cons_succ]
          refine wpAnyH_ready (rs := [11]) (by kernel_rfl) (by simp) ?_
          refine AllReadyH.cons rfl (fun K hK => ?_) ?_
          · skip
            rw [if_pos (by rfl)]
            refine wp_store_row 54 (.tmp 9) (.tmp 55) rfl _ y.cells.toList.toArray rfl rfl 54 zOp (HB4.out.row _ (List.mem_cons_self)) (by kernel_rfl) rfl HHY.out ?_
            have HB5 := Lib.hid (HB4.out.store0 y.cells)
            refine hK.out _ _ (HSK.out _ HB5.out.d.kept) (fun hS => ?_)
            clear hK K
            try simp only [Act.put, List.setIfInBounds_toArray, List.set_cons_zero, List.set_cons_succ]
            refine wpAnyH_done (by kernel_rfl) ?_ _
            go_wp2_with fail
            go_meet
            exact ⟨_, _, rfl, rfl, Lib.hid HB5.out.two'⟩
          exact AllReadyH.nil
        exact AllReadyH.nil
      exact AllReadyH.nil
    refine AllReadyH.cons rfl (fun K hK => ?_) ?_
    · skip
      go_simp
      have HB2 := Lib.hid (HB1.out.alloc' (w4.heap.size) (by simp))
      refine hK.out _ _ (HSK.out _ HB2.out.d.kept) (fun hS => ?_)
      clear hK K
      try simp only [Act.put, List.setIfInBounds_toArray, List.set_cons_zero, List.set_cons_succ]
      refine wpAnyH_ready (rs := [8]) (by kernel_rfl) (by simp) ?_
      refine AllReadyH.cons rfl (fun K hK => ?_) ?_
      · skip
        go_simp
        have HB3 := Lib.hid (HB2.out.alloc' (w4.heap.size + 1) (by simp))
        refine hK.out _ _ (HSK.out _ HB3.out.d.kept) (fun hS => ?_)
        clear hK K
        try simp only [Act.put, List.setIfInBounds_toArray, List.set_cons_zero, List.set_cons_succ]
        refine wpAnyH_ready (rs := [10]) (by kernel_rfl) (by simp) ?_
        refine AllReadyH.cons rfl (fun K hK => ?_) ?_
        · skip
          rw [if_pos (by rfl)]
          refine wp_store_row 54 (.tmp 8) (.tmp 51) rfl _ x.cells.toList.toArray rfl rfl 54 zOp (HB3.out.row _ (List.mem_cons_self)) (by kernel_rfl) rfl HHX.out ?_
          have HB4 := Lib.hid (HB3.out.store0 x.cells)
          refine hK.out _ _ (HSK.out _ HB4.out.d.kept) (fun hS => ?_)
          clear hK K
          try simp only [Act.put, List.setIfInBounds_toArray, List.set_cons_zero, List.set_cons_succ]
          refine wpAnyH_ready (rs := [11]) (by kernel_rfl) (by simp) ?_
          refine AllReadyH.cons rfl (fun K hK => ?_) ?_
          · skip
            rw [if_pos (by rfl)]
            refine wp_store_row 54 (.tmp 9) (.tmp 55) rfl _ y.cells.toList.toArray rfl rfl 54 zOp (HB4.out.row _ (List.mem_cons_of_mem _ List.mem_cons_self)) (by kernel_rfl) rfl HHY.out ?_
            have HB5 := Lib.hid (HB4.out.store1 y.cells)
            refine hK.out _ _ (HSK.out _ HB5.out.d.kept) (fun hS => ?_)
            clear hK K
            try simp only [Act.put, List.setIfInBounds_toArray, List.set_cons_zero, List.set_cons_succ]
            refine wpAnyH_done (by kernel_rfl) ?_ _
            go_wp2_with fail
            go_meet
            exact ⟨_, _, rfl, rfl, Lib.hid HB5.out.two⟩
          exact AllReadyH.nil
        exact AllReadyH.nil
      exact AllReadyH.nil
    exact AllReadyH.nil
  case rest =>
    obtain ⟨MX, MY, rfl, rfl, HT⟩ := hcut
    obtain ⟨kx, ax, xn, xv, vbx, bx, tx, ex, sx, vwx, lx⟩ := x
    obtain ⟨ky, ay, yn, yv, vby, by_, ty, ey, sy, vwy, ly⟩ := y
    have a0 := HX.out.2.ad.1
    have a1 := HX.out.2.ad.2
    have sx0 := HX.out.2.nn.1
    have sx1 := HX.out.2.nn.2
    have vx0 := HX.out.2.vv.1
    have vx1 := HX.out.2.vv.2
    have b0 := HY.out.2.ad.1
    have b1 := HY.out.2.ad.2
    have sy0 := HY.out.2.nn.1
    have sy1 := HY.out.2.nn.2
    have vy0 := HY.out.2.vv.1
    have vy1 := HY.out.2.vv.2
    dsimp only at a0 a1 sx0 sx1 vx0 vx1 b0 b1 sy0 sy1 vy0 vy1
    dsimp only [OpV.cells] at HT
    have hrow := HT.out.d.kept.row HROW.out (by simp)
    have g0 : wc.cell? ⟨N, 0, none⟩ = some (.slice A s.ram.length c) := row_cell hrow 0 _ rfl
    have x1 := row_cell HT.out.x 1 (.int .u64 ax) rfl
    have y1 := row_cell HT.out.y 1 (.int .u64 ay) rfl
    have x4 : wc.frozen? ⟨MX, 1, none⟩ = false := frozen_of_row wc MX 1 _ 54 HT.out.x
    have y4 : wc.frozen? ⟨MY, 1, none⟩ = false := frozen_of_row wc MY 1 _ 54 HT.out.y
    have ne1 := HT.out.ne
    have ne2 := HT.out.ne.symm
    clear hrow f0 f15
    obtain ⟨a, ha⟩ : ∃ a : Nat, ax.tmod (s.ram.length : Int) = (a : Int) := ⟨(ax.tmod (s.ram.length : Int)).toNat, (Int.toNat_of_nonneg (Int.tmod_nonneg _ a0)).symm⟩
    have ha2 : a < s.ram.length := by
      have := Int.tmod_lt_of_pos ax (show (0 : Int) < (s.ram.length : Int) by omega)
      omega
    obtain ⟨b, hb⟩ : ∃ b : Nat, ay.tmod (s.ram.length : Int) = (b : Int) := ⟨(ay.tmod (s.ram.length : Int)).toNat, (Int.toNat_of_nonneg (Int.tmod_nonneg _ b0)).symm⟩
    have hb2 : b < s.ram.length := by
      have := Int.tmod_lt_of_pos ay (show (0 : Int) < (s.ram.length : Int) by omega)
      omega
    have hm0 : ¬ ((s.ram.length : Int) = 0) := by omega
    go_upto_region 12 with fail
    have HTa := Lib.hid ((HT.out.setx 1 (.int .u64 (2147483648 + (a : Int)))).sety 1 (.int .u64 (2147483648 + (b : Int))))
    clear x1 y1 x4 y4 g0 HT ha hb
    generalize ((wc.setCell ⟨MX, 1, none⟩ (.int .u64 (2147483648 + (a : Int)))).setCell ⟨MY, 1, none⟩ (.int .u64 (2147483648 + (b : Int)))) = wd at *
    have HAL : ∀ u, Hid (Calls Try.prog 31 #[.int .u64 (2147483648 + (a : Int)), .int .i64 xn] u fun e w' => e = .returned (.bool (alignedB (2147483648 + (a : Int)) xn)) ∧ u = w') := fun u => Lib.hid (aligned_any u _ xn (by omega) (by omega))
    have hc1 : (#[Value.int .i64 kx, .int .u64 ax, .int .i64 xn, .int .u64 xv, vbx, .bool tx, .bool ex, .bool sx, vwx].setIfInBounds 1 (.int .u64 (2147483648 + (a : Int)))) = #[.int .i64 kx, .int .u64 (2147483648 + (a : Int)), .int .i64 xn, .int .u64 xv, vbx, .bool tx, .bool ex, .bool sx, vwx] := rfl
    have hc2 : (#[Value.int .i64 ky, .int .u64 ay, .int .i64 yn, .int .u64 yv, vby, .bool ty, .bool ey, .bool sy, vwy].setIfInBounds 1 (.int .u64 (2147483648 + (b : Int)))) = #[.int .i64 ky, .int .u64 (2147483648 + (b : Int)), .int .i64 yn, .int .u64 yv, vby, .bool ty, .bool ey, .bool sy, vwy] := rfl
    rw [hc1, hc2] at HTa
    have x1 := row_cell HTa.out.x 1 (.int .u64 (2147483648 + (a : Int))) rfl
    have x2 := row_cell HTa.out.x 2 (.int .i64 xn) rfl
    have x3 := row_cell HTa.out.x 3 (.int .u64 xv) rfl
    have y1 := row_cell HTa.out.y 1 (.int .u64 (2147483648 + (b : Int))) rfl
    have y2 := row_cell HTa.out.y 2 (.int .i64 yn) rfl
    have y3 := row_cell HTa.out.y 3 (.int .u64 yv) rfl
    have HY' := Lib.hid (show ∀ fy : Bool, (fy = true ↔ (alignedB (2147483648 + (b : Int)) yn = true ∧ (b : Int) + yn ≤ s.ram.length)) → (fy = true ↔ (alignedB (2147483648 + (b : Int)) yn = true ∧ (b : Int) + yn ≤ s.ram.length)) from fun _ h => h)
    clear hc1 hc2 HX HY ne1 ne2
    have HKW := Lib.hid (show ∀ (W : World), Kept [] w1 W → Kept [] w W from fun W h => HK.out.trans h (by simp))
    by_cases hxi : alignedB (2147483648 + (a : Int)) xn = true ∧ (a : Int) + xn ≤ s.ram.length
    · obtain ⟨sz, rfl, hsz⟩ := mem_nat hxi.1
      have HALV := Lib.hid hxi.1
      have b9 : decide (2147483648 + (a : Int) - 2147483648 + (sz : Int) ≤ (s.ram.length : Int)) = true := decide_eq_true (by have := hxi.2; omega)
      by_cases hyi : alignedB (2147483648 + (b : Int)) yn = true ∧ (b : Int) + yn ≤ s.ram.length
      · obtain ⟨szy, rfl, hsy⟩ := mem_nat hyi.1
        by_cases hl : (a : Int) < b + (szy : Int)
        · by_cases hr : (b : Int) < a + (sz : Int)
          · have e1 : decide ((2147483648 : Int) + (a : Int) < 2147483648 + (b : Int) + (szy : Int)) = true := decide_eq_true (by omega)
            have e2 : decide ((2147483648 : Int) + (b : Int) < 2147483648 + (a : Int) + (sz : Int)) = true := decide_eq_true (by omega)
            obtain ⟨v, s1, s2, t1, t2, hA, hv, hv0⟩ := apart_of HSOK.out a b (sz : Int) xv (szy : Int) yv vx0 vx1 vy0 vy1 true true ⟨fun _ => hxi, fun _ => rfl⟩ ⟨fun _ => hyi, fun _ => rfl⟩
            replace hv := hv rfl
            clear hv0
            have HV := Lib.hid hv
            clear hv
            have HA := Lib.hid hA
            clear hA hyi
            as_aux_lemma =>
            go_upto_region 15 with (first
              | (go_at_call 30; refine (HTa.out.store1 HA.out.o0 (2147483648 + (a : Int)) (sz : Int) xv (by omega) (by omega) sx0 sx1 vx0 vx1 HA.out.x1).mono ?_; rintro e we ⟨rfl, T⟩; clear x1 x2 x3 y1 y2 y3; have x1 := row_cell T.x 1 (.int .u64 (2147483648 + (a : Int))) rfl; have x2 := row_cell T.x 2 (.int .i64 (sz : Int)) rfl; have x3 := row_cell T.x 3 (.int .u64 xv) rfl; have y1 := row_cell T.y 1 (.int .u64 (2147483648 + (b : Int))) rfl; have y2 := row_cell T.y 2 (.int .i64 (szy : Int)) rfl; have y3 := row_cell T.y 3 (.int .u64 yv) rfl; have HTb := Lib.hid T; clear T)
              | (go_at_call 29; refine (HTb.out.load1 HA.out.o1 (2147483648 + (a : Int)) (sz : Int) (by omega) (by omega) sx0 sx1 HA.out.l1).mono ?_; rintro e wf ⟨rfl, T⟩; clear x1 x2 x3 y1 y2 y3; have x1 := row_cell T.x 1 (.int .u64 (2147483648 + (a : Int))) rfl; have x2 := row_cell T.x 2 (.int .i64 (sz : Int)) rfl; have x3 := row_cell T.x 3 (.int .u64 xv) rfl; have y1 := row_cell T.y 1 (.int .u64 (2147483648 + (b : Int))) rfl; have y2 := row_cell T.y 2 (.int .i64 (szy : Int)) rfl; have y3 := row_cell T.y 3 (.int .u64 yv) rfl; have HTc := Lib.hid T; clear T)
              | (go_at_call 31; refine (HAL _).out.mono ?_; rintro e wz ⟨rfl, rfl⟩; rw [HALV.out]))
            go_cut [11, 146] from 19 (fun v11 v146 wx => v11 = .bool true ∧ v146 = .bool false ∧ ∃ nq, wx = wf.drewN nq)
            case first =>
              clear HTa HTb
              rcases hsz with hsx | hsx | hsx | hsx
              · have hz : sz = 1 := hsx
                subst hz
                have hv2 : v = xv % 256 := HV.out
                subst hv2
                go_quiet (fail)
                go_wp2_with fail
                go_meet
                exact ⟨rfl, rfl, _, rfl⟩
              · have hz : sz = 2 := hsx
                subst hz
                have hv2 : v = xv % 65536 := HV.out
                subst hv2
                go_quiet (fail)
                go_wp2_with fail
                go_meet
                exact ⟨rfl, rfl, _, rfl⟩
              · have hz : sz = 4 := hsx
                subst hz
                have hv2 : v = xv % 4294967296 := HV.out
                subst hv2
                go_quiet (fail)
                go_wp2_with fail
                go_meet
                exact ⟨rfl, rfl, _, rfl⟩
              · have hz : sz = 8 := hsx
                subst hz
                have hv2 : v = xv := HV.out.trans (Int.emod_eq_of_lt vx0 (by show xv < 18446744073709551616; omega))
                subst hv2
                go_quiet (fail)
                go_wp2_with fail
                go_meet
                exact ⟨rfl, rfl, _, rfl⟩
            case rest =>
              obtain ⟨rfl, rfl, nq, rfl⟩ := hcut
              replace HTc := Lib.hid (HTc.out.drewN nq)
              generalize wf.drewN nq = wf at *
              clear x1 x2 x3 y1 y2 y3; have x1 := row_cell HTc.out.x 1 (.int .u64 (2147483648 + (a : Int))) rfl; have x2 := row_cell HTc.out.x 2 (.int .i64 (sz : Int)) rfl; have x3 := row_cell HTc.out.x 3 (.int .u64 xv) rfl; have y1 := row_cell HTc.out.y 1 (.int .u64 (2147483648 + (b : Int))) rfl; have y2 := row_cell HTc.out.y 2 (.int .i64 (szy : Int)) rfl; have y3 := row_cell HTc.out.y 3 (.int .u64 yv) rfl
              go_wp2_with (first
                | (go_at_call 30; refine (HTc.out.store1 HA.out.o1 (2147483648 + (b : Int)) (szy : Int) yv (by omega) (by omega) sy0 sy1 vy0 vy1 HA.out.y1).mono ?_; rintro e wg ⟨rfl, T⟩; clear x1 x2 x3 y1 y2 y3; have x1 := row_cell T.x 1 (.int .u64 (2147483648 + (a : Int))) rfl; have x2 := row_cell T.x 2 (.int .i64 (sz : Int)) rfl; have x3 := row_cell T.x 3 (.int .u64 xv) rfl; have y1 := row_cell T.y 1 (.int .u64 (2147483648 + (b : Int))) rfl; have y2 := row_cell T.y 2 (.int .i64 (szy : Int)) rfl; have y3 := row_cell T.y 3 (.int .u64 yv) rfl; have HTd := Lib.hid T; clear T HTc)
                | (go_at_call 30; refine (HTd.out.store2 HA.out.o0 (2147483648 + (b : Int)) (szy : Int) yv (by omega) (by omega) sy0 sy1 vy0 vy1 HA.out.y2).mono ?_; rintro e wh ⟨rfl, T⟩; clear x1 x2 x3 y1 y2 y3; have x1 := row_cell T.x 1 (.int .u64 (2147483648 + (a : Int))) rfl; have x2 := row_cell T.x 2 (.int .i64 (sz : Int)) rfl; have x3 := row_cell T.x 3 (.int .u64 xv) rfl; have y1 := row_cell T.y 1 (.int .u64 (2147483648 + (b : Int))) rfl; have y2 := row_cell T.y 2 (.int .i64 (szy : Int)) rfl; have y3 := row_cell T.y 3 (.int .u64 yv) rfl; have HTe := Lib.hid T; clear T HTd)
                | (go_at_call 30; refine (HTe.out.store2 HA.out.p1 (2147483648 + (a : Int)) (sz : Int) xv (by omega) (by omega) sx0 sx1 vx0 vx1 HA.out.x2).mono ?_; rintro e wi ⟨rfl, T⟩; clear x1 x2 x3 y1 y2 y3; have x1 := row_cell T.x 1 (.int .u64 (2147483648 + (a : Int))) rfl; have x2 := row_cell T.x 2 (.int .i64 (sz : Int)) rfl; have x3 := row_cell T.x 3 (.int .u64 xv) rfl; have y1 := row_cell T.y 1 (.int .u64 (2147483648 + (b : Int))) rfl; have y2 := row_cell T.y 2 (.int .i64 (szy : Int)) rfl; have y3 := row_cell T.y 3 (.int .u64 yv) rfl; have HTf := Lib.hid T; clear T HTe)
                | (go_at_call 20; refine (HTf.out.state1 HA.out.o2).mono ?_; rintro e wj ⟨v1, v2, v3, rfl, h1, h2, h3, T, n1, n2, n3⟩; have HS1 := Lib.hid (And.intro h1 (And.intro h2 h3)); have HN1 := Lib.hid (And.intro n1 (And.intro n2 n3)); have HTg := Lib.hid T; clear T HTf h1 h2 h3 n1 n2 n3)
                | (go_at_call 20; refine (HTg.out.state2 HA.out.p2 HS1.out.1 HS1.out.2.1 HS1.out.2.2 HN1.out.1 HN1.out.2.1 HN1.out.2.2).mono ?_; rintro e wk ⟨q1, q2, q3, rfl, h1, h2, h3, T, g1, g2, g3⟩; have HS2 := Lib.hid (And.intro h1 (And.intro h2 h3)); have HS3 := Lib.hid (And.intro g1 (And.intro g2 g3)); have HTh := Lib.hid T; clear T HTg h1 h2 h3 g1 g2 g3)
                | (go_at_call 19; refine (r_same_rd _ _ _ _ _ _ _ _ HS3.out.1.rd HS3.out.2.1.rd HS3.out.2.2.rd HS2.out.1.rd HS2.out.2.1.rd HS2.out.2.2.rd).mono ?_; rintro e wl ⟨rfl, hbl⟩; have HKE := Lib.hid (HKW.out _ (HTh.out.d.kept.trans (Kept.of_below (F := []) hbl) (by simp))); clear hbl))
              go_ret
              exact ⟨rfl, HKW.out _ HTf.out.d.kept⟩
          · have e1 : decide ((2147483648 : Int) + (a : Int) < 2147483648 + (b : Int) + (szy : Int)) = true := decide_eq_true (by omega)
            have e2 : decide ((2147483648 : Int) + (b : Int) < 2147483648 + (a : Int) + (sz : Int)) = false := decide_eq_false (by omega)
            obtain ⟨v, s1, s2, t1, t2, hA, hv, hv0⟩ := apart_of HSOK.out a b (sz : Int) xv (szy : Int) yv vx0 vx1 vy0 vy1 true true ⟨fun _ => hxi, fun _ => rfl⟩ ⟨fun _ => hyi, fun _ => rfl⟩
            replace hv := hv rfl
            clear hv0
            have HV := Lib.hid hv
            clear hv
            have hq := hA.eq (fun h => absurd h.2.2.2 (by omega))
            subst hq
            have HA := Lib.hid hA
            clear hA hyi
            as_aux_lemma =>
            go_upto_region 15 with (first
              | (go_at_call 30; refine (HTa.out.store1 HA.out.o0 (2147483648 + (a : Int)) (sz : Int) xv (by omega) (by omega) sx0 sx1 vx0 vx1 HA.out.x1).mono ?_; rintro e we ⟨rfl, T⟩; clear x1 x2 x3 y1 y2 y3; have x1 := row_cell T.x 1 (.int .u64 (2147483648 + (a : Int))) rfl; have x2 := row_cell T.x 2 (.int .i64 (sz : Int)) rfl; have x3 := row_cell T.x 3 (.int .u64 xv) rfl; have y1 := row_cell T.y 1 (.int .u64 (2147483648 + (b : Int))) rfl; have y2 := row_cell T.y 2 (.int .i64 (szy : Int)) rfl; have y3 := row_cell T.y 3 (.int .u64 yv) rfl; have HTb := Lib.hid T; clear T)
              | (go_at_call 29; refine (HTb.out.load1 HA.out.o1 (2147483648 + (a : Int)) (sz : Int) (by omega) (by omega) sx0 sx1 HA.out.l1).mono ?_; rintro e wf ⟨rfl, T⟩; clear x1 x2 x3 y1 y2 y3; have x1 := row_cell T.x 1 (.int .u64 (2147483648 + (a : Int))) rfl; have x2 := row_cell T.x 2 (.int .i64 (sz : Int)) rfl; have x3 := row_cell T.x 3 (.int .u64 xv) rfl; have y1 := row_cell T.y 1 (.int .u64 (2147483648 + (b : Int))) rfl; have y2 := row_cell T.y 2 (.int .i64 (szy : Int)) rfl; have y3 := row_cell T.y 3 (.int .u64 yv) rfl; have HTc := Lib.hid T; clear T)
              | (go_at_call 31; refine (HAL _).out.mono ?_; rintro e wz ⟨rfl, rfl⟩; rw [HALV.out]))
            go_cut [11, 146] from 19 (fun v11 v146 wx => v11 = .bool true ∧ v146 = .bool false ∧ ∃ nq, wx = wf.drewN nq)
            case first =>
              clear HTa HTb
              rcases hsz with hsx | hsx | hsx | hsx
              · have hz : sz = 1 := hsx
                subst hz
                have hv2 : v = xv % 256 := HV.out
                subst hv2
                go_quiet (fail)
                go_wp2_with fail
                go_meet
                exact ⟨rfl, rfl, _, rfl⟩
              · have hz : sz = 2 := hsx
                subst hz
                have hv2 : v = xv % 65536 := HV.out
                subst hv2
                go_quiet (fail)
                go_wp2_with fail
                go_meet
                exact ⟨rfl, rfl, _, rfl⟩
              · have hz : sz = 4 := hsx
                subst hz
                have hv2 : v = xv % 4294967296 := HV.out
                subst hv2
                go_quiet (fail)
                go_wp2_with fail
                go_meet
                exact ⟨rfl, rfl, _, rfl⟩
              · have hz : sz = 8 := hsx
                subst hz
                have hv2 : v = xv := HV.out.trans (Int.emod_eq_of_lt vx0 (by show xv < 18446744073709551616; omega))
                subst hv2
                go_quiet (fail)
                go_wp2_with fail
                go_meet
                exact ⟨rfl, rfl, _, rfl⟩
            case rest =>
              obtain ⟨rfl, rfl, nq, rfl⟩ := hcut
              replace HTc := Lib.hid (HTc.out.drewN nq)
              generalize wf.drewN nq = wf at *
              clear x1 x2 x3 y1 y2 y3; have x1 := row_cell HTc.out.x 1 (.int .u64 (2147483648 + (a : Int))) rfl; have x2 := row_cell HTc.out.x 2 (.int .i64 (sz : Int)) rfl; have x3 := row_cell HTc.out.x 3 (.int .u64 xv) rfl; have y1 := row_cell HTc.out.y 1 (.int .u64 (2147483648 + (b : Int))) rfl; have y2 := row_cell HTc.out.y 2 (.int .i64 (szy : Int)) rfl; have y3 := row_cell HTc.out.y 3 (.int .u64 yv) rfl
              go_wp2_with (first
                | (go_at_call 30; refine (HTc.out.store1 HA.out.o1 (2147483648 + (b : Int)) (szy : Int) yv (by omega) (by omega) sy0 sy1 vy0 vy1 HA.out.y1).mono ?_; rintro e wg ⟨rfl, T⟩; clear x1 x2 x3 y1 y2 y3; have x1 := row_cell T.x 1 (.int .u64 (2147483648 + (a : Int))) rfl; have x2 := row_cell T.x 2 (.int .i64 (sz : Int)) rfl; have x3 := row_cell T.x 3 (.int .u64 xv) rfl; have y1 := row_cell T.y 1 (.int .u64 (2147483648 + (b : Int))) rfl; have y2 := row_cell T.y 2 (.int .i64 (szy : Int)) rfl; have y3 := row_cell T.y 3 (.int .u64 yv) rfl; have HTd := Lib.hid T; clear T HTc)
                | (go_at_call 30; refine (HTd.out.store2 HA.out.o0 (2147483648 + (b : Int)) (szy : Int) yv (by omega) (by omega) sy0 sy1 vy0 vy1 HA.out.y2).mono ?_; rintro e wh ⟨rfl, T⟩; clear x1 x2 x3 y1 y2 y3; have x1 := row_cell T.x 1 (.int .u64 (2147483648 + (a : Int))) rfl; have x2 := row_cell T.x 2 (.int .i64 (sz : Int)) rfl; have x3 := row_cell T.x 3 (.int .u64 xv) rfl; have y1 := row_cell T.y 1 (.int .u64 (2147483648 + (b : Int))) rfl; have y2 := row_cell T.y 2 (.int .i64 (szy : Int)) rfl; have y3 := row_cell T.y 3 (.int .u64 yv) rfl; have HTe := Lib.hid T; clear T HTd)
                | (go_at_call 30; refine (HTe.out.store2 HA.out.p1 (2147483648 + (a : Int)) (sz : Int) xv (by omega) (by omega) sx0 sx1 vx0 vx1 HA.out.x2).mono ?_; rintro e wi ⟨rfl, T⟩; clear x1 x2 x3 y1 y2 y3; have x1 := row_cell T.x 1 (.int .u64 (2147483648 + (a : Int))) rfl; have x2 := row_cell T.x 2 (.int .i64 (sz : Int)) rfl; have x3 := row_cell T.x 3 (.int .u64 xv) rfl; have y1 := row_cell T.y 1 (.int .u64 (2147483648 + (b : Int))) rfl; have y2 := row_cell T.y 2 (.int .i64 (szy : Int)) rfl; have y3 := row_cell T.y 3 (.int .u64 yv) rfl; have HTf := Lib.hid T; clear T HTe)
                | (go_at_call 20; refine (HTf.out.state1 HA.out.o2).mono ?_; rintro e wj ⟨v1, v2, v3, rfl, h1, h2, h3, T, n1, n2, n3⟩; have HS1 := Lib.hid (And.intro h1 (And.intro h2 h3)); have HN1 := Lib.hid (And.intro n1 (And.intro n2 n3)); have HTg := Lib.hid T; clear T HTf h1 h2 h3 n1 n2 n3)
                | (go_at_call 20; refine (HTg.out.state2 HA.out.p2 HS1.out.1 HS1.out.2.1 HS1.out.2.2 HN1.out.1 HN1.out.2.1 HN1.out.2.2).mono ?_; rintro e wk ⟨q1, q2, q3, rfl, h1, h2, h3, T, g1, g2, g3⟩; have HS2 := Lib.hid (And.intro h1 (And.intro h2 h3)); have HS3 := Lib.hid (And.intro g1 (And.intro g2 g3)); have HTh := Lib.hid T; clear T HTg h1 h2 h3 g1 g2 g3)
                | (go_at_call 19; refine (r_same_rd _ _ _ _ _ _ _ _ HS3.out.1.rd HS3.out.2.1.rd HS3.out.2.2.rd HS2.out.1.rd HS2.out.2.1.rd HS2.out.2.2.rd).mono ?_; rintro e wl ⟨rfl, hbl⟩; have HKE := Lib.hid (HKW.out _ (HTh.out.d.kept.trans (Kept.of_below (F := []) hbl) (by simp))); clear hbl))
              go_ret
              exact ⟨rfl, HKE.out⟩
        · have e1 : decide ((2147483648 : Int) + (a : Int) < 2147483648 + (b : Int) + (szy : Int)) = false := decide_eq_false (by omega)
          obtain ⟨v, s1, s2, t1, t2, hA, hv, hv0⟩ := apart_of HSOK.out a b (sz : Int) xv (szy : Int) yv vx0 vx1 vy0 vy1 true true ⟨fun _ => hxi, fun _ => rfl⟩ ⟨fun _ => hyi, fun _ => rfl⟩
          replace hv := hv rfl
          clear hv0
          have HV := Lib.hid hv
          clear hv
          have hq := hA.eq (fun h => absurd h.2.2.1 (by omega))
          subst hq
          have HA := Lib.hid hA
          clear hA hyi
          as_aux_lemma =>
          go_upto_region 15 with (first
            | (go_at_call 30; refine (HTa.out.store1 HA.out.o0 (2147483648 + (a : Int)) (sz : Int) xv (by omega) (by omega) sx0 sx1 vx0 vx1 HA.out.x1).mono ?_; rintro e we ⟨rfl, T⟩; clear x1 x2 x3 y1 y2 y3; have x1 := row_cell T.x 1 (.int .u64 (2147483648 + (a : Int))) rfl; have x2 := row_cell T.x 2 (.int .i64 (sz : Int)) rfl; have x3 := row_cell T.x 3 (.int .u64 xv) rfl; have y1 := row_cell T.y 1 (.int .u64 (2147483648 + (b : Int))) rfl; have y2 := row_cell T.y 2 (.int .i64 (szy : Int)) rfl; have y3 := row_cell T.y 3 (.int .u64 yv) rfl; have HTb := Lib.hid T; clear T)
            | (go_at_call 29; refine (HTb.out.load1 HA.out.o1 (2147483648 + (a : Int)) (sz : Int) (by omega) (by omega) sx0 sx1 HA.out.l1).mono ?_; rintro e wf ⟨rfl, T⟩; clear x1 x2 x3 y1 y2 y3; have x1 := row_cell T.x 1 (.int .u64 (2147483648 + (a : Int))) rfl; have x2 := row_cell T.x 2 (.int .i64 (sz : Int)) rfl; have x3 := row_cell T.x 3 (.int .u64 xv) rfl; have y1 := row_cell T.y 1 (.int .u64 (2147483648 + (b : Int))) rfl; have y2 := row_cell T.y 2 (.int .i64 (szy : Int)) rfl; have y3 := row_cell T.y 3 (.int .u64 yv) rfl; have HTc := Lib.hid T; clear T)
            | (go_at_call 31; refine (HAL _).out.mono ?_; rintro e wz ⟨rfl, rfl⟩; rw [HALV.out]))
          go_cut [11, 146] from 19 (fun v11 v146 wx => v11 = .bool true ∧ v146 = .bool false ∧ ∃ nq, wx = wf.drewN nq)
          case first =>
            clear HTa HTb
            rcases hsz with hsx | hsx | hsx | hsx
            · have hz : sz = 1 := hsx
              subst hz
              have hv2 : v = xv % 256 := HV.out
              subst hv2
              go_quiet (fail)
              go_wp2_with fail
              go_meet
              exact ⟨rfl, rfl, _, rfl⟩
            · have hz : sz = 2 := hsx
              subst hz
              have hv2 : v = xv % 65536 := HV.out
              subst hv2
              go_quiet (fail)
              go_wp2_with fail
              go_meet
              exact ⟨rfl, rfl, _, rfl⟩
            · have hz : sz = 4 := hsx
              subst hz
              have hv2 : v = xv % 4294967296 := HV.out
              subst hv2
              go_quiet (fail)
              go_wp2_with fail
              go_meet
              exact ⟨rfl, rfl, _, rfl⟩
            · have hz : sz = 8 := hsx
              subst hz
              have hv2 : v = xv := HV.out.trans (Int.emod_eq_of_lt vx0 (by show xv < 18446744073709551616; omega))
              subst hv2
              go_quiet (fail)
              go_wp2_with fail
              go_meet
              exact ⟨rfl, rfl, _, rfl⟩
          case rest =>
            obtain ⟨rfl, rfl, nq, rfl⟩ := hcut
            replace HTc := Lib.hid (HTc.out.drewN nq)
            generalize wf.drewN nq = wf at *
            clear x1 x2 x3 y1 y2 y3; have x1 := row_cell HTc.out.x 1 (.int .u64 (2147483648 + (a : Int))) rfl; have x2 := row_cell HTc.out.x 2 (.int .i64 (sz : Int)) rfl; have x3 := row_cell HTc.out.x 3 (.int .u64 xv) rfl; have y1 := row_cell HTc.out.y 1 (.int .u64 (2147483648 + (b : Int))) rfl; have y2 := row_cell HTc.out.y 2 (.int .i64 (szy : Int)) rfl; have y3 := row_cell HTc.out.y 3 (.int .u64 yv) rfl
            go_wp2_with (first
              | (go_at_call 30; refine (HTc.out.store1 HA.out.o1 (2147483648 + (b : Int)) (szy : Int) yv (by omega) (by omega) sy0 sy1 vy0 vy1 HA.out.y1).mono ?_; rintro e wg ⟨rfl, T⟩; clear x1 x2 x3 y1 y2 y3; have x1 := row_cell T.x 1 (.int .u64 (2147483648 + (a : Int))) rfl; have x2 := row_cell T.x 2 (.int .i64 (sz : Int)) rfl; have x3 := row_cell T.x 3 (.int .u64 xv) rfl; have y1 := row_cell T.y 1 (.int .u64 (2147483648 + (b : Int))) rfl; have y2 := row_cell T.y 2 (.int .i64 (szy : Int)) rfl; have y3 := row_cell T.y 3 (.int .u64 yv) rfl; have HTd := Lib.hid T; clear T HTc)
              | (go_at_call 30; refine (HTd.out.store2 HA.out.o0 (2147483648 + (b : Int)) (szy : Int) yv (by omega) (by omega) sy0 sy1 vy0 vy1 HA.out.y2).mono ?_; rintro e wh ⟨rfl, T⟩; clear x1 x2 x3 y1 y2 y3; have x1 := row_cell T.x 1 (.int .u64 (2147483648 + (a : Int))) rfl; have x2 := row_cell T.x 2 (.int .i64 (sz : Int)) rfl; have x3 := row_cell T.x 3 (.int .u64 xv) rfl; have y1 := row_cell T.y 1 (.int .u64 (2147483648 + (b : Int))) rfl; have y2 := row_cell T.y 2 (.int .i64 (szy : Int)) rfl; have y3 := row_cell T.y 3 (.int .u64 yv) rfl; have HTe := Lib.hid T; clear T HTd)
              | (go_at_call 30; refine (HTe.out.store2 HA.out.p1 (2147483648 + (a : Int)) (sz : Int) xv (by omega) (by omega) sx0 sx1 vx0 vx1 HA.out.x2).mono ?_; rintro e wi ⟨rfl, T⟩; clear x1 x2 x3 y1 y2 y3; have x1 := row_cell T.x 1 (.int .u64 (2147483648 + (a : Int))) rfl; have x2 := row_cell T.x 2 (.int .i64 (sz : Int)) rfl; have x3 := row_cell T.x 3 (.int .u64 xv) rfl; have y1 := row_cell T.y 1 (.int .u64 (2147483648 + (b : Int))) rfl; have y2 := row_cell T.y 2 (.int .i64 (szy : Int)) rfl; have y3 := row_cell T.y 3 (.int .u64 yv) rfl; have HTf := Lib.hid T; clear T HTe)
              | (go_at_call 20; refine (HTf.out.state1 HA.out.o2).mono ?_; rintro e wj ⟨v1, v2, v3, rfl, h1, h2, h3, T, n1, n2, n3⟩; have HS1 := Lib.hid (And.intro h1 (And.intro h2 h3)); have HN1 := Lib.hid (And.intro n1 (And.intro n2 n3)); have HTg := Lib.hid T; clear T HTf h1 h2 h3 n1 n2 n3)
              | (go_at_call 20; refine (HTg.out.state2 HA.out.p2 HS1.out.1 HS1.out.2.1 HS1.out.2.2 HN1.out.1 HN1.out.2.1 HN1.out.2.2).mono ?_; rintro e wk ⟨q1, q2, q3, rfl, h1, h2, h3, T, g1, g2, g3⟩; have HS2 := Lib.hid (And.intro h1 (And.intro h2 h3)); have HS3 := Lib.hid (And.intro g1 (And.intro g2 g3)); have HTh := Lib.hid T; clear T HTg h1 h2 h3 g1 g2 g3)
              | (go_at_call 19; refine (r_same_rd _ _ _ _ _ _ _ _ HS3.out.1.rd HS3.out.2.1.rd HS3.out.2.2.rd HS2.out.1.rd HS2.out.2.1.rd HS2.out.2.2.rd).mono ?_; rintro e wl ⟨rfl, hbl⟩; have HKE := Lib.hid (HKW.out _ (HTh.out.d.kept.trans (Kept.of_below (F := []) hbl) (by simp))); clear hbl))
            go_ret
            exact ⟨rfl, HKE.out⟩
      · skip
        obtain ⟨v, s1, s2, t1, t2, hA, hv, hv0⟩ := apart_of HSOK.out a b (sz : Int) xv yn yv vx0 vx1 vy0 vy1 true false ⟨fun _ => hxi, fun _ => rfl⟩ (by constructor; (· intro h; cases h); (· intro h; exact absurd h hyi))
        replace hv := hv rfl
        clear hv0
        have HV := Lib.hid hv
        clear hv
        have hq := hA.eq (fun h => absurd h.2.1 (by decide))
        subst hq
        have HA := Lib.hid hA
        clear hA hyi
        as_aux_lemma =>
        go_upto_region 15 with (first
          | (go_at_call 30; refine (HTa.out.store1 HA.out.o0 (2147483648 + (a : Int)) (sz : Int) xv (by omega) (by omega) sx0 sx1 vx0 vx1 HA.out.x1).mono ?_; rintro e we ⟨rfl, T⟩; clear x1 x2 x3 y1 y2 y3; have x1 := row_cell T.x 1 (.int .u64 (2147483648 + (a : Int))) rfl; have x2 := row_cell T.x 2 (.int .i64 (sz : Int)) rfl; have x3 := row_cell T.x 3 (.int .u64 xv) rfl; have y1 := row_cell T.y 1 (.int .u64 (2147483648 + (b : Int))) rfl; have y2 := row_cell T.y 2 (.int .i64 yn) rfl; have y3 := row_cell T.y 3 (.int .u64 yv) rfl; have HTb := Lib.hid T; clear T)
          | (go_at_call 29; refine (HTb.out.load1 HA.out.o1 (2147483648 + (a : Int)) (sz : Int) (by omega) (by omega) sx0 sx1 HA.out.l1).mono ?_; rintro e wf ⟨rfl, T⟩; clear x1 x2 x3 y1 y2 y3; have x1 := row_cell T.x 1 (.int .u64 (2147483648 + (a : Int))) rfl; have x2 := row_cell T.x 2 (.int .i64 (sz : Int)) rfl; have x3 := row_cell T.x 3 (.int .u64 xv) rfl; have y1 := row_cell T.y 1 (.int .u64 (2147483648 + (b : Int))) rfl; have y2 := row_cell T.y 2 (.int .i64 yn) rfl; have y3 := row_cell T.y 3 (.int .u64 yv) rfl; have HTc := Lib.hid T; clear T)
          | (go_at_call 31; refine (HAL _).out.mono ?_; rintro e wz ⟨rfl, rfl⟩; rw [HALV.out]))
        go_cut [11, 146] from 19 (fun v11 v146 wx => v11 = .bool true ∧ v146 = .bool false ∧ ∃ nq, wx = wf.drewN nq)
        case first =>
          clear HTa HTb
          rcases hsz with hsx | hsx | hsx | hsx
          · have hz : sz = 1 := hsx
            subst hz
            have hv2 : v = xv % 256 := HV.out
            subst hv2
            go_quiet (fail)
            go_wp2_with fail
            go_meet
            exact ⟨rfl, rfl, _, rfl⟩
          · have hz : sz = 2 := hsx
            subst hz
            have hv2 : v = xv % 65536 := HV.out
            subst hv2
            go_quiet (fail)
            go_wp2_with fail
            go_meet
            exact ⟨rfl, rfl, _, rfl⟩
          · have hz : sz = 4 := hsx
            subst hz
            have hv2 : v = xv % 4294967296 := HV.out
            subst hv2
            go_quiet (fail)
            go_wp2_with fail
            go_meet
            exact ⟨rfl, rfl, _, rfl⟩
          · have hz : sz = 8 := hsx
            subst hz
            have hv2 : v = xv := HV.out.trans (Int.emod_eq_of_lt vx0 (by show xv < 18446744073709551616; omega))
            subst hv2
            go_quiet (fail)
            go_wp2_with fail
            go_meet
            exact ⟨rfl, rfl, _, rfl⟩
        case rest =>
          obtain ⟨rfl, rfl, nq, rfl⟩ := hcut
          replace HTc := Lib.hid (HTc.out.drewN nq)
          generalize wf.drewN nq = wf at *
          clear x1 x2 x3 y1 y2 y3; have x1 := row_cell HTc.out.x 1 (.int .u64 (2147483648 + (a : Int))) rfl; have x2 := row_cell HTc.out.x 2 (.int .i64 (sz : Int)) rfl; have x3 := row_cell HTc.out.x 3 (.int .u64 xv) rfl; have y1 := row_cell HTc.out.y 1 (.int .u64 (2147483648 + (b : Int))) rfl; have y2 := row_cell HTc.out.y 2 (.int .i64 yn) rfl; have y3 := row_cell HTc.out.y 3 (.int .u64 yv) rfl
          go_wp2_with (first
            | (go_at_call 30; refine (HTc.out.store1 HA.out.o1 (2147483648 + (b : Int)) yn yv (by omega) (by omega) sy0 sy1 vy0 vy1 HA.out.y1).mono ?_; rintro e wg ⟨rfl, T⟩; clear x1 x2 x3 y1 y2 y3; have x1 := row_cell T.x 1 (.int .u64 (2147483648 + (a : Int))) rfl; have x2 := row_cell T.x 2 (.int .i64 (sz : Int)) rfl; have x3 := row_cell T.x 3 (.int .u64 xv) rfl; have y1 := row_cell T.y 1 (.int .u64 (2147483648 + (b : Int))) rfl; have y2 := row_cell T.y 2 (.int .i64 yn) rfl; have y3 := row_cell T.y 3 (.int .u64 yv) rfl; have HTd := Lib.hid T; clear T HTc)
            | (go_at_call 30; refine (HTd.out.store2 HA.out.o0 (2147483648 + (b : Int)) yn yv (by omega) (by omega) sy0 sy1 vy0 vy1 HA.out.y2).mono ?_; rintro e wh ⟨rfl, T⟩; clear x1 x2 x3 y1 y2 y3; have x1 := row_cell T.x 1 (.int .u64 (2147483648 + (a : Int))) rfl; have x2 := row_cell T.x 2 (.int .i64 (sz : Int)) rfl; have x3 := row_cell T.x 3 (.int .u64 xv) rfl; have y1 := row_cell T.y 1 (.int .u64 (2147483648 + (b : Int))) rfl; have y2 := row_cell T.y 2 (.int .i64 yn) rfl; have y3 := row_cell T.y 3 (.int .u64 yv) rfl; have HTe := Lib.hid T; clear T HTd)
            | (go_at_call 30; refine (HTe.out.store2 HA.out.p1 (2147483648 + (a : Int)) (sz : Int) xv (by omega) (by omega) sx0 sx1 vx0 vx1 HA.out.x2).mono ?_; rintro e wi ⟨rfl, T⟩; clear x1 x2 x3 y1 y2 y3; have x1 := row_cell T.x 1 (.int .u64 (2147483648 + (a : Int))) rfl; have x2 := row_cell T.x 2 (.int .i64 (sz : Int)) rfl; have x3 := row_cell T.x 3 (.int .u64 xv) rfl; have y1 := row_cell T.y 1 (.int .u64 (2147483648 + (b : Int))) rfl; have y2 := row_cell T.y 2 (.int .i64 yn) rfl; have y3 := row_cell T.y 3 (.int .u64 yv) rfl; have HTf := Lib.hid T; clear T HTe)
            | (go_at_call 20; refine (HTf.out.state1 HA.out.o2).mono ?_; rintro e wj ⟨v1, v2, v3, rfl, h1, h2, h3, T, n1, n2, n3⟩; have HS1 := Lib.hid (And.intro h1 (And.intro h2 h3)); have HN1 := Lib.hid (And.intro n1 (And.intro n2 n3)); have HTg := Lib.hid T; clear T HTf h1 h2 h3 n1 n2 n3)
            | (go_at_call 20; refine (HTg.out.state2 HA.out.p2 HS1.out.1 HS1.out.2.1 HS1.out.2.2 HN1.out.1 HN1.out.2.1 HN1.out.2.2).mono ?_; rintro e wk ⟨q1, q2, q3, rfl, h1, h2, h3, T, g1, g2, g3⟩; have HS2 := Lib.hid (And.intro h1 (And.intro h2 h3)); have HS3 := Lib.hid (And.intro g1 (And.intro g2 g3)); have HTh := Lib.hid T; clear T HTg h1 h2 h3 g1 g2 g3)
            | (go_at_call 19; refine (r_same_rd _ _ _ _ _ _ _ _ HS3.out.1.rd HS3.out.2.1.rd HS3.out.2.2.rd HS2.out.1.rd HS2.out.2.1.rd HS2.out.2.2.rd).mono ?_; rintro e wl ⟨rfl, hbl⟩; have HKE := Lib.hid (HKW.out _ (HTh.out.d.kept.trans (Kept.of_below (F := []) hbl) (by simp))); clear hbl))
          go_ret
          exact ⟨rfl, HKE.out⟩
    by_cases hal : alignedB (2147483648 + (a : Int)) xn = true
    · obtain ⟨sz, rfl, hsz⟩ := mem_nat hal
      have HALV := Lib.hid hal
      have b9 : decide (2147483648 + (a : Int) - 2147483648 + (sz : Int) ≤ (s.ram.length : Int)) = false := decide_eq_false (fun h => hxi ⟨hal, by omega⟩)
      by_cases hyi : alignedB (2147483648 + (b : Int)) yn = true ∧ (b : Int) + yn ≤ s.ram.length
      · skip
        obtain ⟨v, s1, s2, t1, t2, hA, hv, hv0⟩ := apart_of HSOK.out a b (sz : Int) xv yn yv vx0 vx1 vy0 vy1 false true (by constructor; (· intro h; cases h); (· intro h; exact absurd h hxi)) ⟨fun _ => hyi, fun _ => rfl⟩
        replace hv := hv0 rfl
        subst hv
        clear hv0
        have hq := hA.eq (fun h => absurd h.1 (by decide))
        subst hq
        have HA := Lib.hid hA
        clear hA hyi
        as_aux_lemma =>
        go_upto_region 15 with (first
          | (go_at_call 30; refine (HTa.out.store1 HA.out.o0 (2147483648 + (a : Int)) (sz : Int) xv (by omega) (by omega) sx0 sx1 vx0 vx1 HA.out.x1).mono ?_; rintro e we ⟨rfl, T⟩; clear x1 x2 x3 y1 y2 y3; have x1 := row_cell T.x 1 (.int .u64 (2147483648 + (a : Int))) rfl; have x2 := row_cell T.x 2 (.int .i64 (sz : Int)) rfl; have x3 := row_cell T.x 3 (.int .u64 xv) rfl; have y1 := row_cell T.y 1 (.int .u64 (2147483648 + (b : Int))) rfl; have y2 := row_cell T.y 2 (.int .i64 yn) rfl; have y3 := row_cell T.y 3 (.int .u64 yv) rfl; have HTb := Lib.hid T; clear T)
          | (go_at_call 29; refine (HTb.out.load1 HA.out.o1 (2147483648 + (a : Int)) (sz : Int) (by omega) (by omega) sx0 sx1 HA.out.l1).mono ?_; rintro e wf ⟨rfl, T⟩; clear x1 x2 x3 y1 y2 y3; have x1 := row_cell T.x 1 (.int .u64 (2147483648 + (a : Int))) rfl; have x2 := row_cell T.x 2 (.int .i64 (sz : Int)) rfl; have x3 := row_cell T.x 3 (.int .u64 xv) rfl; have y1 := row_cell T.y 1 (.int .u64 (2147483648 + (b : Int))) rfl; have y2 := row_cell T.y 2 (.int .i64 yn) rfl; have y3 := row_cell T.y 3 (.int .u64 yv) rfl; have HTc := Lib.hid T; clear T)
          | (go_at_call 31; refine (HAL _).out.mono ?_; rintro e wz ⟨rfl, rfl⟩; rw [HALV.out]))
        go_cut [11, 146] from 19 (fun v11 v146 wx => v11 = .bool false ∧ v146 = .bool false ∧ ∃ nq, wx = wf.drewN nq)
        case first =>
          go_quiet (fail)
          go_wp2_with fail
          go_meet
          exact ⟨rfl, rfl, _, rfl⟩
        case rest =>
          obtain ⟨rfl, rfl, nq, rfl⟩ := hcut
          replace HTc := Lib.hid (HTc.out.drewN nq)
          generalize wf.drewN nq = wf at *
          clear x1 x2 x3 y1 y2 y3; have x1 := row_cell HTc.out.x 1 (.int .u64 (2147483648 + (a : Int))) rfl; have x2 := row_cell HTc.out.x 2 (.int .i64 (sz : Int)) rfl; have x3 := row_cell HTc.out.x 3 (.int .u64 xv) rfl; have y1 := row_cell HTc.out.y 1 (.int .u64 (2147483648 + (b : Int))) rfl; have y2 := row_cell HTc.out.y 2 (.int .i64 yn) rfl; have y3 := row_cell HTc.out.y 3 (.int .u64 yv) rfl
          go_wp2_with (first
            | (go_at_call 30; refine (HTc.out.store1 HA.out.o1 (2147483648 + (b : Int)) yn yv (by omega) (by omega) sy0 sy1 vy0 vy1 HA.out.y1).mono ?_; rintro e wg ⟨rfl, T⟩; clear x1 x2 x3 y1 y2 y3; have x1 := row_cell T.x 1 (.int .u64 (2147483648 + (a : Int))) rfl; have x2 := row_cell T.x 2 (.int .i64 (sz : Int)) rfl; have x3 := row_cell T.x 3 (.int .u64 xv) rfl; have y1 := row_cell T.y 1 (.int .u64 (2147483648 + (b : Int))) rfl; have y2 := row_cell T.y 2 (.int .i64 yn) rfl; have y3 := row_cell T.y 3 (.int .u64 yv) rfl; have HTd := Lib.hid T; clear T HTc)
            | (go_at_call 30; refine (HTd.out.store2 HA.out.o0 (2147483648 + (b : Int)) yn yv (by omega) (by omega) sy0 sy1 vy0 vy1 HA.out.y2).mono ?_; rintro e wh ⟨rfl, T⟩; clear x1 x2 x3 y1 y2 y3; have x1 := row_cell T.x 1 (.int .u64 (2147483648 + (a : Int))) rfl; have x2 := row_cell T.x 2 (.int .i64 (sz : Int)) rfl; have x3 := row_cell T.x 3 (.int .u64 xv) rfl; have y1 := row_cell T.y 1 (.int .u64 (2147483648 + (b : Int))) rfl; have y2 := row_cell T.y 2 (.int .i64 yn) rfl; have y3 := row_cell T.y 3 (.int .u64 yv) rfl; have HTe := Lib.hid T; clear T HTd)
            | (go_at_call 30; refine (HTe.out.store2 HA.out.p1 (2147483648 + (a : Int)) (sz : Int) xv (by omega) (by omega) sx0 sx1 vx0 vx1 HA.out.x2).mono ?_; rintro e wi ⟨rfl, T⟩; clear x1 x2 x3 y1 y2 y3; have x1 := row_cell T.x 1 (.int .u64 (2147483648 + (a : Int))) rfl; have x2 := row_cell T.x 2 (.int .i64 (sz : Int)) rfl; have x3 := row_cell T.x 3 (.int .u64 xv) rfl; have y1 := row_cell T.y 1 (.int .u64 (2147483648 + (b : Int))) rfl; have y2 := row_cell T.y 2 (.int .i64 yn) rfl; have y3 := row_cell T.y 3 (.int .u64 yv) rfl; have HTf := Lib.hid T; clear T HTe)
            | (go_at_call 20; refine (HTf.out.state1 HA.out.o2).mono ?_; rintro e wj ⟨v1, v2, v3, rfl, h1, h2, h3, T, n1, n2, n3⟩; have HS1 := Lib.hid (And.intro h1 (And.intro h2 h3)); have HN1 := Lib.hid (And.intro n1 (And.intro n2 n3)); have HTg := Lib.hid T; clear T HTf h1 h2 h3 n1 n2 n3)
            | (go_at_call 20; refine (HTg.out.state2 HA.out.p2 HS1.out.1 HS1.out.2.1 HS1.out.2.2 HN1.out.1 HN1.out.2.1 HN1.out.2.2).mono ?_; rintro e wk ⟨q1, q2, q3, rfl, h1, h2, h3, T, g1, g2, g3⟩; have HS2 := Lib.hid (And.intro h1 (And.intro h2 h3)); have HS3 := Lib.hid (And.intro g1 (And.intro g2 g3)); have HTh := Lib.hid T; clear T HTg h1 h2 h3 g1 g2 g3)
            | (go_at_call 19; refine (r_same_rd _ _ _ _ _ _ _ _ HS3.out.1.rd HS3.out.2.1.rd HS3.out.2.2.rd HS2.out.1.rd HS2.out.2.1.rd HS2.out.2.2.rd).mono ?_; rintro e wl ⟨rfl, hbl⟩; have HKE := Lib.hid (HKW.out _ (HTh.out.d.kept.trans (Kept.of_below (F := []) hbl) (by simp))); clear hbl))
          go_ret
          exact ⟨rfl, HKE.out⟩
      · skip
        obtain ⟨v, s1, s2, t1, t2, hA, hv, hv0⟩ := apart_of HSOK.out a b (sz : Int) xv yn yv vx0 vx1 vy0 vy1 false false (by constructor; (· intro h; cases h); (· intro h; exact absurd h hxi)) (by constructor; (· intro h; cases h); (· intro h; exact absurd h hyi))
        replace hv := hv0 rfl
        subst hv
        clear hv0
        have hq := hA.eq (fun h => absurd h.1 (by decide))
        subst hq
        have HA := Lib.hid hA
        clear hA hyi
        as_aux_lemma =>
        go_upto_region 15 with (first
          | (go_at_call 30; refine (HTa.out.store1 HA.out.o0 (2147483648 + (a : Int)) (sz : Int) xv (by omega) (by omega) sx0 sx1 vx0 vx1 HA.out.x1).mono ?_; rintro e we ⟨rfl, T⟩; clear x1 x2 x3 y1 y2 y3; have x1 := row_cell T.x 1 (.int .u64 (2147483648 + (a : Int))) rfl; have x2 := row_cell T.x 2 (.int .i64 (sz : Int)) rfl; have x3 := row_cell T.x 3 (.int .u64 xv) rfl; have y1 := row_cell T.y 1 (.int .u64 (2147483648 + (b : Int))) rfl; have y2 := row_cell T.y 2 (.int .i64 yn) rfl; have y3 := row_cell T.y 3 (.int .u64 yv) rfl; have HTb := Lib.hid T; clear T)
          | (go_at_call 29; refine (HTb.out.load1 HA.out.o1 (2147483648 + (a : Int)) (sz : Int) (by omega) (by omega) sx0 sx1 HA.out.l1).mono ?_; rintro e wf ⟨rfl, T⟩; clear x1 x2 x3 y1 y2 y3; have x1 := row_cell T.x 1 (.int .u64 (2147483648 + (a : Int))) rfl; have x2 := row_cell T.x 2 (.int .i64 (sz : Int)) rfl; have x3 := row_cell T.x 3 (.int .u64 xv) rfl; have y1 := row_cell T.y 1 (.int .u64 (2147483648 + (b : Int))) rfl; have y2 := row_cell T.y 2 (.int .i64 yn) rfl; have y3 := row_cell T.y 3 (.int .u64 yv) rfl; have HTc := Lib.hid T; clear T)
          | (go_at_call 31; refine (HAL _).out.mono ?_; rintro e wz ⟨rfl, rfl⟩; rw [HALV.out]))
        go_cut [11, 146] from 19 (fun v11 v146 wx => v11 = .bool false ∧ v146 = .bool false ∧ ∃ nq, wx = wf.drewN nq)
        case first =>
          go_quiet (fail)
          go_wp2_with fail
          go_meet
          exact ⟨rfl, rfl, _, rfl⟩
        case rest =>
          obtain ⟨rfl, rfl, nq, rfl⟩ := hcut
          replace HTc := Lib.hid (HTc.out.drewN nq)
          generalize wf.drewN nq = wf at *
          clear x1 x2 x3 y1 y2 y3; have x1 := row_cell HTc.out.x 1 (.int .u64 (2147483648 + (a : Int))) rfl; have x2 := row_cell HTc.out.x 2 (.int .i64 (sz : Int)) rfl; have x3 := row_cell HTc.out.x 3 (.int .u64 xv) rfl; have y1 := row_cell HTc.out.y 1 (.int .u64 (2147483648 + (b : Int))) rfl; have y2 := row_cell HTc.out.y 2 (.int .i64 yn) rfl; have y3 := row_cell HTc.out.y 3 (.int .u64 yv) rfl
          go_wp2_with (first
            | (go_at_call 30; refine (HTc.out.store1 HA.out.o1 (2147483648 + (b : Int)) yn yv (by omega) (by omega) sy0 sy1 vy0 vy1 HA.out.y1).mono ?_; rintro e wg ⟨rfl, T⟩; clear x1 x2 x3 y1 y2 y3; have x1 := row_cell T.x 1 (.int .u64 (2147483648 + (a : Int))) rfl; have x2 := row_cell T.x 2 (.int .i64 (sz : Int)) rfl; have x3 := row_cell T.x 3 (.int .u64 xv) rfl; have y1 := row_cell T.y 1 (.int .u64 (2147483648 + (b : Int))) rfl; have y2 := row_cell T.y 2 (.int .i64 yn) rfl; have y3 := row_cell T.y 3 (.int .u64 yv) rfl; have HTd := Lib.hid T; clear T HTc)
            | (go_at_call 30; refine (HTd.out.store2 HA.out.o0 (2147483648 + (b : Int)) yn yv (by omega) (by omega) sy0 sy1 vy0 vy1 HA.out.y2).mono ?_; rintro e wh ⟨rfl, T⟩; clear x1 x2 x3 y1 y2 y3; have x1 := row_cell T.x 1 (.int .u64 (2147483648 + (a : Int))) rfl; have x2 := row_cell T.x 2 (.int .i64 (sz : Int)) rfl; have x3 := row_cell T.x 3 (.int .u64 xv) rfl; have y1 := row_cell T.y 1 (.int .u64 (2147483648 + (b : Int))) rfl; have y2 := row_cell T.y 2 (.int .i64 yn) rfl; have y3 := row_cell T.y 3 (.int .u64 yv) rfl; have HTe := Lib.hid T; clear T HTd)
            | (go_at_call 30; refine (HTe.out.store2 HA.out.p1 (2147483648 + (a : Int)) (sz : Int) xv (by omega) (by omega) sx0 sx1 vx0 vx1 HA.out.x2).mono ?_; rintro e wi ⟨rfl, T⟩; clear x1 x2 x3 y1 y2 y3; have x1 := row_cell T.x 1 (.int .u64 (2147483648 + (a : Int))) rfl; have x2 := row_cell T.x 2 (.int .i64 (sz : Int)) rfl; have x3 := row_cell T.x 3 (.int .u64 xv) rfl; have y1 := row_cell T.y 1 (.int .u64 (2147483648 + (b : Int))) rfl; have y2 := row_cell T.y 2 (.int .i64 yn) rfl; have y3 := row_cell T.y 3 (.int .u64 yv) rfl; have HTf := Lib.hid T; clear T HTe)
            | (go_at_call 20; refine (HTf.out.state1 HA.out.o2).mono ?_; rintro e wj ⟨v1, v2, v3, rfl, h1, h2, h3, T, n1, n2, n3⟩; have HS1 := Lib.hid (And.intro h1 (And.intro h2 h3)); have HN1 := Lib.hid (And.intro n1 (And.intro n2 n3)); have HTg := Lib.hid T; clear T HTf h1 h2 h3 n1 n2 n3)
            | (go_at_call 20; refine (HTg.out.state2 HA.out.p2 HS1.out.1 HS1.out.2.1 HS1.out.2.2 HN1.out.1 HN1.out.2.1 HN1.out.2.2).mono ?_; rintro e wk ⟨q1, q2, q3, rfl, h1, h2, h3, T, g1, g2, g3⟩; have HS2 := Lib.hid (And.intro h1 (And.intro h2 h3)); have HS3 := Lib.hid (And.intro g1 (And.intro g2 g3)); have HTh := Lib.hid T; clear T HTg h1 h2 h3 g1 g2 g3)
            | (go_at_call 19; refine (r_same_rd _ _ _ _ _ _ _ _ HS3.out.1.rd HS3.out.2.1.rd HS3.out.2.2.rd HS2.out.1.rd HS2.out.2.1.rd HS2.out.2.2.rd).mono ?_; rintro e wl ⟨rfl, hbl⟩; have HKE := Lib.hid (HKW.out _ (HTh.out.d.kept.trans (Kept.of_below (F := []) hbl) (by simp))); clear hbl))
          go_ret
          exact ⟨rfl, HKE.out⟩
    have hal' : alignedB (2147483648 + (a : Int)) xn = false := by simpa using hal
    have HALV := Lib.hid hal'
    by_cases hyi : alignedB (2147483648 + (b : Int)) yn = true ∧ (b : Int) + yn ≤ s.ram.length
    · skip
      obtain ⟨v, s1, s2, t1, t2, hA, hv, hv0⟩ := apart_of HSOK.out a b xn xv yn yv vx0 vx1 vy0 vy1 false true (by constructor; (· intro h; cases h); (· intro h; exact absurd h hxi)) ⟨fun _ => hyi, fun _ => rfl⟩
      replace hv := hv0 rfl
      subst hv
      clear hv0
      have hq := hA.eq (fun h => absurd h.1 (by decide))
      subst hq
      have HA := Lib.hid hA
      clear hA hyi
      as_aux_lemma =>
      go_upto_region 15 with (first
        | (go_at_call 30; refine (HTa.out.store1 HA.out.o0 (2147483648 + (a : Int)) xn xv (by omega) (by omega) sx0 sx1 vx0 vx1 HA.out.x1).mono ?_; rintro e we ⟨rfl, T⟩; clear x1 x2 x3 y1 y2 y3; have x1 := row_cell T.x 1 (.int .u64 (2147483648 + (a : Int))) rfl; have x2 := row_cell T.x 2 (.int .i64 xn) rfl; have x3 := row_cell T.x 3 (.int .u64 xv) rfl; have y1 := row_cell T.y 1 (.int .u64 (2147483648 + (b : Int))) rfl; have y2 := row_cell T.y 2 (.int .i64 yn) rfl; have y3 := row_cell T.y 3 (.int .u64 yv) rfl; have HTb := Lib.hid T; clear T)
        | (go_at_call 29; refine (HTb.out.load1 HA.out.o1 (2147483648 + (a : Int)) xn (by omega) (by omega) sx0 sx1 HA.out.l1).mono ?_; rintro e wf ⟨rfl, T⟩; clear x1 x2 x3 y1 y2 y3; have x1 := row_cell T.x 1 (.int .u64 (2147483648 + (a : Int))) rfl; have x2 := row_cell T.x 2 (.int .i64 xn) rfl; have x3 := row_cell T.x 3 (.int .u64 xv) rfl; have y1 := row_cell T.y 1 (.int .u64 (2147483648 + (b : Int))) rfl; have y2 := row_cell T.y 2 (.int .i64 yn) rfl; have y3 := row_cell T.y 3 (.int .u64 yv) rfl; have HTc := Lib.hid T; clear T)
        | (go_at_call 31; refine (HAL _).out.mono ?_; rintro e wz ⟨rfl, rfl⟩; rw [HALV.out]))
      go_cut [11, 146] from 19 (fun v11 v146 wx => v11 = .bool false ∧ v146 = .bool false ∧ ∃ nq, wx = wf.drewN nq)
      case first =>
        go_quiet (fail)
        go_wp2_with fail
        go_meet
        exact ⟨rfl, rfl, _, rfl⟩
      case rest =>
        obtain ⟨rfl, rfl, nq, rfl⟩ := hcut
        replace HTc := Lib.hid (HTc.out.drewN nq)
        generalize wf.drewN nq = wf at *
        clear x1 x2 x3 y1 y2 y3; have x1 := row_cell HTc.out.x 1 (.int .u64 (2147483648 + (a : Int))) rfl; have x2 := row_cell HTc.out.x 2 (.int .i64 xn) rfl; have x3 := row_cell HTc.out.x 3 (.int .u64 xv) rfl; have y1 := row_cell HTc.out.y 1 (.int .u64 (2147483648 + (b : Int))) rfl; have y2 := row_cell HTc.out.y 2 (.int .i64 yn) rfl; have y3 := row_cell HTc.out.y 3 (.int .u64 yv) rfl
        go_wp2_with (first
          | (go_at_call 30; refine (HTc.out.store1 HA.out.o1 (2147483648 + (b : Int)) yn yv (by omega) (by omega) sy0 sy1 vy0 vy1 HA.out.y1).mono ?_; rintro e wg ⟨rfl, T⟩; clear x1 x2 x3 y1 y2 y3; have x1 := row_cell T.x 1 (.int .u64 (2147483648 + (a : Int))) rfl; have x2 := row_cell T.x 2 (.int .i64 xn) rfl; have x3 := row_cell T.x 3 (.int .u64 xv) rfl; have y1 := row_cell T.y 1 (.int .u64 (2147483648 + (b : Int))) rfl; have y2 := row_cell T.y 2 (.int .i64 yn) rfl; have y3 := row_cell T.y 3 (.int .u64 yv) rfl; have HTd := Lib.hid T; clear T HTc)
          | (go_at_call 30; refine (HTd.out.store2 HA.out.o0 (2147483648 + (b : Int)) yn yv (by omega) (by omega) sy0 sy1 vy0 vy1 HA.out.y2).mono ?_; rintro e wh ⟨rfl, T⟩; clear x1 x2 x3 y1 y2 y3; have x1 := row_cell T.x 1 (.int .u64 (2147483648 + (a : Int))) rfl; have x2 := row_cell T.x 2 (.int .i64 xn) rfl; have x3 := row_cell T.x 3 (.int .u64 xv) rfl; have y1 := row_cell T.y 1 (.int .u64 (2147483648 + (b : Int))) rfl; have y2 := row_cell T.y 2 (.int .i64 yn) rfl; have y3 := row_cell T.y 3 (.int .u64 yv) rfl; have HTe := Lib.hid T; clear T HTd)
          | (go_at_call 30; refine (HTe.out.store2 HA.out.p1 (2147483648 + (a : Int)) xn xv (by omega) (by omega) sx0 sx1 vx0 vx1 HA.out.x2).mono ?_; rintro e wi ⟨rfl, T⟩; clear x1 x2 x3 y1 y2 y3; have x1 := row_cell T.x 1 (.int .u64 (2147483648 + (a : Int))) rfl; have x2 := row_cell T.x 2 (.int .i64 xn) rfl; have x3 := row_cell T.x 3 (.int .u64 xv) rfl; have y1 := row_cell T.y 1 (.int .u64 (2147483648 + (b : Int))) rfl; have y2 := row_cell T.y 2 (.int .i64 yn) rfl; have y3 := row_cell T.y 3 (.int .u64 yv) rfl; have HTf := Lib.hid T; clear T HTe)
          | (go_at_call 20; refine (HTf.out.state1 HA.out.o2).mono ?_; rintro e wj ⟨v1, v2, v3, rfl, h1, h2, h3, T, n1, n2, n3⟩; have HS1 := Lib.hid (And.intro h1 (And.intro h2 h3)); have HN1 := Lib.hid (And.intro n1 (And.intro n2 n3)); have HTg := Lib.hid T; clear T HTf h1 h2 h3 n1 n2 n3)
          | (go_at_call 20; refine (HTg.out.state2 HA.out.p2 HS1.out.1 HS1.out.2.1 HS1.out.2.2 HN1.out.1 HN1.out.2.1 HN1.out.2.2).mono ?_; rintro e wk ⟨q1, q2, q3, rfl, h1, h2, h3, T, g1, g2, g3⟩; have HS2 := Lib.hid (And.intro h1 (And.intro h2 h3)); have HS3 := Lib.hid (And.intro g1 (And.intro g2 g3)); have HTh := Lib.hid T; clear T HTg h1 h2 h3 g1 g2 g3)
          | (go_at_call 19; refine (r_same_rd _ _ _ _ _ _ _ _ HS3.out.1.rd HS3.out.2.1.rd HS3.out.2.2.rd HS2.out.1.rd HS2.out.2.1.rd HS2.out.2.2.rd).mono ?_; rintro e wl ⟨rfl, hbl⟩; have HKE := Lib.hid (HKW.out _ (HTh.out.d.kept.trans (Kept.of_below (F := []) hbl) (by simp))); clear hbl))
        go_ret
        exact ⟨rfl, HKE.out⟩
    · skip
      obtain ⟨v, s1, s2, t1, t2, hA, hv, hv0⟩ := apart_of HSOK.out a b xn xv yn yv vx0 vx1 vy0 vy1 false false (by constructor; (· intro h; cases h); (· intro h; exact absurd h hxi)) (by constructor; (· intro h; cases h); (· intro h; exact absurd h hyi))
      replace hv := hv0 rfl
      subst hv
      clear hv0
      have hq := hA.eq (fun h => absurd h.1 (by decide))
      subst hq
      have HA := Lib.hid hA
      clear hA hyi
      as_aux_lemma =>
      go_upto_region 15 with (first
        | (go_at_call 30; refine (HTa.out.store1 HA.out.o0 (2147483648 + (a : Int)) xn xv (by omega) (by omega) sx0 sx1 vx0 vx1 HA.out.x1).mono ?_; rintro e we ⟨rfl, T⟩; clear x1 x2 x3 y1 y2 y3; have x1 := row_cell T.x 1 (.int .u64 (2147483648 + (a : Int))) rfl; have x2 := row_cell T.x 2 (.int .i64 xn) rfl; have x3 := row_cell T.x 3 (.int .u64 xv) rfl; have y1 := row_cell T.y 1 (.int .u64 (2147483648 + (b : Int))) rfl; have y2 := row_cell T.y 2 (.int .i64 yn) rfl; have y3 := row_cell T.y 3 (.int .u64 yv) rfl; have HTb := Lib.hid T; clear T)
        | (go_at_call 29; refine (HTb.out.load1 HA.out.o1 (2147483648 + (a : Int)) xn (by omega) (by omega) sx0 sx1 HA.out.l1).mono ?_; rintro e wf ⟨rfl, T⟩; clear x1 x2 x3 y1 y2 y3; have x1 := row_cell T.x 1 (.int .u64 (2147483648 + (a : Int))) rfl; have x2 := row_cell T.x 2 (.int .i64 xn) rfl; have x3 := row_cell T.x 3 (.int .u64 xv) rfl; have y1 := row_cell T.y 1 (.int .u64 (2147483648 + (b : Int))) rfl; have y2 := row_cell T.y 2 (.int .i64 yn) rfl; have y3 := row_cell T.y 3 (.int .u64 yv) rfl; have HTc := Lib.hid T; clear T)
        | (go_at_call 31; refine (HAL _).out.mono ?_; rintro e wz ⟨rfl, rfl⟩; rw [HALV.out]))
      go_cut [11, 146] from 19 (fun v11 v146 wx => v11 = .bool false ∧ v146 = .bool false ∧ ∃ nq, wx = wf.drewN nq)
      case first =>
        go_quiet (fail)
        go_wp2_with fail
        go_meet
        exact ⟨rfl, rfl, _, rfl⟩
      case rest =>
        obtain ⟨rfl, rfl, nq, rfl⟩ := hcut
        replace HTc := Lib.hid (HTc.out.drewN nq)
        generalize wf.drewN nq = wf at *
        clear x1 x2 x3 y1 y2 y3; have x1 := row_cell HTc.out.x 1 (.int .u64 (2147483648 + (a : Int))) rfl; have x2 := row_cell HTc.out.x 2 (.int .i64 xn) rfl; have x3 := row_cell HTc.out.x 3 (.int .u64 xv) rfl; have y1 := row_cell HTc.out.y 1 (.int .u64 (2147483648 + (b : Int))) rfl; have y2 := row_cell HTc.out.y 2 (.int .i64 yn) rfl; have y3 := row_cell HTc.out.y 3 (.int .u64 yv) rfl
        go_wp2_with (first
          | (go_at_call 30; refine (HTc.out.store1 HA.out.o1 (2147483648 + (b : Int)) yn yv (by omega) (by omega) sy0 sy1 vy0 vy1 HA.out.y1).mono ?_; rintro e wg ⟨rfl, T⟩; clear x1 x2 x3 y1 y2 y3; have x1 := row_cell T.x 1 (.int .u64 (2147483648 + (a : Int))) rfl; have x2 := row_cell T.x 2 (.int .i64 xn) rfl; have x3 := row_cell T.x 3 (.int .u64 xv) rfl; have y1 := row_cell T.y 1 (.int .u64 (2147483648 + (b : Int))) rfl; have y2 := row_cell T.y 2 (.int .i64 yn) rfl; have y3 := row_cell T.y 3 (.int .u64 yv) rfl; have HTd := Lib.hid T; clear T HTc)
          | (go_at_call 30; refine (HTd.out.store2 HA.out.o0 (2147483648 + (b : Int)) yn yv (by omega) (by omega) sy0 sy1 vy0 vy1 HA.out.y2).mono ?_; rintro e wh ⟨rfl, T⟩; clear x1 x2 x3 y1 y2 y3; have x1 := row_cell T.x 1 (.int .u64 (2147483648 + (a : Int))) rfl; have x2 := row_cell T.x 2 (.int .i64 xn) rfl; have x3 := row_cell T.x 3 (.int .u64 xv) rfl; have y1 := row_cell T.y 1 (.int .u64 (2147483648 + (b : Int))) rfl; have y2 := row_cell T.y 2 (.int .i64 yn) rfl; have y3 := row_cell T.y 3 (.int .u64 yv) rfl; have HTe := Lib.hid T; clear T HTd)
          | (go_at_call 30; refine (HTe.out.store2 HA.out.p1 (2147483648 + (a : Int)) xn xv (by omega) (by omega) sx0 sx1 vx0 vx1 HA.out.x2).mono ?_; rintro e wi ⟨rfl, T⟩; clear x1 x2 x3 y1 y2 y3; have x1 := row_cell T.x 1 (.int .u64 (2147483648 + (a : Int))) rfl; have x2 := row_cell T.x 2 (.int .i64 xn) rfl; have x3 := row_cell T.x 3 (.int .u64 xv) rfl; have y1 := row_cell T.y 1 (.int .u64 (2147483648 + (b : Int))) rfl; have y2 := row_cell T.y 2 (.int .i64 yn) rfl; have y3 := row_cell T.y 3 (.int .u64 yv) rfl; have HTf := Lib.hid T; clear T HTe)
          | (go_at_call 20; refine (HTf.out.state1 HA.out.o2).mono ?_; rintro e wj ⟨v1, v2, v3, rfl, h1, h2, h3, T, n1, n2, n3⟩; have HS1 := Lib.hid (And.intro h1 (And.intro h2 h3)); have HN1 := Lib.hid (And.intro n1 (And.intro n2 n3)); have HTg := Lib.hid T; clear T HTf h1 h2 h3 n1 n2 n3)
          | (go_at_call 20; refine (HTg.out.state2 HA.out.p2 HS1.out.1 HS1.out.2.1 HS1.out.2.2 HN1.out.1 HN1.out.2.1 HN1.out.2.2).mono ?_; rintro e wk ⟨q1, q2, q3, rfl, h1, h2, h3, T, g1, g2, g3⟩; have HS2 := Lib.hid (And.intro h1 (And.intro h2 h3)); have HS3 := Lib.hid (And.intro g1 (And.intro g2 g3)); have HTh := Lib.hid T; clear T HTg h1 h2 h3 g1 g2 g3)
          | (go_at_call 19; refine (r_same_rd _ _ _ _ _ _ _ _ HS3.out.1.rd HS3.out.2.1.rd HS3.out.2.2.rd HS2.out.1.rd HS2.out.2.1.rd HS2.out.2.2.rd).mono ?_; rintro e wl ⟨rfl, hbl⟩; have HKE := Lib.hid (HKW.out _ (HTh.out.d.kept.trans (Kept.of_below (F := []) hbl) (by simp))); clear hbl))
        go_ret
        exact ⟨rfl, HKE.out⟩
theorem law_BusApart (w : World) (s : St) (hs : s.In) (v1 v2 v3 vops : Value) (ops : List OpV) (h1 : Rd w v1 s.ram) (h2 : Rd w v2 s.inp) (h3 : Rd w v3 s.out) (ho : OpsAt w vops ops) :
    Calls Try.prog 6 #[.agg (yCells v1 v2 v3 s vops)] w (TruePost w) := by
  cases hc : s.canBe
  · exact BusApart_no w s hs v1 v2 v3 vops h1 h2 h3 hc
  · by_cases hn : ops.length < 2
    · obtain ⟨AO, cO, rfl⟩ : ∃ A c, vops = .slice A ops.length c := by
        rcases ho.2 with ⟨rfl, rfl⟩ | ⟨g, off, cap, rfl, _⟩
        · exact ⟨_, _, rfl⟩
        · exact ⟨_, _, rfl⟩
      exact BusApart_short w s hs v1 v2 v3 h1 h2 h3 AO cO _ hn hc
    · exact BusApart_yes w s hs v1 v2 v3 vops ops h1 h2 h3 ho _ _ (List.getElem?_eq_getElem (by omega : 0 < ops.length)) (List.getElem?_eq_getElem (by omega : 1 < ops.length)) hc
end Go.Proofs.Ytkocfcgdjjdnhaa.BW
