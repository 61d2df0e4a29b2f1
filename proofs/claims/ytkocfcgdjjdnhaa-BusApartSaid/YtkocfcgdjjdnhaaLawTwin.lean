/- The law BusApart, its plain parts: what is laid reads back, and two stores apart commute. No condition. -/
import Derived.Test.YtkocfcgdjjdnhaaLawMem
namespace Go.Proofs.Ytkocfcgdjjdnhaa.BW
open Go.RowKit
theorem leVal_leOf : ∀ (n : Nat) (v : Int), leVal (leOf v n) = v % 256 ^ n
  | 0, v => by simp [leOf, leVal, Int.emod_one]
  | n + 1, v => by
    rw [leOf, leVal, leVal_leOf n (v / 256), Int.pow_succ, Int.mul_comm (256 ^ n) 256]
    have h := Int.emod_add_mul_ediv v 256
    have hp : (0 : Int) < 256 ^ n := Int.pow_pos (by decide)
    have h2 := Int.emod_add_mul_ediv (v / 256) (256 ^ n)
    have b1 := Int.emod_nonneg v (show (256 : Int) ≠ 0 by decide)
    have b2 := Int.emod_lt_of_pos v (show (0 : Int) < 256 by decide)
    have b3 := Int.emod_nonneg (v / 256) (Int.ne_of_gt hp)
    have b4 := Int.emod_lt_of_pos (v / 256) hp
    have e : v = (v % 256 + 256 * (v / 256 % 256 ^ n)) + (256 * 256 ^ n) * (v / 256 / 256 ^ n) := by
      rw [Int.mul_assoc, Int.add_assoc, ← Int.mul_add, h2, h]
    have hr : v % (256 * 256 ^ n) = (v % 256 + 256 * (v / 256 % 256 ^ n)) % (256 * 256 ^ n) := by
      conv => lhs; rw [e]
      rw [Int.add_mul_emod_self_left]
    rw [hr]
    exact (Int.emod_eq_of_lt (by omega) (by omega)).symm
theorem lay_get (l : List Int) (a : Nat) (p : List Int) (h : a + p.length ≤ l.length) (i : Nat) : (lay l a p)[i]? = if i < a then l[i]? else if i < a + p.length then p[i - a]? else l[i]? := by
  unfold lay
  by_cases h1 : i < a
  · rw [if_pos h1, List.append_assoc, List.getElem?_append_left (by simp; omega), List.getElem?_take, if_pos h1]
  · rw [if_neg h1]
    by_cases h2 : i < a + p.length
    · rw [if_pos h2, List.getElem?_append_left (by simp; omega), List.getElem?_append_right (by simp; omega)]
      congr 1; simp; omega
    · rw [if_neg h2, List.getElem?_append_right (by simp; omega), List.getElem?_drop]
      congr 1; simp; omega
/-- Two stores that do not meet commute. -/
theorem lay_comm (l : List Int) (a b : Nat) (p q : List Int) (ha : a + p.length ≤ l.length) (hb : b + q.length ≤ l.length) (h : a + p.length ≤ b ∨ b + q.length ≤ a) : lay (lay l a p) b q = lay (lay l b q) a p := by
  apply List.ext_getElem?
  intro i
  rw [lay_get (lay l a p) b q (by rw [lay_length _ _ _ ha]; exact hb), lay_get (lay l b q) a p (by rw [lay_length _ _ _ hb]; exact ha), lay_get l a p ha, lay_get l b q hb]
  repeat' split
  all_goals first | rfl | omega
/-- What was laid reads back. -/
theorem lay_read (l : List Int) (a : Nat) (p : List Int) (h : a + p.length ≤ l.length) : ((lay l a p).drop a).take p.length = p := by
  unfold lay
  rw [List.append_assoc, List.drop_append_of_le_length (by simp; omega), List.drop_take, Nat.sub_self, List.take_zero, List.nil_append, List.take_append_of_le_length (Nat.le_refl _), List.take_length]
/-! ### Two buses of the program side by side (the pattern of PairA's Duo) -/
structure Twin (w0 : World) (X : List Nat) (w : World) (pb rb : Nat) (vr vi vo ur ui uo : Value) (s t : St) : Prop where
  p : PL w pb vr vi vo s
  r : PL w rb ur ui uo t
  pf : ∀ x ∈ foot pb vr vi vo, w0.heap.size ≤ x ∧ x ∉ X
  rf : ∀ x ∈ foot rb ur ui uo, w0.heap.size ≤ x ∧ x ∉ X
  dj : ∀ x ∈ foot pb vr vi vo, x ∉ foot rb ur ui uo
  kept : Kept [] w0 w
  xl : ∀ x ∈ X, x < w.heap.size
def TwinE (w0 : World) (X : List Nat) (w : World) (pb rb : Nat) (s t : St) : Prop := ∃ vr vi vo ur ui uo, Twin w0 X w pb rb vr vi vo ur ui uo s t
section
variable {w0 w w' : World} {X : List Nat} {pb rb : Nat} {vr vi vo ur ui uo vr' vi' vo' : Value} {s t s' t' : St}
theorem Twin.stepP (D : Twin w0 X w pb rb vr vi vo ur ui uo s t) (hp : PL w' pb vr' vi' vo' s') (ht : Turn (foot pb vr vi vo) (foot pb vr' vi' vo') w w') : TwinE w0 X w' pb rb s' t ∧ SameX X w w' := by
  have hz := D.kept.size
  refine ⟨⟨vr', vi', vo', ur, ui, uo, hp, D.r.keep ht.kept (fun x hx hm => D.dj x hm hx), ?_, D.rf, ?_, D.kept.trans ht.kept (fun x hx hl => by have := (D.pf x hx).1; omega), fun x hx => Nat.lt_of_lt_of_le (D.xl x hx) ht.kept.size⟩, ?_⟩
  · intro x hx
    rcases ht.new x hx with h | h
    · exact D.pf x h
    · exact ⟨by omega, fun hm => by have := D.xl x hm; omega⟩
  · intro x hx
    rcases ht.new x hx with h | h
    · exact D.dj x h
    · intro hm; have := D.r.lt x hm; omega
  · intro x hx
    exact ht.kept.block x (D.xl x hx) (fun hm => (D.pf x hm).2 hx)
theorem Twin.stepR (D : Twin w0 X w pb rb vr vi vo ur ui uo s t) (hr : PL w' rb vr' vi' vo' t') (ht : Turn (foot rb ur ui uo) (foot rb vr' vi' vo') w w') : TwinE w0 X w' pb rb s t' ∧ SameX X w w' := by
  have hz := D.kept.size
  refine ⟨⟨vr, vi, vo, vr', vi', vo', D.p.keep ht.kept (fun x hx hm => D.dj x hx hm), hr, D.pf, ?_, ?_, D.kept.trans ht.kept (fun x hx hl => by have := (D.rf x hx).1; omega), fun x hx => Nat.lt_of_lt_of_le (D.xl x hx) ht.kept.size⟩, ?_⟩
  · intro x hx
    rcases ht.new x hx with h | h
    · exact D.rf x h
    · exact ⟨by omega, fun hm => by have := D.xl x hm; omega⟩
  · intro x hx hm
    rcases ht.new x hm with h | h
    · exact D.dj x hx h
    · have := D.p.lt x hx; omega
  · intro x hx
    exact ht.kept.block x (D.xl x hx) (fun hm => (D.rf x hm).2 hx)
theorem Twin.keep (D : Twin w0 X w pb rb vr vi vo ur ui uo s t) (hk : Kept [] w w') : Twin w0 X w' pb rb vr vi vo ur ui uo s t :=
  ⟨D.p.keep0 hk, D.r.keep0 hk, D.pf, D.rf, D.dj, D.kept.trans hk (by simp), fun x hx => Nat.lt_of_lt_of_le (D.xl x hx) hk.size⟩
theorem TwinE.keep (D : TwinE w0 X w pb rb s t) (hk : Kept [] w w') : TwinE w0 X w' pb rb s t ∧ SameX X w w' := by
  obtain ⟨vr, vi, vo, ur, ui, uo, D⟩ := D
  exact ⟨⟨vr, vi, vo, ur, ui, uo, D.keep hk⟩, SameX.of_kept D.xl hk⟩
/-- A block of one's own laid beside them. -/
theorem TwinE.push (D : TwinE w0 X w pb rb s t) (o : Obj) : TwinE w0 (w.heap.size :: X) (w.alloc o) pb rb s t := by
  obtain ⟨vr, vi, vo, ur, ui, uo, D⟩ := D
  have hk : Kept [] w (w.alloc o) := (Kept.refl [] w).alloc o
  refine ⟨vr, vi, vo, ur, ui, uo, D.p.keep0 hk, D.r.keep0 hk, fun x hx => ⟨(D.pf x hx).1, ?_⟩, fun x hx => ⟨(D.rf x hx).1, ?_⟩, D.dj, D.kept.trans hk (by simp), ?_⟩
  · intro hm
    rcases List.mem_cons.mp hm with rfl | hm
    · have := D.p.lt _ hx; omega
    · exact (D.pf x hx).2 hm
  · intro hm
    rcases List.mem_cons.mp hm with rfl | hm
    · have := D.r.lt _ hx; omega
    · exact (D.rf x hx).2 hm
  · intro x hx
    rcases List.mem_cons.mp hx with rfl | hx
    · simp
    · have := D.xl x hx; simp; omega
/-- A block of X written. -/
theorem TwinE.write (D : TwinE w0 X w pb rb s t) {x : Nat} (hx : x ∈ X) (hx0 : w0.heap.size ≤ x) (hk : Kept [x] w w') : TwinE w0 X w' pb rb s t := by
  obtain ⟨vr, vi, vo, ur, ui, uo, D⟩ := D
  exact ⟨vr, vi, vo, ur, ui, uo, D.p.keep hk (fun y hy hm => (D.pf y hy).2 (by simp at hm; rw [hm]; exact hx)), D.r.keep hk (fun y hy hm => (D.rf y hy).2 (by simp at hm; rw [hm]; exact hx)), D.pf, D.rf, D.dj, D.kept.trans hk (fun y hy hl => by simp at hy; omega), fun y hy => Nat.lt_of_lt_of_le (D.xl y hy) hk.size⟩
theorem TwinE.pop {Y : List Nat} (D : TwinE w0 Y w pb rb s t) (h : ∀ x ∈ X, x ∈ Y) : TwinE w0 X w pb rb s t := by
  obtain ⟨vr, vi, vo, ur, ui, uo, D⟩ := D
  exact ⟨vr, vi, vo, ur, ui, uo, D.p, D.r, fun x hx => ⟨(D.pf x hx).1, fun hm => (D.pf x hx).2 (h x hm)⟩, fun x hx => ⟨(D.rf x hx).1, fun hm => (D.rf x hx).2 (h x hm)⟩, D.dj, D.kept, fun x hx => D.xl x (h x hx)⟩
theorem TwinE.kept (D : TwinE w0 X w pb rb s t) : Kept [] w0 w := by obtain ⟨_, _, _, _, _, _, D⟩ := D; exact D.kept
theorem TwinE.xl (D : TwinE w0 X w pb rb s t) : ∀ x ∈ X, x < w.heap.size := by obtain ⟨_, _, _, _, _, _, D⟩ := D; exact D.xl
end
section
variable {w0 w w' : World} {X : List Nat} {pb rb : Nat} {s t : St}
theorem t_store1 (D : TwinE w0 X w pb rb s t) (hs : s.Ok) (addr size v : Int) (a0 : 0 ≤ addr) (a1 : addr ≤ 18446744073709551615) (s0 : -9223372036854775808 ≤ size) (s1 : size ≤ 9223372036854775807) (v0 : 0 ≤ v) (v1 : v ≤ 18446744073709551615) :
    Calls Try.prog 30 #[.pointer (some ⟨pb, 0, none⟩), .int .u64 addr, .int .i64 size, .int .u64 v] w fun e w' => e = .returned (.bool (s.store addr size v).1) ∧ TwinE w0 X w' pb rb (s.store addr size v).2 t ∧ SameX X w w' := by
  obtain ⟨vr, vi, vo, ur, ui, uo, D⟩ := D
  exact (store_any D.p hs addr size v a0 a1 s0 s1 v0 v1).mono fun e w' ⟨vi', vo', he, hp, ht⟩ => ⟨he, D.stepP hp ht⟩
theorem t_store2 (D : TwinE w0 X w pb rb s t) (hs : t.Ok) (addr size v : Int) (a0 : 0 ≤ addr) (a1 : addr ≤ 18446744073709551615) (s0 : -9223372036854775808 ≤ size) (s1 : size ≤ 9223372036854775807) (v0 : 0 ≤ v) (v1 : v ≤ 18446744073709551615) :
    Calls Try.prog 30 #[.pointer (some ⟨rb, 0, none⟩), .int .u64 addr, .int .i64 size, .int .u64 v] w fun e w' => e = .returned (.bool (t.store addr size v).1) ∧ TwinE w0 X w' pb rb s (t.store addr size v).2 ∧ SameX X w w' := by
  obtain ⟨vr, vi, vo, ur, ui, uo, D⟩ := D
  exact (store_any D.r hs addr size v a0 a1 s0 s1 v0 v1).mono fun e w' ⟨vi', vo', he, hp, ht⟩ => ⟨he, D.stepR hp ht⟩
theorem t_load1 (D : TwinE w0 X w pb rb s t) (hs : s.Ok) (addr size : Int) (a0 : 0 ≤ addr) (a1 : addr ≤ 18446744073709551615) (s0 : -9223372036854775808 ≤ size) (s1 : size ≤ 9223372036854775807) :
    Calls Try.prog 29 #[.pointer (some ⟨pb, 0, none⟩), .int .u64 addr, .int .i64 size] w fun e w' => e = .returned (.tuple #[.int .u64 (s.load addr size).1.1, .bool (s.load addr size).1.2]) ∧ TwinE w0 X w' pb rb (s.load addr size).2 t ∧ SameX X w w' := by
  obtain ⟨vr, vi, vo, ur, ui, uo, D⟩ := D
  exact (load_any D.p hs addr size a0 a1 s0 s1).mono fun e w' ⟨vi', he, hp, ht⟩ => ⟨he, D.stepP hp ht⟩
/-- A second one made beside it. -/
theorem SoloE.twin (D : SoloE w0 X w pb s) {e : Ending} (h : MadePost w t e w') : ∃ rb, e = .returned (.tuple #[.pointer (some ⟨rb, 0, none⟩), .bool true]) ∧ TwinE w0 X w' pb rb s t ∧ SameX X w w' := by
  obtain ⟨rb, ur, ui, uo, he, hr, hf, hk⟩ := h
  obtain ⟨vr, vi, vo, D⟩ := D
  have hz := D.kept.size
  exact ⟨rb, he, ⟨vr, vi, vo, ur, ui, uo, D.p.keep0 hk, hr, D.pf, fun x hx => ⟨by have := hf x hx; omega, fun hm => by have := hf x hx; have := D.xl x hm; omega⟩, fun x hx hm => by have := D.p.lt x hx; have := hf x hm; omega, D.kept.trans hk (by simp), fun x hx => Nat.lt_of_lt_of_le (D.xl x hx) hk.size⟩, SameX.of_kept D.xl hk⟩
theorem t_state1 (D : TwinE w0 X w pb rb s t) (hs : s.Ok) :
    Calls Try.prog 20 #[.pointer (some ⟨pb, 0, none⟩)] w fun e w' => ∃ v1 v2 v3, e = .returned (.agg (sCells v1 v2 v3 s)) ∧ Bs w' v1 s.ram ∧ Bs w' v2 s.inp ∧ Bs w' v3 s.out ∧ TwinE w0 X w' pb rb s t ∧ SameX X w w' ∧ (∀ g, v1.ownBlock = some g → w.heap.size ≤ g) ∧ (∀ g, v2.ownBlock = some g → w.heap.size ≤ g) ∧ (∀ g, v3.ownBlock = some g → w.heap.size ≤ g) ∧ Kept [pb] w w' := by
  obtain ⟨vr, vi, vo, ur, ui, uo, D⟩ := D
  refine (state_any D.p hs).mono fun e w' ⟨v1, v2, v3, he, h1, h2, h3, n1, n2, n3, _, _, _, hp, hk⟩ => ?_
  have hD := D.stepP hp (kept_turn hk (foot_self _ _ _ _))
  exact ⟨v1, v2, v3, he, h1, h2, h3, hD.1, hD.2, n1, n2, n3, hk⟩
theorem t_state2 (D : TwinE w0 X w pb rb s t) (hs : t.Ok) :
    Calls Try.prog 20 #[.pointer (some ⟨rb, 0, none⟩)] w fun e w' => ∃ v1 v2 v3, e = .returned (.agg (sCells v1 v2 v3 t)) ∧ Bs w' v1 t.ram ∧ Bs w' v2 t.inp ∧ Bs w' v3 t.out ∧ TwinE w0 X w' pb rb s t ∧ SameX X w w' ∧ (∀ g, v1.ownBlock = some g → w.heap.size ≤ g) ∧ (∀ g, v2.ownBlock = some g → w.heap.size ≤ g) ∧ (∀ g, v3.ownBlock = some g → w.heap.size ≤ g) ∧ Kept [rb] w w' := by
  obtain ⟨vr, vi, vo, ur, ui, uo, D⟩ := D
  refine (state_any D.r hs).mono fun e w' ⟨v1, v2, v3, he, h1, h2, h3, n1, n2, n3, _, _, _, hp, hk⟩ => ?_
  have hD := D.stepR hp (kept_turn hk (foot_self _ _ _ _))
  exact ⟨v1, v2, v3, he, h1, h2, h3, hD.1, hD.2, n1, n2, n3, hk⟩
end
end Go.Proofs.Ytkocfcgdjjdnhaa.BW
