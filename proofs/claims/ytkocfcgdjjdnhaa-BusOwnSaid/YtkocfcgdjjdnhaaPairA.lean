/- Two buses, the program's and the document's, that share nothing: what each method leaves of both. No condition. -/
import Derived.Test.YtkocfcgdjjdnhaaRefH
import Derived.Test.YtkocfcgdjjdnhaaRefL
import Derived.Test.YtkocfcgdjjdnhaaRefN
import Derived.Test.YtkocfcgdjjdnhaaRefP
import Derived.Test.YtkocfcgdjjdnhaaRefQ
import Derived.Test.YtkocfcgdjjdnhaaRefR
namespace Go.Proofs.Ytkocfcgdjjdnhaa.BW
open Go.RowKit
set_option linter.unusedVariables false
set_option linter.unusedSimpArgs false
/-- The program's bus at pb of state s, the document's at rb of state t, in blocks made since w0; the blocks of X are neither's. -/
structure Duo (w0 : World) (X : List Nat) (w : World) (pb rb : Nat) (vr vi vo ur ui uo : Value) (s t : St) : Prop where
  p : PL w pb vr vi vo s
  r : RL w rb ur ui uo t
  pf : ∀ x ∈ foot pb vr vi vo, w0.heap.size ≤ x ∧ x ∉ X
  rf : ∀ x ∈ foot rb ur ui uo, w0.heap.size ≤ x ∧ x ∉ X
  dj : ∀ x ∈ foot pb vr vi vo, x ∉ foot rb ur ui uo
  kept : Kept [] w0 w
  xl : ∀ x ∈ X, x < w.heap.size
def DuoE (w0 : World) (X : List Nat) (w : World) (pb rb : Nat) (s t : St) : Prop := ∃ vr vi vo ur ui uo, Duo w0 X w pb rb vr vi vo ur ui uo s t
def SameX (X : List Nat) (w w' : World) : Prop := ∀ x ∈ X, w'.heap[x]? = w.heap[x]?
theorem SameX.trans {X : List Nat} {a w w' : World} (h : SameX X a w) (k : SameX X w w') : SameX X a w' := fun x hx => (k x hx).trans (h x hx)
section
variable {w0 w w' : World} {X : List Nat} {pb rb : Nat} {vr vi vo ur ui uo vr' vi' vo' : Value} {s t s' t' : St}
theorem Duo.stepP (D : Duo w0 X w pb rb vr vi vo ur ui uo s t) (hp : PL w' pb vr' vi' vo' s') (ht : Turn (foot pb vr vi vo) (foot pb vr' vi' vo') w w') : DuoE w0 X w' pb rb s' t ∧ SameX X w w' := by
  have hz := D.kept.size
  refine ⟨⟨vr', vi', vo', ur, ui, uo, hp, D.r.keep ht.kept (fun x hx hm => D.dj x hm hx), ?_, D.rf, ?_, D.kept.trans ht.kept (fun x hx hl => by have := (D.pf x hx).1; omega), fun x hx => Nat.lt_of_lt_of_le (D.xl x hx) ht.kept.size⟩, ?_⟩
  · intro x hx
    rcases ht.new x hx with h | h
    · exact D.pf x h
    · exact ⟨by omega, fun hm => by have := D.xl x hm; omega⟩
  · intro x hx
    rcases ht.new x hx with h | h
    · exact D.dj x h
    · intro hm; have := D.r.lt x hm; omega
  · intro x hx
    exact ht.kept.block x (D.xl x hx) (fun hm => (D.pf x hm).2 hx)
theorem Duo.stepR (D : Duo w0 X w pb rb vr vi vo ur ui uo s t) (hr : RL w' rb vr' vi' vo' t') (ht : Turn (foot rb ur ui uo) (foot rb vr' vi' vo') w w') : DuoE w0 X w' pb rb s t' ∧ SameX X w w' := by
  have hz := D.kept.size
  refine ⟨⟨vr, vi, vo, vr', vi', vo', D.p.keep ht.kept (fun x hx hm => D.dj x hx hm), hr, D.pf, ?_, ?_, D.kept.trans ht.kept (fun x hx hl => by have := (D.rf x hx).1; omega), fun x hx => Nat.lt_of_lt_of_le (D.xl x hx) ht.kept.size⟩, ?_⟩
  · intro x hx
    rcases ht.new x hx with h | h
    · exact D.rf x h
    · exact ⟨by omega, fun hm => by have := D.xl x hm; omega⟩
  · intro x hx hm
    rcases ht.new x hm with h | h
    · exact D.dj x hx h
    · have := D.p.lt x hx; omega
  · intro x hx
    exact ht.kept.block x (D.xl x hx) (fun hm => (D.rf x hm).2 hx)
theorem Duo.keep (D : Duo w0 X w pb rb vr vi vo ur ui uo s t) (hk : Kept [] w w') : Duo w0 X w' pb rb vr vi vo ur ui uo s t :=
  ⟨D.p.keep0 hk, D.r.keep0 hk, D.pf, D.rf, D.dj, D.kept.trans hk (by simp), fun x hx => Nat.lt_of_lt_of_le (D.xl x hx) hk.size⟩
theorem SameX.of_kept (hx : ∀ x ∈ X, x < w.heap.size) (hk : Kept [] w w') : SameX X w w' := fun x h => hk.block x (hx x h) (by simp)
theorem DuoE.keep (D : DuoE w0 X w pb rb s t) (hk : Kept [] w w') : DuoE w0 X w' pb rb s t ∧ SameX X w w' := by
  obtain ⟨vr, vi, vo, ur, ui, uo, D⟩ := D
  exact ⟨⟨vr, vi, vo, ur, ui, uo, D.keep hk⟩, SameX.of_kept D.xl hk⟩
/-- A block of one's own laid beside them. -/
theorem DuoE.push (D : DuoE w0 X w pb rb s t) (o : Obj) : DuoE w0 (w.heap.size :: X) (w.alloc o) pb rb s t := by
  obtain ⟨vr, vi, vo, ur, ui, uo, D⟩ := D
  have hk : Kept [] w (w.alloc o) := (Kept.refl [] w).alloc o
  refine ⟨vr, vi, vo, ur, ui, uo, D.p.keep0 hk, D.r.keep0 hk, fun x hx => ⟨(D.pf x hx).1, ?_⟩, fun x hx => ⟨(D.rf x hx).1, ?_⟩, D.dj, D.kept.trans hk (by simp), ?_⟩
  · intro hm
    rcases List.mem_cons.mp hm with rfl | hm
    · have := D.p.lt _ hx; omega
    · exact (D.pf x hx).2 hm
  · intro hm
    rcases List.mem_cons.mp hm with rfl | hm
    · have := D.r.lt _ hx; omega
    · exact (D.rf x hx).2 hm
  · intro x hx
    rcases List.mem_cons.mp hx with rfl | hx
    · simp
    · have := D.xl x hx; simp; omega
/-- A block of X written. -/
theorem DuoE.write (D : DuoE w0 X w pb rb s t) {x : Nat} (hx : x ∈ X) (hx0 : w0.heap.size ≤ x) (hk : Kept [x] w w') : DuoE w0 X w' pb rb s t := by
  obtain ⟨vr, vi, vo, ur, ui, uo, D⟩ := D
  exact ⟨vr, vi, vo, ur, ui, uo, D.p.keep hk (fun y hy hm => (D.pf y hy).2 (by simp at hm; rw [hm]; exact hx)), D.r.keep hk (fun y hy hm => (D.rf y hy).2 (by simp at hm; rw [hm]; exact hx)), D.pf, D.rf, D.dj, D.kept.trans hk (fun y hy hl => by simp at hy; omega), fun y hy => Nat.lt_of_lt_of_le (D.xl y hy) hk.size⟩
theorem DuoE.pop {Y : List Nat} (D : DuoE w0 Y w pb rb s t) (h : ∀ x ∈ X, x ∈ Y) : DuoE w0 X w pb rb s t := by
  obtain ⟨vr, vi, vo, ur, ui, uo, D⟩ := D
  exact ⟨vr, vi, vo, ur, ui, uo, D.p, D.r, fun x hx => ⟨(D.pf x hx).1, fun hm => (D.pf x hx).2 (h x hm)⟩, fun x hx => ⟨(D.rf x hx).1, fun hm => (D.rf x hx).2 (h x hm)⟩, D.dj, D.kept, fun x hx => D.xl x (h x hx)⟩
theorem DuoE.kept (D : DuoE w0 X w pb rb s t) : Kept [] w0 w := by obtain ⟨_, _, _, _, _, _, D⟩ := D; exact D.kept
theorem DuoE.xl (D : DuoE w0 X w pb rb s t) : ∀ x ∈ X, x < w.heap.size := by obtain ⟨_, _, _, _, _, _, D⟩ := D; exact D.xl
/-! ### The states stay states -/
theorem byts_lay {l p : List Int} {a : Nat} (h : Byts l) (hp : Byts p) : Byts (lay l a p) := by
  intro n hn
  unfold lay at hn
  simp only [List.mem_append] at hn
  rcases hn with (hn | hn) | hn
  · exact h n (List.mem_of_mem_take hn)
  · exact hp n hn
  · exact h n (List.mem_of_mem_drop hn)
theorem byts_leOf : ∀ (n : Nat) (v : Int), Byts (leOf v n)
  | 0, v => by intro n hn; simp [leOf] at hn
  | n + 1, v => by
    intro x hx
    rw [leOf, List.mem_cons] at hx
    rcases hx with rfl | hx
    · omega
    · exact byts_leOf n _ x hx
theorem ok_ram {s : St} (hs : s.Ok) (l : List Int) (hl : l.length = s.ram.length) (hb : Byts l) : St.Ok { s with ram := l } := by
  obtain ⟨r0, r1, r2, rb, i1, ib, o1, ob, m, c, n, ie, lc, mc, sc, of, co⟩ := hs
  exact ⟨by rw [hl]; exact r0, by rw [hl]; exact r1, by rw [hl]; exact r2, hb, i1, ib, o1, ob, m, c, n, ie, lc, mc, sc, of, co⟩
theorem ok_tells {s : St} (hs : s.Ok) (reg : Int) : (s.tells reg).2.Ok := by
  have hs' := hs
  obtain ⟨r0, r1, r2, rb, i1, ib, o1, ob, m, c, n, ie, lc, mc, sc, of, co⟩ := hs
  unfold St.tells
  split
  · exact ⟨r0, r1, r2, rb, by simp; omega, fun n hn => ib n (List.mem_of_mem_tail hn), o1, ob, m, c, n, ie, lc, mc, sc, of, co⟩
  split
  · exact hs'
  split
  · exact hs'
  split
  · exact hs'
  split
  · exact hs'
  split
  · exact ⟨r0, r1, r2, rb, i1, ib, o1, ob, m, c, n, ie, lc, mc, sc, of, co⟩
  split
  · exact hs'
  · exact hs'
theorem ok_load {s : St} (hs : s.Ok) (addr size : Int) : (s.load addr size).2.Ok := by
  have h1 := ok_tells hs (addr - 268435456)
  unfold St.load
  simp only
  repeat' split
  all_goals first | exact hs | exact h1
theorem ok_takes {s : St} (hs : s.Ok) (reg v : Int) : (s.takes reg v).Ok := by
  have hs' := hs
  obtain ⟨r0, r1, r2, rb, i1, ib, o1, ob, m, c, n, ie, lc, mc, sc, of, co⟩ := hs
  unfold St.takes
  split
  · split
    · refine ⟨r0, r1, r2, rb, i1, ib, by simp; omega, ?_, m, c, n, ie, lc, mc, sc, of, co⟩
      intro x hx
      simp only [List.mem_append, List.mem_singleton] at hx
      rcases hx with hx | rfl
      · exact ob x hx
      · omega
    · exact hs'
  split
  · exact ⟨r0, r1, r2, rb, i1, ib, o1, ob, m, c, n, by dsimp only; omega, lc, mc, sc, of, co⟩
  split
  · split
    · exact ⟨r0, r1, r2, rb, by simp, by intro x hx; simp at hx, o1, ob, m, c, n, ie, lc, mc, sc, of, co⟩
    · exact hs'
  split
  · exact ⟨r0, r1, r2, rb, i1, ib, o1, ob, m, c, n, ie, by dsimp only; omega, mc, sc, of, co⟩
  split
  · exact ⟨r0, r1, r2, rb, i1, ib, o1, ob, m, c, n, ie, lc, by dsimp only; omega, sc, of, co⟩
  split
  · exact ⟨r0, r1, r2, rb, i1, ib, o1, ob, m, c, n, ie, lc, mc, by dsimp only; omega, of, co⟩
  · exact hs'
theorem ok_power {s : St} (hs : s.Ok) (v : Int) : (s.power v).Ok := by
  have hs' := hs
  obtain ⟨r0, r1, r2, rb, i1, ib, o1, ob, m, c, n, ie, lc, mc, sc, of, co⟩ := hs
  unfold St.power
  split
  · split
    · exact ⟨r0, r1, r2, rb, i1, ib, o1, ob, m, c, n, ie, lc, mc, sc, by dsimp only; omega, co⟩
    split
    · exact ⟨r0, r1, r2, rb, i1, ib, o1, ob, m, c, n, ie, lc, mc, sc, by dsimp only; omega, by dsimp only; omega⟩
    · exact hs'
  · exact hs'
theorem ok_cmp {s : St} (hs : s.Ok) (v : Int) (h0 : 0 ≤ v) (h1 : v ≤ 18446744073709551615) : St.Ok { s with cmp := v } := by
  obtain ⟨r0, r1, r2, rb, i1, ib, o1, ob, m, c, n, ie, lc, mc, sc, of, co⟩ := hs
  exact ⟨r0, r1, r2, rb, i1, ib, o1, ob, m, ⟨h0, h1⟩, n, ie, lc, mc, sc, of, co⟩
theorem ok_now {s : St} (hs : s.Ok) (v : Int) (h0 : 0 ≤ v) (h1 : v ≤ 18446744073709551615) : St.Ok { s with now := v } := by
  obtain ⟨r0, r1, r2, rb, i1, ib, o1, ob, m, c, n, ie, lc, mc, sc, of, co⟩ := hs
  exact ⟨r0, r1, r2, rb, i1, ib, o1, ob, m, c, ⟨h0, h1⟩, ie, lc, mc, sc, of, co⟩
theorem ok_msip {s : St} (hs : s.Ok) (v : Int) (h0 : 0 ≤ v) (h1 : v ≤ 1) : St.Ok { s with msip := v } := by
  obtain ⟨r0, r1, r2, rb, i1, ib, o1, ob, m, c, n, ie, lc, mc, sc, of, co⟩ := hs
  exact ⟨r0, r1, r2, rb, i1, ib, o1, ob, ⟨h0, h1⟩, c, n, ie, lc, mc, sc, of, co⟩
theorem reach_one {n : Nat} {addr size : Int} (h : reach n addr size = 1) : inRamA n addr size = true := by
  cases h1 : inRamA n addr size
  · exfalso
    have hr := reach_low h1
    rw [h] at hr
    repeat' (first | split at hr)
    all_goals omega
  · rfl
theorem ok_store {s : St} (hs : s.Ok) (addr size v : Int) (h0 : 0 ≤ v) (h1 : v ≤ 18446744073709551615) : (s.store addr size v).2.Ok := by
  have hc := hs.c
  have hn := hs.n
  unfold St.store
  simp only
  split
  · rename_i hr
    obtain ⟨a, sz, rfl, rfl, q1, q2, q3⟩ := ram_nat (reach_one hr)
    refine ok_ram hs _ (lay_length _ _ _ ?_) (byts_lay hs.rb (byts_leOf _ _))
    rw [leOf_length, show (2147483648 + (a : Int) - 2147483648).toNat = a by omega, Int.toNat_natCast]; exact q3
  split
  · exact ok_power hs v
  split
  · exact ok_msip hs _ (by omega) (by omega)
  split
  · exact ok_cmp hs v h0 h1
  split
  · exact ok_cmp hs _ (by unfold lowOf; omega) (by unfold lowOf; omega)
  split
  · exact ok_cmp hs _ (by unfold highOf; omega) (by unfold highOf; omega)
  split
  · exact ok_now hs v h0 h1
  split
  · exact ok_now hs _ (by unfold lowOf; omega) (by unfold lowOf; omega)
  split
  · exact ok_now hs _ (by unfold highOf; omega) (by unfold highOf; omega)
  split
  · exact ok_takes hs _ _
  · exact hs
theorem ok_poke {s : St} (hs : s.Ok) (addr : Int) (p : List Int) (hp : Byts p) : (s.poke addr p).2.Ok := by
  unfold St.poke
  split
  · exact hs
  split
  · rename_i hi
    obtain ⟨a, sz, rfl, e, q2, q3⟩ := inRam_nat hi
    refine ok_ram hs _ (lay_length _ _ _ ?_) (byts_lay hs.rb hp)
    rw [show (2147483648 + (a : Int) - 2147483648).toNat = a by omega]; omega
  · exact hs
theorem ok_join {s : St} (hs : s.Ok) (l : List Int) (hl : Byts l) : (s.join l).Ok := by
  obtain ⟨r0, r1, r2, rb, i1, ib, o1, ob, m, c, n, ie, lc, mc, sc, of, co⟩ := hs
  unfold St.join
  refine ⟨r0, r1, r2, rb, by simp; omega, ?_, o1, ob, m, c, n, ie, lc, mc, sc, of, co⟩
  intro x hx
  simp only [List.mem_append] at hx
  rcases hx with hx | hx
  · exact ib x hx
  · exact hl x (List.mem_of_mem_take hx)
theorem ok_begin {s : St} (hs : s.Ok) (tick ext soft : Bool) (l : List Int) (hl : Byts l) : (s.begin tick ext soft l).Ok := by
  unfold St.begin
  split
  · obtain ⟨r0, r1, r2, rb, i1, ib, o1, ob, m, c, n, ie, lc, mc, sc, of, co⟩ := ok_join hs l hl
    have hn := hs.n
    refine ⟨r0, r1, r2, rb, i1, ib, o1, ob, m, c, ?_, ie, lc, mc, sc, of, co⟩
    dsimp only
    split <;> omega
  · exact hs
end
end Go.Proofs.Ytkocfcgdjjdnhaa.BW
