/- The program's bus by itself: what each method leaves of it and of others' blocks. No condition. -/
import Derived.Test.YtkocfcgdjjdnhaaPairG
namespace Go.Proofs.Ytkocfcgdjjdnhaa.BW
open Go.RowKit
set_option linter.unusedVariables false
set_option linter.unusedSimpArgs false
/-- The program's bus at pb of state s, in blocks made since w0; the blocks of X are not its own. -/
structure Solo (w0 : World) (X : List Nat) (w : World) (pb : Nat) (vr vi vo : Value) (s : St) : Prop where
  p : PL w pb vr vi vo s
  pf : ∀ x ∈ foot pb vr vi vo, w0.heap.size ≤ x ∧ x ∉ X
  kept : Kept [] w0 w
  xl : ∀ x ∈ X, x < w.heap.size
def SoloE (w0 : World) (X : List Nat) (w : World) (pb : Nat) (s : St) : Prop := ∃ vr vi vo, Solo w0 X w pb vr vi vo s
section
variable {w0 w w' : World} {X : List Nat} {pb rb : Nat} {vr vi vo ur ui uo vr' vi' vo' : Value} {s t s' t' : St}
theorem Solo.step (D : Solo w0 X w pb vr vi vo s) (hp : PL w' pb vr' vi' vo' s') (ht : Turn (foot pb vr vi vo) (foot pb vr' vi' vo') w w') : SoloE w0 X w' pb s' ∧ SameX X w w' := by
  have hz := D.kept.size
  refine ⟨⟨vr', vi', vo', hp, ?_, D.kept.trans ht.kept (fun x hx hl => by have := (D.pf x hx).1; omega), fun x hx => Nat.lt_of_lt_of_le (D.xl x hx) ht.kept.size⟩, ?_⟩
  · intro x hx
    rcases ht.new x hx with h | h
    · exact D.pf x h
    · exact ⟨by omega, fun hm => by have := D.xl x hm; omega⟩
  · intro x hx
    exact ht.kept.block x (D.xl x hx) (fun hm => (D.pf x hm).2 hx)
theorem SoloE.keep (D : SoloE w0 X w pb s) (hk : Kept [] w w') : SoloE w0 X w' pb s ∧ SameX X w w' := by
  obtain ⟨vr, vi, vo, D⟩ := D
  exact ⟨⟨vr, vi, vo, D.p.keep0 hk, D.pf, D.kept.trans hk (by simp), fun x hx => Nat.lt_of_lt_of_le (D.xl x hx) hk.size⟩, SameX.of_kept D.xl hk⟩
theorem SoloE.claim (D : SoloE w0 X w pb s) (hk : Kept [] w w') (Y : List Nat) (hY : ∀ x ∈ Y, w.heap.size ≤ x ∧ x < w'.heap.size) : SoloE w0 (Y ++ X) w' pb s := by
  obtain ⟨vr, vi, vo, D⟩ := D
  refine ⟨vr, vi, vo, D.p.keep0 hk, fun x hx => ⟨(D.pf x hx).1, fun hm => ?_⟩, D.kept.trans hk (by simp), fun x hx => ?_⟩
  · rcases List.mem_append.mp hm with hm | hm
    · have := D.p.lt x hx; have := (hY x hm).1; omega
    · exact (D.pf x hx).2 hm
  · rcases List.mem_append.mp hx with hx | hx
    · exact (hY x hx).2
    · exact Nat.lt_of_lt_of_le (D.xl x hx) hk.size
theorem SoloE.push (D : SoloE w0 X w pb s) (o : Obj) : SoloE w0 (w.heap.size :: X) (w.alloc o) pb s := D.claim ((Kept.refl [] w).alloc o) [w.heap.size] (by simp)
theorem SoloE.write (D : SoloE w0 X w pb s) {x : Nat} (hx : x ∈ X) (hx0 : w0.heap.size ≤ x) (hk : Kept [x] w w') : SoloE w0 X w' pb s := by
  obtain ⟨vr, vi, vo, D⟩ := D
  exact ⟨vr, vi, vo, D.p.keep hk (fun y hy hm => (D.pf y hy).2 (by simp at hm; rw [hm]; exact hx)), D.pf, D.kept.trans hk (fun y hy hl => by simp at hy; omega), fun y hy => Nat.lt_of_lt_of_le (D.xl y hy) hk.size⟩
theorem SoloE.pop {Y : List Nat} (D : SoloE w0 Y w pb s) (h : ∀ x ∈ X, x ∈ Y) : SoloE w0 X w pb s := by
  obtain ⟨vr, vi, vo, D⟩ := D
  exact ⟨vr, vi, vo, D.p, fun x hx => ⟨(D.pf x hx).1, fun hm => (D.pf x hx).2 (h x hm)⟩, D.kept, fun x hx => D.xl x (h x hx)⟩
theorem SoloE.kept (D : SoloE w0 X w pb s) : Kept [] w0 w := by obtain ⟨_, _, _, D⟩ := D; exact D.kept
theorem SoloE.xl (D : SoloE w0 X w pb s) : ∀ x ∈ X, x < w.heap.size := by obtain ⟨_, _, _, D⟩ := D; exact D.xl
theorem SoloE.of_made {e : Ending} (h : MadePost w s e w') : ∃ pb, e = .returned (.tuple #[.pointer (some ⟨pb, 0, none⟩), .bool true]) ∧ SoloE w [] w' pb s := by
  obtain ⟨b, vr, vi, vo, he, hp, hf, hk⟩ := h
  exact ⟨b, he, vr, vi, vo, hp, fun x hx => ⟨hf x hx, by simp⟩, hk, by simp⟩
/-- A document's bus laid beside it. -/
theorem SoloE.duo (D : SoloE w0 X w pb s) (hr : RL w' rb ur ui uo t) (hf : ∀ x ∈ foot rb ur ui uo, w.heap.size ≤ x) (hk : Kept [] w w') : DuoE w0 X w' pb rb s t := by
  obtain ⟨vr, vi, vo, D⟩ := D
  have hz := D.kept.size
  exact ⟨vr, vi, vo, ur, ui, uo, D.p.keep0 hk, hr, D.pf, fun x hx => ⟨by have := hf x hx; omega, fun hm => by have := hf x hx; have := D.xl x hm; omega⟩, fun x hx hm => by have := D.p.lt x hx; have := hf x hm; omega, D.kept.trans hk (by simp), fun x hx => Nat.lt_of_lt_of_le (D.xl x hx) hk.size⟩
theorem DuoE.solo (D : DuoE w0 X w pb rb s t) : SoloE w0 X w pb s := by
  obtain ⟨vr, vi, vo, ur, ui, uo, D⟩ := D
  exact ⟨vr, vi, vo, D.p, D.pf, D.kept, D.xl⟩
theorem SoloE.opbox (D : SoloE w0 X w pb s) (cs : Array Value) :
    (w.alloc (.cells zOp 54)).heap[w.heap.size]? = some (.cells zOp 54 (0, 0)) ∧ SoloE w0 (w.heap.size :: X) ((w.alloc (.cells zOp 54)).setRow w.heap.size cs) pb s ∧ ((w.alloc (.cells zOp 54)).setRow w.heap.size cs).heap[w.heap.size]? = some (.cells cs 54 (0, 0)) ∧ SameX X w ((w.alloc (.cells zOp 54)).setRow w.heap.size cs) := by
  have hr : (w.alloc (.cells zOp 54)).heap[w.heap.size]? = some (.cells zOp 54 (0, 0)) := heap_alloc_new w _
  have kw : Kept [w.heap.size] (w.alloc (.cells zOp 54)) ((w.alloc (.cells zOp 54)).setRow w.heap.size cs) := (Kept.refl [w.heap.size] _).setRow (by simp) cs
  refine ⟨hr, (D.push (.cells zOp 54)).write (by simp) D.kept.size kw, setRow_heap _ _ _ _ 54 (0, 0) hr, ?_⟩
  intro x hx
  have hl := D.xl x hx
  have ka : Kept [] w (w.alloc (.cells zOp 54)) := (Kept.refl [] w).alloc _
  rw [kw.block x (by simp; omega) (by simp; omega), ka.block x hl (by simp)]
/-- A state's own box. -/
theorem SoloE.stbox (D : SoloE w0 X w pb s) (cs : Array Value) :
    (w.alloc (.cells zRow 26)).heap[w.heap.size]? = some (.cells zRow 26 (0, 0)) ∧ SoloE w0 (w.heap.size :: X) ((w.alloc (.cells zRow 26)).setRow w.heap.size cs) pb s ∧ ((w.alloc (.cells zRow 26)).setRow w.heap.size cs).heap[w.heap.size]? = some (.cells cs 26 (0, 0)) ∧ SameX X w ((w.alloc (.cells zRow 26)).setRow w.heap.size cs) := by
  have hr : (w.alloc (.cells zRow 26)).heap[w.heap.size]? = some (.cells zRow 26 (0, 0)) := heap_alloc_new w _
  have kw : Kept [w.heap.size] (w.alloc (.cells zRow 26)) ((w.alloc (.cells zRow 26)).setRow w.heap.size cs) := (Kept.refl [w.heap.size] _).setRow (by simp) cs
  refine ⟨hr, (D.push (.cells zRow 26)).write (by simp) D.kept.size kw, setRow_heap _ _ _ _ 26 (0, 0) hr, ?_⟩
  intro x hx
  have hl := D.xl x hx
  have ka : Kept [] w (w.alloc (.cells zRow 26)) := (Kept.refl [] w).alloc _
  rw [kw.block x (by simp; omega) (by simp; omega), ka.block x hl (by simp)]
theorem s_load (D : SoloE w0 X w pb s) (hs : s.Ok) (addr size : Int) (a0 : 0 ≤ addr) (a1 : addr ≤ 18446744073709551615) (s0 : -9223372036854775808 ≤ size) (s1 : size ≤ 9223372036854775807) :
    Calls Try.prog 29 #[.pointer (some ⟨pb, 0, none⟩), .int .u64 addr, .int .i64 size] w fun e w' => e = .returned (.tuple #[.int .u64 (s.load addr size).1.1, .bool (s.load addr size).1.2]) ∧ SoloE w0 X w' pb (s.load addr size).2 ∧ SameX X w w' := by
  obtain ⟨vr, vi, vo, D⟩ := D
  exact (load_any D.p hs addr size a0 a1 s0 s1).mono fun e w' ⟨vi', he, hp, ht⟩ => ⟨he, D.step hp ht⟩
theorem s_store (D : SoloE w0 X w pb s) (hs : s.Ok) (addr size v : Int) (a0 : 0 ≤ addr) (a1 : addr ≤ 18446744073709551615) (s0 : -9223372036854775808 ≤ size) (s1 : size ≤ 9223372036854775807) (v0 : 0 ≤ v) (v1 : v ≤ 18446744073709551615) :
    Calls Try.prog 30 #[.pointer (some ⟨pb, 0, none⟩), .int .u64 addr, .int .i64 size, .int .u64 v] w fun e w' => e = .returned (.bool (s.store addr size v).1) ∧ SoloE w0 X w' pb (s.store addr size v).2 ∧ SameX X w w' := by
  obtain ⟨vr, vi, vo, D⟩ := D
  exact (store_any D.p hs addr size v a0 a1 s0 s1 v0 v1).mono fun e w' ⟨vi', vo', he, hp, ht⟩ => ⟨he, D.step hp ht⟩
theorem s_poke (D : SoloE w0 X w pb s) (hs : s.Ok) (addr : Int) (a0 : 0 ≤ addr) (a1 : addr ≤ 18446744073709551615) (v : Value) (p : List Int) (hr : Rd w v p) (hl : p.length ≤ 140737488351232) :
    Calls Try.prog 32 #[.pointer (some ⟨pb, 0, none⟩), .int .u64 addr, v] w fun e w' => e = .returned (.int .i64 (s.poke addr p).1) ∧ SoloE w0 X w' pb (s.poke addr p).2 ∧ SameX X w w' := by
  obtain ⟨vr, vi, vo, D⟩ := D
  exact (poke_any D.p hs addr a0 a1 v p hr hl).mono fun e w' ⟨he, hp, ht⟩ => ⟨he, D.step hp ht⟩
theorem s_begin (D : SoloE w0 X w pb s) (hs : s.Ok) (tick ext soft : Bool) (A : Option Addr) (n c : Nat) (l : List Int) (hb : Bs w (.slice A n c) l) (hn : ∀ g, (Value.slice A n c).ownBlock = some g → g ∈ X) (hl : l.length ≤ 140737488351232) :
    Calls Try.prog 27 #[.pointer (some ⟨pb, 0, none⟩), .agg #[.bool tick, .bool ext, .bool soft, .slice A n c]] w fun e w' => e = .returned (.tuple #[]) ∧ SoloE w0 X w' pb (s.begin tick ext soft l) ∧ SameX X w w' := by
  obtain ⟨vr, vi, vo, D⟩ := D
  refine (begin_any D.p hs tick ext soft A n c l hb.rd (hb.lens rfl) (fun g o e => ?_) hl).mono fun e w' ⟨vi', he, hp, ht⟩ => ⟨he, D.step hp ht⟩
  subst e
  rcases hb.at with ⟨e, _⟩ | ⟨g', cap, cur, e, hg, _⟩
  · simp at e
  · simp only [Value.slice.injEq, Option.some.injEq, Addr.mk.injEq] at e
    obtain ⟨⟨rfl, rfl, _⟩, rfl, rfl⟩ := e
    exact ⟨fun hm => (D.pf g hm).2 (hn g rfl), (Array.getElem?_eq_some_iff.1 hg).1⟩
theorem s_off (D : SoloE w0 X w pb s) :
    Calls Try.prog 37 #[.pointer (some ⟨pb, 0, none⟩)] w fun e w' => e = .returned (.tuple #[.int .i64 s.off, .int .i64 s.code]) ∧ SoloE w0 X w' pb s ∧ SameX X w w' := by
  obtain ⟨vr, vi, vo, D⟩ := D
  exact (off_any D.p).mono fun e w' ⟨he, n, hb⟩ => ⟨he, SoloE.keep ⟨_, _, _, D⟩ (hb ▸ (Kept.refl [] w).drewN n)⟩
/-- What State hands out is nobody's. -/
theorem s_state (D : SoloE w0 X w pb s) (hs : s.Ok) :
    Calls Try.prog 20 #[.pointer (some ⟨pb, 0, none⟩)] w fun e w' => ∃ v1 v2 v3, e = .returned (.agg (sCells v1 v2 v3 s)) ∧ Bs w' v1 s.ram ∧ Bs w' v2 s.inp ∧ Bs w' v3 s.out ∧ SoloE w0 (v1.ownBlock.toList ++ (v2.ownBlock.toList ++ (v3.ownBlock.toList ++ X))) w' pb s ∧ SameX X w w' := by
  obtain ⟨vr, vi, vo, D⟩ := D
  refine (state_any D.p hs).mono fun e w' ⟨v1, v2, v3, he, h1, h2, h3, n1, n2, n3, _, _, _, hp, hk⟩ => ?_
  obtain ⟨⟨ur, ui, uo, D2⟩, hx⟩ := D.step hp (kept_turn hk (foot_self _ _ _ _))
  have hD := D.step hp (kept_turn hk (foot_self _ _ _ _))
  have hz := D.kept.size
  have hmem : ∀ x, x ∈ v1.ownBlock.toList ++ (v2.ownBlock.toList ++ (v3.ownBlock.toList ++ X)) → (w.heap.size ≤ x ∧ x < w'.heap.size) ∨ x ∈ X := by
    intro x hx
    simp only [List.mem_append, Option.mem_toList] at hx
    rcases hx with hx | hx | hx | hx
    · exact .inl ⟨n1 x hx, h1.lt x hx⟩
    · exact .inl ⟨n2 x hx, h2.lt x hx⟩
    · exact .inl ⟨n3 x hx, h3.lt x hx⟩
    · exact .inr hx
  refine ⟨v1, v2, v3, he, h1, h2, h3, ⟨vr, vi, vo, hp, fun x hx => ⟨(D.pf x hx).1, fun hm => ?_⟩, hD.1.kept, fun x hx => ?_⟩, hD.2⟩
  · rcases hmem x hm with h | h
    · have := D.p.lt x hx; omega
    · exact (D.pf x hx).2 h
  · rcases hmem x hx with h | h
    · exact h.2
    · exact Nat.lt_of_lt_of_le (D.xl x h) hk.size
theorem SoloE.rebase {w1 : World} (D : SoloE w1 X w pb s) (hk : Kept [] w0 w1) : SoloE w0 X w pb s := by
  obtain ⟨vr, vi, vo, D⟩ := D
  have := hk.size
  exact ⟨vr, vi, vo, D.p, fun x hx => ⟨by have := (D.pf x hx).1; omega, (D.pf x hx).2⟩, hk.trans D.kept (by simp), D.xl⟩
theorem DuoE.pairbox2 (D : DuoE w0 X w pb rb s t) {n : Nat} (hn : w.heap.size = n) :
    (w.alloc (.cells zPair 37)).heap[n]? = some (.cells zPair 37 (0, 0)) ∧ DuoE w0 (n :: X) ((w.alloc (.cells zPair 37)).setRow n (pairCells pb rb)) pb rb s t ∧ ((w.alloc (.cells zPair 37)).setRow n (pairCells pb rb)).heap[n]? = some (.cells (pairCells pb rb) 37 (0, 0)) ∧ SameX X w ((w.alloc (.cells zPair 37)).setRow n (pairCells pb rb)) := by
  subst hn
  have hr : (w.alloc (.cells zPair 37)).heap[w.heap.size]? = some (.cells zPair 37 (0, 0)) := heap_alloc_new w _
  have kw : Kept [w.heap.size] (w.alloc (.cells zPair 37)) ((w.alloc (.cells zPair 37)).setRow w.heap.size (pairCells pb rb)) := (Kept.refl [w.heap.size] _).setRow (by simp) _
  refine ⟨hr, (D.push (.cells zPair 37)).write (by simp) D.kept.size kw, setRow_heap _ _ _ _ 37 (0, 0) hr, ?_⟩
  intro x hx
  have hl := D.xl x hx
  have ka : Kept [] w (w.alloc (.cells zPair 37)) := (Kept.refl [] w).alloc _
  rw [kw.block x (by simp; omega) (by simp; omega), ka.block x hl (by simp)]
/-- A document's bus of the same state, made of a copy, and the pair of both. -/
structure Paired (w0 : World) (X : List Nat) (w6 : World) (pb : Nat) (s : St) (y1 y2 y3 : Value) : Prop where
  z : ((w6.alloc (.cells (sCells y1 y2 y3 s) 66)).alloc (.cells zPair 37)).heap[w6.heap.size + 1]? = some (.cells zPair 37 (0, 0))
  duo : DuoE w0 ((w6.heap.size + 1) :: X) (((w6.alloc (.cells (sCells y1 y2 y3 s) 66)).alloc (.cells zPair 37)).setRow (w6.heap.size + 1) (pairCells pb w6.heap.size)) pb w6.heap.size s s
  row : (((w6.alloc (.cells (sCells y1 y2 y3 s) 66)).alloc (.cells zPair 37)).setRow (w6.heap.size + 1) (pairCells pb w6.heap.size)).heap[w6.heap.size + 1]? = some (.cells (pairCells pb w6.heap.size) 37 (0, 0))
theorem Paired.of {w5 w6 : World} {y1 y2 y3 : Value} (D : SoloE w0 X w5 pb s) (hN : NewSt w5 s y1 y2 y3 w6) : Paired w0 X w6 pb s y1 y2 y3 ∧ SameX X w5 (((w6.alloc (.cells (sCells y1 y2 y3 s) 66)).alloc (.cells zPair 37)).setRow (w6.heap.size + 1) (pairCells pb w6.heap.size)) := by
  obtain ⟨hr, hf, hk⟩ := RL.of_new hN (Kept.refl [] w5)
  have D7 := D.duo hr hf hk
  obtain ⟨h1, h2, h3, h4⟩ := D7.pairbox2 (n := w6.heap.size + 1) (by simp)
  exact ⟨⟨h1, h2, h3⟩, (SameX.of_kept D.xl hk).trans h4⟩
/-! ### Off is for good -/
theorem off_tells (s : St) (reg : Int) : (s.tells reg).2.off = s.off ∧ (s.tells reg).2.code = s.code := by
  unfold St.tells
  repeat' (first | split | exact ⟨rfl, rfl⟩)
theorem off_load (s : St) (addr size : Int) : (s.load addr size).2.off = s.off ∧ (s.load addr size).2.code = s.code := by
  have h := off_tells s (addr - 268435456)
  unfold St.load
  simp only
  repeat' (first | split | exact ⟨rfl, rfl⟩ | exact h)
theorem off_takes (s : St) (reg v : Int) : (s.takes reg v).off = s.off ∧ (s.takes reg v).code = s.code := by
  unfold St.takes
  repeat' (first | split | exact ⟨rfl, rfl⟩)
theorem off_store (s : St) (h0 : ¬ s.off = 0) (addr size v : Int) : (s.store addr size v).2.off = s.off ∧ (s.store addr size v).2.code = s.code := by
  have h := off_takes s (addr - 268435456) v
  have hp : s.power v = s := by unfold St.power; rw [if_neg h0]
  unfold St.store
  simp only [hp]
  repeat' (first | split | exact ⟨rfl, rfl⟩ | exact h)
theorem off_poke (s : St) (addr : Int) (p : List Int) : (s.poke addr p).2.off = s.off ∧ (s.poke addr p).2.code = s.code := by
  unfold St.poke
  repeat' (first | split | exact ⟨rfl, rfl⟩)
theorem off_next (o : OpV) (s : St) (h0 : ¬ s.off = 0) : (o.next s).off = s.off ∧ (o.next s).code = s.code := by
  unfold OpV.next
  split
  · exact off_load s _ _
  split
  · exact off_store s h0 _ _ _
  split
  · unfold St.begin; rw [if_neg h0]; exact ⟨rfl, rfl⟩
  split
  · exact off_poke s _ _
  · exact ⟨rfl, rfl⟩
theorem off_begin (o : OpV) (s : St) (h0 : ¬ s.off = 0) (hk : o.kind = 3) : o.next s = s := by
  unfold OpV.next
  rw [if_neg (by omega), if_neg (by omega), if_pos hk]
  unfold St.begin; rw [if_neg h0]
end
end Go.Proofs.Ytkocfcgdjjdnhaa.BW
