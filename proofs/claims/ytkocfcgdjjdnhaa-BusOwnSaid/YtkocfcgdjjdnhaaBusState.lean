/- What a bus is in memory: the program's (PB) and the document's (RB), both of one state St. No condition. -/
import Derived.Test.YtkocfcgdjjdnhaaBusWords
namespace Go.Proofs.Ytkocfcgdjjdnhaa.BW
open Go.RowKit
set_option linter.unusedVariables false
set_option linter.unusedSimpArgs false
/-- All that a bus keeps. -/
structure St where
  ram : List Int
  inp : List Int
  out : List Int
  msip : Int
  cmp : Int
  now : Int
  ier : Int
  lcr : Int
  mcr : Int
  scr : Int
  over : Bool
  ext : Bool
  soft : Bool
  off : Int
  code : Int
/-- A state that can be. -/
structure St.Ok (s : St) : Prop where
  r0 : 8 ≤ s.ram.length
  r1 : s.ram.length ≤ 65536
  r2 : s.ram.length % 8 = 0
  rb : Byts s.ram
  i1 : s.inp.length ≤ 64
  ib : Byts s.inp
  o1 : s.out.length ≤ 4096
  ob : Byts s.out
  m : 0 ≤ s.msip ∧ s.msip ≤ 1
  c : 0 ≤ s.cmp ∧ s.cmp ≤ 18446744073709551615
  n : 0 ≤ s.now ∧ s.now ≤ 18446744073709551615
  ie : 0 ≤ s.ier ∧ s.ier ≤ 15
  lc : 0 ≤ s.lcr ∧ s.lcr ≤ 255
  mc : 0 ≤ s.mcr ∧ s.mcr ≤ 31
  sc : 0 ≤ s.scr ∧ s.scr ≤ 255
  of : 0 ≤ s.off ∧ s.off ≤ 2
  co : 0 ≤ s.code ∧ s.code ≤ 65535
/-- The cells of the program's bus; k: the lock's state word. -/
def pCells (vr vi vo : Value) (s : St) (k : Int := 0) : Array Value := #[vr, .int .i64 s.off, .int .i64 s.code, .int .u32 s.msip, .int .u64 s.cmp, .int .u64 s.now, .int .i32 k, .int .u32 0, vi, vo, .int .u8 s.ier, .int .u8 s.lcr, .int .u8 s.mcr, .int .u8 s.scr, .bool s.over, .bool s.ext, .bool s.soft]
/-- The cells of a bus's state (api.Bus). -/
def sCells (vr vi vo : Value) (s : St) : Array Value := #[vr, .int .u32 s.msip, .int .u64 s.cmp, .int .u64 s.now, .bool s.ext, .bool s.soft, .int .u8 s.ier, .int .u8 s.lcr, .int .u8 s.mcr, .int .u8 s.scr, .bool s.over, vi, vo, .int .i64 s.off, .int .i64 s.code]
def foot (b : Nat) (vr vi vo : Value) : List Nat := b :: (vr.ownBlock.toList ++ (vi.ownBlock.toList ++ vo.ownBlock.toList))
/-- At block b with the cells cs of type T and the three slices lies a bus of state s. -/
structure Lies (T : TypeId) (cs : Value → Value → Value → St → Array Value) (w : World) (b : Nat) (vr vi vo : Value) (s : St) : Prop where
  blk : w.heap[b]? = some (.cells (cs vr vi vo s) T (0, 0))
  ram : Bs w vr s.ram
  inp : Bs w vi s.inp
  out : Bs w vo s.out
  nod : (foot b vr vi vo).Nodup
abbrev PL := Lies 85 (fun vr vi vo s => pCells vr vi vo s)
abbrev PK (k : Int) := Lies 85 (fun vr vi vo s => pCells vr vi vo s k)
abbrev RL := Lies 66 sCells
section
variable {T : TypeId} {cs : Value → Value → Value → St → Array Value} {F G : List Nat} {w w' : World} {b : Nat} {vr vi vo : Value} {s : St}
theorem Lies.lt (h : Lies T cs w b vr vi vo s) : ∀ x ∈ foot b vr vi vo, x < w.heap.size := by
  intro x hx
  simp only [foot, List.mem_cons, List.mem_append, Option.mem_toList] at hx
  rcases hx with rfl | hx | hx | hx
  · exact (Array.getElem?_eq_some_iff.1 h.blk).1
  · exact h.ram.lt x hx
  · exact h.inp.lt x hx
  · exact h.out.lt x hx
/-- A bus outlives what touches none of its blocks. -/
theorem Lies.keep (h : Lies T cs w b vr vi vo s) (hk : Kept F w w') (hF : ∀ x ∈ foot b vr vi vo, x ∉ F) : Lies T cs w' b vr vi vo s := by
  simp only [foot, List.mem_cons, List.mem_append, Option.mem_toList] at hF
  exact ⟨hk.row h.blk (hF b (.inl rfl)), h.ram.keep hk fun g hg => hF g (.inr (.inl hg)), h.inp.keep hk fun g hg => hF g (.inr (.inr (.inl hg))), h.out.keep hk fun g hg => hF g (.inr (.inr (.inr hg))), h.nod⟩
theorem Lies.keep0 (h : Lies T cs w b vr vi vo s) (hk : Kept [] w w') : Lies T cs w' b vr vi vo s := h.keep hk (by simp)
theorem Lies.nr (h : Lies T cs w b vr vi vo s) : ∀ g, vr.ownBlock = some g → g ≠ b := by
  intro g hg e; subst e
  have := h.nod; simp [foot, hg] at this
theorem Lies.ni (h : Lies T cs w b vr vi vo s) : ∀ g, vi.ownBlock = some g → g ≠ b := by
  intro g hg e; subst e
  have := h.nod; simp [foot, hg] at this
theorem Lies.no (h : Lies T cs w b vr vi vo s) : ∀ g, vo.ownBlock = some g → g ≠ b := by
  intro g hg e; subst e
  have := h.nod; simp [foot, hg] at this
/-- A cell of the bus's own block written, the slices as they were. -/
theorem Lies.set {cs' : Value → Value → Value → St → Array Value} {s' : St} (h : Lies T cs w b vr vi vo s) (j : Nat) (v : Value) (hc : (cs vr vi vo s).setIfInBounds j v = cs' vr vi vo s') (e1 : s'.ram = s.ram := by rfl) (e2 : s'.inp = s.inp := by rfl) (e3 : s'.out = s.out := by rfl) :
    Lies T cs' (w.setCell ⟨b, j, none⟩ v) b vr vi vo s' := by
  have hk : Kept [b] w (w.setCell ⟨b, j, none⟩ v) := (Kept.refl _ w).setCell (by simp) v
  refine ⟨?_, ?_, ?_, ?_, h.nod⟩
  · rw [heap_setCell_same w b j _ T v h.blk, hc]
  · rw [e1]; exact h.ram.keep hk fun g hg => by simpa using h.nr g hg
  · rw [e2]; exact h.inp.keep hk fun g hg => by simpa using h.ni g hg
  · rw [e3]; exact h.out.keep hk fun g hg => by simpa using h.no g hg
end
/-- What a call may have done to a bus: the blocks of F are its own and may have turned; now it lies in F'. -/
structure Turn (F F' : List Nat) (w w' : World) : Prop where
  kept : Kept F w w'
  new : ∀ x ∈ F', x ∈ F ∨ w.heap.size ≤ x
theorem Turn.refl (F : List Nat) (w : World) : Turn F F w w := ⟨Kept.refl F w, fun x h => .inl h⟩
theorem Turn.trans {F F' F'' : List Nat} {a w w' : World} (h : Turn F F' a w) (k : Turn F' F'' w w') : Turn F F'' a w' :=
  ⟨h.kept.trans k.kept (fun x hx hl => (h.new x hx).elim id fun h => by omega), fun x hx => by
    rcases k.new x hx with h1 | h1
    · exact h.new x h1
    · exact .inr (Nat.le_trans h.kept.size h1)⟩
theorem Turn.of_kept {F : List Nat} {w w' : World} (h : Kept F w w') : Turn F F w w' := ⟨h, fun x h => .inl h⟩
/-- A bus of the program lies at b, with the footprint F. -/
def PB (w : World) (b : Nat) (F : List Nat) (s : St) : Prop := ∃ vr vi vo, PL w b vr vi vo s ∧ F = foot b vr vi vo
def RB (w : World) (b : Nat) (F : List Nat) (s : St) : Prop := ∃ vr vi vo, RL w b vr vi vo s ∧ F = foot b vr vi vo
section
variable {F G : List Nat} {w w' : World} {b : Nat} {s : St}
theorem PB.lt (h : PB w b F s) : ∀ x ∈ F, x < w.heap.size := by obtain ⟨_, _, _, h, rfl⟩ := h; exact h.lt
theorem RB.lt (h : RB w b F s) : ∀ x ∈ F, x < w.heap.size := by obtain ⟨_, _, _, h, rfl⟩ := h; exact h.lt
theorem PB.keep (h : PB w b F s) (hk : Kept G w w') (hF : ∀ x ∈ F, x ∉ G) : PB w' b F s := by obtain ⟨_, _, _, h, rfl⟩ := h; exact ⟨_, _, _, h.keep hk hF, rfl⟩
theorem RB.keep (h : RB w b F s) (hk : Kept G w w') (hF : ∀ x ∈ F, x ∉ G) : RB w' b F s := by obtain ⟨_, _, _, h, rfl⟩ := h; exact ⟨_, _, _, h.keep hk hF, rfl⟩
end
end Go.Proofs.Ytkocfcgdjjdnhaa.BW
