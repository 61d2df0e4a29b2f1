/- The console of the program's bus: reading, telling, taking. Premise: a bus lies there. -/
import Derived.Test.YtkocfcgdjjdnhaaBusG
import Derived.Laws.Slices
namespace Go.Proofs.Ytkocfcgdjjdnhaa.BW
open Go.RowKit Go.MuLone
set_option linter.unusedVariables false
set_option linter.unusedSimpArgs false
section
variable {w : World} {b : Nat} {vr vi vo : Value} {s : St}
/-- What sent leaves. -/
def SentPost (w : World) (b : Nat) (vr vi vo : Value) (s : St) (e : Ending) (w' : World) : Prop :=
  ∃ v', e = .returned v' ∧ Bs w' v' s.out ∧ (∀ g, v'.ownBlock = some g → w.heap.size ≤ g) ∧ PL w' b vr vi vo s ∧ Kept [b] w w'
set_option maxHeartbeats 1000000 in
set_option maxRecDepth 100000 in
theorem sent_any (h : PL w b vr vi vo s) (hs : s.Ok) : Calls Try.prog 44 #[.pointer (some ⟨b, 6, none⟩)] w (SentPost w b vr vi vo s) := by
  have c6 := h.cell 6 _ rfl
  have z6 := h.frozen 6
  have h1 : PK 1 (w.setCell ⟨b, 6, none⟩ (.int .i32 1)) b vr vi vo s := h.set 6 (.int .i32 1) rfl
  have d9 := h1.cell 9 _ rfl
  have k1 : Kept [b] w (w.setCell ⟨b, 6, none⟩ (.int .i32 1)) := (Kept.refl _ w).setCell (by simp) _
  have H1 := Lib.hid h1
  have H := Lib.hid h
  have K1 := Lib.hid k1
  have hlen : s.out.length ≤ 140737488351232 := by have := hs.o1; omega
  clear h h1 k1
  go_enter_defers Try.func44, Try.ntmps44
  go_wp2_with (first | (go_at_call 62; refine (lock_free muLib ⟨b, 6, none⟩ _ c6 z6).mono ?_; rintro e w' ⟨rfl, rfl⟩) | (go_at_call 39; refine (own_any _ vo s.out H1.out.out.rd hlen).mono ?_; rintro e w2 ⟨v', rfl, hb, hn, hk⟩; have HB := Lib.hid hb; have HN := Lib.hid hn; have HK := Lib.hid hk; clear hb hn hk))
  have h2 := H1.out.keep0 HK.out
  refine leaves_cons (f := 63) (args := #[.pointer (some ⟨b, 6, none⟩)]) (by simp) (by simp [go_sem]) ?_
  refine (unlock_deferred muLib ⟨b, 6, none⟩ .returning _ (h2.cell 6 _ rfl) (h2.frozen 6)).mono ?_
  rintro e u' w'' ⟨rfl, rfl, rfl⟩
  have hlt : b < w.heap.size := H.out.lt b (by simp [foot])
  have hn2 : ∀ g, v'.ownBlock = some g → w.heap.size ≤ g := fun g hg => by simpa using HN.out g hg
  have k2 : Kept [b] w2 (w2.setCell ⟨b, 6, none⟩ (.int .i32 0)) := (Kept.refl _ w2).setCell (by simp) _
  exact ⟨_, results_tmp rfl _ _ _, v', rfl, HB.out.keep k2 (fun g hg => by have := hn2 g hg; simp; omega), hn2, h2.set 6 _ rfl, (K1.out.trans HK.out (by simp)).trans k2 (by simp)⟩
set_option maxHeartbeats 1000000 in
set_option maxRecDepth 100000 in
theorem status_any (b : Nat) (A B : Option Addr) (n m c d : Nat) (o : Bool) (c8 : w.cell? ⟨b, 8, none⟩ = some (.slice A n c)) (c9 : w.cell? ⟨b, 9, none⟩ = some (.slice B m d)) (c14 : w.cell? ⟨b, 14, none⟩ = some (.bool o)) (z14 : w.frozen? ⟨b, 14, none⟩ = false) :
    Calls Try.prog 113 #[.pointer (some ⟨b, 6, none⟩)] w fun e w' => e = .returned (.int .u64 (b2i (decide (0 < n)) + 2 * b2i o + 96 * b2i (decide (m < 4096)))) ∧ w' = w.setCell ⟨b, 14, none⟩ (.bool false) := by
  have k1 : bits .or .u64 0 1 = 1 := by decide
  have k2 : bits .or .u64 0 2 = 2 := by decide
  have k3 : bits .or .u64 1 2 = 3 := by decide
  have k4 : bits .or .u64 0 96 = 96 := by decide
  have k5 : bits .or .u64 1 96 = 97 := by decide
  have k6 : bits .or .u64 2 96 = 98 := by decide
  have k7 : bits .or .u64 3 96 = 99 := by decide
  by_cases h1 : 0 < n <;> by_cases h2 : m < 4096 <;> cases o
  all_goals
    have q1 : decide (0 < (n : Int)) = decide (0 < n) := by simp
    have q2 : decide ((m : Int) < 4096) = decide (m < 4096) := by rw [decide_eq_decide]; omega
    simp only [h1, h2, decide_true, decide_false] at q1 q2
    simp only [h1, h2, decide_true, decide_false]
    go_enter Try.func113, Try.ntmps113
    go_wp2
    go_ret
    exact ⟨ret_int (by decide), rfl⟩
theorem status_eq (s : St) : s.status = b2i (decide (0 < s.inp.length)) + 2 * b2i s.over + 96 * b2i (decide (s.out.length < 4096)) := by
  unfold St.status; cases s.inp <;> simp
/-- What read leaves. -/
def ReadPost (w : World) (b : Nat) (vr vi vo : Value) (s : St) (e : Ending) (w' : World) : Prop :=
  ∃ vi', e = .returned (.int .u64 (s.tells 0).1) ∧ PK 1 w' b vr vi' vo (s.tells 0).2 ∧ Turn (foot b vr vi vo) (foot b vr vi' vo) w w'
set_option maxHeartbeats 1000000 in
set_option maxRecDepth 100000 in
theorem read_any (h : PK 1 w b vr vi vo s) (hs : s.Ok) : Calls Try.prog 112 #[.pointer (some ⟨b, 6, none⟩)] w (ReadPost w b vr vi vo s) := by
  have d8 : w.cell? ⟨b, 8, none⟩ = some vi := h.cell 8 _ rfl
  have z8 := h.frozen 8
  rcases h.inp.at with ⟨rfl, e⟩ | ⟨g, cap, cur, rfl, hg, h3, h4, _⟩
  · have hp : ReadPost w b vr (.slice none 0 0) vo s (.returned (.int .u64 0)) w := by
      refine ⟨.slice none 0 0, by simp [St.tells, e], ?_, Turn.refl _ _⟩
      have : (s.tells 0).2 = s := by simp only [St.tells, if_true, e, List.tail_nil]; rw [← e]
      rw [this]; exact h
    have HP := Lib.hid hp; clear hp h e
    go_enter Try.func112, Try.ntmps112
    go_wp2
    go_ret
    exact HP.out
  · have H := Lib.hid h
    cases hi : s.inp with
    | nil =>
      have hp : ReadPost w b vr (.slice (some ⟨g, 0, none⟩) s.inp.length cap) vo s (.returned (.int .u64 0)) w := by
        refine ⟨_, by simp [St.tells, hi], ?_, Turn.refl _ _⟩
        have : (s.tells 0).2 = s := by simp only [St.tells, if_true, hi, List.tail_nil]; rw [← hi]
        rw [this]; exact h
      have HP := Lib.hid hp; clear hp h
      have hz : s.inp.length = 0 := by rw [hi]; rfl
      rw [hz] at d8
      clear hi hz
      go_enter Try.func112, Try.ntmps112
      go_wp2
      go_ret
      exact HP.out
    | cons x r =>
      have hx := h.inp.cell rfl 0 x (by rw [hi]; rfl)
      have hl : s.inp.length = r.length + 1 := by rw [hi]; rfl
      have hr : ∀ A, (A = 1 ∨ r = []) → Rd w (.slice (some ⟨g, A, none⟩) r.length (cap - 1)) r := fun A hA => .inr ⟨cap - 1, g, A, rfl, fun i y hy => by
        rcases hA with rfl | rfl
        · rw [Nat.add_comm]; exact h.inp.cell rfl (i + 1) y (by rw [hi]; simpa using hy)
        · simp at hy⟩
      have hrl : r.length ≤ 140737488351232 := by have := hs.i1; omega
      have hx0 := hs.ib x (by rw [hi]; exact List.mem_cons_self ..)
      have x0 := hx0.1
      have x1 := hx0.2
      rw [hl] at d8 h3
      have hcap : cap ≤ 9223372036854775807 := by unfold maxLen at h4; exact h4
      have q1 : 1 ≤ cap := by omega
      have hpost : ∀ v' w1, Bs w1 v' r → (∀ g, v'.ownBlock = some g → w.heap.size ≤ g) → Kept [] w w1 → ReadPost w b vr (.slice (some ⟨g, 0, none⟩) s.inp.length cap) vo s (.returned (.int .u64 x)) (w1.setCell ⟨b, 8, none⟩ v') := by
        intro v' w1 hb hn hk
        have hst := H.out.setInp (hk.mono (by simp)) hb (fun g hg => .inr (hn g hg)) 8 rfl
        refine ⟨v', by simp [St.tells, hi], ?_, hst.2⟩
        have : (s.tells 0).2 = { s with inp := r } := by simp [St.tells, hi]
        rw [this]; exact hst.1
      rw [hl] at hpost
      have HPO := Lib.hid hpost
      have HR := Lib.hid hr
      have HI := Lib.hid hi
      have HL := Lib.hid hl
      clear hpost hr hi hl hx0 h
      by_cases hc1 : cap = 1
      · have hr0 : r = [] := List.eq_nil_of_length_eq_zero (by omega)
        have HR0 := Lib.hid hr0
        subst hc1
        have hl0 : r.length = 0 := by omega
        rw [hl0] at d8
        clear hr0
        go_enter Try.func112, Try.ntmps112
        go_wp2_with (go_at_call 39; refine (own_any _ _ r (by have := HR.out 0 (.inr HR0.out); rw [hl0] at this; exact this) hrl).mono ?_; rintro e w2 ⟨v', rfl, hb, hn, hk⟩; obtain ⟨A', c', rfl⟩ := hb.shape; have e8 := (hk.cell (p := ⟨b, 8, none⟩) (World.block_lt_of_cell? w _ d8) (by simp)).trans d8; have f8 := (hk.frozen (p := ⟨b, 8, none⟩) (World.block_lt_of_cell? w _ d8) (by simp)).trans z8; have HB := Lib.hid hb; have HN := Lib.hid hn; have HK := Lib.hid hk; clear hb hn hk)
        go_ret
        have HX := HPO.out _ _ HB.out HN.out HK.out
        simp only [hl0] at HX ⊢
        exact HX
      · go_enter Try.func112, Try.ntmps112
        go_wp2_with (go_at_call 39; refine (own_any _ _ r (HR.out 1 (.inl rfl)) hrl).mono ?_; rintro e w2 ⟨v', rfl, hb, hn, hk⟩; obtain ⟨A', c', rfl⟩ := hb.shape; have e8 := (hk.cell (p := ⟨b, 8, none⟩) (World.block_lt_of_cell? w _ d8) (by simp)).trans d8; have f8 := (hk.frozen (p := ⟨b, 8, none⟩) (World.block_lt_of_cell? w _ d8) (by simp)).trans z8; have HB := Lib.hid hb; have HN := Lib.hid hn; have HK := Lib.hid hk; clear hb hn hk)
        go_ret
        exact HPO.out _ _ HB.out HN.out HK.out
end
end Go.Proofs.Ytkocfcgdjjdnhaa.BW
