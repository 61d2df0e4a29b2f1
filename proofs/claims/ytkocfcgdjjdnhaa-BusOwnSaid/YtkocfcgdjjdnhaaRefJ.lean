/- The document's bus: tells. Premise: a bus lies there. -/
import Derived.Test.YtkocfcgdjjdnhaaRefC
namespace Go.Proofs.Ytkocfcgdjjdnhaa.BW
open Go.RowKit
set_option linter.unusedVariables false
set_option linter.unusedSimpArgs false
section
variable {w : World} {b : Nat} {vr vi vo : Value} {s : St}
def RTellPost (w : World) (b : Nat) (vr vi vo : Value) (s : St) (reg : Int) (e : Ending) (w' : World) : Prop :=
  ∃ vi', e = .returned (.int .i64 (s.tells reg).1) ∧ RL w' b vr vi' vo (s.tells reg).2 ∧ Turn (foot b vr vi vo) (foot b vr vi' vo) w w'
set_option maxHeartbeats 4000000 in
set_option maxRecDepth 100000 in
theorem r_tells_1 (h : RL w b vr vi vo s) (hs : s.Ok) : Calls Try.prog 68 #[.pointer (some ⟨b, 0, none⟩), .int .i64 1] w (RTellPost w b vr vi vo s 1) := by
  have c : w.cell? ⟨b, 6, none⟩ = some (.int .u8 s.ier) := h.cell 6 _ rfl
  have i0 : 0 ≤ s.ier := by have := hs.ie; omega
  have i1 : s.ier ≤ 255 := by have := hs.ie; omega
  have HP := Lib.hid (show RTellPost w b vr vi vo s 1 (.returned (.int .i64 s.ier)) w from ⟨vi, by simp [St.tells], by simpa [St.tells] using h, .refl _ _⟩)
  clear h
  go_enter Try.func68, Try.ntmps68
  go_wp2
  go_ret
  exact HP.out
set_option maxHeartbeats 4000000 in
set_option maxRecDepth 100000 in
theorem r_tells_3 (h : RL w b vr vi vo s) (hs : s.Ok) : Calls Try.prog 68 #[.pointer (some ⟨b, 0, none⟩), .int .i64 3] w (RTellPost w b vr vi vo s 3) := by
  have c : w.cell? ⟨b, 7, none⟩ = some (.int .u8 s.lcr) := h.cell 7 _ rfl
  have i0 : 0 ≤ s.lcr := by have := hs.lc; omega
  have i1 : s.lcr ≤ 255 := by have := hs.lc; omega
  have HP := Lib.hid (show RTellPost w b vr vi vo s 3 (.returned (.int .i64 s.lcr)) w from ⟨vi, by simp [St.tells], by simpa [St.tells] using h, .refl _ _⟩)
  clear h
  go_enter Try.func68, Try.ntmps68
  go_wp2
  go_ret
  exact HP.out
set_option maxHeartbeats 4000000 in
set_option maxRecDepth 100000 in
theorem r_tells_4 (h : RL w b vr vi vo s) (hs : s.Ok) : Calls Try.prog 68 #[.pointer (some ⟨b, 0, none⟩), .int .i64 4] w (RTellPost w b vr vi vo s 4) := by
  have c : w.cell? ⟨b, 8, none⟩ = some (.int .u8 s.mcr) := h.cell 8 _ rfl
  have i0 : 0 ≤ s.mcr := by have := hs.mc; omega
  have i1 : s.mcr ≤ 255 := by have := hs.mc; omega
  have HP := Lib.hid (show RTellPost w b vr vi vo s 4 (.returned (.int .i64 s.mcr)) w from ⟨vi, by simp [St.tells], by simpa [St.tells] using h, .refl _ _⟩)
  clear h
  go_enter Try.func68, Try.ntmps68
  go_wp2
  go_ret
  exact HP.out
set_option maxHeartbeats 4000000 in
set_option maxRecDepth 100000 in
theorem r_tells_7 (h : RL w b vr vi vo s) (hs : s.Ok) : Calls Try.prog 68 #[.pointer (some ⟨b, 0, none⟩), .int .i64 7] w (RTellPost w b vr vi vo s 7) := by
  have c : w.cell? ⟨b, 9, none⟩ = some (.int .u8 s.scr) := h.cell 9 _ rfl
  have i0 : 0 ≤ s.scr := by have := hs.sc; omega
  have i1 : s.scr ≤ 255 := by have := hs.sc; omega
  have HP := Lib.hid (show RTellPost w b vr vi vo s 7 (.returned (.int .i64 s.scr)) w from ⟨vi, by simp [St.tells], by simpa [St.tells] using h, .refl _ _⟩)
  clear h
  go_enter Try.func68, Try.ntmps68
  go_wp2
  go_ret
  exact HP.out
set_option maxHeartbeats 4000000 in
set_option maxRecDepth 100000 in
theorem r_tells_6 (h : RL w b vr vi vo s) (hs : s.Ok) : Calls Try.prog 68 #[.pointer (some ⟨b, 0, none⟩), .int .i64 6] w (RTellPost w b vr vi vo s 6) := by
  have HP := Lib.hid (show RTellPost w b vr vi vo s 6 (.returned (.int .i64 0)) w from ⟨vi, by simp [St.tells], by simpa [St.tells] using h, .refl _ _⟩)
  clear h
  go_enter Try.func68, Try.ntmps68
  go_wp2
  go_ret
  exact HP.out
set_option maxHeartbeats 4000000 in
set_option maxRecDepth 100000 in
theorem r_tells_2 (h : RL w b vr vi vo s) (hs : s.Ok) : Calls Try.prog 68 #[.pointer (some ⟨b, 0, none⟩), .int .i64 2] w (RTellPost w b vr vi vo s 2) := by
  have HL := Lib.hid (r_line_any h hs)
  cases hq : s.line
  all_goals
    rw [hq] at HL
    have HP := Lib.hid (show RTellPost w b vr vi vo s 2 (.returned (.int .i64 (if s.line = true then 4 else 1))) w from ⟨vi, by simp [St.tells], by simpa [St.tells] using h, .refl _ _⟩)
    rw [hq] at HP
    clear h hq
    go_enter Try.func68, Try.ntmps68
    go_wp2_with (go_at_call 74; refine HL.out.mono ?_; rintro e w' ⟨rfl, rfl⟩)
    go_ret
    exact HP.out
set_option maxHeartbeats 8000000 in
set_option maxRecDepth 100000 in
theorem r_tells_5 (h : RL w b vr vi vo s) (hs : s.Ok) : Calls Try.prog 68 #[.pointer (some ⟨b, 0, none⟩), .int .i64 5] w (RTellPost w b vr vi vo s 5) := by
  have HP := Lib.hid (show RTellPost w b vr vi vo s 5 (.returned (.int .i64 (b2i (decide (0 < s.inp.length)) + 2 * b2i s.over + 96 * b2i (decide (s.out.length < 4096))))) (w.setCell ⟨b, 10, none⟩ (.bool false)) from
    ⟨vi, by rw [← status_eq]; simp [St.tells], by simpa [St.tells] using h.set 10 (.bool false) (s' := { s with over := false }) rfl, h.turn 10 _⟩)
  obtain ⟨A, c, rfl⟩ := h.inp.shape
  obtain ⟨B, d, rfl⟩ := h.out.shape
  have c11 : w.cell? ⟨b, 11, none⟩ = some (.slice A s.inp.length c) := h.cell 11 _ rfl
  have c12 : w.cell? ⟨b, 12, none⟩ = some (.slice B s.out.length d) := h.cell 12 _ rfl
  have c10 : w.cell? ⟨b, 10, none⟩ = some (.bool s.over) := h.cell 10 _ rfl
  have z10 := h.frozen 10
  generalize s.inp.length = n at *
  generalize s.out.length = m at *
  generalize s.over = o at *
  clear h hs
  by_cases h1 : 0 < n <;> by_cases h2 : m < 4096 <;> cases o
  all_goals
    have q1 : decide (0 < (n : Int)) = decide (0 < n) := by simp
    have q2 : decide ((m : Int) < 4096) = decide (m < 4096) := by rw [decide_eq_decide]; omega
    simp only [h1, h2, decide_true, decide_false] at q1 q2 HP
    have HP2 := Lib.hid HP.out
    clear HP
    go_enter Try.func68, Try.ntmps68
    go_wp2
    go_ret
    exact HP2.out
set_option maxHeartbeats 4000000 in
set_option maxRecDepth 100000 in
theorem r_tells_0 (h : RL w b vr vi vo s) (hs : s.Ok) : Calls Try.prog 68 #[.pointer (some ⟨b, 0, none⟩), .int .i64 0] w (RTellPost w b vr vi vo s 0) := by
  have d8 : w.cell? ⟨b, 11, none⟩ = some vi := h.cell 11 _ rfl
  have z8 := h.frozen 11
  rcases h.inp.at with ⟨rfl, e⟩ | ⟨g, cap, cur, rfl, hg, h3, h4, _⟩
  · have hp : RTellPost w b vr (.slice none 0 0) vo s 0 (.returned (.int .i64 0)) w := by
      refine ⟨.slice none 0 0, by simp [St.tells, e], ?_, Turn.refl _ _⟩
      have : (s.tells 0).2 = s := by simp only [St.tells, if_true, e, List.tail_nil]; rw [← e]
      rw [this]; exact h
    have HP := Lib.hid hp; clear hp h e
    go_enter Try.func68, Try.ntmps68
    go_wp2
    go_ret
    exact HP.out
  · have H := Lib.hid h
    cases hi : s.inp with
    | nil =>
      have hp : RTellPost w b vr (.slice (some ⟨g, 0, none⟩) s.inp.length cap) vo s 0 (.returned (.int .i64 0)) w := by
        refine ⟨_, by simp [St.tells, hi], ?_, Turn.refl _ _⟩
        have : (s.tells 0).2 = s := by simp only [St.tells, if_true, hi, List.tail_nil]; rw [← hi]
        rw [this]; exact h
      have HP := Lib.hid hp; clear hp h
      have hz : s.inp.length = 0 := by rw [hi]; rfl
      rw [hz] at d8
      clear hi hz
      go_enter Try.func68, Try.ntmps68
      go_wp2
      go_ret
      exact HP.out
    | cons x r =>
      have hx := h.inp.cell rfl 0 x (by rw [hi]; rfl)
      have hl : s.inp.length = r.length + 1 := by rw [hi]; rfl
      have hr : ∀ A, (A = 1 ∨ r = []) → Rd w (.slice (some ⟨g, A, none⟩) r.length (cap - 1)) r := fun A hA => .inr ⟨cap - 1, g, A, rfl, fun i y hy => by
        rcases hA with rfl | rfl
        · rw [Nat.add_comm]; exact h.inp.cell rfl (i + 1) y (by rw [hi]; simpa using hy)
        · simp at hy⟩
      have hrl : ([] : List Int).length + r.length ≤ 140737488355328 := by have := hs.i1; simp; omega
      have hx0 := hs.ib x (by rw [hi]; exact List.mem_cons_self ..)
      have x0 := hx0.1
      have x1 := hx0.2
      rw [hl] at d8 h3
      have hcap : cap ≤ 9223372036854775807 := by unfold maxLen at h4; exact h4
      have q1 : 1 ≤ cap := by omega
      have hbl : b < w.heap.size := h.lt b (by simp [foot])
      have hpost : ∀ v' w1, Grew w w1 (.slice none 0 0) v' ([] ++ r) → RTellPost w b vr (.slice (some ⟨g, 0, none⟩) s.inp.length cap) vo s 0 (.returned (.int .i64 x)) (w1.setCell ⟨b, 11, none⟩ v') := by
        intro v' w1 hgr
        have hk : Kept [] w w1 := hgr.kept
        have hbs : Bs w1 v' r := by simpa using hgr.bs
        have hst := H.out.setInp (hk.mono (by simp)) hbs (fun g hg => .inr ((hgr.blk g hg).elim (fun e => by simp [Value.ownBlock] at e) id)) 11 rfl
        refine ⟨v', by simp [St.tells, hi], ?_, hst.2⟩
        have : (s.tells 0).2 = { s with inp := r } := by simp [St.tells, hi]
        rw [this]; exact hst.1
      rw [hl] at hpost
      have HPO := Lib.hid hpost
      have HR := Lib.hid hr
      have HI := Lib.hid hi
      have HL := Lib.hid hl
      have HRL := Lib.hid hrl
      clear hpost hr hi hl hx0 h hrl
      by_cases hc1 : cap = 1
      · have hr0 : r = [] := List.eq_nil_of_length_eq_zero (by omega)
        have HR0 := Lib.hid hr0
        subst hc1
        have hl0 : r.length = 0 := by omega
        rw [hl0] at d8
        clear hr0
        go_enter Try.func68, Try.ntmps68
        go_wp2_with (at_builtin; refine wpList_append_bs rfl _ _ rfl _ _ [] r rfl rfl (Bs.nil _) (by have := HR.out 0 (.inr HR0.out); rw [hl0] at this; exact this) HRL.out ?_; intro v' w2 hgr; obtain ⟨A', c', rfl⟩ := hgr.bs.shape; have hk2 : Kept [] w w2 := hgr.kept; have e8 := (hk2.cell (p := ⟨b, 11, none⟩) hbl (by simp)).trans d8; have f8 := (hk2.frozen (p := ⟨b, 11, none⟩) hbl (by simp)).trans z8; have HG := Lib.hid hgr; clear hgr hk2)
        go_ret
        have HX := HPO.out _ _ HG.out
        simp only [hl0, List.nil_append] at HX ⊢
        exact HX
      · go_enter Try.func68, Try.ntmps68
        go_wp2_with (at_builtin; refine wpList_append_bs rfl _ _ rfl _ _ [] r rfl rfl (Bs.nil _) (HR.out 1 (.inl rfl)) HRL.out ?_; intro v' w2 hgr; obtain ⟨A', c', rfl⟩ := hgr.bs.shape; have hk2 : Kept [] w w2 := hgr.kept; have e8 := (hk2.cell (p := ⟨b, 11, none⟩) hbl (by simp)).trans d8; have f8 := (hk2.frozen (p := ⟨b, 11, none⟩) hbl (by simp)).trans z8; have HG := Lib.hid hgr; clear hgr hk2)
        go_ret
        exact HPO.out _ _ HG.out
theorem r_tells_any (h : RL w b vr vi vo s) (hs : s.Ok) (reg : Int) (r0 : 0 ≤ reg) (r1 : reg < 8) : Calls Try.prog 68 #[.pointer (some ⟨b, 0, none⟩), .int .i64 reg] w (RTellPost w b vr vi vo s reg) := by
  rcases (show reg = 0 ∨ reg = 1 ∨ reg = 2 ∨ reg = 3 ∨ reg = 4 ∨ reg = 5 ∨ reg = 6 ∨ reg = 7 by omega) with rfl | rfl | rfl | rfl | rfl | rfl | rfl | rfl
  · exact r_tells_0 h hs
  · exact r_tells_1 h hs
  · exact r_tells_2 h hs
  · exact r_tells_3 h hs
  · exact r_tells_4 h hs
  · exact r_tells_5 h hs
  · exact r_tells_6 h hs
  · exact r_tells_7 h hs
end
end Go.Proofs.Ytkocfcgdjjdnhaa.BW
