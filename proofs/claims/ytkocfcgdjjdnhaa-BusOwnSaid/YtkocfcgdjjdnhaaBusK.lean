/- The console of the program's bus: bytes come in; its state told and set. Premise: a bus lies there. -/
import Derived.Test.YtkocfcgdjjdnhaaBusJ
namespace Go.Proofs.Ytkocfcgdjjdnhaa.BW
open Go.RowKit Go.MuLone
set_option linter.unusedVariables false
set_option linter.unusedSimpArgs false
section
variable {w : World} {b : Nat} {vr vi vo : Value} {s : St}
theorem Grew.undrew {w w' : World} {v v' : Value} {l : List Int} (h : Grew w.drew w' v v' l) : Grew w w' v v' l := ⟨h.bs, ⟨h.kept.os, h.kept.tape, h.kept.output, h.kept.size, h.kept.block⟩, h.blk⟩
/-- What join leaves. -/
def JoinPost (w : World) (b : Nat) (vr vi vo : Value) (s : St) (l : List Int) (e : Ending) (w' : World) : Prop :=
  ∃ vi', e = .returned (.tuple #[]) ∧ PL w' b vr vi' vo (s.join l) ∧ Turn (foot b vr vi vo) (foot b vr vi' vo) w w'
theorem Rd.shape {w : World} {v : Value} {l : List Int} (h : Rd w v l) : ∃ A c, v = .slice A l.length c := by
  rcases h with ⟨rfl, rfl⟩ | ⟨c, g, o, rfl, _⟩
  · exact ⟨none, 0, rfl⟩
  · exact ⟨_, c, rfl⟩
set_option maxHeartbeats 2000000 in
set_option maxRecDepth 100000 in
theorem join_fit (h : PL w b vr vi vo s) (hs : s.Ok) (g o n c : Nat) (l : List Int) (hn : n = l.length) (hc : n ≤ c) (hm : c ≤ maxLen) (hr : Rd w (.slice (some ⟨g, o, none⟩) n c) l) (hF : g ∉ foot b vr vi vo) (hl : l.length ≤ 140737488351232) (hfit : s.inp.length + n ≤ 64) :
    Calls Try.prog 45 #[.pointer (some ⟨b, 6, none⟩), .slice (some ⟨g, o, none⟩) n c] w (JoinPost w b vr vi vo s l) := by
  have c6 := h.cell 6 _ rfl
  have z6 := h.frozen 6
  have h1 : PK 1 (w.setCell ⟨b, 6, none⟩ (.int .i32 1)) b vr vi vo s := h.set 6 (.int .i32 1) rfl
  have H1 := Lib.hid h1
  have K1 := Lib.hid (h.turn 6 (.int .i32 1))
  obtain ⟨A, k, rfl, -⟩ := h1.inpAt
  have d : (w.setCell ⟨b, 6, none⟩ (.int .i32 1)).cell? ⟨b, 8, none⟩ = some (.slice A s.inp.length k) := h1.cell 8 _ rfl
  have d' := d
  rw [World.cell?_setCell_other _ _ _ _ (by simp)] at d
  have z := h.frozen 8
  have hlt : b < w.heap.size := h.lt b (by simp [foot])
  have hnb : b ∉ (Value.slice A s.inp.length k).ownBlock.toList := fun hm => h1.ni b (by simpa using hm) rfl
  have HNB := Lib.hid hnb
  have HRK := Lib.hid (hr.keep ((Kept.refl [b] w).setCell (by simp) (.int .i32 1) : Kept [b] w (w.setCell ⟨b, 6, none⟩ (.int .i32 1))) (fun g' o' n' c' e => by cases e; simp only [List.mem_singleton]; rintro rfl; exact hF (by simp [foot])))
  have HN := Lib.hid hn
  unfold maxLen at hm
  clear h h1 hr hn hnb hF
  go_enter_defers Try.func45, Try.ntmps45
  go_wp2_with (first | (go_at_call 62; refine (lock_free muLib ⟨b, 6, none⟩ _ c6 z6).mono ?_; rintro e w' ⟨rfl, rfl⟩))
  refine wp_region_noPanic ?_
  go_region_law ((refine step_append_bs (by rfl) _ _ (by rfl) _ _ s.inp l (by rfl) (by rfl) H1.out.inp HRK.out (by omega) ?_; intro v' w2 hg; obtain ⟨A', c', rfl⟩ := hg.bs.shape; have e8 : w2.cell? ⟨b, 8, none⟩ = some (.slice A s.inp.length k) := (hg.kept.cell (p := ⟨b, 8, none⟩) (by simp; omega) HNB.out).trans (H1.out.cell 8 _ rfl); have f8 := (hg.kept.frozen (p := ⟨b, 8, none⟩) (by simp; omega) HNB.out).trans (H1.out.frozen 8); have HG := Lib.hid hg; clear hg))
  refine NoPanic.normal ?_
  go_wp2
  have hst := H1.out.setInp HG.out.undrew.kept HG.out.bs HG.out.undrew.blk 8 rfl
  rw [show (s.inp ++ l).length = s.inp.length + l.length by simp] at hst
  refine leaves_cons (f := 63) (args := #[.pointer (some ⟨b, 6, none⟩)]) (by simp) (by simp [go_sem]) ?_
  refine (unlock_deferred muLib ⟨b, 6, none⟩ .returning _ (hst.1.cell 6 _ rfl) (hst.1.frozen 6)).mono ?_
  rintro e u' w'' ⟨rfl, rfl, rfl⟩
  have hj : s.join l = { s with inp := s.inp ++ l } := by
    have hl := HN.out
    unfold St.join
    rw [List.take_of_length_le (by omega), decide_eq_false (by omega), Bool.or_false]
  refine ⟨_, results_none rfl _ _ _, ?_⟩
  unfold JoinPost
  rw [hj]
  exact ⟨_, rfl, hst.1.set 6 _ rfl, (K1.out.trans hst.2).trans (hst.1.turn 6 _)⟩
set_option maxHeartbeats 2000000 in
set_option maxRecDepth 100000 in
theorem join_nil (h : PL w b vr vi vo s) (hs : s.Ok)  :
    Calls Try.prog 45 #[.pointer (some ⟨b, 6, none⟩), .slice none 0 0] w (JoinPost w b vr vi vo s []) := by
  have c6 := h.cell 6 _ rfl
  have z6 := h.frozen 6
  have h1 : PK 1 (w.setCell ⟨b, 6, none⟩ (.int .i32 1)) b vr vi vo s := h.set 6 (.int .i32 1) rfl
  have H1 := Lib.hid h1
  have K1 := Lib.hid (h.turn 6 (.int .i32 1))
  obtain ⟨A, k, rfl, -⟩ := h1.inpAt
  have d : (w.setCell ⟨b, 6, none⟩ (.int .i32 1)).cell? ⟨b, 8, none⟩ = some (.slice A s.inp.length k) := h1.cell 8 _ rfl
  have d' := d
  rw [World.cell?_setCell_other _ _ _ _ (by simp)] at d
  have z := h.frozen 8
  have hlt : b < w.heap.size := h.lt b (by simp [foot])
  have hnb : b ∉ (Value.slice A s.inp.length k).ownBlock.toList := fun hm => h1.ni b (by simpa using hm) rfl
  have HNB := Lib.hid hnb
  have HRK := Lib.hid (show Rd (w.setCell ⟨b, 6, none⟩ (.int .i32 1)) (.slice none 0 0) [] from .inl ⟨rfl, rfl⟩)
  have hfit := hs.i1
  have HI := Lib.hid hfit
  clear h h1 hnb
  go_enter_defers Try.func45, Try.ntmps45
  go_wp2_with (first | (go_at_call 62; refine (lock_free muLib ⟨b, 6, none⟩ _ c6 z6).mono ?_; rintro e w' ⟨rfl, rfl⟩))
  refine wp_region_noPanic ?_
  go_region_law ((refine step_append_bs (by rfl) _ _ (by rfl) _ _ s.inp [] (by rfl) (by rfl) H1.out.inp HRK.out (by simp; omega) ?_; intro v' w2 hg; obtain ⟨A', c', rfl⟩ := hg.bs.shape; have e8 : w2.cell? ⟨b, 8, none⟩ = some (.slice A s.inp.length k) := (hg.kept.cell (p := ⟨b, 8, none⟩) (by simp; omega) HNB.out).trans (H1.out.cell 8 _ rfl); have f8 := (hg.kept.frozen (p := ⟨b, 8, none⟩) (by simp; omega) HNB.out).trans (H1.out.frozen 8); have HG := Lib.hid hg; clear hg))
  refine NoPanic.normal ?_
  go_wp2
  have hst := H1.out.setInp HG.out.undrew.kept HG.out.bs HG.out.undrew.blk 8 rfl
  simp only [List.append_nil] at hst
  refine leaves_cons (f := 63) (args := #[.pointer (some ⟨b, 6, none⟩)]) (by simp) (by simp [go_sem]) ?_
  refine (unlock_deferred muLib ⟨b, 6, none⟩ .returning _ (hst.1.cell 6 _ rfl) (hst.1.frozen 6)).mono ?_
  rintro e u' w'' ⟨rfl, rfl, rfl⟩
  have hj : s.join [] = { s with inp := s.inp } := by
    have := HI.out
    unfold St.join
    rw [List.take_nil, List.append_nil, decide_eq_false (by simp; omega), Bool.or_false]
  refine ⟨_, results_none rfl _ _ _, ?_⟩
  unfold JoinPost
  rw [hj]
  exact ⟨_, rfl, hst.1.set 6 _ rfl, (K1.out.trans hst.2).trans (hst.1.turn 6 _)⟩
set_option maxHeartbeats 2000000 in
set_option maxRecDepth 100000 in
theorem join_over (h : PL w b vr vi vo s) (hs : s.Ok) (g o n c : Nat) (l : List Int) (hn : n = l.length) (hc : n ≤ c) (hm : c ≤ maxLen) (hr : Rd w (.slice (some ⟨g, o, none⟩) n c) l) (hF : g ∉ foot b vr vi vo) (hl : l.length ≤ 140737488351232) (hfit : 64 < s.inp.length + n) :
    Calls Try.prog 45 #[.pointer (some ⟨b, 6, none⟩), .slice (some ⟨g, o, none⟩) n c] w (JoinPost w b vr vi vo s l) := by
  have c6 := h.cell 6 _ rfl
  have z6 := h.frozen 6
  have h1 : PK 1 (w.setCell ⟨b, 6, none⟩ (.int .i32 1)) b vr vi vo s := h.set 6 (.int .i32 1) rfl
  have H1 := Lib.hid h1
  have K1 := Lib.hid (h.turn 6 (.int .i32 1))
  obtain ⟨A, k, rfl, -⟩ := h1.inpAt
  have d : (w.setCell ⟨b, 6, none⟩ (.int .i32 1)).cell? ⟨b, 8, none⟩ = some (.slice A s.inp.length k) := h1.cell 8 _ rfl
  have d' := d
  rw [World.cell?_setCell_other _ _ _ _ (by simp)] at d
  have z := h.frozen 8
  have hi1 := hs.i1
  obtain ⟨q, hq⟩ : ∃ q, q = 64 - s.inp.length := ⟨_, rfl⟩
  have e64 : wrap64 (64 - (s.inp.length : Int)) = (q : Int) := by unfold wrap64; omega
  have hqn : q < n := by omega
  have hqc : q ≤ c := by omega
  have HQ := Lib.hid hq
  have HI := Lib.hid hi1
  have HNL := Lib.hid hn
  have b1 : decide ((q : Int) < (n : Int)) = true := by simpa using hqn
  have hz14 := h.frozen 14
  have hlq : (l.take q).length = q := by rw [List.length_take]; omega
  have HLQ := Lib.hid hlq
  have hrq : Rd w (.slice (some ⟨g, o, none⟩) q c) (l.take q) := by
    rcases hr with ⟨h1, _⟩ | ⟨c', g', o', h1, h2⟩
    · cases h1
    · cases h1
      refine .inr ⟨_, _, _, by rw [hlq], fun i x hx => ?_⟩
      rw [List.getElem?_take] at hx
      split at hx
      · exact h2 i x hx
      · cases hx
  have hlt : b < w.heap.size := h.lt b (by simp [foot])
  have hnb : b ∉ (Value.slice A s.inp.length k).ownBlock.toList := fun hm => h1.ni b (by simpa using hm) rfl
  have HNB := Lib.hid hnb
  have HRK := Lib.hid (hrq.keep ((Kept.refl [b] w).setCell (by simp) (.int .i32 1) : Kept [b] w (w.setCell ⟨b, 6, none⟩ (.int .i32 1))) (fun g' o' n' c' e => by cases e; simp only [List.mem_singleton]; rintro rfl; exact hF (by simp [foot])))
  have HN := Lib.hid hn
  unfold maxLen at hm
  clear h h1 hr hn hnb hF hq hrq hi1 hfit hlq
  go_enter_defers Try.func45, Try.ntmps45
  go_wp2_with (first | (go_at_call 62; refine (lock_free muLib ⟨b, 6, none⟩ _ c6 z6).mono ?_; rintro e w' ⟨rfl, rfl⟩))
  refine wp_region_noPanic ?_
  go_region_law ((refine step_append_bs (by rfl) _ _ (by rfl) _ _ s.inp (l.take q) (by rfl) (by rfl) H1.out.inp HRK.out (by rw [List.length_take]; have := HI.out; omega) ?_; intro v' w2 hg; obtain ⟨A', c', rfl⟩ := hg.bs.shape; have e8 : w2.cell? ⟨b, 8, none⟩ = some (.slice A s.inp.length k) := (hg.kept.cell (p := ⟨b, 8, none⟩) (by simp; omega) HNB.out).trans (H1.out.cell 8 _ rfl); have f8 := (hg.kept.frozen (p := ⟨b, 8, none⟩) (by simp; omega) HNB.out).trans (H1.out.frozen 8); have e14 : w2.cell? ⟨b, 14, none⟩ = some (.bool s.over) := (hg.kept.cell (p := ⟨b, 14, none⟩) (by simp; omega) HNB.out).trans (H1.out.cell 14 _ rfl); have f14 := (hg.kept.frozen (p := ⟨b, 14, none⟩) (by simp; omega) HNB.out).trans (H1.out.frozen 14); have HG := Lib.hid hg; clear hg))
  refine NoPanic.normal ?_
  go_wp2
  have hst := H1.out.setInp HG.out.undrew.kept HG.out.bs HG.out.undrew.blk 8 rfl
  rw [show (s.inp ++ l.take q).length = s.inp.length + min q l.length by simp] at hst
  have hs2 := hst.1.set 14 (.bool true) (s' := { s with inp := s.inp ++ l.take q, over := true }) (cs' := fun vr vi vo s => pCells vr vi vo s 1) rfl
  refine leaves_cons (f := 63) (args := #[.pointer (some ⟨b, 6, none⟩)]) (by simp) (by simp [go_sem]) ?_
  refine (unlock_deferred muLib ⟨b, 6, none⟩ .returning _ (hs2.cell 6 _ rfl) (hs2.frozen 6)).mono ?_
  rintro e u' w'' ⟨rfl, rfl, rfl⟩
  have hj : s.join l = { s with inp := s.inp ++ l.take q, over := true } := by
    have h1 := HNL.out
    have h2 := HQ.out
    unfold St.join
    rw [← h2, decide_eq_true (by omega), Bool.or_true]
  refine ⟨_, results_none rfl _ _ _, ?_⟩
  unfold JoinPost
  rw [hj]
  exact ⟨_, rfl, hs2.set 6 _ rfl, ((K1.out.trans hst.2).trans (hst.1.turn 14 _)).trans (hs2.turn 6 _)⟩
/-- join, whatever comes in. -/
theorem join_any (h : PL w b vr vi vo s) (hs : s.Ok) (v : Value) (l : List Int) (hr : Rd w v l) (hc : ∀ A n c, v = .slice A n c → n ≤ c ∧ c ≤ maxLen) (hF : ∀ g o n c, v = .slice (some ⟨g, o, none⟩) n c → g ∉ foot b vr vi vo) (hl : l.length ≤ 140737488351232) :
    Calls Try.prog 45 #[.pointer (some ⟨b, 6, none⟩), v] w (JoinPost w b vr vi vo s l) := by
  rcases hr with ⟨rfl, rfl⟩ | ⟨c, g, o, rfl, hx⟩
  · exact join_nil h hs
  · have h1 := hc _ _ _ rfl
    by_cases hf : s.inp.length + l.length ≤ 64
    · exact join_fit h hs g o l.length c l rfl h1.1 h1.2 (.inr ⟨c, g, o, rfl, hx⟩) (hF g o _ _ rfl) hl hf
    · exact join_over h hs g o l.length c l rfl h1.1 h1.2 (.inr ⟨c, g, o, rfl, hx⟩) (hF g o _ _ rfl) hl (by omega)
end
end Go.Proofs.Ytkocfcgdjjdnhaa.BW
