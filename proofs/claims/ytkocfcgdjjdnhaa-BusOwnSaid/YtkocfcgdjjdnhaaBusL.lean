/- The console of the program's bus: its state told and set. Premise: a bus lies there. -/
import Derived.Test.YtkocfcgdjjdnhaaBusK
import Derived.StillTailTactics
namespace Go.Proofs.Ytkocfcgdjjdnhaa.BW
open Go.RowKit Go.MuLone
set_option linter.unusedVariables false
set_option linter.unusedSimpArgs false
theorem row_cell {W : World} {g : Nat} {cs : Array Value} {t : TypeId} (h : W.heap[g]? = some (.cells cs t (0, 0))) (j : Nat) (v : Value) (hv : cs[j]? = some v) : W.cell? ⟨g, j, none⟩ = some v := (cell_of_row W g j cs t (0, 0) h).trans hv
theorem row_set {W : World} {g : Nat} {cs cs' : Array Value} {t : TypeId} (h : W.heap[g]? = some (.cells cs t (0, 0))) (j : Nat) (v : Value) (hv : cs.setIfInBounds j v = cs') : (W.setCell ⟨g, j, none⟩ v).heap[g]? = some (.cells cs' t (0, 0)) := by
  rw [heap_setCell_same W g j _ t v h, hv]
theorem row_drew {W : World} {g : Nat} {o : Option Obj} (h : W.heap[g]? = o) : W.drew.heap[g]? = o := h
section
variable {w : World} {b : Nat} {vr vi vo : Value} {s : St}
/-- What own leaves of a bus that lies there. -/
structure OwnIn (W : World) (b : Nat) (vr vi vo : Value) (s : St) (l : List Int) (v' : Value) (w2 : World) : Prop where
  bs : Bs w2 v' l
  new : ∀ g, v'.ownBlock = some g → W.heap.size ≤ g
  kept : Kept [] W w2
  lies : PK 1 w2 b vr vi vo s
theorem own_in {W : World} {v : Value} {l : List Int} (h : PK 1 W b vr vi vo s) (hr : Rd W v l) (hl : l.length ≤ 140737488351232) :
    Calls Try.prog 39 #[v] W fun e w2 => ∃ A c, e = .returned (.slice A l.length c) ∧ w2.cell? ⟨b, 8, none⟩ = some vi ∧ w2.cell? ⟨b, 9, none⟩ = some vo ∧ Hid (OwnIn W b vr vi vo s l (.slice A l.length c) w2) :=
  (own_any W v l hr hl).mono fun e w2 ⟨v', he, hb, hn, hk⟩ => by
    obtain ⟨A, c, rfl⟩ := hb.shape
    have h2 := h.keep0 hk
    exact ⟨A, c, he, h2.cell 8 _ rfl, h2.cell 9 _ rfl, ⟨hb, hn, hk, h2⟩⟩
/-- What tell leaves. -/
def TellPost (w : World) (b sb : Nat) (vr vi vo : Value) (s : St) (x0 x1 x2 x3 x4 x5 x13 x14 : Value) (e : Ending) (w' : World) : Prop :=
  ∃ vi' vo', e = .returned (.tuple #[]) ∧ w'.heap[sb]? = some (.cells #[x0, x1, x2, x3, x4, x5, .int .u8 s.ier, .int .u8 s.lcr, .int .u8 s.mcr, .int .u8 s.scr, .bool s.over, vi', vo', x13, x14] 26 (0, 0)) ∧ Bs w' vi' s.inp ∧ Bs w' vo' s.out ∧
    (∀ g, vi'.ownBlock = some g → w.heap.size ≤ g) ∧ (∀ g, vo'.ownBlock = some g → w.heap.size ≤ g) ∧ (∀ g, vi'.ownBlock = some g → vo'.ownBlock ≠ some g) ∧ PL w' b vr vi vo s ∧ Kept [b, sb] w w'
theorem tell_close {W1 w2 w3 W5 : World} {b sb : Nat} {v2 v3 : Value} {x0 x1 x2 x3 x4 x5 x13 x14 : Value} (hb : sb ≠ b) (O2 : OwnIn W1.drew b vr vi vo s s.inp v2 w2) (O3 : OwnIn w2 b vr vi vo s s.out v3 w3) (HNF : ∀ x ∈ foot b vr vi vo, x ∉ [sb]) (kE : Kept [sb] w3 W5)
    (hr : W5.heap[sb]? = some (.cells #[x0, x1, x2, x3, x4, x5, .int .u8 s.ier, .int .u8 s.lcr, .int .u8 s.mcr, .int .u8 s.scr, .bool s.over, v2, v3, x13, x14] 26 (0, 0))) (hW : W1.heap.size = w.heap.size) (k1 : Kept [b] w W1) (hslt : sb < w.heap.size) (hlt : b < w.heap.size) :
    PK 1 W5 b vr vi vo s ∧ TellPost w b sb vr vi vo s x0 x1 x2 x3 x4 x5 x13 x14 (.returned (.tuple #[])) (W5.setCell ⟨b, 6, none⟩ (.int .i32 0)) := by
  have h5 := O3.lies.keep kE HNF
  have q2 : ∀ g, v2.ownBlock = some g → w.heap.size ≤ g := fun g hg => by have := O2.new g hg; rw [show W1.drew.heap.size = w.heap.size from hW] at this; exact this
  have l2 : w.heap.size ≤ w2.heap.size := by have := O2.kept.size; rw [show W1.drew.heap.size = w.heap.size from hW] at this; exact this
  have q3 := O3.new
  have b2 := ((O2.bs.keep O3.kept (by simp)).keep kE (fun g hg => by have := q2 g hg; simp; omega))
  have b3 := (O3.bs.keep kE (fun g hg => by have := q3 g hg; simp; omega))
  have kF : Kept [b] W5 (W5.setCell ⟨b, 6, none⟩ (.int .i32 0)) := (Kept.refl [b] W5).setCell (by simp) _
  have kAll := ((k1.drew.trans O2.kept (by simp)).trans O3.kept (by simp))
  refine ⟨h5, v2, v3, rfl, kF.row hr (by simpa using hb), b2.keep kF (fun g hg => by have := q2 g hg; simp; omega), b3.keep kF (fun g hg => by have := q3 g hg; simp; omega), q2, fun g hg => by have := q3 g hg; omega,
    fun g h2 h3 => by have := q3 g h3; have := O2.bs.lt g h2; omega, h5.set 6 _ rfl, ?_⟩
  exact ((kAll.mono (G := [b, sb]) (by simp)).trans (kE.mono (G := [b, sb]) (by simp)) (fun x hx _ => hx)).trans (kF.mono (G := [b, sb]) (by simp)) (fun x hx _ => hx)
set_option maxHeartbeats 16000000 in
set_option maxRecDepth 100000 in
theorem tell_any (h : PL w b vr vi vo s) (hs : s.Ok) (sb : Nat) (x0 x1 x2 x3 x4 x5 x6 x7 x8 x9 x10 x11 x12 x13 x14 : Value) (hsb : w.heap[sb]? = some (.cells #[x0, x1, x2, x3, x4, x5, x6, x7, x8, x9, x10, x11, x12, x13, x14] 26 (0, 0))) (hne : sb ∉ foot b vr vi vo) :
    Calls Try.prog 40 #[.pointer (some ⟨b, 6, none⟩), .pointer (some ⟨sb, 0, none⟩)] w (TellPost w b sb vr vi vo s x0 x1 x2 x3 x4 x5 x13 x14) := by
  have c6 := h.cell 6 _ rfl
  have z6 := h.frozen 6
  have h1 : PK 1 (w.setCell ⟨b, 6, none⟩ (.int .i32 1)) b vr vi vo s := h.set 6 (.int .i32 1) rfl
  have k1 : Kept [b] w (w.setCell ⟨b, 6, none⟩ (.int .i32 1)) := (Kept.refl _ w).setCell (by simp) _
  have hb : sb ≠ b := fun e => hne (by simp [foot, e])
  have hlt : b < w.heap.size := h.lt b (by simp [foot])
  have hslt : sb < w.heap.size := (Array.getElem?_eq_some_iff.1 hsb).1
  have hsb1 := k1.row hsb (by simpa using hb)
  have d8 : (w.setCell ⟨b, 6, none⟩ (.int .i32 1)).cell? ⟨b, 8, none⟩ = some vi := h1.cell 8 _ rfl
  have d9 : (w.setCell ⟨b, 6, none⟩ (.int .i32 1)).cell? ⟨b, 9, none⟩ = some vo := h1.cell 9 _ rfl
  have hil : s.inp.length ≤ 140737488351232 := by have := hs.i1; omega
  have hol : s.out.length ≤ 140737488351232 := by have := hs.o1; omega
  have H1 := Lib.hid h1
  have H1d := Lib.hid (h1.keep0 (Kept.refl [] _).drew)
  have HNF := Lib.hid (show ∀ x ∈ foot b vr vi vo, x ∉ [sb] from fun x hx hm => hne (by simp at hm; exact hm ▸ hx))
  have K1 := Lib.hid k1
  have HR1 := Lib.hid hsb1
  have HW := Lib.hid (show (w.setCell ⟨b, 6, none⟩ (.int .i32 1)).heap.size = w.heap.size by simp)
  clear h h1 k1 hsb hsb1 hne
  go_enter_defers Try.func40, Try.ntmps40
  go_wp2_with (first | (go_at_call 62; refine (lock_free muLib ⟨b, 6, none⟩ _ c6 z6).mono ?_; rintro e w' ⟨rfl, rfl⟩))
  go_region_held3 (fun w' => w'.cell? ⟨b, 8, none⟩ = some vi ∧ w'.cell? ⟨b, 9, none⟩ = some vo) (first | go_keep | (refine ⟨?_, ?_⟩ <;> assumption))
    (first
      | (go_at_call 39; refine (own_in H1d.out H1d.out.inp.rd hil).mono ?_; rintro e w2 ⟨A2, c2, rfl, e8, e9, HO2⟩)
      | (go_at_call 39; refine (own_in HO2.out.lies HO2.out.lies.out.rd hol).mono ?_; rintro e w3 ⟨A3, c3, rfl, q8, q9, HO3⟩; have HR3 := Lib.hid (HO3.out.kept.row (HO2.out.kept.row HR1.out (by simp)) (by simp)); have s11 := row_cell HR3.out 11 x11 rfl; have s12 := row_cell HR3.out 12 x12 rfl; have t11 := frozen_of_row _ sb 11 _ _ HR3.out; have t12 := frozen_of_row _ sb 12 _ _ HR3.out))
  go_wp2
  have HR4 := Lib.hid (row_set (row_set HR3.out 11 (.slice A2 s.inp.length c2) rfl) 12 (.slice A3 s.out.length c3) rfl)
  have k4 : Kept [sb] w3 ((w3.setCell ⟨sb, 11, none⟩ (.slice A2 s.inp.length c2)).setCell ⟨sb, 12, none⟩ (.slice A3 s.out.length c3)) := ((Kept.refl _ _).setCell (by simp) _).setCell (by simp) _
  have h4 := HO3.out.lies.keep k4 HNF.out
  have e10 := h4.cell 10 (.int .u8 s.ier) rfl
  have e11 := h4.cell 11 (.int .u8 s.lcr) rfl
  have e12 := h4.cell 12 (.int .u8 s.mcr) rfl
  have e13 := h4.cell 13 (.int .u8 s.scr) rfl
  have e14 := h4.cell 14 (.bool s.over) rfl
  have K4 := Lib.hid k4
  have H4 := Lib.hid h4
  have y6 := row_cell HR4.out 6 x6 rfl
  have y7 := row_cell HR4.out 7 x7 rfl
  have y8 := row_cell HR4.out 8 x8 rfl
  have y9 := row_cell HR4.out 9 x9 rfl
  have y10 := row_cell HR4.out 10 x10 rfl
  have u6 := frozen_of_row _ sb 6 _ _ HR4.out
  have u7 := frozen_of_row _ sb 7 _ _ HR4.out
  have u8 := frozen_of_row _ sb 8 _ _ HR4.out
  have u9 := frozen_of_row _ sb 9 _ _ HR4.out
  have u10 := frozen_of_row _ sb 10 _ _ HR4.out
  clear k4 h4 s11 s12 t11 t12 q8 q9 e8 e9 d8 d9 c6 z6
  go_region_held3 (fun w' => w'.cell? ⟨b, 10, none⟩ = some (.int .u8 s.ier) ∧ w'.cell? ⟨b, 11, none⟩ = some (.int .u8 s.lcr) ∧ w'.cell? ⟨b, 12, none⟩ = some (.int .u8 s.mcr) ∧ w'.cell? ⟨b, 13, none⟩ = some (.int .u8 s.scr) ∧ w'.cell? ⟨b, 14, none⟩ = some (.bool s.over)) (go_keep) (fail)
  go_wp2
  have hk5 : Kept [sb] ((w3.setCell ⟨sb, 11, none⟩ (.slice A2 s.inp.length c2)).setCell ⟨sb, 12, none⟩ (.slice A3 s.out.length c3)) ((((((((w3.setCell ⟨sb, 11, none⟩ (.slice A2 s.inp.length c2)).setCell ⟨sb, 12, none⟩ (.slice A3 s.out.length c3)).setCell ⟨sb, 6, none⟩ (.int .u8 s.ier)).setCell ⟨sb, 7, none⟩ (.int .u8 s.lcr)).setCell ⟨sb, 8, none⟩ (.int .u8 s.mcr)).setCell ⟨sb, 9, none⟩ (.int .u8 s.scr)).setCell ⟨sb, 10, none⟩ (.bool s.over)).drew) :=
    Kept.drew (Kept.setCell (Kept.setCell (Kept.setCell (Kept.setCell (Kept.setCell (Kept.refl [sb] _) (by simp) _) (by simp) _) (by simp) _) (by simp) _) (by simp) _)
  have hr5 : ((((((((w3.setCell ⟨sb, 11, none⟩ (.slice A2 s.inp.length c2)).setCell ⟨sb, 12, none⟩ (.slice A3 s.out.length c3)).setCell ⟨sb, 6, none⟩ (.int .u8 s.ier)).setCell ⟨sb, 7, none⟩ (.int .u8 s.lcr)).setCell ⟨sb, 8, none⟩ (.int .u8 s.mcr)).setCell ⟨sb, 9, none⟩ (.int .u8 s.scr)).setCell ⟨sb, 10, none⟩ (.bool s.over)).drew).heap[sb]? = some (.cells #[x0, x1, x2, x3, x4, x5, .int .u8 s.ier, .int .u8 s.lcr, .int .u8 s.mcr, .int .u8 s.scr, .bool s.over, .slice A2 s.inp.length c2, .slice A3 s.out.length c3, x13, x14] 26 (0, 0)) :=
    row_drew (row_set (row_set (row_set (row_set (row_set HR4.out 6 (.int .u8 s.ier) rfl) 7 (.int .u8 s.lcr) rfl) 8 (.int .u8 s.mcr) rfl) 9 (.int .u8 s.scr) rfl) 10 (.bool s.over) rfl)
  trace "T1"
  have hT := tell_close hb HO2.out HO3.out HNF.out (K4.out.trans hk5 (fun x hx _ => hx)) hr5 HW.out K1.out hslt hlt
  have HT := Lib.hid hT
  trace "T2"
  have h5 := HT.out.1
  refine leaves_cons (f := 63) (args := #[.pointer (some ⟨b, 6, none⟩)]) (by simp) (by simp [go_sem]) ?_
  refine (unlock_deferred muLib ⟨b, 6, none⟩ .returning _ (h5.cell 6 _ rfl) (h5.frozen 6)).mono ?_
  rintro e u' w'' ⟨rfl, rfl, rfl⟩
  trace "T3"
  exact ⟨_, results_none rfl _ _ _, HT.out.2⟩
end
end Go.Proofs.Ytkocfcgdjjdnhaa.BW
