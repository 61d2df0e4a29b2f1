/- The program's bus: the console set as a state has it. Premise: a bus lies there. -/
import Derived.Test.YtkocfcgdjjdnhaaBusU
import Derived.Test.YtkocfcgdjjdnhaaBusT
namespace Go.Proofs.Ytkocfcgdjjdnhaa.BW
open Go.RowKit Go.MuLone
set_option linter.unusedVariables false
set_option linter.unusedSimpArgs false
section
variable {w : World} {b : Nat} {vr vi vo : Value} {s : St}
/-- What set leaves. -/
def SetPost (w : World) (b : Nat) (vr vi vo : Value) (s x : St) (e : Ending) (w' : World) : Prop :=
  ∃ vi' vo', e = .returned (.tuple #[]) ∧ PL w' b vr vi' vo' { s with inp := x.inp, out := x.out, ier := x.ier, lcr := x.lcr, mcr := x.mcr, scr := x.scr, over := x.over } ∧ Turn (foot b vr vi vo) (foot b vr vi' vo') w w'
/-- What own leaves beside a bus under lock and a box. -/
theorem own_in2 {W : World} {v : Value} {l : List Int} {B : Nat} {cs : Array Value} (h : PK 1 W b vr vi vo s) (hB : W.heap[B]? = some (.cells cs 26 (0, 0))) (y z : Value) (h11 : cs[11]? = some y) (h12 : cs[12]? = some z) (hr : Rd W v l) (hl : l.length ≤ 140737488351232) :
    Calls Try.prog 39 #[v] W fun e w2 => ∃ A c, e = .returned (.slice A l.length c) ∧ w2.cell? ⟨B, 11, none⟩ = some y ∧ w2.cell? ⟨B, 12, none⟩ = some z ∧ w2.cell? ⟨b, 8, none⟩ = some vi ∧ w2.cell? ⟨b, 9, none⟩ = some vo ∧ w2.frozen? ⟨b, 8, none⟩ = false ∧ w2.frozen? ⟨b, 9, none⟩ = false ∧ Hid (OwnIn W b vr vi vo s l (.slice A l.length c) w2 ∧ w2.heap[B]? = some (.cells cs 26 (0, 0))) :=
  (own_any W v l hr hl).mono fun e w2 ⟨v', he, hb, hn, hk⟩ => by
    obtain ⟨A, c, rfl⟩ := hb.shape
    have h2 := h.keep0 hk
    have hB2 := hk.row hB (by simp)
    exact ⟨A, c, he, row_cell hB2 11 y h11, row_cell hB2 12 z h12, h2.cell 8 _ rfl, h2.cell 9 _ rfl, h2.frozen 8, h2.frozen 9, ⟨⟨hb, hn, hk, h2⟩, hB2⟩⟩
structure SetB (w W : World) (b B : Nat) (vr vi vo : Value) (s x : St) (v1 v2 v3 vi' vo' : Value) : Prop where
  lies : PK 1 W b vr vi' vo' { s with inp := x.inp, out := x.out }
  turn : Turn (foot b vr vi vo) (foot b vr vi' vo') w W
  box : W.heap[B]? = some (.cells (sCells v1 v2 v3 x) 26 (0, 0))
  ne : B ≠ b
theorem SetB.of {W w2 w3 : World} {B : Nat} {x : St} {v1 v2 v3 vi' vo' : Value} (h1 : PK 1 W b vr vi vo s) (ht : Turn (foot b vr vi vo) (foot b vr vi vo) w W) (O2 : OwnIn W b vr vi vo s x.inp vi' w2) (O3 : OwnIn w2 b vr vi vo s x.out vo' w3) (hB : w3.heap[B]? = some (.cells (sCells v1 v2 v3 x) 26 (0, 0))) (hne : B ≠ b) :
    SetB w ((w3.setCell ⟨b, 8, none⟩ vi').setCell ⟨b, 9, none⟩ vo') b B vr vi vo s x v1 v2 v3 vi' vo' := by
  have ka : Kept [b] w3 ((w3.setCell ⟨b, 8, none⟩ vi').setCell ⟨b, 9, none⟩ vo') := ((Kept.refl [b] w3).setCell (by simp) _).setCell (by simp) _
  have hbW : b < W.heap.size := h1.lt b (by simp [foot])
  have hW2 := O2.kept.size
  have n2 : ∀ g, vi'.ownBlock = some g → W.heap.size ≤ g ∧ g < w2.heap.size := fun g hg => ⟨O2.new g hg, O2.bs.lt g hg⟩
  have n3 : ∀ g, vo'.ownBlock = some g → w2.heap.size ≤ g := O3.new
  have nr : ∀ g, vr.ownBlock = some g → g < W.heap.size := fun g hg => h1.ram.lt g hg
  have hnr := h1.nr
  have rows := row_set (row_set O3.lies.blk 8 vi' rfl) 9 vo' rfl
  refine ⟨⟨rows, ?_, ?_, ?_, ?_⟩, ⟨?_, ?_⟩, ka.row hB (by simpa using hne), hne⟩
  · exact O3.lies.ram.keep ka (fun g hg => by have := hnr g hg; simpa using this)
  · exact (O2.bs.keep O3.kept (by simp)).keep ka (fun g hg => by have := n2 g hg; simp; omega)
  · exact O3.bs.keep ka (fun g hg => by have := n3 g hg; simp; omega)
  · rw [foot_nodup]
    exact ⟨hnr, fun g hg => by have := n2 g hg; omega, fun g hg => by have := n3 g hg; omega, fun g hg hi => by have := nr g hg; have := n2 g hi; omega, fun g hg hi => by have := nr g hg; have := n3 g hi; omega, fun g hg hi => by have := n2 g hg; have := n3 g hi; omega⟩
  · exact ((ht.kept.trans O2.kept (by simp)).trans O3.kept (by simp)).trans ka (fun y hy _ => by simp at hy; subst hy; simp [foot])
  · intro y hy
    have hws := ht.kept.size
    simp only [foot, List.mem_cons, List.mem_append, Option.mem_toList] at hy ⊢
    rcases hy with rfl | hy | hy | hy
    · exact .inl (.inl rfl)
    · exact .inl (.inr (.inl hy))
    · exact .inr (by have := n2 y hy; omega)
    · exact .inr (by have := n3 y hy; omega)
theorem SetB.close {W : World} {B : Nat} {x : St} {v1 v2 v3 vi' vo' : Value} (S : SetB w W b B vr vi vo s x v1 v2 v3 vi' vo') :
    PK 1 ((((((W.setCell ⟨b, 10, none⟩ (.int .u8 x.ier)).setCell ⟨b, 11, none⟩ (.int .u8 x.lcr)).setCell ⟨b, 12, none⟩ (.int .u8 x.mcr)).setCell ⟨b, 13, none⟩ (.int .u8 x.scr)).setCell ⟨b, 14, none⟩ (.bool x.over)).drew) b vr vi' vo' { s with inp := x.inp, out := x.out, ier := x.ier, lcr := x.lcr, mcr := x.mcr, scr := x.scr, over := x.over } ∧ SetPost w b vr vi vo s x (.returned (.tuple #[])) (((((((W.setCell ⟨b, 10, none⟩ (.int .u8 x.ier)).setCell ⟨b, 11, none⟩ (.int .u8 x.lcr)).setCell ⟨b, 12, none⟩ (.int .u8 x.mcr)).setCell ⟨b, 13, none⟩ (.int .u8 x.scr)).setCell ⟨b, 14, none⟩ (.bool x.over)).drew).setCell ⟨b, 6, none⟩ (.int .i32 0)) := by
  have s1 := S.lies.set 10 (.int .u8 x.ier) (s' := { s with inp := x.inp, out := x.out, ier := x.ier }) (cs' := fun vr vi vo s => pCells vr vi vo s 1) rfl
  have s2 := s1.set 11 (.int .u8 x.lcr) (s' := { s with inp := x.inp, out := x.out, ier := x.ier, lcr := x.lcr }) (cs' := fun vr vi vo s => pCells vr vi vo s 1) rfl
  have s3 := s2.set 12 (.int .u8 x.mcr) (s' := { s with inp := x.inp, out := x.out, ier := x.ier, lcr := x.lcr, mcr := x.mcr }) (cs' := fun vr vi vo s => pCells vr vi vo s 1) rfl
  have s4 := s3.set 13 (.int .u8 x.scr) (s' := { s with inp := x.inp, out := x.out, ier := x.ier, lcr := x.lcr, mcr := x.mcr, scr := x.scr }) (cs' := fun vr vi vo s => pCells vr vi vo s 1) rfl
  have s5 := s4.set 14 (.bool x.over) (s' := { s with inp := x.inp, out := x.out, ier := x.ier, lcr := x.lcr, mcr := x.mcr, scr := x.scr, over := x.over }) (cs' := fun vr vi vo s => pCells vr vi vo s 1) rfl
  have s6 := s5.keep0 (Kept.refl [] _).drew
  refine ⟨s6, vi', vo', rfl, s6.set 6 _ rfl, ?_⟩
  exact ((((((S.turn.trans (S.lies.turn 10 _)).trans (s1.turn 11 _)).trans (s2.turn 12 _)).trans (s3.turn 13 _)).trans (s4.turn 14 _)).trans (.of_kept (Kept.refl _ _).drew)).trans (s6.turn 6 _)
set_option maxHeartbeats 8000000 in
set_option maxRecDepth 100000 in
theorem set_any (h : PL w b vr vi vo s) (x : St) (hx : x.In) (v1 v2 v3 : Value) (h2 : Rd w v2 x.inp) (h3 : Rd w v3 x.out) (hF2 : ∀ g o n c, v2 = .slice (some ⟨g, o, none⟩) n c → g ≠ b) (hF3 : ∀ g o n c, v3 = .slice (some ⟨g, o, none⟩) n c → g ≠ b) :
    Calls Try.prog 65 #[.pointer (some ⟨b, 6, none⟩), .agg (sCells v1 v2 v3 x)] w (SetPost w b vr vi vo s x) := by
  have hlt : b < w.heap.size := h.lt b (by simp [foot])
  have hkA : Kept [] w (w.alloc (.cells (sCells v1 v2 v3 x) 26)) := (Kept.refl [] w).alloc _
  have hA := h.keep0 hkA
  have c6 : (w.alloc (.cells (sCells v1 v2 v3 x) 26)).cell? ⟨b, 6, none⟩ = some (.int .i32 0) := hA.cell 6 _ rfl
  have z6 := hA.frozen 6
  have hw0 : PK 1 (w.setCell ⟨b, 6, none⟩ (.int .i32 1)) b vr vi vo s := h.set 6 (.int .i32 1) rfl
  have kL : Kept [b] w (w.setCell ⟨b, 6, none⟩ (.int .i32 1)) := (Kept.refl [b] _).setCell (by simp) _
  have kB : Kept [] (w.setCell ⟨b, 6, none⟩ (.int .i32 1)) ((w.setCell ⟨b, 6, none⟩ (.int .i32 1)).alloc (.cells (sCells v1 v2 v3 x) 26)) := (Kept.refl [] _).alloc _
  have h1 : PK 1 ((w.setCell ⟨b, 6, none⟩ (.int .i32 1)).alloc (.cells (sCells v1 v2 v3 x) 26)) b vr vi vo s := hw0.keep0 kB
  have hrow : ((w.setCell ⟨b, 6, none⟩ (.int .i32 1)).alloc (.cells (sCells v1 v2 v3 x) 26)).heap[w.heap.size]? = some (.cells (sCells v1 v2 v3 x) 26 (0, 0)) := by
    have := heap_alloc_new (w.setCell ⟨b, 6, none⟩ (.int .i32 1)) (.cells (sCells v1 v2 v3 x) 26)
    rwa [World.size_setCell] at this
  have r2 := (h2.keep kL (fun g o n c e => by simpa using hF2 g o n c e)).keep kB (by simp)
  have r3 := (h3.keep kL (fun g o n c e => by simpa using hF3 g o n c e)).keep kB (by simp)
  have hturn : Turn (foot b vr vi vo) (foot b vr vi vo) w ((w.setCell ⟨b, 6, none⟩ (.int .i32 1)).alloc (.cells (sCells v1 v2 v3 x) 26)).drew := .of_kept (((kL.mono (G := foot b vr vi vo) (by simp [foot])).trans kB (by simp)).drew)
  have hne : ¬ w.heap.size = b := by omega
  have hne2 : ¬ b = w.heap.size := by omega
  have d11 : ((w.setCell ⟨b, 6, none⟩ (.int .i32 1)).alloc (.cells (sCells v1 v2 v3 x) 26)).cell? ⟨w.heap.size, 11, none⟩ = some v2 := row_cell hrow 11 v2 rfl
  have d12 : ((w.setCell ⟨b, 6, none⟩ (.int .i32 1)).alloc (.cells (sCells v1 v2 v3 x) 26)).cell? ⟨w.heap.size, 12, none⟩ = some v3 := row_cell hrow 12 v3 rfl
  have hil := hx.il
  have hol := hx.ol
  have H1d := Lib.hid (h1.keep0 (Kept.refl [] _).drew)
  have HRd := Lib.hid (row_drew hrow)
  have HR2 := Lib.hid (r2.keep (Kept.refl [] _).drew (by simp))
  have HR3 := Lib.hid (r3.keep (Kept.refl [] _).drew (by simp))
  have HT := Lib.hid hturn
  clear h hkA hA hw0 kB h1 kL hrow r2 r3 h2 h3 hF2 hF3 hturn
  go_enter_defers Try.func65, Try.ntmps65
  go_wp2_with (first | (go_at_call 62; refine (lock_free muLib ⟨b, 6, none⟩ _ c6 z6).mono ?_; rintro e w' ⟨rfl, rfl⟩))
  go_region_held3 (fun w' => w'.cell? ⟨w.heap.size, 11, none⟩ = some v2 ∧ w'.cell? ⟨w.heap.size, 12, none⟩ = some v3) (first | (refine ⟨?_, ?_⟩ <;> with_reducible assumption) | go_keep) (first | (go_at_call 39; (with_reducible refine (own_in2 H1d.out HRd.out v2 v3 rfl rfl HR2.out hil).mono ?_); rintro e w2 ⟨A2, c2, rfl, e11, e12, e8, e9, f8, f9, HO2⟩) | (go_at_call 39; refine (own_in2 HO2.out.1.lies HO2.out.2 v2 v3 rfl rfl (HR3.out.keep HO2.out.1.kept (by simp)) hol).mono ?_; rintro e w3 ⟨A3, c3, rfl, k11, k12, k8, k9, l8, l9, HO3⟩))
  go_wp2
  have hS := SetB.of H1d.out HT.out HO2.out.1 HO3.out.1 HO3.out.2 hne
  generalize hW : (w3.setCell ⟨b, 8, none⟩ (.slice A2 x.inp.length c2)).setCell ⟨b, 9, none⟩ (.slice A3 x.out.length c3) = W at hS ⊢
  clear hW
  have a10 : W.cell? ⟨b, 10, none⟩ = some (.int .u8 s.ier) := hS.lies.cell 10 _ rfl
  have y10 := hS.lies.frozen 10
  have g6 : W.cell? ⟨w.heap.size, 6, none⟩ = some (.int .u8 x.ier) := row_cell hS.box 6 _ rfl
  have a11 : W.cell? ⟨b, 11, none⟩ = some (.int .u8 s.lcr) := hS.lies.cell 11 _ rfl
  have y11 := hS.lies.frozen 11
  have g7 : W.cell? ⟨w.heap.size, 7, none⟩ = some (.int .u8 x.lcr) := row_cell hS.box 7 _ rfl
  have a12 : W.cell? ⟨b, 12, none⟩ = some (.int .u8 s.mcr) := hS.lies.cell 12 _ rfl
  have y12 := hS.lies.frozen 12
  have g8 : W.cell? ⟨w.heap.size, 8, none⟩ = some (.int .u8 x.mcr) := row_cell hS.box 8 _ rfl
  have a13 : W.cell? ⟨b, 13, none⟩ = some (.int .u8 s.scr) := hS.lies.cell 13 _ rfl
  have y13 := hS.lies.frozen 13
  have g9 : W.cell? ⟨w.heap.size, 9, none⟩ = some (.int .u8 x.scr) := row_cell hS.box 9 _ rfl
  have a14 : W.cell? ⟨b, 14, none⟩ = some (.bool s.over) := hS.lies.cell 14 _ rfl
  have y14 := hS.lies.frozen 14
  have g10 : W.cell? ⟨w.heap.size, 10, none⟩ = some (.bool x.over) := row_cell hS.box 10 _ rfl
  have HS := Lib.hid hS
  clear hS e11 e12 e8 e9 f8 f9 k11 k12 k8 k9 l8 l9 d11 d12 c6 z6 H1d HRd HR2 HR3 HO2 HO3 HT
  go_region_held3 (fun w' => w'.cell? ⟨w.heap.size, 6, none⟩ = some (.int .u8 x.ier) ∧ w'.cell? ⟨w.heap.size, 7, none⟩ = some (.int .u8 x.lcr) ∧ w'.cell? ⟨w.heap.size, 8, none⟩ = some (.int .u8 x.mcr) ∧ w'.cell? ⟨w.heap.size, 9, none⟩ = some (.int .u8 x.scr) ∧ w'.cell? ⟨w.heap.size, 10, none⟩ = some (.bool x.over)) (go_keep) (fail)
  go_wp2
  have hC := SetB.close (W := W) HS.out
  have HC := Lib.hid hC
  have h5 := HC.out.1
  refine leaves_cons (f := 63) (args := #[.pointer (some ⟨b, 6, none⟩)]) (by simp) (by simp [go_sem]) ?_
  refine (unlock_deferred muLib ⟨b, 6, none⟩ .returning _ (h5.cell 6 _ rfl) (h5.frozen 6)).mono ?_
  rintro e u' w'' ⟨rfl, rfl, rfl⟩
  exact ⟨_, results_none rfl _ _ _, HC.out.2⟩
end
end Go.Proofs.Ytkocfcgdjjdnhaa.BW
