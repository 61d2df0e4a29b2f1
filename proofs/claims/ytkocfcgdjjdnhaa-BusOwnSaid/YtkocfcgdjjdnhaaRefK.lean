/- The document's bus: takes, Output. Premise: a bus lies there. -/
import Derived.Test.YtkocfcgdjjdnhaaRefC
namespace Go.Proofs.Ytkocfcgdjjdnhaa.BW
open Go.RowKit
set_option linter.unusedVariables false
set_option linter.unusedSimpArgs false
section
variable {w : World} {b : Nat} {vr vi vo : Value} {s : St}
def RTakesPost (w : World) (b : Nat) (vr vi vo : Value) (s : St) (reg v : Int) (e : Ending) (w' : World) : Prop :=
  ∃ vi' vo', e = .returned (.tuple #[]) ∧ RL w' b vr vi' vo' (s.takes reg v) ∧ Turn (foot b vr vi vo) (foot b vr vi' vo') w w'
theorem takes_mod (s : St) (reg v : Int) : s.takes reg (v % 256) = s.takes reg v := by
  have e1 : v % 256 % 256 = v % 256 := by omega
  have e2 : v % 256 % 16 = v % 16 := by omega
  have e3 : v % 256 / 2 % 2 = v / 2 % 2 := by omega
  have e4 : v % 256 % 32 = v % 32 := by omega
  unfold St.takes; rw [e1, e2, e3, e4]
set_option maxHeartbeats 4000000 in
set_option maxRecDepth 100000 in
theorem r_takes_1 (h : RL w b vr vi vo s) (hs : s.Ok) (c : Int) (g0 : 0 ≤ c) (g1 : c ≤ 255) : Calls Try.prog 71 #[.pointer (some ⟨b, 0, none⟩), .int .i64 1, .int .u8 c] w (RTakesPost w b vr vi vo s 1 c) := by
  have c1 : w.cell? ⟨b, 6, none⟩ = some (.int .u8 s.ier) := h.cell 6 _ rfl
  have z1 := h.frozen 6
  have t1 : c.tmod 16 = c % 16 := Int.tmod_eq_emod_of_nonneg g0
  have HP := Lib.hid (show RTakesPost w b vr vi vo s 1 c (.returned (.tuple #[])) (w.setCell ⟨b, 6, none⟩ (.int .u8 (c % 16))) from
    ⟨vi, vo, rfl, by rw [show s.takes 1 c = { s with ier := c % 16 } by unfold St.takes; simp (config := { decide := true }) only [if_true, if_false]]; exact h.set 6 (.int .u8 (c % 16)) (s' := { s with ier := c % 16 }) rfl, h.turn 6 _⟩)
  clear h hs
  go_enter Try.func71, Try.ntmps71
  go_wp2
  first | go_end0 | go_ret
  exact HP.out
set_option maxHeartbeats 4000000 in
set_option maxRecDepth 100000 in
theorem r_takes_3 (h : RL w b vr vi vo s) (hs : s.Ok) (c : Int) (g0 : 0 ≤ c) (g1 : c ≤ 255) : Calls Try.prog 71 #[.pointer (some ⟨b, 0, none⟩), .int .i64 3, .int .u8 c] w (RTakesPost w b vr vi vo s 3 c) := by
  have c1 : w.cell? ⟨b, 7, none⟩ = some (.int .u8 s.lcr) := h.cell 7 _ rfl
  have z1 := h.frozen 7
  have HP := Lib.hid (show RTakesPost w b vr vi vo s 3 c (.returned (.tuple #[])) (w.setCell ⟨b, 7, none⟩ (.int .u8 (c))) from
    ⟨vi, vo, rfl, by rw [show s.takes 3 c = { s with lcr := c } by unfold St.takes; simp (config := { decide := true }) only [if_true, if_false]; rw [Int.emod_eq_of_lt g0 (by omega)]]; exact h.set 7 (.int .u8 (c)) (s' := { s with lcr := c }) rfl, h.turn 7 _⟩)
  clear h hs
  go_enter Try.func71, Try.ntmps71
  go_wp2
  first | go_end0 | go_ret
  exact HP.out
set_option maxHeartbeats 4000000 in
set_option maxRecDepth 100000 in
theorem r_takes_4 (h : RL w b vr vi vo s) (hs : s.Ok) (c : Int) (g0 : 0 ≤ c) (g1 : c ≤ 255) : Calls Try.prog 71 #[.pointer (some ⟨b, 0, none⟩), .int .i64 4, .int .u8 c] w (RTakesPost w b vr vi vo s 4 c) := by
  have c1 : w.cell? ⟨b, 8, none⟩ = some (.int .u8 s.mcr) := h.cell 8 _ rfl
  have z1 := h.frozen 8
  have t1 : c.tmod 32 = c % 32 := Int.tmod_eq_emod_of_nonneg g0
  have HP := Lib.hid (show RTakesPost w b vr vi vo s 4 c (.returned (.tuple #[])) (w.setCell ⟨b, 8, none⟩ (.int .u8 (c % 32))) from
    ⟨vi, vo, rfl, by rw [show s.takes 4 c = { s with mcr := c % 32 } by unfold St.takes; simp (config := { decide := true }) only [if_true, if_false]]; exact h.set 8 (.int .u8 (c % 32)) (s' := { s with mcr := c % 32 }) rfl, h.turn 8 _⟩)
  clear h hs
  go_enter Try.func71, Try.ntmps71
  go_wp2
  first | go_end0 | go_ret
  exact HP.out
set_option maxHeartbeats 4000000 in
set_option maxRecDepth 100000 in
theorem r_takes_7 (h : RL w b vr vi vo s) (hs : s.Ok) (c : Int) (g0 : 0 ≤ c) (g1 : c ≤ 255) : Calls Try.prog 71 #[.pointer (some ⟨b, 0, none⟩), .int .i64 7, .int .u8 c] w (RTakesPost w b vr vi vo s 7 c) := by
  have c1 : w.cell? ⟨b, 9, none⟩ = some (.int .u8 s.scr) := h.cell 9 _ rfl
  have z1 := h.frozen 9
  have HP := Lib.hid (show RTakesPost w b vr vi vo s 7 c (.returned (.tuple #[])) (w.setCell ⟨b, 9, none⟩ (.int .u8 (c))) from
    ⟨vi, vo, rfl, by rw [show s.takes 7 c = { s with scr := c } by unfold St.takes; simp (config := { decide := true }) only [if_true, if_false]; rw [Int.emod_eq_of_lt g0 (by omega)]]; exact h.set 9 (.int .u8 (c)) (s' := { s with scr := c }) rfl, h.turn 9 _⟩)
  clear h hs
  go_enter Try.func71, Try.ntmps71
  go_wp2
  first | go_end0 | go_ret
  exact HP.out
set_option maxHeartbeats 4000000 in
set_option maxRecDepth 100000 in
theorem r_takes_5 (h : RL w b vr vi vo s) (hs : s.Ok) (c : Int) (g0 : 0 ≤ c) (g1 : c ≤ 255) : Calls Try.prog 71 #[.pointer (some ⟨b, 0, none⟩), .int .i64 5, .int .u8 c] w (RTakesPost w b vr vi vo s 5 c) := by
  have HP := Lib.hid (show RTakesPost w b vr vi vo s 5 c (.returned (.tuple #[])) w from ⟨vi, vo, rfl, by rw [show s.takes 5 c = s by unfold St.takes; simp (config := { decide := true }) only [if_true, if_false]]; exact h, .refl _ _⟩)
  clear h hs
  go_enter Try.func71, Try.ntmps71
  go_wp2
  first | go_end0 | go_ret
  exact HP.out
set_option maxHeartbeats 4000000 in
set_option maxRecDepth 100000 in
theorem r_takes_6 (h : RL w b vr vi vo s) (hs : s.Ok) (c : Int) (g0 : 0 ≤ c) (g1 : c ≤ 255) : Calls Try.prog 71 #[.pointer (some ⟨b, 0, none⟩), .int .i64 6, .int .u8 c] w (RTakesPost w b vr vi vo s 6 c) := by
  have HP := Lib.hid (show RTakesPost w b vr vi vo s 6 c (.returned (.tuple #[])) w from ⟨vi, vo, rfl, by rw [show s.takes 6 c = s by unfold St.takes; simp (config := { decide := true }) only [if_true, if_false]]; exact h, .refl _ _⟩)
  clear h hs
  go_enter Try.func71, Try.ntmps71
  go_wp2
  first | go_end0 | go_ret
  exact HP.out
set_option maxHeartbeats 4000000 in
set_option maxRecDepth 100000 in
theorem r_takes_2n (h : RL w b vr vi vo s) (hs : s.Ok) (c : Int) (g0 : 0 ≤ c) (g1 : c ≤ 255) (hv : c / 2 % 2 = 0) : Calls Try.prog 71 #[.pointer (some ⟨b, 0, none⟩), .int .i64 2, .int .u8 c] w (RTakesPost w b vr vi vo s 2 c) := by
  have t1 : c.tdiv 2 = c / 2 := Int.tdiv_eq_ediv_of_nonneg g0
  have t2 : (c / 2).tmod 2 = c / 2 % 2 := Int.tmod_eq_emod_of_nonneg (by omega)
  have HP := Lib.hid (show RTakesPost w b vr vi vo s 2 c (.returned (.tuple #[])) w from ⟨vi, vo, rfl, by rw [show s.takes 2 c = s by simp [St.takes, hv]]; exact h, .refl _ _⟩)
  clear h hs
  go_enter Try.func71, Try.ntmps71
  go_wp2
  first | go_end0 | go_ret
  exact HP.out
set_option maxHeartbeats 4000000 in
set_option maxRecDepth 100000 in
theorem r_takes_2y (h : RL w b vr vi vo s) (hs : s.Ok) (c : Int) (g0 : 0 ≤ c) (g1 : c ≤ 255) (hv : c / 2 % 2 = 1) : Calls Try.prog 71 #[.pointer (some ⟨b, 0, none⟩), .int .i64 2, .int .u8 c] w (RTakesPost w b vr vi vo s 2 c) := by
  have t1 : c.tdiv 2 = c / 2 := Int.tdiv_eq_ediv_of_nonneg g0
  have t2 : (c / 2).tmod 2 = c / 2 % 2 := Int.tmod_eq_emod_of_nonneg (by omega)
  have c1 : w.cell? ⟨b, 11, none⟩ = some vi := h.cell 11 _ rfl
  have z1 := h.frozen 11
  have h2 := h.setInp (Kept.refl _ _) (Bs.nil _) (by simp [Value.ownBlock]) 11 rfl
  have HP := Lib.hid (show RTakesPost w b vr vi vo s 2 c (.returned (.tuple #[])) (w.setCell ⟨b, 11, none⟩ (.slice none 0 0)) from ⟨_, vo, rfl, by rw [show s.takes 2 c = { s with inp := [] } by simp [St.takes, hv]]; exact h2.1, h2.2⟩)
  clear h2
  clear h hs
  go_enter Try.func71, Try.ntmps71
  go_wp2
  first | go_end0 | go_ret
  exact HP.out
set_option maxHeartbeats 4000000 in
set_option maxRecDepth 100000 in
theorem r_takes_0n (h : RL w b vr vi vo s) (hs : s.Ok) (c : Int) (g0 : 0 ≤ c) (g1 : c ≤ 255) (hv : ¬ s.out.length < 4096) : Calls Try.prog 71 #[.pointer (some ⟨b, 0, none⟩), .int .i64 0, .int .u8 c] w (RTakesPost w b vr vi vo s 0 c) := by
  obtain ⟨A, n, rfl⟩ := h.outAt
  have c1 : w.cell? ⟨b, 12, none⟩ = some (.slice A s.out.length n) := h.cell 12 _ rfl
  have e1 : decide ((s.out.length : Int) < 4096) = false := by simp; omega
  have HP := Lib.hid (show RTakesPost w b vr vi (.slice A s.out.length n) s 0 c (.returned (.tuple #[])) w from ⟨vi, _, rfl, by rw [show s.takes 0 c = s by simp [St.takes, hv]]; exact h, .refl _ _⟩)
  clear hv
  clear h hs
  go_enter Try.func71, Try.ntmps71
  go_wp2
  first | go_end0 | go_ret
  exact HP.out
set_option maxHeartbeats 4000000 in
set_option maxRecDepth 100000 in
theorem r_takes_0y (h : RL w b vr vi vo s) (hs : s.Ok) (c : Int) (g0 : 0 ≤ c) (g1 : c ≤ 255) (hv : s.out.length < 4096) : Calls Try.prog 71 #[.pointer (some ⟨b, 0, none⟩), .int .i64 0, .int .u8 c] w (RTakesPost w b vr vi vo s 0 c) := by
  obtain ⟨A, n, rfl⟩ := h.outAt
  have d : w.cell? ⟨b, 12, none⟩ = some (.slice A s.out.length n) := h.cell 12 _ rfl
  have z := h.frozen 12
  have e1 : decide ((s.out.length : Int) < 4096) = true := by simp; omega
  have HV := Lib.hid (show s.takes 0 c = { s with out := s.out ++ [c] } by unfold St.takes; rw [if_pos rfl, if_pos hv, Int.emod_eq_of_lt g0 (by omega)])
  have hlt : b < w.heap.size := h.lt b (by simp [foot])
  have hal : ∀ o, RL (w.alloc o) b vr vi (.slice A s.out.length n) s := fun o => h.keep0 ((Kept.refl [] _).alloc o)
  have HAL := Lib.hid hal
  have hnb : b ∉ (Value.slice A s.out.length n).ownBlock.toList := fun hm => h.no b (by simpa using hm) rfl
  have HNB := Lib.hid hnb
  clear h hal hnb
  go_enter Try.func71, Try.ntmps71
  go_wp2_with (at_builtin; refine wpList_append_bs rfl _ _ rfl _ _ s.out [c] rfl rfl (HAL.out _).out (.inr ⟨1, w.heap.size, 0, rfl, one_cell rfl _⟩) (by simp; omega) ?_; intro v' w2 hg; obtain ⟨A', c', rfl⟩ := hg.bs.shape; have e9 := (hg.kept.cell (p := ⟨b, 12, none⟩) (by simp; omega) HNB.out).trans ((HAL.out _).cell 12 _ rfl); have f9 := (hg.kept.frozen (p := ⟨b, 12, none⟩) (by simp; omega) HNB.out).trans ((HAL.out _).frozen 12); have HG := Lib.hid hg; clear hg)
  have hst := (HAL.out _).setOut HG.out.kept HG.out.bs HG.out.blk 12 rfl
  rw [show (s.out ++ [c]).length = s.out.length + 1 by simp] at hst
  have HST := Lib.hid hst
  clear hst
  first | go_end0 | go_ret
  unfold RTakesPost
  rw [HV.out]
  exact ⟨_, _, rfl, HST.out.1, (Turn.of_kept ((Kept.refl _ _).alloc _)).trans HST.out.2⟩
theorem r_takes_any (h : RL w b vr vi vo s) (hs : s.Ok) (reg c : Int) (g0 : 0 ≤ c) (g1 : c ≤ 255) (r0 : 0 ≤ reg) (r1 : reg < 8) : Calls Try.prog 71 #[.pointer (some ⟨b, 0, none⟩), .int .i64 reg, .int .u8 c] w (RTakesPost w b vr vi vo s reg c) := by
  rcases (show reg = 0 ∨ reg = 1 ∨ reg = 2 ∨ reg = 3 ∨ reg = 4 ∨ reg = 5 ∨ reg = 6 ∨ reg = 7 by omega) with rfl | rfl | rfl | rfl | rfl | rfl | rfl | rfl
  · by_cases hv : s.out.length < 4096
    · exact r_takes_0y h hs c g0 g1 hv
    · exact r_takes_0n h hs c g0 g1 hv
  · exact r_takes_1 h hs c g0 g1
  · by_cases hv : c / 2 % 2 = 1
    · exact r_takes_2y h hs c g0 g1 hv
    · exact r_takes_2n h hs c g0 g1 (by omega)
  · exact r_takes_3 h hs c g0 g1
  · exact r_takes_4 h hs c g0 g1
  · exact r_takes_5 h hs c g0 g1
  · exact r_takes_6 h hs c g0 g1
  · exact r_takes_7 h hs c g0 g1
/-- What Output leaves. -/
def ROutPost (w : World) (l : List Int) (e : Ending) (w' : World) : Prop := ∃ v', e = .returned v' ∧ Bs w' v' l ∧ (∀ g, v'.ownBlock = some g → w.heap.size ≤ g) ∧ Kept [] w w'
theorem Grew.outPost {w w2 : World} {v' : Value} {l : List Int} (hg : Grew w w2 (.slice none 0 0) v' ([] ++ l)) : ROutPost w l (.returned v') w2 :=
  ⟨v', rfl, by simpa using hg.bs, fun g hx => (hg.blk g hx).elim (fun e => by simp [Value.ownBlock] at e) id, hg.kept⟩
set_option maxHeartbeats 4000000 in
set_option maxRecDepth 100000 in
theorem r_output_any (h : RL w b vr vi vo s) (hs : s.Ok) : Calls Try.prog 61 #[.pointer (some ⟨b, 0, none⟩)] w (ROutPost w s.out) := by
  obtain ⟨A, n, rfl⟩ := h.outAt
  have d : w.cell? ⟨b, 12, none⟩ = some (.slice A s.out.length n) := h.cell 12 _ rfl
  have HR := Lib.hid h.out.rd
  have HL := Lib.hid (show ([] : List Int).length + s.out.length ≤ 140737488355328 by have := hs.o1; simp; omega)
  clear h
  go_enter Try.func61, Try.ntmps61
  go_wp2_with (at_builtin; refine wpList_append_bs rfl _ _ rfl _ _ [] s.out rfl rfl (Bs.nil _) HR.out HL.out ?_; intro v' w2 hg; have hp := Grew.outPost hg; obtain ⟨A', c', rfl⟩ := hg.bs.shape; have HP := Lib.hid hp; clear hp hg)
  go_ret
  exact HP.out
end
end Go.Proofs.Ytkocfcgdjjdnhaa.BW
