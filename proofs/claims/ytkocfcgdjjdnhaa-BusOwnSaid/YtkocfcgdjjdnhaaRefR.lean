/- The document's bus: Begin. Premise: a bus lies there. The document's bus: Begin of a bus that runs. Premise: a bus lies there. -/
import Derived.Test.YtkocfcgdjjdnhaaRefO
import Derived.Test.YtkocfcgdjjdnhaaBusK
import Derived.Deep.RegionHeld3
import Derived.Deep.RegionLaw
import Derived.Test.YtkocfcgdjjdnhaaBusL
namespace Go.Proofs.Ytkocfcgdjjdnhaa.BW
open Go.RowKit
set_option linter.unusedVariables false
set_option linter.unusedSimpArgs false
section
variable {w : World} {b : Nat} {vr vi vo : Value} {s : St}
def RBeginPost (w : World) (b : Nat) (vr vi vo : Value) (s : St) (tick ext soft : Bool) (l : List Int) (e : Ending) (w' : World) : Prop :=
  ∃ vi', e = .returned (.tuple #[]) ∧ RL w' b vr vi' vo (s.begin tick ext soft l) ∧ Turn (foot b vr vi vo) (foot b vr vi' vo) w w'
set_option maxHeartbeats 4000000 in
set_option maxRecDepth 100000 in
theorem r_begin_off (h : RL w b vr vi vo s) (tick ext soft : Bool) (v : Value) (l : List Int) (h0 : ¬ s.off = 0) :
    Calls Try.prog 49 #[.pointer (some ⟨b, 0, none⟩), .agg #[.bool tick, .bool ext, .bool soft, v]] w (RBeginPost w b vr vi vo s tick ext soft l) := by
  have c1 : w.cell? ⟨b, 13, none⟩ = some (.int .i64 s.off) := h.cell 13 _ rfl
  have hlt : b < w.heap.size := h.lt b (by simp [foot])
  have b0 : (s.off != 0) = true := by simpa using h0
  have hp : RBeginPost w b vr vi vo s tick ext soft l (.returned (.tuple #[])) (w.alloc (.cells #[.bool tick, .bool ext, .bool soft, v] 52)) := by
    unfold RBeginPost St.begin; rw [if_neg h0]; exact ⟨vi, rfl, h.keep0 ((Kept.refl [] w).alloc _), .of_kept ((Kept.refl _ w).alloc _)⟩
  have HP := Lib.hid hp
  clear h hp h0
  go_enter Try.func49, Try.ntmps49
  go_wp2
  exact bodyPost_ret (results_none rfl _ _ _) rfl HP.out
theorem join_nil_eq (s : St) (hs : s.Ok) : s.join [] = s := by
  have := hs.i1
  unfold St.join
  rw [List.take_nil, List.append_nil, List.length_nil, decide_eq_false (by omega), Bool.or_false]
theorem join_len (s : St) (l : List Int) : (s.join l).inp.length = s.inp.length + min (64 - s.inp.length) l.length := by
  unfold St.join; simp
/-- One byte more that comes in. -/
theorem join_snoc (s : St) (hs : s.Ok) (l : List Int) (k : Nat) (x : Int) (hx : l[k]? = some x) : s.join (l.take (k + 1)) = if (s.join (l.take k)).inp.length < 64 then { s.join (l.take k) with inp := (s.join (l.take k)).inp ++ [x] } else { s.join (l.take k) with over := true } := by
  have hi := hs.i1
  have hk : k < l.length := (List.getElem?_eq_some_iff.mp hx).1
  have e := take_snoc l k x hx
  have hlk : (l.take k).length = k := by rw [List.length_take]; omega
  have hlk1 : (l.take (k + 1)).length = k + 1 := by rw [List.length_take]; omega
  rw [join_len, hlk]
  unfold St.join
  rw [hlk, hlk1]
  split
  · rename_i hlt
    have h1 : k < 64 - s.inp.length := by omega
    have e1 : (l.take (k + 1)).take (64 - s.inp.length) = l.take (k + 1) := List.take_of_length_le (by rw [hlk1]; omega)
    have e2 : (l.take k).take (64 - s.inp.length) = l.take k := List.take_of_length_le (by rw [hlk]; omega)
    rw [e1, e2, ← e, List.append_assoc, decide_eq_false (show ¬ 64 < s.inp.length + (k + 1) by omega), decide_eq_false (show ¬ 64 < s.inp.length + k by omega)]
  · rename_i hlt
    have h1 : 64 - s.inp.length ≤ k := by omega
    have e1 : (l.take (k + 1)).take (64 - s.inp.length) = l.take (64 - s.inp.length) := by rw [List.take_take]; congr 1; omega
    have e2 : (l.take k).take (64 - s.inp.length) = l.take (64 - s.inp.length) := by rw [List.take_take]; congr 1; omega
    rw [e1, e2, decide_eq_true (show 64 < s.inp.length + (k + 1) by omega), Bool.or_true]
end
open Go.RowKit
set_option linter.unusedVariables false
set_option linter.unusedSimpArgs false
section
variable {w : World} {b : Nat} {vr vi vo : Value} {s : St}
/-- What stands while the bytes come in. -/
def Joining (w wr : World) (n b : Nat) (vr vi vo : Value) (s : St) (box : Array Value) (l : List Int) : Prop :=
  ∃ vi', RL wr b vr vi' vo (s.join l) ∧ Turn (foot b vr vi vo) (foot b vr vi' vo) w wr ∧ wr.heap[n]? = some (.cells box 52 (0, 0))
/-- A byte is put into the queue. -/
theorem Joining.grow {wr w2 : World} {n : Nat} {box : Array Value} {l l' : List Int} {vi' v' : Value} {o : Obj} {m : List Int} (h1 : RL wr b vr vi' vo (s.join l)) (h2 : Turn (foot b vr vi vo) (foot b vr vi' vo) w wr) (h3 : wr.heap[n]? = some (.cells box 52 (0, 0)))
    (hg : Grew (wr.alloc o) w2 vi' v' m) (hb : n ∉ foot b vr vi' vo) (hj : s.join l' = { s.join l with inp := m }) :
    Joining w (w2.setCell ⟨b, 11, none⟩ v') n b vr vi vo s box l' := by
  have ka : Kept [] wr (wr.alloc o) := (Kept.refl [] wr).alloc o
  have l1 := h1.keep0 ka
  have st := l1.setInp hg.kept hg.bs hg.blk 11 rfl
  have hbn : n ≠ b := fun e => hb (by rw [e]; simp [foot])
  have hbv : n ∉ vi'.ownBlock.toList := fun hm => hb (by simp only [foot, List.mem_cons, List.mem_append]; exact .inr (.inr (.inl hm)))
  have r1 := hg.kept.row (ka.row h3 (by simp)) hbv
  have r2 : (w2.setCell ⟨b, 11, none⟩ v').heap[n]? = some (.cells box 52 (0, 0)) := ((Kept.refl [b] w2).setCell (by simp) v').row r1 (by simpa using hbn)
  rw [← hj] at st
  exact ⟨v', st.1, (h2.trans (.of_kept (ka.mono (by simp)))).trans st.2, r2⟩
theorem Joining.lost {wr : World} {n : Nat} {box : Array Value} {l l' : List Int} {vi' : Value} (h1 : RL wr b vr vi' vo (s.join l)) (h2 : Turn (foot b vr vi vo) (foot b vr vi' vo) w wr) (h3 : wr.heap[n]? = some (.cells box 52 (0, 0)))
    (hb : n ∉ foot b vr vi' vo) (hj : s.join l' = { s.join l with over := true }) :
    Joining w (wr.setCell ⟨b, 10, none⟩ (.bool true)) n b vr vi vo s box l' := by
  have hbn : n ≠ b := fun e => hb (by rw [e]; simp [foot])
  have r2 : (wr.setCell ⟨b, 10, none⟩ (.bool true)).heap[n]? = some (.cells box 52 (0, 0)) := ((Kept.refl [b] wr).setCell (by simp) _).row h3 (by simpa using hbn)
  exact ⟨vi', by rw [hj]; exact h1.set 10 (.bool true) (s' := { s.join l with over := true }) rfl, h2.trans (h1.turn 10 _), r2⟩
set_option maxHeartbeats 8000000 in
set_option maxRecDepth 100000 in
theorem r_begin_on (h : RL w b vr vi vo s) (hs : s.Ok) (tick ext soft : Bool) (A : Option Addr) (n c : Nat) (l : List Int) (hn : n = l.length) (hr : ∀ i x, l[i]? = some x → ∃ g o, A = some ⟨g, o, none⟩ ∧ g ∉ foot b vr vi vo ∧ w.cell? ⟨g, o + i, none⟩ = some (.int .u8 x)) (hlb : Byts l) (hl : n ≤ 140737488351232) (h0 : s.off = 0) :
    Calls Try.prog 49 #[.pointer (some ⟨b, 0, none⟩), .agg #[.bool tick, .bool ext, .bool soft, .slice A n c]] w (RBeginPost w b vr vi vo s tick ext soft l) := by
  have c13 : w.cell? ⟨b, 13, none⟩ = some (.int .i64 s.off) := h.cell 13 _ rfl
  rw [h0] at c13
  have hlt : b < w.heap.size := h.lt b (by simp [foot])
  have hfl := h.lt
  have kA : Kept [] w (w.alloc (.cells #[.bool tick, .bool ext, .bool soft, .slice A n c] 52)) := (Kept.refl [] w).alloc _
  have hrow : (w.alloc (.cells #[.bool tick, .bool ext, .bool soft, .slice A n c] 52)).heap[w.heap.size]? = some (.cells #[.bool tick, .bool ext, .bool soft, .slice A n c] 52 (0, 0)) := heap_alloc_new w _
  have HJ0 := Lib.hid (show Joining (w.alloc (.cells #[.bool tick, .bool ext, .bool soft, .slice A n c] 52)) (w.alloc (.cells #[.bool tick, .bool ext, .bool soft, .slice A n c] 52)) w.heap.size b vr vi vo s #[.bool tick, .bool ext, .bool soft, .slice A n c] (l.take 0) from ⟨vi, by rw [List.take_zero, join_nil_eq s hs]; exact h.keep0 kA, .refl _ _, hrow⟩)
  have HS := Lib.hid (show s.begin tick ext soft l = { s.join l with ext := ext, soft := soft, now := if tick = true then (s.now + 1) % 18446744073709551616 else s.now } by unfold St.begin; rw [if_pos h0])
  have HFL := Lib.hid hfl
  have HR := Lib.hid (show ∀ i x, l[i]? = some x → ∃ g o, A = some ⟨g, o, none⟩ ∧ g ∉ foot b vr vi vo ∧ (w.alloc (.cells #[.bool tick, .bool ext, .bool soft, .slice A n c] 52)).cell? ⟨g, o + i, none⟩ = some (.int .u8 x) from fun i x hx => by
    obtain ⟨g, o, h1, h2, h3⟩ := hr i x hx
    exact ⟨g, o, h1, h2, (kA.cell (World.block_lt_of_cell? w _ h3) (by simp)).trans h3⟩)
  have HN := Lib.hid hn
  have HLB := Lib.hid hlb
  have HSO := Lib.hid hs
  have HK := Lib.hid kA
  have n0 := hs.n.1
  have n1 := hs.n.2
  clear h hs kA hrow hfl hr hn hlb h0
  go_enter Try.func49, Try.ntmps49
  go_wp2
  have hw0 : (w.alloc (.cells #[.bool tick, .bool ext, .bool soft, .slice A n c] 52)).heap.size = w.heap.size + 1 := by simp
  clear c13
  generalize (w.alloc (.cells #[.bool tick, .bool ext, .bool soft, .slice A n c] 52)) = w0 at *
  generalize hN : w.heap.size = N at *
  go_loopw [5] (fun i wr => ∃ k : Nat, k ≤ n ∧ i = .int .i64 k ∧ Hid (Joining w0 wr N b vr vi vo s #[.bool tick, .bool ext, .bool soft, .slice A n c] (l.take k))) (fun i _ => n - (intOf i).toNat)
  case atStart => exact ⟨0, Nat.zero_le _, rfl, HJ0.out⟩
  case round =>
    obtain ⟨k, hk, rfl, hb⟩ := hrel
    obtain ⟨vi', p1, p2, p3⟩ := hb.out
    obtain ⟨B, e, rfl⟩ := p1.inp.shape
    have hbx : N ∉ foot b vr (.slice B (s.join (l.take k)).inp.length e) vo := fun hm => (p2.new _ hm).elim (fun h => by have := HFL.out _ h; omega) (fun h => by omega)
    have d0 : wr.cell? ⟨N, 0, none⟩ = some (.bool tick) := row_cell p3 0 _ rfl
    have d1 : wr.cell? ⟨N, 1, none⟩ = some (.bool ext) := row_cell p3 1 _ rfl
    have d2 : wr.cell? ⟨N, 2, none⟩ = some (.bool soft) := row_cell p3 2 _ rfl
    have d3 : wr.cell? ⟨N, 3, none⟩ = some (.slice A n c) := row_cell p3 3 _ rfl
    have c11 : wr.cell? ⟨b, 11, none⟩ = some (.slice B (s.join (l.take k)).inp.length e) := p1.cell 11 _ rfl
    have z11 := p1.frozen 11
    have c10 : wr.cell? ⟨b, 10, none⟩ = some (.bool (s.join (l.take k)).over) := p1.cell 10 _ rfl
    have z10 := p1.frozen 10
    have hbl : b < wr.heap.size := p1.lt b (by simp [foot])
    have P1 := Lib.hid p1
    have P2 := Lib.hid p2
    have P3 := Lib.hid p3
    have HBX := Lib.hid hbx
    by_cases hlt2 : k < n
    · obtain ⟨y, hy⟩ : ∃ y, l[k]? = some y := ⟨_, List.getElem?_eq_getElem (by rw [← HN.out]; omega)⟩
      have hjs := join_snoc s HSO.out l k y hy
      have hql := join_len s (l.take k)
      obtain ⟨pg, po, rfl, hpf, e0⟩ := HR.out k y hy
      have d4 : wr.cell? ⟨pg, po + k, none⟩ = some (.int .u8 y) := (p2.kept.cell (p := ⟨pg, po + k, none⟩) (World.block_lt_of_cell? w0 _ e0) hpf).trans e0
      have y0 := (HLB.out y (List.mem_of_getElem? hy)).1
      have y1 := (HLB.out y (List.mem_of_getElem? hy)).2
      clear p1 p2 p3 hbx hpf e0 hy
      generalize hq : (s.join (l.take k)).inp.length = q at *
      generalize hqo : (s.join (l.take k)).over = ov at *
      by_cases hq64 : q < 64
      · rw [if_pos hq64] at hjs
        have HJS := Lib.hid hjs
        have e1 : decide ((q : Int) < 64) = true := by simp; omega
        have HQ := Lib.hid hq
        have HNB := Lib.hid (show b ∉ (Value.slice B q e).ownBlock.toList from fun hm => P1.out.ni b (by simpa using hm) rfl)
        have HQ1 := Lib.hid (show (s.join (l.take k)).inp.length + [y].length ≤ 140737488355328 by rw [hq]; simp; omega)
        clear hjs hq hqo hql
        go_wp2
        go_region_law ((refine step_append_bs (by rfl) _ _ (by rfl) _ _ (s.join (l.take k)).inp [y] (by rfl) (by rfl) (P1.out.inp.keep ((Kept.refl [] wr).drew.alloc _) (by simp)) (.inr ⟨1, wr.heap.size, 0, rfl, one_cell (by rfl) _⟩) HQ1.out ?_; intro v' w2 hg; obtain ⟨A', c', rfl⟩ := hg.bs.shape; have e8 : w2.cell? ⟨b, 11, none⟩ = some (.slice B q e) := (hg.kept.cell (p := ⟨b, 11, none⟩) (by simp; omega) HNB.out).trans ((P1.out.keep0 ((Kept.refl [] wr).drew.alloc _)).cell 11 _ rfl); have f8 := (hg.kept.frozen (p := ⟨b, 11, none⟩) (by simp; omega) HNB.out).trans ((P1.out.keep0 ((Kept.refl [] wr).drew.alloc _)).frozen 11); have HG := Lib.hid hg; clear hg))
        all_goals
          go_wp2
          go_roundw
          case rel =>
            go_light
            have hj := Joining.grow P1.out P2.out P3.out HG.out.undrew HBX.out HJS.out
            rw [show ((s.join (l.take k)).inp ++ [y]).length = (s.join (l.take k)).inp.length + 1 by simp] at hj
            exact ⟨k + 1, by omega, by go_num, hj⟩
          case measure => simp [intOf]; omega
      · rw [if_neg hq64] at hjs
        have HJS := Lib.hid hjs
        have e1 : decide ((q : Int) < 64) = false := by simp; omega
        clear hjs hq hqo hql
        go_wp2
        go_roundw
        case rel =>
          go_light
          exact ⟨k + 1, by omega, by go_num, Joining.lost P1.out P2.out P3.out HBX.out HJS.out⟩
        case measure => simp [intOf]; omega
    · obtain rfl : k = n := by omega
      have HLT := Lib.hid (show l.take k = l by rw [HN.out, List.take_length])
      have hnow : (s.join (l.take k)).now = s.now := rfl
      have c4 : wr.cell? ⟨b, 4, none⟩ = some (.bool (s.join (l.take k)).ext) := p1.cell 4 _ rfl
      have c5 : wr.cell? ⟨b, 5, none⟩ = some (.bool (s.join (l.take k)).soft) := p1.cell 5 _ rfl
      have c3 : wr.cell? ⟨b, 3, none⟩ = some (.int .u64 s.now) := p1.cell 3 _ rfl
      have z4 := p1.frozen 4
      have z5 := p1.frozen 5
      have z3 := p1.frozen 3
      have hNb : ¬ N = b := fun e => hbx (by rw [e]; simp [foot])
      have hbN : ¬ b = N := fun e => hNb e.symm
      have h2 := p1.set 4 (.bool ext) (s' := { s.join (l.take k) with ext := ext }) (cs' := sCells) rfl
      have h3 := h2.set 5 (.bool soft) (s' := { s.join (l.take k) with ext := ext, soft := soft }) (cs' := sCells) rfl
      have ht := ((Turn.of_kept (HK.out.mono (G := foot b vr vi vo) (by simp))).trans p2).trans ((p1.turn 4 (.bool ext)).trans (h2.turn 5 (.bool soft)))
      have H3 := Lib.hid h3
      have HT := Lib.hid ht
      clear p1 p2 p3 hbx h2 h3 ht hnow c10 c11 z10 z11
      cases tick
      · have HP := Lib.hid (show RBeginPost w b vr vi vo s false ext soft l (.returned (.tuple #[])) ((wr.setCell ⟨b, 4, none⟩ (.bool ext)).setCell ⟨b, 5, none⟩ (.bool soft)) from ⟨_, rfl, by rw [show s.begin false ext soft l = { s.join (l.take k) with ext := ext, soft := soft } by rw [HLT.out]; exact HS.out.trans rfl]; exact H3.out, HT.out⟩)
        go_wp2
        first | go_end0 | go_ret
        exact HP.out
      · have h4 := H3.out.set 3 (.int .u64 ((s.now + 1) % 18446744073709551616)) (s' := { s.join (l.take k) with ext := ext, soft := soft, now := (s.now + 1) % 18446744073709551616 }) (cs' := sCells) rfl
        have HP := Lib.hid (show RBeginPost w b vr vi vo s true ext soft l (.returned (.tuple #[])) (((wr.setCell ⟨b, 4, none⟩ (.bool ext)).setCell ⟨b, 5, none⟩ (.bool soft)).setCell ⟨b, 3, none⟩ (.int .u64 ((s.now + 1) % 18446744073709551616))) from ⟨_, rfl, by rw [show s.begin true ext soft l = { s.join (l.take k) with ext := ext, soft := soft, now := (s.now + 1) % 18446744073709551616 } by rw [HLT.out]; exact HS.out.trans rfl]; exact h4, HT.out.trans (H3.out.turn 3 _)⟩)
        clear h4
        go_wp2
        first | go_end0 | go_ret
        exact HP.out
theorem r_begin_any (h : RL w b vr vi vo s) (hs : s.Ok) (tick ext soft : Bool) (v : Value) (l : List Int) (hr : Rd w v l) (hlb : Byts l) (hl : l.length ≤ 140737488351232) (hF : l ≠ [] → ∀ g o n c, v = .slice (some ⟨g, o, none⟩) n c → g ∉ foot b vr vi vo) :
    Calls Try.prog 49 #[.pointer (some ⟨b, 0, none⟩), .agg #[.bool tick, .bool ext, .bool soft, v]] w (RBeginPost w b vr vi vo s tick ext soft l) := by
  by_cases h0 : s.off = 0
  · rcases hr with ⟨rfl, rfl⟩ | ⟨c, g, o, rfl, hc⟩
    · exact r_begin_on h hs tick ext soft none 0 0 [] rfl (by simp) hlb (by simp) h0
    · exact r_begin_on h hs tick ext soft _ _ c l rfl (fun i x hx => ⟨g, o, rfl, hF (by rintro rfl; simp at hx) g o _ c rfl, hc i x hx⟩) hlb hl h0
  · exact r_begin_off h tick ext soft v l h0
end
end Go.Proofs.Ytkocfcgdjjdnhaa.BW
