/- The program's bus: Begin. Premise: a bus lies there. -/
import Derived.Test.YtkocfcgdjjdnhaaBusR
import Derived.Test.YtkocfcgdjjdnhaaBusL
import Derived.Deep.RegionHeld3
namespace Go.Proofs.Ytkocfcgdjjdnhaa.BW
open Go.RowKit
set_option linter.unusedVariables false
set_option linter.unusedSimpArgs false
section
variable {w : World} {b : Nat} {vr vi vo : Value} {s : St}
/-- What Begin leaves. -/
def BeginPost (w : World) (b : Nat) (vr vi vo : Value) (s : St) (tick ext soft : Bool) (l : List Int) (e : Ending) (w' : World) : Prop :=
  ∃ vi', e = .returned (.tuple #[]) ∧ PL w' b vr vi' vo (s.begin tick ext soft l) ∧ Turn (foot b vr vi vo) (foot b vr vi' vo) w w'
/-- What join leaves, and a box beside the bus. -/
theorem join_in {v : Value} {l : List Int} {B : Nat} {t x u : Bool} {y : Value} (h : PL w b vr vi vo s) (hs : s.Ok) (hr : Rd w v l) (hc : ∀ A n c, v = .slice A n c → n ≤ c ∧ c ≤ maxLen) (hF : ∀ g o n c, v = .slice (some ⟨g, o, none⟩) n c → g ∉ foot b vr vi vo) (hl : l.length ≤ 140737488351232)
    (hB : w.heap[B]? = some (.cells #[.bool t, .bool x, .bool u, y] 52 (0, 0))) (hBF : B ∉ foot b vr vi vo) :
    Calls Try.prog 45 #[.pointer (some ⟨b, 6, none⟩), v] w fun e w' => e = .returned (.tuple #[]) ∧ w'.cell? ⟨B, 0, none⟩ = some (.bool t) ∧ w'.cell? ⟨B, 1, none⟩ = some (.bool x) ∧ w'.cell? ⟨B, 2, none⟩ = some (.bool u) ∧ w'.cell? ⟨B, 3, none⟩ = some y ∧ w'.cell? ⟨b, 5, none⟩ = some (.int .u64 s.now) ∧ w'.cell? ⟨b, 15, none⟩ = some (.bool s.ext) ∧ w'.cell? ⟨b, 16, none⟩ = some (.bool s.soft) ∧ w'.frozen? ⟨b, 5, none⟩ = false ∧ w'.frozen? ⟨b, 15, none⟩ = false ∧ w'.frozen? ⟨b, 16, none⟩ = false ∧
      Hid (∃ vi', PL w' b vr vi' vo (s.join l) ∧ Turn (foot b vr vi vo) (foot b vr vi' vo) w w') :=
  (join_any h hs v l hr hc hF hl).mono fun e w' ⟨vi', he, hp, ht⟩ => by
    have hB' := ht.kept.row hB hBF
    exact ⟨he, row_cell hB' 0 _ rfl, row_cell hB' 1 _ rfl, row_cell hB' 2 _ rfl, row_cell hB' 3 _ rfl, hp.cell 5 _ rfl, hp.cell 15 _ rfl, hp.cell 16 _ rfl, hp.frozen 5, hp.frozen 15, hp.frozen 16, ⟨vi', hp, ht⟩⟩
set_option maxHeartbeats 4000000 in
set_option maxRecDepth 100000 in
theorem begin_on (h : PL w b vr vi vo s) (hs : s.Ok) (tick ext soft : Bool) (A : Option Addr) (n c : Nat) (l : List Int) (hr : Rd w (.slice A n c) l) (hnc : n ≤ c ∧ c ≤ maxLen) (hF : ∀ g o, A = some ⟨g, o, none⟩ → g ∉ foot b vr vi vo ∧ g < w.heap.size) (hl : l.length ≤ 140737488351232) (h0 : s.off = 0) :
    Calls Try.prog 27 #[.pointer (some ⟨b, 0, none⟩), .agg #[.bool tick, .bool ext, .bool soft, .slice A n c]] w (BeginPost w b vr vi vo s tick ext soft l) := by
  have c1 : w.cell? ⟨b, 1, none⟩ = some (.int .i64 s.off) := h.cell 1 _ rfl
  rw [h0] at c1
  have hlt : b < w.heap.size := h.lt b (by simp [foot])
  have hBF : w.heap.size ∉ foot b vr vi vo := fun hm => by have := h.lt _ hm; omega
  have hne : w.heap.size ≠ b := by omega
  have hne2 : ¬ b = w.heap.size := by omega
  have n0 := hs.n.1
  have n1 := hs.n.2
  have hkA : Kept [] w ((w.alloc (.cells #[.bool tick, .bool ext, .bool soft, .slice A n c] 52)).drew) := ((Kept.refl [] w).alloc _).drew
  have hrow : ((w.alloc (.cells #[.bool tick, .bool ext, .bool soft, .slice A n c] 52)).drew).heap[w.heap.size]? = some (.cells #[.bool tick, .bool ext, .bool soft, .slice A n c] 52 (0, 0)) := row_drew (heap_alloc_new w _)
  have hj := join_in (h.keep0 hkA) hs (hr.keep hkA (by simp)) (by intro A' n' c' e; cases e; exact hnc) (by intro g o n' c' e; cases e; exact (hF g o rfl).1) hl hrow hBF
  have HJ := Lib.hid hj
  have HKA := Lib.hid hkA
  have HS := Lib.hid (show s.begin tick ext soft l = { s.join l with ext := ext, soft := soft, now := if tick = true then (s.now + 1) % 18446744073709551616 else s.now } by unfold St.begin; rw [if_pos h0])
  clear h hj hkA hrow h0 hr hF
  go_enter Try.func27, Try.ntmps27
  go_wp2
  go_region_held3 (fun w' => w'.cell? ⟨w.heap.size, 3, none⟩ = some (.slice A n c)) (first | go_keep | assumption)
    ((go_at_call 45; refine HJ.out.mono ?_; rintro e w2 ⟨rfl, e0, e1, e2, e3, d5, d15, d16, f5, f15, f16, HJP⟩))
  go_wp2
  go_region_held3 (fun w' => w'.cell? ⟨w.heap.size, 1, none⟩ = some (.bool ext) ∧ w'.cell? ⟨w.heap.size, 2, none⟩ = some (.bool soft)) (go_keep) (fail)
  cases tick
  · go_wp2
    go_end0
    obtain ⟨vi', hp, ht⟩ := HJP.out
    have h2 := hp.set 15 (.bool ext) (s' := { s.join l with ext := ext }) (cs' := fun vr vi vo s => pCells vr vi vo s) rfl
    have h3 := h2.set 16 (.bool soft) (s' := { s.join l with ext := ext, soft := soft }) (cs' := fun vr vi vo s => pCells vr vi vo s) rfl
    unfold BeginPost
    rw [HS.out]
    exact ⟨vi', rfl, h3.keep0 (Kept.refl [] _).drew, ((((Turn.of_kept (HKA.out.mono (by simp))).trans ht).trans (hp.turn 15 _)).trans (h2.turn 16 _)).trans (.of_kept (Kept.refl _ _).drew)⟩
  · go_wp2
    go_end0
    obtain ⟨vi', hp, ht⟩ := HJP.out
    have h2 := hp.set 15 (.bool ext) (s' := { s.join l with ext := ext }) (cs' := fun vr vi vo s => pCells vr vi vo s) rfl
    have h3 := h2.set 16 (.bool soft) (s' := { s.join l with ext := ext, soft := soft }) (cs' := fun vr vi vo s => pCells vr vi vo s) rfl
    have h4 := h3.set 5 (.int .u64 ((s.now + 1) % 18446744073709551616)) (s' := { s.join l with ext := ext, soft := soft, now := (s.now + 1) % 18446744073709551616 }) (cs' := fun vr vi vo s => pCells vr vi vo s) rfl
    unfold BeginPost
    rw [HS.out]
    exact ⟨vi', rfl, h4.keep0 (Kept.refl [] _).drew, (((((Turn.of_kept (HKA.out.mono (by simp))).trans ht).trans (hp.turn 15 _)).trans (h2.turn 16 _)).trans (h3.turn 5 _)).trans (.of_kept (Kept.refl _ _).drew)⟩
set_option maxHeartbeats 4000000 in
set_option maxRecDepth 100000 in
theorem begin_off (h : PL w b vr vi vo s) (tick ext soft : Bool) (v : Value) (l : List Int) (h0 : ¬ s.off = 0) :
    Calls Try.prog 27 #[.pointer (some ⟨b, 0, none⟩), .agg #[.bool tick, .bool ext, .bool soft, v]] w (BeginPost w b vr vi vo s tick ext soft l) := by
  have c1 : w.cell? ⟨b, 1, none⟩ = some (.int .i64 s.off) := h.cell 1 _ rfl
  have hlt : b < w.heap.size := h.lt b (by simp [foot])
  have b0 : (s.off != 0) = true := by simpa using h0
  have hp : BeginPost w b vr vi vo s tick ext soft l (.returned (.tuple #[])) (w.alloc (.cells #[.bool tick, .bool ext, .bool soft, v] 52)) := by
    unfold BeginPost St.begin; rw [if_neg h0]; exact ⟨vi, rfl, h.keep0 ((Kept.refl [] w).alloc _), .of_kept ((Kept.refl _ w).alloc _)⟩
  have HP := Lib.hid hp
  clear h hp h0
  go_enter Try.func27, Try.ntmps27
  go_wp2
  exact bodyPost_ret (results_none rfl _ _ _) rfl HP.out
theorem begin_any (h : PL w b vr vi vo s) (hs : s.Ok) (tick ext soft : Bool) (A : Option Addr) (n c : Nat) (l : List Int) (hr : Rd w (.slice A n c) l) (hnc : n ≤ c ∧ c ≤ maxLen) (hF : ∀ g o, A = some ⟨g, o, none⟩ → g ∉ foot b vr vi vo ∧ g < w.heap.size) (hl : l.length ≤ 140737488351232) :
    Calls Try.prog 27 #[.pointer (some ⟨b, 0, none⟩), .agg #[.bool tick, .bool ext, .bool soft, .slice A n c]] w (BeginPost w b vr vi vo s tick ext soft l) := by
  by_cases h0 : s.off = 0
  · exact begin_on h hs tick ext soft A n c l hr hnc hF hl h0
  · exact begin_off h tick ext soft _ l h0
end
end Go.Proofs.Ytkocfcgdjjdnhaa.BW
