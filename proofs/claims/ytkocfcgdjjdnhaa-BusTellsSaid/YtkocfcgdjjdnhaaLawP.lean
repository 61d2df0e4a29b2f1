/- The laws that play a story and hold the answers of some kinds: each answers true. Premise: the story can be read. -/
import Derived.Test.YtkocfcgdjjdnhaaPairG
namespace Go.Proofs.Ytkocfcgdjjdnhaa.BW
open Go.RowKit
set_option linter.unusedVariables false
set_option linter.unusedSimpArgs false
section
variable (w : World) (s : St) (hs : s.In) (v1 v2 v3 vops : Value) (ops : List OpV) (h1 : Rd w v1 s.ram) (h2 : Rd w v2 s.inp) (h3 : Rd w v3 s.out) (ho : OpsAt w vops ops)
include hs h1 h2 h3 ho
set_option maxHeartbeats 4000000 in
set_option maxRecDepth 100000 in
theorem law_BusLoads : Calls Try.prog 8 #[.agg (yCells v1 v2 v3 s vops)] w (TruePost w) := by
  have kA : Kept [] w (w.alloc (.cells (yCells v1 v2 v3 s vops) 43)) := (Kept.refl [] w).alloc _
  have HP := Lib.hid (plays_any _ s hs v1 v2 v3 vops ops (h1.keep kA (by simp)) (h2.keep kA (by simp)) (h3.keep kA (by simp)) (ho.keep kA) 1 1)
  have HROW := Lib.hid (heap_alloc_new w (.cells (yCells v1 v2 v3 s vops) 43))
  have HK := Lib.hid kA
  clear hs h1 h2 h3 ho kA
  go_enter Try.func8, Try.ntmps8
  go_wp2_with (first | (refine wpList_load_row rfl 43 (.tmp 1) rfl w.heap.size rfl 43 _ (0, 0) _ HROW.out Try.underlying43 rfl (by kernel_rfl) ?_) | (go_at_call 33; refine HP.out.mono ?_; rintro e w2 ⟨rfl, hk⟩; have HK2 := Lib.hid (HK.out.trans hk (by simp)); clear hk))
  go_ret
  exact ⟨rfl, HK2.out⟩
set_option maxHeartbeats 4000000 in
set_option maxRecDepth 100000 in
theorem law_BusThere : Calls Try.prog 11 #[.agg (yCells v1 v2 v3 s vops)] w (TruePost w) := by
  have kA : Kept [] w (w.alloc (.cells (yCells v1 v2 v3 s vops) 43)) := (Kept.refl [] w).alloc _
  have HP := Lib.hid (plays_any _ s hs v1 v2 v3 vops ops (h1.keep kA (by simp)) (h2.keep kA (by simp)) (h3.keep kA (by simp)) (ho.keep kA) 4 5)
  have HROW := Lib.hid (heap_alloc_new w (.cells (yCells v1 v2 v3 s vops) 43))
  have HK := Lib.hid kA
  clear hs h1 h2 h3 ho kA
  go_enter Try.func11, Try.ntmps11
  go_wp2_with (first | (refine wpList_load_row rfl 43 (.tmp 1) rfl w.heap.size rfl 43 _ (0, 0) _ HROW.out Try.underlying43 rfl (by kernel_rfl) ?_) | (go_at_call 33; refine HP.out.mono ?_; rintro e w2 ⟨rfl, hk⟩; have HK2 := Lib.hid (HK.out.trans hk (by simp)); clear hk))
  go_ret
  exact ⟨rfl, HK2.out⟩
set_option maxHeartbeats 4000000 in
set_option maxRecDepth 100000 in
theorem law_BusPeeks : Calls Try.prog 12 #[.agg (yCells v1 v2 v3 s vops)] w (TruePost w) := by
  have kA : Kept [] w (w.alloc (.cells (yCells v1 v2 v3 s vops) 43)) := (Kept.refl [] w).alloc _
  have HP := Lib.hid (plays_any _ s hs v1 v2 v3 vops ops (h1.keep kA (by simp)) (h2.keep kA (by simp)) (h3.keep kA (by simp)) (ho.keep kA) 6 7)
  have HROW := Lib.hid (heap_alloc_new w (.cells (yCells v1 v2 v3 s vops) 43))
  have HK := Lib.hid kA
  clear hs h1 h2 h3 ho kA
  go_enter Try.func12, Try.ntmps12
  go_wp2_with (first | (refine wpList_load_row rfl 43 (.tmp 1) rfl w.heap.size rfl 43 _ (0, 0) _ HROW.out Try.underlying43 rfl (by kernel_rfl) ?_) | (go_at_call 33; refine HP.out.mono ?_; rintro e w2 ⟨rfl, hk⟩; have HK2 := Lib.hid (HK.out.trans hk (by simp)); clear hk))
  go_ret
  exact ⟨rfl, HK2.out⟩
set_option maxHeartbeats 4000000 in
set_option maxRecDepth 100000 in
theorem law_BusTells : Calls Try.prog 13 #[.agg (yCells v1 v2 v3 s vops)] w (TruePost w) := by
  have kA : Kept [] w (w.alloc (.cells (yCells v1 v2 v3 s vops) 43)) := (Kept.refl [] w).alloc _
  have HP := Lib.hid (plays_any _ s hs v1 v2 v3 vops ops (h1.keep kA (by simp)) (h2.keep kA (by simp)) (h3.keep kA (by simp)) (ho.keep kA) 8 11)
  have HROW := Lib.hid (heap_alloc_new w (.cells (yCells v1 v2 v3 s vops) 43))
  have HK := Lib.hid kA
  clear hs h1 h2 h3 ho kA
  go_enter Try.func13, Try.ntmps13
  go_wp2_with (first | (refine wpList_load_row rfl 43 (.tmp 1) rfl w.heap.size rfl 43 _ (0, 0) _ HROW.out Try.underlying43 rfl (by kernel_rfl) ?_) | (go_at_call 33; refine HP.out.mono ?_; rintro e w2 ⟨rfl, hk⟩; have HK2 := Lib.hid (HK.out.trans hk (by simp)); clear hk))
  go_ret
  exact ⟨rfl, HK2.out⟩
end
end Go.Proofs.Ytkocfcgdjjdnhaa.BW
