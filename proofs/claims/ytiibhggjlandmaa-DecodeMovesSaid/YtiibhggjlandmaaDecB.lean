/- decode.Decode: what it hands back, by Length, Expand, the row of forms, fill. No condition but that the answer is told. -/
import Derived.Test.YtiibhggjlandmaaDecA
import Derived.Laws.CopyOwn
namespace Go.Proofs.Ytiibhggjlandmaa.PB
open Go.RowKit Go.Proofs.YtiibhggjlandmaaW.PrintWords Go.Proofs.YtiibhggjlandmaaW.PrintLast Go.Proofs.YtiibhggjlandmaaW.PrintMore Go.Proofs.Ytiibhggjlandmaa.PE Go.Proofs.Ytiibhggjlandmaa.PF
set_option linter.unusedVariables false
set_option linter.unusedSimpArgs false
def in0 : Array Value := #[.int .i64 0, .int .i64 0, .int .i64 0, .int .i64 0, .int .i64 0, .bool false, .bool false, .int .i64 0, .int .u32 0]
def inC (len raw : Int) : Array Value := #[.int .i64 0, .int .i64 0, .int .i64 0, .int .i64 0, .int .i64 0, .bool false, .bool false, .int .i64 len, .int .u32 raw]
theorem inC_one (len raw : Int) : (inC len raw).all (·.oneCell') = true := by simp [inC, Value.oneCell']
/-- What stands in memory at the loop's head. -/
def Inv (w : World) (len raw : Int) (W : World) : Prop := W.heap[w.heap.size]? = some (.cells in0 29) ∧ W.heap[w.heap.size + 1]? = some (.cells (inC len raw) 29) ∧ W.heap[w.heap.size + 2]? = some (.cells formCells 50) ∧ Below w.heap.size w W
theorem forms_calls2 (n : Nat) (W : World) (h : W.heap.size = n) : Calls Try.prog 29 #[] W fun e w' => e = .returned (.slice (some ⟨n, 0, none⟩) 96 96) ∧ w' = W.alloc (.cells formCells 50) := by
  subst h; exact forms_calls W
theorem inv_alloc {w W : World} {len raw : Int} (h : Inv w len raw W) (o : Obj) : Inv w len raw (W.alloc o) := by
  obtain ⟨h0, h1, h2, hb⟩ := h
  have e : ∀ i x, W.heap[i]? = some x → (W.alloc o).heap[i]? = some x := fun i x hx => by
    obtain ⟨hlt, _⟩ := Array.getElem?_eq_some_iff.mp hx
    rw [Below.heap_alloc W o i hlt]; exact hx
  exact ⟨e _ _ h0, e _ _ h1, e _ _ h2, below_alloc hb o⟩
theorem inv_cell {w W : World} {len raw : Int} (h : Inv w len raw W) : W.cell? ⟨w.heap.size + 1, 0, none⟩ = some (.int .i64 0) := by
  rw [cell_of_row W _ 0 _ 29 (0, 0) h.2.1]; rfl
theorem inv_frozen {w W : World} {len raw : Int} (h : Inv w len raw W) : W.frozen? ⟨w.heap.size + 1, 0, none⟩ = false := frozen_of_row W _ 0 _ 29 h.2.1
theorem inv_set {w W : World} {len raw : Int} (h : Inv w len raw W) (op : Int) : IsS29 w (W.setCell ⟨w.heap.size + 1, 0, none⟩ (.int .i64 op)) (w.heap.size + 1) op 0 0 0 0 false false len raw ∧ Below w.heap.size w (W.setCell ⟨w.heap.size + 1, 0, none⟩ (.int .i64 op)) ∧ (W.setCell ⟨w.heap.size + 1, 0, none⟩ (.int .i64 op)).heap[w.heap.size]? = some (.cells in0 29) := by
  obtain ⟨h0, h1, h2, hb⟩ := h
  refine ⟨⟨?_, by omega⟩, below_set hb (by omega), ?_⟩
  · rw [heap_setCell_same W _ 0 _ 29 _ h1]; rfl
  · rw [heap_setCell_other W _ _ _ (show w.heap.size ≠ w.heap.size + 1 by omega)]; exact h0
theorem fill_g0 {w W W' : World} (hk : KeepBut W W' (w.heap.size + 1) none) (h : W.heap[w.heap.size]? = some (.cells in0 29)) : W'.heap[w.heap.size]? = some (.cells in0 29) := by
  obtain ⟨hlt, _⟩ := Array.getElem?_eq_some_iff.mp h
  rw [hk.2 _ hlt (by omega) (by simp)]; exact h
/-- What stands in memory ahead of the row of forms. -/
def St (w : World) (len raw : Int) (W : World) : Prop := W.heap[w.heap.size]? = some (.cells in0 29) ∧ W.heap[w.heap.size + 1]? = some (.cells (inC len raw) 29) ∧ W.heap.size = w.heap.size + 2 ∧ Below w.heap.size w W
theorem st_start (w : World) (len raw : Int) : St w len raw ((w.alloc (.cells in0 29)).alloc (.cells (inC len raw) 29)) :=
  ⟨heap_alloc2_old _ _ _, heap_alloc2_new _ _ _, by simp, below_alloc (below_alloc (Below.refl _ _) _) _⟩
theorem st_drewN {w W : World} {len raw : Int} (h : St w len raw W) (n : Nat) : St w len raw (W.drewN n) := ⟨h.1, h.2.1, h.2.2.1, pw_below_drewN h.2.2.2 n⟩
theorem st_inv {w W : World} {len raw : Int} (h : St w len raw W) : Inv w len raw (W.alloc (.cells formCells 50)) := by
  refine ⟨?_, ?_, ?_, below_alloc h.2.2.2 _⟩
  · rw [Below.heap_alloc W _ _ (by rw [h.2.2.1]; omega)]; exact h.1
  · rw [Below.heap_alloc W _ _ (by rw [h.2.2.1]; omega)]; exact h.2.1
  · have := heap_alloc_new W (.cells formCells 50); rwa [h.2.2.1] at this
theorem st_set {w W : World} {len raw : Int} (h : St w len raw W) (len2 raw2 : Int) : St w len2 raw2 ((W.setCell ⟨w.heap.size + 1, 7, none⟩ (.int .i64 len2)).setCell ⟨w.heap.size + 1, 8, none⟩ (.int .u32 raw2)) := by
  have e1 := heap_setCell_same W _ 7 _ 29 (.int .i64 len2) h.2.1
  have e2 := heap_setCell_same _ _ 8 _ 29 (.int .u32 raw2) e1
  refine ⟨?_, ?_, ?_, below_set (below_set h.2.2.2 (by omega)) (by omega)⟩
  · rw [heap_setCell_other _ _ _ _ (show w.heap.size ≠ w.heap.size + 1 by omega), heap_setCell_other _ _ _ _ (show w.heap.size ≠ w.heap.size + 1 by omega)]; exact h.1
  · rw [e2]; rfl
  · rw [← h.2.2.1]; simp [World.setCell]
theorem st4 (w : World) (a0 : Int) (nd : Nat) : St w 4 a0 (((w.alloc (.cells in0 29)).alloc (.cells (inC 4 a0) 29)).drewN nd) := st_drewN (st_start w 4 a0) nd
theorem st2 (w : World) (a0 raw : Int) (nd nd2 : Nat) : St w 2 raw ((((((w.alloc (.cells in0 29)).alloc (.cells (inC 4 a0) 29)).drewN nd).setCell ⟨w.heap.size + 1, 7, none⟩ (.int .i64 2)).setCell ⟨w.heap.size + 1, 8, none⟩ (.int .u32 raw)).drewN nd2) := st_drewN (st_set (st4 w a0 nd) 2 raw) nd2
set_option maxHeartbeats 8000000 in
set_option maxRecDepth 100000 in
theorem decode_Decode.calls4 (k : Nat) (a0 : Int) (r1 : Int) (r2 : Int) (r3 : Int) (r4 : Int) (r5 : Int) (r6 : Bool) (r7 : Bool) (r8 : Int) (r9 : Int) (w : World) (hL : decode_Length.f a0 = some 4) (hD : decode_dec k a0 4 a0 = some (r1, r2, r3, r4, r5, r6, r7, r8, r9)) :
    Calls Try.prog 13 #[.int .u32 a0] w fun e w' => e = .returned (.agg #[.int .i64 r1, .int .i64 r2, .int .i64 r3, .int .i64 r4, .int .i64 r5, .bool r6, .bool r7, .int .i64 r8, .int .u32 r9]) ∧ Below w.heap.size w w' := by
  go_enter Try.func13, Try.ntmps13
  go_wp2_with (first | (refine wp_scope_goto 0 rfl ?_) | (refine goto_step rfl ?_) | (apply wp_label) | (go_at_call 11; refine (decode_Length.calls a0 4 _ hL).mono ?_; rintro e w' ⟨rfl, ⟨nd, rfl⟩⟩) | (go_at_call 29; refine (forms_calls2 (w.heap.size + 2) _ (by simp)).mono ?_; rintro e w' ⟨rfl, rfl⟩))
  generalize hW0 : World.alloc _ (Obj.cells formCells 50) = W0
  have hInv : Inv w 4 a0 W0 := by
    subst hW0; exact st_inv (st4 w a0 _)
  clear hW0
  go_loopg [30] 97 (fun kq v30 W => ∃ i : Nat, v30 = .int .i64 i ∧ Aside0 (i ≤ 96 ∧ kq + i = 97) ∧ Aside0 (findF a0 (formsL.drop i) = findF a0 formsL) ∧ Aside0 (Inv w 4 a0 W))
  case atStart => exact ⟨0, rfl, ⟨by omega⟩, ⟨by rw [List.drop_zero]⟩, ⟨hInv⟩⟩
  case round =>
    clear hInv
    obtain ⟨i, rfl, ⟨hi⟩, ⟨hfd⟩, ⟨hInv⟩⟩ := hrel
    by_cases hlt : i < 96
    · obtain ⟨f, hf⟩ : ∃ f, formsL[i]? = some f := ⟨_, List.getElem?_eq_getElem (show i < formsL.length from hlt)⟩
      have hdrop : formsL.drop i = f :: formsL.drop (i + 1) := by
        rw [List.drop_eq_getElem_cons (show i < formsL.length from hlt)]
        rw [List.getElem?_eq_getElem (show i < formsL.length from hlt), Option.some.injEq] at hf
        rw [hf]
      rw [hdrop] at hfd
      have hb0 : decide ((i : Int) < 96) = true := decide_eq_true (by omega)
      have hb1 : (0 ≤ (i : Int) ∧ (i : Int) < ((96 : Nat) : Int)) := ⟨by omega, by omega⟩
      have hcell := form_cell _ _ i f hInv.2.2.1 hf
      by_cases hm : Go.bits .and .u32 a0 f.mask = f.code
      · have hmb : (Go.bits .and .u32 a0 f.mask == f.code) = true := beq_iff_eq.mpr hm
        have hff : findF a0 formsL = some f := by rw [← hfd, findF, if_pos hm]
        have hfill : decode_fill.f k f.op 0 0 0 0 false false 4 a0 a0 f.shape = some (r1, r2, r3, r4, r5, r6, r7, r8, r9) := by
          unfold decode_dec at hD; rw [hff] at hD; exact hD
        have hin := inv_alloc hInv (.cells #[.int .i64 f.op, .int .u32 f.mask, .int .u32 f.code, .int .i64 f.shape] 50)
        have hc0 := inv_cell hin
        have hz0 := inv_frozen hin
        go_wp2_with (first | ((with_reducible refine gate_dst (N := 33) rfl ?_); refine wpList_load_cells rfl 50 _ rfl ⟨w.heap.size + 2, i * 4, none⟩ rfl [.int .i64 f.op, .int .u32 f.mask, .int .u32 f.code, .int .i64 f.shape] _ hcell Try.underlying50 rfl (by kernel_rfl) ?_) | (go_at_call 30; obtain ⟨hI, hB, hG⟩ := inv_set hin f.op; refine (decode_fill.calls k (w.heap.size + 1) f.op 0 0 0 0 false false 4 a0 a0 f.shape r1 r2 r3 r4 r5 r6 r7 r8 r9 w _ hI hB hfill).mono ?_; rintro e w' ⟨rfl, hI2, hB2, hK2⟩; replace hG := fill_g0 hK2 hG) | ((with_reducible refine gate_dst (N := 48) rfl ?_); refine wpList_load_row rfl 29 _ rfl (w.heap.size + 1) rfl 29 #[.int .i64 r1, .int .i64 r2, .int .i64 r3, .int .i64 r4, .int .i64 r5, .bool r6, .bool r7, .int .i64 r8, .int .u32 r9] (0, 0) _ hI2.1 Try.underlying29 rfl (by kernel_rfl) ?_) | ((with_reducible refine gate_store (t := 29) (p := 2) (v := .tmp 48) rfl ?_); refine wpList_store_row rfl 29 _ _ rfl w.heap.size #[.int .i64 r1, .int .i64 r2, .int .i64 r3, .int .i64 r4, .int .i64 r5, .bool r6, .bool r7, .int .i64 r8, .int .u32 r9] rfl rfl 29 in0 hG (by kernel_rfl) rfl (by simp [Value.oneCell']) ?_))
        (try simp only [jump_ret, Exit.inBlock, Exit.then])
        refine bodyPost_ret (results_cell_row rfl _ _ w.heap.size 29 #[.int .i64 r1, .int .i64 r2, .int .i64 r3, .int .i64 r4, .int .i64 r5, .bool r6, .bool r7, .int .i64 r8, .int .u32 r9] (0, 0) _ rfl (setRow_heap _ _ _ _ _ _ hG) Try.underlying29 rfl (by kernel_rfl)) rfl ?_
        exact ⟨rfl, below_setRow hB2 (Nat.le_refl _) _⟩
      · have hmb : (Go.bits .and .u32 a0 f.mask == f.code) = false := beq_eq_false_iff_ne.mpr hm
        go_wp2_with (first | ((with_reducible refine gate_dst (N := 33) rfl ?_); refine wpList_load_cells rfl 50 _ rfl ⟨w.heap.size + 2, i * 4, none⟩ rfl [.int .i64 f.op, .int .u32 f.mask, .int .u32 f.code, .int .i64 f.shape] _ hcell Try.underlying50 rfl (by kernel_rfl) ?_))
        go_roundg (96 - i)
        case measure => omega
        case rel =>
          refine ⟨i + 1, rfl, ⟨by omega⟩, ⟨?_⟩, ⟨inv_alloc hInv _⟩⟩
          rw [← hfd, findF, if_neg hm]
    · have hi96 : i = 96 := by omega
      subst hi96
      have hff : findF a0 formsL = none := by rw [← hfd]; rfl
      unfold decode_dec at hD
      rw [hff] at hD
      simp only [Option.some.injEq, Prod.mk.injEq] at hD
      obtain ⟨rfl, rfl, rfl, rfl, rfl, rfl, rfl, rfl, rfl⟩ := hD
      go_wp2_with (first | (apply wp_label) | ((with_reducible refine gate_dst (N := 50) rfl ?_); refine wpList_load_row rfl 29 _ rfl (w.heap.size + 1) rfl 29 (inC 4 a0) (0, 0) _ hInv.2.1 Try.underlying29 rfl (by kernel_rfl) ?_) | ((with_reducible refine gate_store (t := 29) (p := 2) (v := .tmp 50) rfl ?_); refine wpList_store_row rfl 29 _ _ rfl w.heap.size (inC 4 a0) rfl rfl 29 in0 hInv.1 (by kernel_rfl) rfl (inC_one _ _) ?_))
      (try simp only [jump_ret, Exit.inBlock, Exit.then])
      refine bodyPost_ret (results_cell_row rfl _ _ w.heap.size 29 (inC 4 a0) (0, 0) _ rfl (setRow_heap _ _ _ _ _ _ hInv.1) Try.underlying29 rfl (by kernel_rfl)) rfl ?_
      exact ⟨rfl, below_setRow hInv.2.2.2 (Nat.le_refl _) _⟩
set_option maxHeartbeats 8000000 in
set_option maxRecDepth 100000 in
theorem decode_Decode.calls2 (k : Nat) (a0 e1 : Int) (r1 : Int) (r2 : Int) (r3 : Int) (r4 : Int) (r5 : Int) (r6 : Bool) (r7 : Bool) (r8 : Int) (r9 : Int) (w : World) (hL : decode_Length.f a0 = some 2) (hE : decode_Expand.f k (IntKind.u16.wrap a0) = some (e1, true)) (hD : decode_dec k e1 2 (Go.bits .and .u32 a0 65535) = some (r1, r2, r3, r4, r5, r6, r7, r8, r9)) :
    Calls Try.prog 13 #[.int .u32 a0] w fun e w' => e = .returned (.agg #[.int .i64 r1, .int .i64 r2, .int .i64 r3, .int .i64 r4, .int .i64 r5, .bool r6, .bool r7, .int .i64 r8, .int .u32 r9]) ∧ Below w.heap.size w w' := by
  go_enter Try.func13, Try.ntmps13
  go_wp2_with (first | (refine wp_scope_goto 0 rfl ?_) | (refine goto_step rfl ?_) | (apply wp_label) | (go_at_call 11; refine (decode_Length.calls a0 2 _ hL).mono ?_; rintro e w' ⟨rfl, ⟨nd, rfl⟩⟩) | (go_at_call 9; refine (decode_Expand.calls k (IntKind.u16.wrap a0) e1 true _ hE).mono ?_; rintro e w' ⟨rfl, ⟨nd2, rfl⟩⟩) | (go_at_call 29; refine (forms_calls2 (w.heap.size + 2) _ (by simp)).mono ?_; rintro e w' ⟨rfl, rfl⟩))
  generalize hW0 : World.alloc _ (Obj.cells formCells 50) = W0
  have hInv : Inv w 2 (Go.bits .and .u32 a0 65535) W0 := by
    subst hW0; exact st_inv (st2 w a0 _ _ _)
  clear hW0
  go_loopg [30] 97 (fun kq v30 W => ∃ i : Nat, v30 = .int .i64 i ∧ Aside0 (i ≤ 96 ∧ kq + i = 97) ∧ Aside0 (findF e1 (formsL.drop i) = findF e1 formsL) ∧ Aside0 (Inv w 2 (Go.bits .and .u32 a0 65535) W))
  case atStart => exact ⟨0, rfl, ⟨by omega⟩, ⟨by rw [List.drop_zero]⟩, ⟨hInv⟩⟩
  case round =>
    clear hInv
    obtain ⟨i, rfl, ⟨hi⟩, ⟨hfd⟩, ⟨hInv⟩⟩ := hrel
    by_cases hlt : i < 96
    · obtain ⟨f, hf⟩ : ∃ f, formsL[i]? = some f := ⟨_, List.getElem?_eq_getElem (show i < formsL.length from hlt)⟩
      have hdrop : formsL.drop i = f :: formsL.drop (i + 1) := by
        rw [List.drop_eq_getElem_cons (show i < formsL.length from hlt)]
        rw [List.getElem?_eq_getElem (show i < formsL.length from hlt), Option.some.injEq] at hf
        rw [hf]
      rw [hdrop] at hfd
      have hb0 : decide ((i : Int) < 96) = true := decide_eq_true (by omega)
      have hb1 : (0 ≤ (i : Int) ∧ (i : Int) < ((96 : Nat) : Int)) := ⟨by omega, by omega⟩
      have hcell := form_cell _ _ i f hInv.2.2.1 hf
      by_cases hm : Go.bits .and .u32 e1 f.mask = f.code
      · have hmb : (Go.bits .and .u32 e1 f.mask == f.code) = true := beq_iff_eq.mpr hm
        have hff : findF e1 formsL = some f := by rw [← hfd, findF, if_pos hm]
        have hfill : decode_fill.f k f.op 0 0 0 0 false false 2 (Go.bits .and .u32 a0 65535) e1 f.shape = some (r1, r2, r3, r4, r5, r6, r7, r8, r9) := by
          unfold decode_dec at hD; rw [hff] at hD; exact hD
        have hin := inv_alloc hInv (.cells #[.int .i64 f.op, .int .u32 f.mask, .int .u32 f.code, .int .i64 f.shape] 50)
        have hc0 := inv_cell hin
        have hz0 := inv_frozen hin
        go_wp2_with (first | ((with_reducible refine gate_dst (N := 33) rfl ?_); refine wpList_load_cells rfl 50 _ rfl ⟨w.heap.size + 2, i * 4, none⟩ rfl [.int .i64 f.op, .int .u32 f.mask, .int .u32 f.code, .int .i64 f.shape] _ hcell Try.underlying50 rfl (by kernel_rfl) ?_) | (go_at_call 30; obtain ⟨hI, hB, hG⟩ := inv_set hin f.op; refine (decode_fill.calls k (w.heap.size + 1) f.op 0 0 0 0 false false 2 (Go.bits .and .u32 a0 65535) e1 f.shape r1 r2 r3 r4 r5 r6 r7 r8 r9 w _ hI hB hfill).mono ?_; rintro e w' ⟨rfl, hI2, hB2, hK2⟩; replace hG := fill_g0 hK2 hG) | ((with_reducible refine gate_dst (N := 48) rfl ?_); refine wpList_load_row rfl 29 _ rfl (w.heap.size + 1) rfl 29 #[.int .i64 r1, .int .i64 r2, .int .i64 r3, .int .i64 r4, .int .i64 r5, .bool r6, .bool r7, .int .i64 r8, .int .u32 r9] (0, 0) _ hI2.1 Try.underlying29 rfl (by kernel_rfl) ?_) | ((with_reducible refine gate_store (t := 29) (p := 2) (v := .tmp 48) rfl ?_); refine wpList_store_row rfl 29 _ _ rfl w.heap.size #[.int .i64 r1, .int .i64 r2, .int .i64 r3, .int .i64 r4, .int .i64 r5, .bool r6, .bool r7, .int .i64 r8, .int .u32 r9] rfl rfl 29 in0 hG (by kernel_rfl) rfl (by simp [Value.oneCell']) ?_))
        (try simp only [jump_ret, Exit.inBlock, Exit.then])
        refine bodyPost_ret (results_cell_row rfl _ _ w.heap.size 29 #[.int .i64 r1, .int .i64 r2, .int .i64 r3, .int .i64 r4, .int .i64 r5, .bool r6, .bool r7, .int .i64 r8, .int .u32 r9] (0, 0) _ rfl (setRow_heap _ _ _ _ _ _ hG) Try.underlying29 rfl (by kernel_rfl)) rfl ?_
        exact ⟨rfl, below_setRow hB2 (Nat.le_refl _) _⟩
      · have hmb : (Go.bits .and .u32 e1 f.mask == f.code) = false := beq_eq_false_iff_ne.mpr hm
        go_wp2_with (first | ((with_reducible refine gate_dst (N := 33) rfl ?_); refine wpList_load_cells rfl 50 _ rfl ⟨w.heap.size + 2, i * 4, none⟩ rfl [.int .i64 f.op, .int .u32 f.mask, .int .u32 f.code, .int .i64 f.shape] _ hcell Try.underlying50 rfl (by kernel_rfl) ?_))
        go_roundg (96 - i)
        case measure => omega
        case rel =>
          refine ⟨i + 1, rfl, ⟨by omega⟩, ⟨?_⟩, ⟨inv_alloc hInv _⟩⟩
          rw [← hfd, findF, if_neg hm]
    · have hi96 : i = 96 := by omega
      subst hi96
      have hff : findF e1 formsL = none := by rw [← hfd]; rfl
      unfold decode_dec at hD
      rw [hff] at hD
      simp only [Option.some.injEq, Prod.mk.injEq] at hD
      obtain ⟨rfl, rfl, rfl, rfl, rfl, rfl, rfl, rfl, rfl⟩ := hD
      go_wp2_with (first | (apply wp_label) | ((with_reducible refine gate_dst (N := 50) rfl ?_); refine wpList_load_row rfl 29 _ rfl (w.heap.size + 1) rfl 29 (inC 2 (Go.bits .and .u32 a0 65535)) (0, 0) _ hInv.2.1 Try.underlying29 rfl (by kernel_rfl) ?_) | ((with_reducible refine gate_store (t := 29) (p := 2) (v := .tmp 50) rfl ?_); refine wpList_store_row rfl 29 _ _ rfl w.heap.size (inC 2 (Go.bits .and .u32 a0 65535)) rfl rfl 29 in0 hInv.1 (by kernel_rfl) rfl (inC_one _ _) ?_))
      (try simp only [jump_ret, Exit.inBlock, Exit.then])
      refine bodyPost_ret (results_cell_row rfl _ _ w.heap.size 29 (inC 2 (Go.bits .and .u32 a0 65535)) (0, 0) _ rfl (setRow_heap _ _ _ _ _ _ hInv.1) Try.underlying29 rfl (by kernel_rfl)) rfl ?_
      exact ⟨rfl, below_setRow hInv.2.2.2 (Nat.le_refl _) _⟩
set_option maxHeartbeats 8000000 in
set_option maxRecDepth 100000 in
theorem decode_Decode.calls0 (k : Nat) (a0 e1 : Int) (w : World) (hL : decode_Length.f a0 = some 2) (hE : decode_Expand.f k (IntKind.u16.wrap a0) = some (e1, false)) :
    Calls Try.prog 13 #[.int .u32 a0] w fun e w' => e = .returned (.agg (inC 2 (Go.bits .and .u32 a0 65535))) ∧ Below w.heap.size w w' := by
  go_enter Try.func13, Try.ntmps13
  go_wp2_with (first | (refine wp_scope_goto 0 rfl ?_) | (refine goto_step rfl ?_) | (apply wp_label) | (go_at_call 11; refine (decode_Length.calls a0 2 _ hL).mono ?_; rintro e w' ⟨rfl, ⟨nd, rfl⟩⟩) | (go_at_call 9; refine (decode_Expand.calls k (IntKind.u16.wrap a0) e1 false _ hE).mono ?_; rintro e w' ⟨rfl, ⟨nd2, rfl⟩⟩) | (go_at_call 29; refine (forms_calls2 (w.heap.size + 2) _ (by simp)).mono ?_; rintro e w' ⟨rfl, rfl⟩) | ((with_reducible refine gate_dst (N := 50) rfl ?_); refine wpList_load_row rfl 29 _ rfl (w.heap.size + 1) rfl 29 (inC 2 (Go.bits .and .u32 a0 65535)) (0, 0) _ (st2 w a0 _ nd nd2).2.1 Try.underlying29 rfl (by kernel_rfl) ?_) | ((with_reducible refine gate_store (t := 29) (p := 2) (v := .tmp 50) rfl ?_); refine wpList_store_row rfl 29 _ _ rfl w.heap.size (inC 2 (Go.bits .and .u32 a0 65535)) rfl rfl 29 in0 (st2 w a0 _ nd nd2).1 (by kernel_rfl) rfl (inC_one _ _) ?_))
  (try simp only [jump_ret, Exit.noGoto_ret])
  refine bodyPost_ret (results_cell_row rfl _ _ w.heap.size 29 (inC 2 (Go.bits .and .u32 a0 65535)) (0, 0) _ rfl (setRow_heap _ _ _ _ _ _ (st2 w a0 _ nd nd2).1) Try.underlying29 rfl (by kernel_rfl)) rfl ?_
  exact ⟨rfl, below_setRow (st2 w a0 _ nd nd2).2.2.2 (Nat.le_refl _) _⟩
theorem decode_Decode.calls (k : Nat) (a0 : Int) (r1 : Int) (r2 : Int) (r3 : Int) (r4 : Int) (r5 : Int) (r6 : Bool) (r7 : Bool) (r8 : Int) (r9 : Int) (w : World) (h : decode_Decode.f k a0 = some (r1, r2, r3, r4, r5, r6, r7, r8, r9)) :
    Calls Try.prog 13 #[.int .u32 a0] w fun e w' => e = .returned (.agg #[.int .i64 r1, .int .i64 r2, .int .i64 r3, .int .i64 r4, .int .i64 r5, .bool r6, .bool r7, .int .i64 r8, .int .u32 r9]) ∧ Below w.heap.size w w' := by
  unfold decode_Decode.f at h
  by_cases c : Go.bits .and .u32 a0 3 = 3
  · rw [if_pos c] at h
    exact decode_Decode.calls4 k a0 r1 r2 r3 r4 r5 r6 r7 r8 r9 w (by rw [decode_Length.f, if_pos c]) h
  · rw [if_neg c] at h
    have hL : decode_Length.f a0 = some 2 := by rw [decode_Length.f, if_neg c]
    obtain ⟨⟨e1, e2⟩, hE, h⟩ := Option.bind_eq_some_iff.mp h
    cases e2 with
    | true => exact decode_Decode.calls2 k a0 e1 r1 r2 r3 r4 r5 r6 r7 r8 r9 w hL hE (by simpa using h)
    | false =>
      simp only [Bool.false_eq_true, if_false, Option.some.injEq, Prod.mk.injEq] at h
      obtain ⟨rfl, rfl, rfl, rfl, rfl, rfl, rfl, rfl, rfl⟩ := h
      exact decode_Decode.calls0 k a0 e1 w hL hE
end Go.Proofs.Ytiibhggjlandmaa.PB
