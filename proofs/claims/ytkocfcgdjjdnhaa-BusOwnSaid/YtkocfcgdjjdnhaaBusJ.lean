/- The console of the program's bus: its registers stored. Premise: a bus lies there. -/
import Derived.Test.YtkocfcgdjjdnhaaBusI
namespace Go.Proofs.Ytkocfcgdjjdnhaa.BW
open Go.RowKit Go.MuLone
set_option linter.unusedVariables false
set_option linter.unusedSimpArgs false
theorem u8_of (v m : Int) (h : 0 < m) (hm : m ≤ 256) (hd : 256 % m = 0) : v % m % 256 = v % m := by
  have h1 := Int.emod_nonneg v (by omega : m ≠ 0)
  have h2 := Int.emod_lt_of_pos v h
  omega
theorem one_cell {W : World} {n : Nat} (h : W.heap.size = n) (u : Int) : ∀ (i : Nat) (x : Int), [u][i]? = some x → (W.alloc (.cells #[.int .u8 u] 5)).cell? ⟨n, 0 + i, none⟩ = some (.int .u8 x) := by
  subst h
  intro i x hx
  rw [World.cell?_alloc_new, Nat.zero_add]
  cases i with
  | zero => simp at hx; subst hx; rfl
  | succ i => simp at hx
section
variable {w : World} {b : Nat} {vr vi vo : Value} {s : St}
set_option maxHeartbeats 2000000 in
set_option maxRecDepth 100000 in
theorem uart_store_5 (h : PL w b vr vi vo s) (hs : s.Ok) (size v : Int) (v0 : 0 ≤ v) (v1 : v ≤ 18446744073709551615) : Calls Try.prog 111 #[.pointer (some ⟨b, 6, none⟩), .int .u64 268435461, .int .i64 size, .int .u64 v] w (UStorePost w b vr vi vo s 5 v) := by
  have c6 := h.cell 6 _ rfl
  have z6 := h.frozen 6
  have h1 : PK 1 (w.setCell ⟨b, 6, none⟩ (.int .i32 1)) b vr vi vo s := h.set 6 (.int .i32 1) rfl
  have H1 := Lib.hid h1
  have K1 := Lib.hid (h.turn 6 (.int .i32 1))
  have hlt : b < w.heap.size := h.lt b (by simp [foot])
  have HV := Lib.hid (show s.takes 5 v = s by simp [St.takes])
  clear h h1
  go_enter_defers Try.func111, Try.ntmps111
  go_wp2_with (first | (go_at_call 62; refine (lock_free muLib ⟨b, 6, none⟩ _ c6 z6).mono ?_; rintro e w' ⟨rfl, rfl⟩))
  refine leaves_cons (f := 63) (args := #[.pointer (some ⟨b, 6, none⟩)]) (by simp) (by simp [go_sem]) ?_
  refine (unlock_deferred muLib ⟨b, 6, none⟩ .returning _ (H1.out.cell 6 _ rfl) (H1.out.frozen 6)).mono ?_
  rintro e u' w'' ⟨rfl, rfl, rfl⟩
  refine ⟨_, results_none rfl _ _ _, ?_⟩
  unfold UStorePost
  rw [HV.out]
  exact ⟨_, _, rfl, H1.out.set 6 _ rfl, K1.out.trans (H1.out.turn 6 _)⟩
set_option maxHeartbeats 2000000 in
set_option maxRecDepth 100000 in
theorem uart_store_6 (h : PL w b vr vi vo s) (hs : s.Ok) (size v : Int) (v0 : 0 ≤ v) (v1 : v ≤ 18446744073709551615) : Calls Try.prog 111 #[.pointer (some ⟨b, 6, none⟩), .int .u64 268435462, .int .i64 size, .int .u64 v] w (UStorePost w b vr vi vo s 6 v) := by
  have c6 := h.cell 6 _ rfl
  have z6 := h.frozen 6
  have h1 : PK 1 (w.setCell ⟨b, 6, none⟩ (.int .i32 1)) b vr vi vo s := h.set 6 (.int .i32 1) rfl
  have H1 := Lib.hid h1
  have K1 := Lib.hid (h.turn 6 (.int .i32 1))
  have hlt : b < w.heap.size := h.lt b (by simp [foot])
  have HV := Lib.hid (show s.takes 6 v = s by simp [St.takes])
  clear h h1
  go_enter_defers Try.func111, Try.ntmps111
  go_wp2_with (first | (go_at_call 62; refine (lock_free muLib ⟨b, 6, none⟩ _ c6 z6).mono ?_; rintro e w' ⟨rfl, rfl⟩))
  refine leaves_cons (f := 63) (args := #[.pointer (some ⟨b, 6, none⟩)]) (by simp) (by simp [go_sem]) ?_
  refine (unlock_deferred muLib ⟨b, 6, none⟩ .returning _ (H1.out.cell 6 _ rfl) (H1.out.frozen 6)).mono ?_
  rintro e u' w'' ⟨rfl, rfl, rfl⟩
  refine ⟨_, results_none rfl _ _ _, ?_⟩
  unfold UStorePost
  rw [HV.out]
  exact ⟨_, _, rfl, H1.out.set 6 _ rfl, K1.out.trans (H1.out.turn 6 _)⟩
set_option maxHeartbeats 2000000 in
set_option maxRecDepth 100000 in
theorem uart_store_1 (h : PL w b vr vi vo s) (hs : s.Ok) (size v : Int) (v0 : 0 ≤ v) (v1 : v ≤ 18446744073709551615) : Calls Try.prog 111 #[.pointer (some ⟨b, 6, none⟩), .int .u64 268435457, .int .i64 size, .int .u64 v] w (UStorePost w b vr vi vo s 1 v) := by
  have c6 := h.cell 6 _ rfl
  have z6 := h.frozen 6
  have h1 : PK 1 (w.setCell ⟨b, 6, none⟩ (.int .i32 1)) b vr vi vo s := h.set 6 (.int .i32 1) rfl
  have H1 := Lib.hid h1
  have K1 := Lib.hid (h.turn 6 (.int .i32 1))
  have hlt : b < w.heap.size := h.lt b (by simp [foot])
  have e1 : bits .and .u64 v 15 = v % 16 := u64_and15 v v0 v1
  have e2 : v % 16 % 256 = v % 16 := u8_of v 16 (by decide) (by decide) (by decide)
  have d : (w.setCell ⟨b, 6, none⟩ (.int .i32 1)).cell? ⟨b, 10, none⟩ = some (.int .u8 s.ier) := h1.cell 10 _ rfl
  rw [World.cell?_setCell_other _ _ _ _ (by simp)] at d
  have z := h.frozen 10
  have h2 : PK 1 ((w.setCell ⟨b, 6, none⟩ (.int .i32 1)).setCell ⟨b, 10, none⟩ (.int .u8 (v % 16))) b vr vi vo { s with ier := v % 16 } := h1.set 10 _ rfl
  have H2 := Lib.hid h2
  have HV := Lib.hid (show s.takes 1 v = { s with ier := v % 16 } by simp [St.takes])
  clear h h1 h2
  go_enter_defers Try.func111, Try.ntmps111
  go_wp2_with (first | (go_at_call 62; refine (lock_free muLib ⟨b, 6, none⟩ _ c6 z6).mono ?_; rintro e w' ⟨rfl, rfl⟩))
  refine leaves_cons (f := 63) (args := #[.pointer (some ⟨b, 6, none⟩)]) (by simp) (by simp [go_sem]) ?_
  refine (unlock_deferred muLib ⟨b, 6, none⟩ .returning _ (H2.out.cell 6 _ rfl) (H2.out.frozen 6)).mono ?_
  rintro e u' w'' ⟨rfl, rfl, rfl⟩
  refine ⟨_, results_none rfl _ _ _, ?_⟩
  unfold UStorePost
  rw [HV.out]
  exact ⟨_, _, rfl, H2.out.set 6 _ rfl, (K1.out.trans (H1.out.turn 10 _)).trans (H2.out.turn 6 _)⟩
set_option maxHeartbeats 2000000 in
set_option maxRecDepth 100000 in
theorem uart_store_3 (h : PL w b vr vi vo s) (hs : s.Ok) (size v : Int) (v0 : 0 ≤ v) (v1 : v ≤ 18446744073709551615) : Calls Try.prog 111 #[.pointer (some ⟨b, 6, none⟩), .int .u64 268435459, .int .i64 size, .int .u64 v] w (UStorePost w b vr vi vo s 3 v) := by
  have c6 := h.cell 6 _ rfl
  have z6 := h.frozen 6
  have h1 : PK 1 (w.setCell ⟨b, 6, none⟩ (.int .i32 1)) b vr vi vo s := h.set 6 (.int .i32 1) rfl
  have H1 := Lib.hid h1
  have K1 := Lib.hid (h.turn 6 (.int .i32 1))
  have hlt : b < w.heap.size := h.lt b (by simp [foot])
  have d : (w.setCell ⟨b, 6, none⟩ (.int .i32 1)).cell? ⟨b, 11, none⟩ = some (.int .u8 s.lcr) := h1.cell 11 _ rfl
  rw [World.cell?_setCell_other _ _ _ _ (by simp)] at d
  have z := h.frozen 11
  have h2 : PK 1 ((w.setCell ⟨b, 6, none⟩ (.int .i32 1)).setCell ⟨b, 11, none⟩ (.int .u8 (v % 256))) b vr vi vo { s with lcr := v % 256 } := h1.set 11 _ rfl
  have H2 := Lib.hid h2
  have HV := Lib.hid (show s.takes 3 v = { s with lcr := v % 256 } by simp [St.takes])
  clear h h1 h2
  go_enter_defers Try.func111, Try.ntmps111
  go_wp2_with (first | (go_at_call 62; refine (lock_free muLib ⟨b, 6, none⟩ _ c6 z6).mono ?_; rintro e w' ⟨rfl, rfl⟩))
  refine leaves_cons (f := 63) (args := #[.pointer (some ⟨b, 6, none⟩)]) (by simp) (by simp [go_sem]) ?_
  refine (unlock_deferred muLib ⟨b, 6, none⟩ .returning _ (H2.out.cell 6 _ rfl) (H2.out.frozen 6)).mono ?_
  rintro e u' w'' ⟨rfl, rfl, rfl⟩
  refine ⟨_, results_none rfl _ _ _, ?_⟩
  unfold UStorePost
  rw [HV.out]
  exact ⟨_, _, rfl, H2.out.set 6 _ rfl, (K1.out.trans (H1.out.turn 11 _)).trans (H2.out.turn 6 _)⟩
set_option maxHeartbeats 2000000 in
set_option maxRecDepth 100000 in
theorem uart_store_4 (h : PL w b vr vi vo s) (hs : s.Ok) (size v : Int) (v0 : 0 ≤ v) (v1 : v ≤ 18446744073709551615) : Calls Try.prog 111 #[.pointer (some ⟨b, 6, none⟩), .int .u64 268435460, .int .i64 size, .int .u64 v] w (UStorePost w b vr vi vo s 4 v) := by
  have c6 := h.cell 6 _ rfl
  have z6 := h.frozen 6
  have h1 : PK 1 (w.setCell ⟨b, 6, none⟩ (.int .i32 1)) b vr vi vo s := h.set 6 (.int .i32 1) rfl
  have H1 := Lib.hid h1
  have K1 := Lib.hid (h.turn 6 (.int .i32 1))
  have hlt : b < w.heap.size := h.lt b (by simp [foot])
  have e1 : bits .and .u64 v 31 = v % 32 := u64_and31 v v0 v1
  have e2 : v % 32 % 256 = v % 32 := u8_of v 32 (by decide) (by decide) (by decide)
  have d : (w.setCell ⟨b, 6, none⟩ (.int .i32 1)).cell? ⟨b, 12, none⟩ = some (.int .u8 s.mcr) := h1.cell 12 _ rfl
  rw [World.cell?_setCell_other _ _ _ _ (by simp)] at d
  have z := h.frozen 12
  have h2 : PK 1 ((w.setCell ⟨b, 6, none⟩ (.int .i32 1)).setCell ⟨b, 12, none⟩ (.int .u8 (v % 32))) b vr vi vo { s with mcr := v % 32 } := h1.set 12 _ rfl
  have H2 := Lib.hid h2
  have HV := Lib.hid (show s.takes 4 v = { s with mcr := v % 32 } by simp [St.takes])
  clear h h1 h2
  go_enter_defers Try.func111, Try.ntmps111
  go_wp2_with (first | (go_at_call 62; refine (lock_free muLib ⟨b, 6, none⟩ _ c6 z6).mono ?_; rintro e w' ⟨rfl, rfl⟩))
  refine leaves_cons (f := 63) (args := #[.pointer (some ⟨b, 6, none⟩)]) (by simp) (by simp [go_sem]) ?_
  refine (unlock_deferred muLib ⟨b, 6, none⟩ .returning _ (H2.out.cell 6 _ rfl) (H2.out.frozen 6)).mono ?_
  rintro e u' w'' ⟨rfl, rfl, rfl⟩
  refine ⟨_, results_none rfl _ _ _, ?_⟩
  unfold UStorePost
  rw [HV.out]
  exact ⟨_, _, rfl, H2.out.set 6 _ rfl, (K1.out.trans (H1.out.turn 12 _)).trans (H2.out.turn 6 _)⟩
set_option maxHeartbeats 2000000 in
set_option maxRecDepth 100000 in
theorem uart_store_7 (h : PL w b vr vi vo s) (hs : s.Ok) (size v : Int) (v0 : 0 ≤ v) (v1 : v ≤ 18446744073709551615) : Calls Try.prog 111 #[.pointer (some ⟨b, 6, none⟩), .int .u64 268435463, .int .i64 size, .int .u64 v] w (UStorePost w b vr vi vo s 7 v) := by
  have c6 := h.cell 6 _ rfl
  have z6 := h.frozen 6
  have h1 : PK 1 (w.setCell ⟨b, 6, none⟩ (.int .i32 1)) b vr vi vo s := h.set 6 (.int .i32 1) rfl
  have H1 := Lib.hid h1
  have K1 := Lib.hid (h.turn 6 (.int .i32 1))
  have hlt : b < w.heap.size := h.lt b (by simp [foot])
  have d : (w.setCell ⟨b, 6, none⟩ (.int .i32 1)).cell? ⟨b, 13, none⟩ = some (.int .u8 s.scr) := h1.cell 13 _ rfl
  rw [World.cell?_setCell_other _ _ _ _ (by simp)] at d
  have z := h.frozen 13
  have h2 : PK 1 ((w.setCell ⟨b, 6, none⟩ (.int .i32 1)).setCell ⟨b, 13, none⟩ (.int .u8 (v % 256))) b vr vi vo { s with scr := v % 256 } := h1.set 13 _ rfl
  have H2 := Lib.hid h2
  have HV := Lib.hid (show s.takes 7 v = { s with scr := v % 256 } by simp [St.takes])
  clear h h1 h2
  go_enter_defers Try.func111, Try.ntmps111
  go_wp2_with (first | (go_at_call 62; refine (lock_free muLib ⟨b, 6, none⟩ _ c6 z6).mono ?_; rintro e w' ⟨rfl, rfl⟩))
  refine leaves_cons (f := 63) (args := #[.pointer (some ⟨b, 6, none⟩)]) (by simp) (by simp [go_sem]) ?_
  refine (unlock_deferred muLib ⟨b, 6, none⟩ .returning _ (H2.out.cell 6 _ rfl) (H2.out.frozen 6)).mono ?_
  rintro e u' w'' ⟨rfl, rfl, rfl⟩
  refine ⟨_, results_none rfl _ _ _, ?_⟩
  unfold UStorePost
  rw [HV.out]
  exact ⟨_, _, rfl, H2.out.set 6 _ rfl, (K1.out.trans (H1.out.turn 13 _)).trans (H2.out.turn 6 _)⟩
set_option maxHeartbeats 2000000 in
set_option maxRecDepth 100000 in
theorem uart_store_2n (h : PL w b vr vi vo s) (hs : s.Ok) (size v : Int) (v0 : 0 ≤ v) (v1 : v ≤ 18446744073709551615) (hv : v / 2 % 2 = 0) : Calls Try.prog 111 #[.pointer (some ⟨b, 6, none⟩), .int .u64 268435458, .int .i64 size, .int .u64 v] w (UStorePost w b vr vi vo s 2 v) := by
  have c6 := h.cell 6 _ rfl
  have z6 := h.frozen 6
  have h1 : PK 1 (w.setCell ⟨b, 6, none⟩ (.int .i32 1)) b vr vi vo s := h.set 6 (.int .i32 1) rfl
  have H1 := Lib.hid h1
  have K1 := Lib.hid (h.turn 6 (.int .i32 1))
  have hlt : b < w.heap.size := h.lt b (by simp [foot])
  have e1 : bits .and .u64 v 2 = v / 2 % 2 * 2 := u64_and2 v v0 v1
  rw [hv] at e1
  have HV := Lib.hid (show s.takes 2 v = s by simp [St.takes, hv])
  clear h h1 hv
  go_enter_defers Try.func111, Try.ntmps111
  go_wp2_with (first | (go_at_call 62; refine (lock_free muLib ⟨b, 6, none⟩ _ c6 z6).mono ?_; rintro e w' ⟨rfl, rfl⟩))
  refine leaves_cons (f := 63) (args := #[.pointer (some ⟨b, 6, none⟩)]) (by simp) (by simp [go_sem]) ?_
  refine (unlock_deferred muLib ⟨b, 6, none⟩ .returning _ (H1.out.cell 6 _ rfl) (H1.out.frozen 6)).mono ?_
  rintro e u' w'' ⟨rfl, rfl, rfl⟩
  refine ⟨_, results_none rfl _ _ _, ?_⟩
  unfold UStorePost
  rw [HV.out]
  exact ⟨_, _, rfl, H1.out.set 6 _ rfl, K1.out.trans (H1.out.turn 6 _)⟩
set_option maxHeartbeats 2000000 in
set_option maxRecDepth 100000 in
theorem uart_store_2y (h : PL w b vr vi vo s) (hs : s.Ok) (size v : Int) (v0 : 0 ≤ v) (v1 : v ≤ 18446744073709551615) (hv : v / 2 % 2 = 1) : Calls Try.prog 111 #[.pointer (some ⟨b, 6, none⟩), .int .u64 268435458, .int .i64 size, .int .u64 v] w (UStorePost w b vr vi vo s 2 v) := by
  have c6 := h.cell 6 _ rfl
  have z6 := h.frozen 6
  have h1 : PK 1 (w.setCell ⟨b, 6, none⟩ (.int .i32 1)) b vr vi vo s := h.set 6 (.int .i32 1) rfl
  have H1 := Lib.hid h1
  have K1 := Lib.hid (h.turn 6 (.int .i32 1))
  have hlt : b < w.heap.size := h.lt b (by simp [foot])
  have e1 : bits .and .u64 v 2 = v / 2 % 2 * 2 := u64_and2 v v0 v1
  rw [hv] at e1
  have d : (w.setCell ⟨b, 6, none⟩ (.int .i32 1)).cell? ⟨b, 8, none⟩ = some vi := h1.cell 8 _ rfl
  rw [World.cell?_setCell_other _ _ _ _ (by simp)] at d
  have z := h.frozen 8
  have h2 := h1.setInp (Kept.refl _ _) (Bs.nil _) (by simp [Value.ownBlock]) 8 rfl
  have H2 := Lib.hid h2.1
  have T2 := Lib.hid h2.2
  have HV := Lib.hid (show s.takes 2 v = { s with inp := [] } by simp [St.takes, hv])
  clear h h1 h2 hv
  go_enter_defers Try.func111, Try.ntmps111
  go_wp2_with (first | (go_at_call 62; refine (lock_free muLib ⟨b, 6, none⟩ _ c6 z6).mono ?_; rintro e w' ⟨rfl, rfl⟩))
  refine leaves_cons (f := 63) (args := #[.pointer (some ⟨b, 6, none⟩)]) (by simp) (by simp [go_sem]) ?_
  refine (unlock_deferred muLib ⟨b, 6, none⟩ .returning _ (H2.out.cell 6 _ rfl) (H2.out.frozen 6)).mono ?_
  rintro e u' w'' ⟨rfl, rfl, rfl⟩
  refine ⟨_, results_none rfl _ _ _, ?_⟩
  unfold UStorePost
  rw [HV.out]
  exact ⟨_, _, rfl, H2.out.set 6 _ rfl, (K1.out.trans T2.out).trans (H2.out.turn 6 _)⟩
set_option maxHeartbeats 2000000 in
set_option maxRecDepth 100000 in
theorem uart_store_0n (h : PL w b vr vi vo s) (hs : s.Ok) (size v : Int) (v0 : 0 ≤ v) (v1 : v ≤ 18446744073709551615) (hv : ¬ s.out.length < 4096) : Calls Try.prog 111 #[.pointer (some ⟨b, 6, none⟩), .int .u64 268435456, .int .i64 size, .int .u64 v] w (UStorePost w b vr vi vo s 0 v) := by
  have c6 := h.cell 6 _ rfl
  have z6 := h.frozen 6
  have h1 : PK 1 (w.setCell ⟨b, 6, none⟩ (.int .i32 1)) b vr vi vo s := h.set 6 (.int .i32 1) rfl
  have H1 := Lib.hid h1
  have K1 := Lib.hid (h.turn 6 (.int .i32 1))
  have hlt : b < w.heap.size := h.lt b (by simp [foot])
  obtain ⟨A, n, rfl⟩ := h1.outAt
  have d : (w.setCell ⟨b, 6, none⟩ (.int .i32 1)).cell? ⟨b, 9, none⟩ = some (.slice A s.out.length n) := h1.cell 9 _ rfl
  rw [World.cell?_setCell_other _ _ _ _ (by simp)] at d
  have e1 : decide ((s.out.length : Int) < 4096) = false := by simp; omega
  have HV := Lib.hid (show s.takes 0 v = s by simp [St.takes, hv])
  clear h h1 hv
  go_enter_defers Try.func111, Try.ntmps111
  go_wp2_with (first | (go_at_call 62; refine (lock_free muLib ⟨b, 6, none⟩ _ c6 z6).mono ?_; rintro e w' ⟨rfl, rfl⟩))
  refine leaves_cons (f := 63) (args := #[.pointer (some ⟨b, 6, none⟩)]) (by simp) (by simp [go_sem]) ?_
  refine (unlock_deferred muLib ⟨b, 6, none⟩ .returning _ (H1.out.cell 6 _ rfl) (H1.out.frozen 6)).mono ?_
  rintro e u' w'' ⟨rfl, rfl, rfl⟩
  refine ⟨_, results_none rfl _ _ _, ?_⟩
  unfold UStorePost
  rw [HV.out]
  exact ⟨_, _, rfl, H1.out.set 6 _ rfl, K1.out.trans (H1.out.turn 6 _)⟩
set_option maxHeartbeats 2000000 in
set_option maxRecDepth 100000 in
theorem uart_store_0y (h : PL w b vr vi vo s) (hs : s.Ok) (size v : Int) (v0 : 0 ≤ v) (v1 : v ≤ 18446744073709551615) (hv : s.out.length < 4096) : Calls Try.prog 111 #[.pointer (some ⟨b, 6, none⟩), .int .u64 268435456, .int .i64 size, .int .u64 v] w (UStorePost w b vr vi vo s 0 v) := by
  have c6 := h.cell 6 _ rfl
  have z6 := h.frozen 6
  have h1 : PK 1 (w.setCell ⟨b, 6, none⟩ (.int .i32 1)) b vr vi vo s := h.set 6 (.int .i32 1) rfl
  have H1 := Lib.hid h1
  have K1 := Lib.hid (h.turn 6 (.int .i32 1))
  have hlt : b < w.heap.size := h.lt b (by simp [foot])
  obtain ⟨A, n, rfl⟩ := h1.outAt
  have d : (w.setCell ⟨b, 6, none⟩ (.int .i32 1)).cell? ⟨b, 9, none⟩ = some (.slice A s.out.length n) := h1.cell 9 _ rfl
  rw [World.cell?_setCell_other _ _ _ _ (by simp)] at d
  have z := h.frozen 9
  have e1 : decide ((s.out.length : Int) < 4096) = true := by simp; omega
  have HV := Lib.hid (show s.takes 0 v = { s with out := s.out ++ [v % 256] } by simp [St.takes, hv])
  have hsz : b < (w.setCell ⟨b, 6, none⟩ (.int .i32 1)).heap.size := h1.lt b (by simp [foot])
  have hal : ∀ o, Lies 85 (fun vr vi vo s => pCells vr vi vo s 1) ((w.setCell ⟨b, 6, none⟩ (.int .i32 1)).alloc o) b vr vi (.slice A s.out.length n) s := fun o => h1.keep0 ((Kept.refl [] _).alloc o)
  have HAL := Lib.hid hal
  have hnb : b ∉ (Value.slice A s.out.length n).ownBlock.toList := fun hm => h1.no b (by simpa using hm) rfl
  have HNB := Lib.hid hnb
  have HWS := Lib.hid (show (w.setCell ⟨b, 6, none⟩ (.int .i32 1)).heap.size = w.heap.size by simp)
  clear h h1 hal hnb
  go_enter_defers Try.func111, Try.ntmps111
  go_wp2_with (first | (go_at_call 62; refine (lock_free muLib ⟨b, 6, none⟩ _ c6 z6).mono ?_; rintro e w' ⟨rfl, rfl⟩) | (at_builtin; refine wpList_append_bs rfl _ _ rfl _ _ s.out [v % 256] rfl rfl (HAL.out _).out (.inr ⟨1, w.heap.size, 0, rfl, one_cell HWS.out _⟩) (by simp; omega) ?_; intro v' w2 hg; obtain ⟨A', c', rfl⟩ := hg.bs.shape; have e9 := (hg.kept.cell (p := ⟨b, 9, none⟩) (by simp; omega) HNB.out).trans ((HAL.out _).cell 9 _ rfl); have f9 := (hg.kept.frozen (p := ⟨b, 9, none⟩) (by simp; omega) HNB.out).trans ((HAL.out _).frozen 9); have HG := Lib.hid hg; clear hg))
  have hst := (HAL.out _).setOut HG.out.kept HG.out.bs HG.out.blk 9 rfl
  rw [show (s.out ++ [v % 256]).length = s.out.length + 1 by simp] at hst
  refine leaves_cons (f := 63) (args := #[.pointer (some ⟨b, 6, none⟩)]) (by simp) (by simp [go_sem]) ?_
  refine (unlock_deferred muLib ⟨b, 6, none⟩ .returning _ (hst.1.cell 6 _ rfl) (hst.1.frozen 6)).mono ?_
  rintro e u' w'' ⟨rfl, rfl, rfl⟩
  refine ⟨_, results_none rfl _ _ _, ?_⟩
  unfold UStorePost
  rw [HV.out]
  exact ⟨_, _, rfl, hst.1.set 6 _ rfl, ((K1.out.trans (.of_kept ((Kept.refl _ _).alloc _))).trans hst.2).trans (hst.1.turn 6 _)⟩
theorem uart_store_any (h : PL w b vr vi vo s) (hs : s.Ok) (reg size v : Int) (v0 : 0 ≤ v) (v1 : v ≤ 18446744073709551615) (r0 : 0 ≤ reg) (r1 : reg < 8) : Calls Try.prog 111 #[.pointer (some ⟨b, 6, none⟩), .int .u64 (268435456 + reg), .int .i64 size, .int .u64 v] w (UStorePost w b vr vi vo s reg v) := by
  rcases (show reg = 0 ∨ reg = 1 ∨ reg = 2 ∨ reg = 3 ∨ reg = 4 ∨ reg = 5 ∨ reg = 6 ∨ reg = 7 by omega) with rfl | rfl | rfl | rfl | rfl | rfl | rfl | rfl
  · by_cases hv : s.out.length < 4096
    · exact uart_store_0y h hs size v v0 v1 hv
    · exact uart_store_0n h hs size v v0 v1 hv
  · exact uart_store_1 h hs size v v0 v1
  · by_cases hv : v / 2 % 2 = 1
    · exact uart_store_2y h hs size v v0 v1 hv
    · exact uart_store_2n h hs size v v0 v1 (by omega)
  · exact uart_store_3 h hs size v v0 v1
  · exact uart_store_4 h hs size v v0 v1
  · exact uart_store_5 h hs size v v0 v1
  · exact uart_store_6 h hs size v v0 v1
  · exact uart_store_7 h hs size v v0 v1
end
end Go.Proofs.Ytkocfcgdjjdnhaa.BW
