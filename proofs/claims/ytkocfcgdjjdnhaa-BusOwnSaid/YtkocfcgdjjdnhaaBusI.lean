/- The console of the program's bus: its registers loaded and stored. Premise: a bus lies there. -/
import Derived.Test.YtkocfcgdjjdnhaaBusH
namespace Go.Proofs.Ytkocfcgdjjdnhaa.BW
open Go.RowKit Go.MuLone
set_option linter.unusedVariables false
set_option linter.unusedSimpArgs false
set_option maxHeartbeats 2000000 in
set_option maxRecDepth 100000 in
theorem uart_here_any (w : World) (b : Nat) (addr size : Int) (a0 : 0 ≤ addr) (a1 : addr ≤ 18446744073709551615) : Calls Try.prog 109 #[.pointer (some ⟨b, 6, none⟩), .int .u64 addr, .int .i64 size] w fun e w' => e = .returned (.bool (decide (size = 1 ∧ 268435456 ≤ addr ∧ addr < 268435464))) ∧ w = w' := by
  go_enter Try.func109, Try.ntmps109
  go_wp2
  all_goals
    go_ret
    refine ⟨ret_bool ?_, rfl⟩
    go_light
    rw [Bool.eq_iff_iff]; simp; omega
section
variable {w : World} {b : Nat} {vr vi vo : Value} {s : St}
/-- What a load of a register leaves. -/
def ULoadPost (w : World) (b : Nat) (vr vi vo : Value) (s : St) (reg : Int) (e : Ending) (w' : World) : Prop :=
  ∃ vi', e = .returned (.int .u64 (s.tells reg).1) ∧ PL w' b vr vi' vo (s.tells reg).2 ∧ Turn (foot b vr vi vo) (foot b vr vi' vo) w w'
/-- What a store to a register leaves. -/
def UStorePost (w : World) (b : Nat) (vr vi vo : Value) (s : St) (reg v : Int) (e : Ending) (w' : World) : Prop :=
  ∃ vi' vo', e = .returned (.tuple #[]) ∧ PL w' b vr vi' vo' (s.takes reg v) ∧ Turn (foot b vr vi vo) (foot b vr vi' vo') w w'
set_option maxHeartbeats 2000000 in
set_option maxRecDepth 100000 in
theorem uart_load_1 (h : PL w b vr vi vo s) (hs : s.Ok) (size : Int) : Calls Try.prog 110 #[.pointer (some ⟨b, 6, none⟩), .int .u64 268435457, .int .i64 size] w (ULoadPost w b vr vi vo s 1) := by
  have c6 := h.cell 6 _ rfl
  have z6 := h.frozen 6
  have h1 : PK 1 (w.setCell ⟨b, 6, none⟩ (.int .i32 1)) b vr vi vo s := h.set 6 (.int .i32 1) rfl
  have H1 := Lib.hid h1
  have K1 := Lib.hid (h.turn 6 (.int .i32 1))
  have d10 : (w.setCell ⟨b, 6, none⟩ (.int .i32 1)).cell? ⟨b, 10, none⟩ = some (.int .u8 s.ier) := h1.cell 10 _ rfl
  rw [World.cell?_setCell_other _ _ _ _ (by simp)] at d10
  have x0 := hs.ie.1
  have x1 : s.ier ≤ 255 := by have := hs.ie.2; omega
  have HV := Lib.hid (show s.tells 1 = (s.ier, s) by simp [St.tells])
  clear h h1
  go_enter_defers Try.func110, Try.ntmps110
  go_wp2_with (first | (go_at_call 62; refine (lock_free muLib ⟨b, 6, none⟩ _ c6 z6).mono ?_; rintro e w' ⟨rfl, rfl⟩))
  refine leaves_cons (f := 63) (args := #[.pointer (some ⟨b, 6, none⟩)]) (by simp) (by simp [go_sem]) ?_
  refine (unlock_deferred muLib ⟨b, 6, none⟩ .returning _ (H1.out.cell 6 _ rfl) (H1.out.frozen 6)).mono ?_
  rintro e u' w'' ⟨rfl, rfl, rfl⟩
  refine ⟨_, results_tmp rfl _ _ _, ?_⟩
  unfold ULoadPost
  rw [HV.out]
  exact ⟨vi, rfl, H1.out.set 6 _ rfl, K1.out.trans (H1.out.turn 6 _)⟩
set_option maxHeartbeats 2000000 in
set_option maxRecDepth 100000 in
theorem uart_load_3 (h : PL w b vr vi vo s) (hs : s.Ok) (size : Int) : Calls Try.prog 110 #[.pointer (some ⟨b, 6, none⟩), .int .u64 268435459, .int .i64 size] w (ULoadPost w b vr vi vo s 3) := by
  have c6 := h.cell 6 _ rfl
  have z6 := h.frozen 6
  have h1 : PK 1 (w.setCell ⟨b, 6, none⟩ (.int .i32 1)) b vr vi vo s := h.set 6 (.int .i32 1) rfl
  have H1 := Lib.hid h1
  have K1 := Lib.hid (h.turn 6 (.int .i32 1))
  have d11 : (w.setCell ⟨b, 6, none⟩ (.int .i32 1)).cell? ⟨b, 11, none⟩ = some (.int .u8 s.lcr) := h1.cell 11 _ rfl
  rw [World.cell?_setCell_other _ _ _ _ (by simp)] at d11
  have x0 := hs.lc.1
  have x1 : s.lcr ≤ 255 := by have := hs.lc.2; omega
  have HV := Lib.hid (show s.tells 3 = (s.lcr, s) by simp [St.tells])
  clear h h1
  go_enter_defers Try.func110, Try.ntmps110
  go_wp2_with (first | (go_at_call 62; refine (lock_free muLib ⟨b, 6, none⟩ _ c6 z6).mono ?_; rintro e w' ⟨rfl, rfl⟩))
  refine leaves_cons (f := 63) (args := #[.pointer (some ⟨b, 6, none⟩)]) (by simp) (by simp [go_sem]) ?_
  refine (unlock_deferred muLib ⟨b, 6, none⟩ .returning _ (H1.out.cell 6 _ rfl) (H1.out.frozen 6)).mono ?_
  rintro e u' w'' ⟨rfl, rfl, rfl⟩
  refine ⟨_, results_tmp rfl _ _ _, ?_⟩
  unfold ULoadPost
  rw [HV.out]
  exact ⟨vi, rfl, H1.out.set 6 _ rfl, K1.out.trans (H1.out.turn 6 _)⟩
set_option maxHeartbeats 2000000 in
set_option maxRecDepth 100000 in
theorem uart_load_4 (h : PL w b vr vi vo s) (hs : s.Ok) (size : Int) : Calls Try.prog 110 #[.pointer (some ⟨b, 6, none⟩), .int .u64 268435460, .int .i64 size] w (ULoadPost w b vr vi vo s 4) := by
  have c6 := h.cell 6 _ rfl
  have z6 := h.frozen 6
  have h1 : PK 1 (w.setCell ⟨b, 6, none⟩ (.int .i32 1)) b vr vi vo s := h.set 6 (.int .i32 1) rfl
  have H1 := Lib.hid h1
  have K1 := Lib.hid (h.turn 6 (.int .i32 1))
  have d12 : (w.setCell ⟨b, 6, none⟩ (.int .i32 1)).cell? ⟨b, 12, none⟩ = some (.int .u8 s.mcr) := h1.cell 12 _ rfl
  rw [World.cell?_setCell_other _ _ _ _ (by simp)] at d12
  have x0 := hs.mc.1
  have x1 : s.mcr ≤ 255 := by have := hs.mc.2; omega
  have HV := Lib.hid (show s.tells 4 = (s.mcr, s) by simp [St.tells])
  clear h h1
  go_enter_defers Try.func110, Try.ntmps110
  go_wp2_with (first | (go_at_call 62; refine (lock_free muLib ⟨b, 6, none⟩ _ c6 z6).mono ?_; rintro e w' ⟨rfl, rfl⟩))
  refine leaves_cons (f := 63) (args := #[.pointer (some ⟨b, 6, none⟩)]) (by simp) (by simp [go_sem]) ?_
  refine (unlock_deferred muLib ⟨b, 6, none⟩ .returning _ (H1.out.cell 6 _ rfl) (H1.out.frozen 6)).mono ?_
  rintro e u' w'' ⟨rfl, rfl, rfl⟩
  refine ⟨_, results_tmp rfl _ _ _, ?_⟩
  unfold ULoadPost
  rw [HV.out]
  exact ⟨vi, rfl, H1.out.set 6 _ rfl, K1.out.trans (H1.out.turn 6 _)⟩
set_option maxHeartbeats 2000000 in
set_option maxRecDepth 100000 in
theorem uart_load_6 (h : PL w b vr vi vo s) (hs : s.Ok) (size : Int) : Calls Try.prog 110 #[.pointer (some ⟨b, 6, none⟩), .int .u64 268435462, .int .i64 size] w (ULoadPost w b vr vi vo s 6) := by
  have c6 := h.cell 6 _ rfl
  have z6 := h.frozen 6
  have h1 : PK 1 (w.setCell ⟨b, 6, none⟩ (.int .i32 1)) b vr vi vo s := h.set 6 (.int .i32 1) rfl
  have H1 := Lib.hid h1
  have K1 := Lib.hid (h.turn 6 (.int .i32 1))
  have HV := Lib.hid (show s.tells 6 = (0, s) by simp [St.tells])
  clear h h1
  go_enter_defers Try.func110, Try.ntmps110
  go_wp2_with (first | (go_at_call 62; refine (lock_free muLib ⟨b, 6, none⟩ _ c6 z6).mono ?_; rintro e w' ⟨rfl, rfl⟩))
  refine leaves_cons (f := 63) (args := #[.pointer (some ⟨b, 6, none⟩)]) (by simp) (by simp [go_sem]) ?_
  refine (unlock_deferred muLib ⟨b, 6, none⟩ .returning _ (H1.out.cell 6 _ rfl) (H1.out.frozen 6)).mono ?_
  rintro e u' w'' ⟨rfl, rfl, rfl⟩
  refine ⟨_, results_tmp rfl _ _ _, ?_⟩
  unfold ULoadPost
  rw [HV.out]
  exact ⟨vi, rfl, H1.out.set 6 _ rfl, K1.out.trans (H1.out.turn 6 _)⟩
set_option maxHeartbeats 2000000 in
set_option maxRecDepth 100000 in
theorem uart_load_7 (h : PL w b vr vi vo s) (hs : s.Ok) (size : Int) : Calls Try.prog 110 #[.pointer (some ⟨b, 6, none⟩), .int .u64 268435463, .int .i64 size] w (ULoadPost w b vr vi vo s 7) := by
  have c6 := h.cell 6 _ rfl
  have z6 := h.frozen 6
  have h1 : PK 1 (w.setCell ⟨b, 6, none⟩ (.int .i32 1)) b vr vi vo s := h.set 6 (.int .i32 1) rfl
  have H1 := Lib.hid h1
  have K1 := Lib.hid (h.turn 6 (.int .i32 1))
  have d13 : (w.setCell ⟨b, 6, none⟩ (.int .i32 1)).cell? ⟨b, 13, none⟩ = some (.int .u8 s.scr) := h1.cell 13 _ rfl
  rw [World.cell?_setCell_other _ _ _ _ (by simp)] at d13
  have x0 := hs.sc.1
  have x1 : s.scr ≤ 255 := by have := hs.sc.2; omega
  have HV := Lib.hid (show s.tells 7 = (s.scr, s) by simp [St.tells])
  clear h h1
  go_enter_defers Try.func110, Try.ntmps110
  go_wp2_with (first | (go_at_call 62; refine (lock_free muLib ⟨b, 6, none⟩ _ c6 z6).mono ?_; rintro e w' ⟨rfl, rfl⟩))
  refine leaves_cons (f := 63) (args := #[.pointer (some ⟨b, 6, none⟩)]) (by simp) (by simp [go_sem]) ?_
  refine (unlock_deferred muLib ⟨b, 6, none⟩ .returning _ (H1.out.cell 6 _ rfl) (H1.out.frozen 6)).mono ?_
  rintro e u' w'' ⟨rfl, rfl, rfl⟩
  refine ⟨_, results_tmp rfl _ _ _, ?_⟩
  unfold ULoadPost
  rw [HV.out]
  exact ⟨vi, rfl, H1.out.set 6 _ rfl, K1.out.trans (H1.out.turn 6 _)⟩
set_option maxHeartbeats 2000000 in
set_option maxRecDepth 100000 in
theorem uart_load_2t (h : PL w b vr vi vo s) (hs : s.Ok) (hl : s.line = true) (size : Int) : Calls Try.prog 110 #[.pointer (some ⟨b, 6, none⟩), .int .u64 268435458, .int .i64 size] w (ULoadPost w b vr vi vo s 2) := by
  have c6 := h.cell 6 _ rfl
  have z6 := h.frozen 6
  have h1 : PK 1 (w.setCell ⟨b, 6, none⟩ (.int .i32 1)) b vr vi vo s := h.set 6 (.int .i32 1) rfl
  have H1 := Lib.hid h1
  have K1 := Lib.hid (h.turn 6 (.int .i32 1))
  obtain ⟨A, n, rfl, -⟩ := h1.inpAt
  have HLN := Lib.hid (hl.symm.trans (line_eq s))
  have HV := Lib.hid (show s.tells 2 = (4, s) by simp [St.tells, hl])
  clear h h1 hl
  go_enter_defers Try.func110, Try.ntmps110
  go_wp2_with (first | (go_at_call 62; refine (lock_free muLib ⟨b, 6, none⟩ _ c6 z6).mono ?_; rintro e w' ⟨rfl, rfl⟩) | (go_at_call 77; refine (raised_any _ b _ _ _ s.ier hs.ie.1 (by have := hs.ie.2; omega) true HLN.out (H1.out.cell 10 _ rfl) (H1.out.cell 8 _ rfl)).mono ?_; rintro e w' ⟨rfl, rfl⟩))
  refine leaves_cons (f := 63) (args := #[.pointer (some ⟨b, 6, none⟩)]) (by simp) (by simp [go_sem]) ?_
  refine (unlock_deferred muLib ⟨b, 6, none⟩ .returning _ (H1.out.cell 6 _ rfl) (H1.out.frozen 6)).mono ?_
  rintro e u' w'' ⟨rfl, rfl, rfl⟩
  refine ⟨_, results_tmp rfl _ _ _, ?_⟩
  unfold ULoadPost
  rw [HV.out]
  exact ⟨_, rfl, H1.out.set 6 _ rfl, K1.out.trans (H1.out.turn 6 _)⟩
set_option maxHeartbeats 2000000 in
set_option maxRecDepth 100000 in
theorem uart_load_2f (h : PL w b vr vi vo s) (hs : s.Ok) (hl : s.line = false) (size : Int) : Calls Try.prog 110 #[.pointer (some ⟨b, 6, none⟩), .int .u64 268435458, .int .i64 size] w (ULoadPost w b vr vi vo s 2) := by
  have c6 := h.cell 6 _ rfl
  have z6 := h.frozen 6
  have h1 : PK 1 (w.setCell ⟨b, 6, none⟩ (.int .i32 1)) b vr vi vo s := h.set 6 (.int .i32 1) rfl
  have H1 := Lib.hid h1
  have K1 := Lib.hid (h.turn 6 (.int .i32 1))
  obtain ⟨A, n, rfl, -⟩ := h1.inpAt
  have HLN := Lib.hid (hl.symm.trans (line_eq s))
  have HV := Lib.hid (show s.tells 2 = (1, s) by simp [St.tells, hl])
  clear h h1 hl
  go_enter_defers Try.func110, Try.ntmps110
  go_wp2_with (first | (go_at_call 62; refine (lock_free muLib ⟨b, 6, none⟩ _ c6 z6).mono ?_; rintro e w' ⟨rfl, rfl⟩) | (go_at_call 77; refine (raised_any _ b _ _ _ s.ier hs.ie.1 (by have := hs.ie.2; omega) false HLN.out (H1.out.cell 10 _ rfl) (H1.out.cell 8 _ rfl)).mono ?_; rintro e w' ⟨rfl, rfl⟩))
  refine leaves_cons (f := 63) (args := #[.pointer (some ⟨b, 6, none⟩)]) (by simp) (by simp [go_sem]) ?_
  refine (unlock_deferred muLib ⟨b, 6, none⟩ .returning _ (H1.out.cell 6 _ rfl) (H1.out.frozen 6)).mono ?_
  rintro e u' w'' ⟨rfl, rfl, rfl⟩
  refine ⟨_, results_tmp rfl _ _ _, ?_⟩
  unfold ULoadPost
  rw [HV.out]
  exact ⟨_, rfl, H1.out.set 6 _ rfl, K1.out.trans (H1.out.turn 6 _)⟩
set_option maxHeartbeats 2000000 in
set_option maxRecDepth 100000 in
theorem uart_load_0 (h : PL w b vr vi vo s) (hs : s.Ok) (size : Int) : Calls Try.prog 110 #[.pointer (some ⟨b, 6, none⟩), .int .u64 268435456, .int .i64 size] w (ULoadPost w b vr vi vo s 0) := by
  have c6 := h.cell 6 _ rfl
  have z6 := h.frozen 6
  have h1 : PK 1 (w.setCell ⟨b, 6, none⟩ (.int .i32 1)) b vr vi vo s := h.set 6 (.int .i32 1) rfl
  have H1 := Lib.hid h1
  have K1 := Lib.hid (h.turn 6 (.int .i32 1))
  clear h h1
  go_enter_defers Try.func110, Try.ntmps110
  go_wp2_with (first | (go_at_call 62; refine (lock_free muLib ⟨b, 6, none⟩ _ c6 z6).mono ?_; rintro e w' ⟨rfl, rfl⟩) | (go_at_call 112; refine (read_any H1.out hs).mono ?_; rintro e w2 ⟨vi', rfl, hb, ht⟩; have HB := Lib.hid hb; have HT := Lib.hid ht; clear hb ht))
  refine leaves_cons (f := 63) (args := #[.pointer (some ⟨b, 6, none⟩)]) (by simp) (by simp [go_sem]) ?_
  refine (unlock_deferred muLib ⟨b, 6, none⟩ .returning _ (HB.out.cell 6 _ rfl) (HB.out.frozen 6)).mono ?_
  rintro e u' w'' ⟨rfl, rfl, rfl⟩
  exact ⟨_, results_tmp rfl _ _ _, vi', rfl, HB.out.set 6 _ rfl, (K1.out.trans HT.out).trans (HB.out.turn 6 _)⟩
set_option maxHeartbeats 2000000 in
set_option maxRecDepth 100000 in
theorem uart_load_5 (h : PL w b vr vi vo s) (hs : s.Ok) (size : Int) : Calls Try.prog 110 #[.pointer (some ⟨b, 6, none⟩), .int .u64 268435461, .int .i64 size] w (ULoadPost w b vr vi vo s 5) := by
  have c6 := h.cell 6 _ rfl
  have z6 := h.frozen 6
  have h1 : PK 1 (w.setCell ⟨b, 6, none⟩ (.int .i32 1)) b vr vi vo s := h.set 6 (.int .i32 1) rfl
  have H1 := Lib.hid h1
  have K1 := Lib.hid (h.turn 6 (.int .i32 1))
  obtain ⟨A, n, rfl, -⟩ := h1.inpAt
  obtain ⟨B, m, rfl⟩ := h1.outAt
  have h2 : PK 1 ((w.setCell ⟨b, 6, none⟩ (.int .i32 1)).setCell ⟨b, 14, none⟩ (.bool false)) b vr _ _ { s with over := false } := h1.set 14 (.bool false) rfl
  have H2 := Lib.hid h2
  have HV := Lib.hid (show s.tells 5 = (s.status, { s with over := false }) by simp [St.tells])
  clear h h1 h2
  go_enter_defers Try.func110, Try.ntmps110
  go_wp2_with (first | (go_at_call 62; refine (lock_free muLib ⟨b, 6, none⟩ _ c6 z6).mono ?_; rintro e w' ⟨rfl, rfl⟩) | (go_at_call 113; refine (status_any b A B s.inp.length s.out.length n m s.over (H1.out.cell 8 _ rfl) (H1.out.cell 9 _ rfl) (H1.out.cell 14 _ rfl) (H1.out.frozen 14)).mono ?_; rintro e w' ⟨rfl, rfl⟩))
  refine leaves_cons (f := 63) (args := #[.pointer (some ⟨b, 6, none⟩)]) (by simp) (by simp [go_sem]) ?_
  refine (unlock_deferred muLib ⟨b, 6, none⟩ .returning _ (H2.out.cell 6 _ rfl) (H2.out.frozen 6)).mono ?_
  rintro e u' w'' ⟨rfl, rfl, rfl⟩
  refine ⟨_, results_tmp rfl _ _ _, ?_⟩
  unfold ULoadPost
  rw [HV.out]
  exact ⟨_, by rw [status_eq]; rfl, H2.out.set 6 _ rfl, (K1.out.trans (H1.out.turn 14 _)).trans (H2.out.turn 6 _)⟩
theorem uart_load_any (h : PL w b vr vi vo s) (hs : s.Ok) (reg size : Int) (r0 : 0 ≤ reg) (r1 : reg < 8) : Calls Try.prog 110 #[.pointer (some ⟨b, 6, none⟩), .int .u64 (268435456 + reg), .int .i64 size] w (ULoadPost w b vr vi vo s reg) := by
  rcases (show reg = 0 ∨ reg = 1 ∨ reg = 2 ∨ reg = 3 ∨ reg = 4 ∨ reg = 5 ∨ reg = 6 ∨ reg = 7 by omega) with rfl | rfl | rfl | rfl | rfl | rfl | rfl | rfl
  · exact uart_load_0 h hs size
  · exact uart_load_1 h hs size
  · cases hl : s.line
    · exact uart_load_2f h hs hl size
    · exact uart_load_2t h hs hl size
  · exact uart_load_3 h hs size
  · exact uart_load_4 h hs size
  · exact uart_load_5 h hs size
  · exact uart_load_6 h hs size
  · exact uart_load_7 h hs size
end
end Go.Proofs.Ytkocfcgdjjdnhaa.BW
