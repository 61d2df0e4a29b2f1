/- The program's bus: what it tells. Premise: a bus lies there. -/
import Derived.Test.YtkocfcgdjjdnhaaBusP
import Derived.Deep.QuietTactic
import Derived.BigQuiet
namespace Go.Proofs.Ytkocfcgdjjdnhaa.BW
open Go.RowKit
set_option linter.unusedVariables false
set_option linter.unusedSimpArgs false
section
variable {w : World} {b : Nat} {vr vi vo : Value} {s : St}
set_option maxHeartbeats 4000000 in
set_option maxRecDepth 100000 in
theorem time_any (h : PL w b vr vi vo s) : Calls Try.prog 58 #[.pointer (some ⟨b, 0, none⟩)] w fun e w' => e = .returned (.int .u64 s.now) ∧ w = w' := by
  have c : w.cell? ⟨b, 5, none⟩ = some (.int .u64 s.now) := h.cell 5 _ rfl
  clear h
  go_enter Try.func58, Try.ntmps58
  go_wp2
  go_ret
  exact ⟨rfl, rfl⟩
set_option maxHeartbeats 4000000 in
set_option maxRecDepth 100000 in
theorem off_any (h : PL w b vr vi vo s) : Calls Try.prog 37 #[.pointer (some ⟨b, 0, none⟩)] w fun e w' => e = .returned (.tuple #[.int .i64 s.off, .int .i64 s.code]) ∧ ∃ n, w' = w.drewN n := by
  have c : w.cell? ⟨b, 1, none⟩ = some (.int .i64 s.off) := h.cell 1 _ rfl
  have d : w.cell? ⟨b, 2, none⟩ = some (.int .i64 s.code) := h.cell 2 _ rfl
  clear h
  go_enter Try.func37, Try.ntmps37
  go_wp2
  go_quiet (fail)
  go_wp2
  go_ret2
  exact ⟨rfl, _, rfl⟩
/-- What Output leaves. -/
def OutPost (w : World) (b : Nat) (vr vi vo : Value) (s : St) (l : List Int) (e : Ending) (w' : World) : Prop :=
  ∃ A c, e = .returned (.slice A l.length c) ∧ Bs w' (.slice A l.length c) l ∧ (∀ g, (Value.slice A l.length c).ownBlock = some g → w.heap.size ≤ g) ∧ PL w' b vr vi vo s ∧ Kept [b] w w'
set_option maxHeartbeats 4000000 in
set_option maxRecDepth 100000 in
theorem output_any (h : PL w b vr vi vo s) (hs : s.Ok) : Calls Try.prog 26 #[.pointer (some ⟨b, 0, none⟩)] w (OutPost w b vr vi vo s s.out) := by
  have A := Lib.hid (sent_any h hs)
  clear h
  go_enter Try.func26, Try.ntmps26
  go_wp2_with (go_at_call 44; refine A.out.mono ?_; rintro e w2 ⟨v', rfl, hb, hn, hp, hk⟩; obtain ⟨A', c', rfl⟩ := hb.shape; have HO : OutPost w b vr vi vo s s.out (.returned (.slice A' s.out.length c')) w2 := (⟨A', c', rfl, hb, hn, hp, hk⟩); have HOO := Lib.hid HO; clear HO hb hn hp hk)
  go_ret
  exact HOO.out
set_option maxHeartbeats 4000000 in
set_option maxRecDepth 100000 in
theorem mip_0 (h : PL w b vr vi vo s) (hs : s.Ok) (q1 : s.msip = 1) (q3 : s.cmp ≤ s.now) (q4 : s.ext = true) : Calls Try.prog 56 #[.pointer (some ⟨b, 0, none⟩)] w fun e w' => e = .returned (.int .u64 s.mip) ∧ PL w' b vr vi vo s ∧ Kept [b] w w' := by
  have c3 : w.cell? ⟨b, 3, none⟩ = some (.int .u32 s.msip) := h.cell 3 _ rfl
  have c4 : w.cell? ⟨b, 4, none⟩ = some (.int .u64 s.cmp) := h.cell 4 _ rfl
  have c5 : w.cell? ⟨b, 5, none⟩ = some (.int .u64 s.now) := h.cell 5 _ rfl
  have c15 : w.cell? ⟨b, 15, none⟩ = some (.bool s.ext) := h.cell 15 _ rfl
  have c16 : w.cell? ⟨b, 16, none⟩ = some (.bool s.soft) := h.cell 16 _ rfl
  have k1 : bits .or .u64 0 8 = 8 := by decide
  have k2 : bits .or .u64 0 128 = 128 := by decide
  have k3 : bits .or .u64 8 128 = 136 := by decide
  have k4 : bits .or .u64 0 2048 = 2048 := by decide
  have k5 : bits .or .u64 8 2048 = 2056 := by decide
  have k6 : bits .or .u64 128 2048 = 2176 := by decide
  have k7 : bits .or .u64 136 2048 = 2184 := by decide
  have b1 : (s.msip == 1) = true := by simpa using q1
  have b3 : decide (s.cmp ≤ s.now) = true := by simpa using q3
  rw [q4] at c15
  have HV := Lib.hid (show s.mip = 2184 by unfold St.mip b2i; simp [q1, q3, q4])
  have H := Lib.hid h
  clear h q1 q3 q4
  go_enter Try.func56, Try.ntmps56
  go_wp2
  go_quiet (fail)
  go_wp2
  go_ret
  exact ⟨ret_int (by rw [HV.out]), H.out.keep0 ((Kept.refl [] w).drewN _), (Kept.refl [b] w).drewN _⟩
set_option maxHeartbeats 4000000 in
set_option maxRecDepth 100000 in
theorem mip_1 (h : PL w b vr vi vo s) (hs : s.Ok) (q1 : s.msip = 1) (q3 : s.cmp ≤ s.now) (q4 : s.ext = false) (q5 : s.line = true) : Calls Try.prog 56 #[.pointer (some ⟨b, 0, none⟩)] w fun e w' => e = .returned (.int .u64 s.mip) ∧ PL w' b vr vi vo s ∧ Kept [b] w w' := by
  have c3 : w.cell? ⟨b, 3, none⟩ = some (.int .u32 s.msip) := h.cell 3 _ rfl
  have c4 : w.cell? ⟨b, 4, none⟩ = some (.int .u64 s.cmp) := h.cell 4 _ rfl
  have c5 : w.cell? ⟨b, 5, none⟩ = some (.int .u64 s.now) := h.cell 5 _ rfl
  have c15 : w.cell? ⟨b, 15, none⟩ = some (.bool s.ext) := h.cell 15 _ rfl
  have c16 : w.cell? ⟨b, 16, none⟩ = some (.bool s.soft) := h.cell 16 _ rfl
  have k1 : bits .or .u64 0 8 = 8 := by decide
  have k2 : bits .or .u64 0 128 = 128 := by decide
  have k3 : bits .or .u64 8 128 = 136 := by decide
  have k4 : bits .or .u64 0 2048 = 2048 := by decide
  have k5 : bits .or .u64 8 2048 = 2056 := by decide
  have k6 : bits .or .u64 128 2048 = 2176 := by decide
  have k7 : bits .or .u64 136 2048 = 2184 := by decide
  have b1 : (s.msip == 1) = true := by simpa using q1
  have b3 : decide (s.cmp ≤ s.now) = true := by simpa using q3
  rw [q4] at c15
  have HV := Lib.hid (show s.mip = 2184 by unfold St.mip b2i; simp [q1, q3, q4, q5])
  have Q5 := Lib.hid q5
  have H := Lib.hid h
  clear h q1 q3 q4 q5
  go_enter Try.func56, Try.ntmps56
  go_wp2
  go_quiet (fail)
  go_wp2_with (go_at_call 73; refine (up_any (H.out.keep0 ((Kept.refl [] w).drewN _)) hs).mono ?_; rw [Q5.out]; rintro e w2 ⟨rfl, hp, hk⟩; have HP := Lib.hid hp; have HK := Lib.hid hk; clear hp hk)
  go_ret
  exact ⟨ret_int (by rw [HV.out]), HP.out, ((Kept.refl [b] w).drewN _).trans HK.out (fun x hx _ => hx)⟩
set_option maxHeartbeats 4000000 in
set_option maxRecDepth 100000 in
theorem mip_2 (h : PL w b vr vi vo s) (hs : s.Ok) (q1 : s.msip = 1) (q3 : s.cmp ≤ s.now) (q4 : s.ext = false) (q5 : s.line = false) : Calls Try.prog 56 #[.pointer (some ⟨b, 0, none⟩)] w fun e w' => e = .returned (.int .u64 s.mip) ∧ PL w' b vr vi vo s ∧ Kept [b] w w' := by
  have c3 : w.cell? ⟨b, 3, none⟩ = some (.int .u32 s.msip) := h.cell 3 _ rfl
  have c4 : w.cell? ⟨b, 4, none⟩ = some (.int .u64 s.cmp) := h.cell 4 _ rfl
  have c5 : w.cell? ⟨b, 5, none⟩ = some (.int .u64 s.now) := h.cell 5 _ rfl
  have c15 : w.cell? ⟨b, 15, none⟩ = some (.bool s.ext) := h.cell 15 _ rfl
  have c16 : w.cell? ⟨b, 16, none⟩ = some (.bool s.soft) := h.cell 16 _ rfl
  have k1 : bits .or .u64 0 8 = 8 := by decide
  have k2 : bits .or .u64 0 128 = 128 := by decide
  have k3 : bits .or .u64 8 128 = 136 := by decide
  have k4 : bits .or .u64 0 2048 = 2048 := by decide
  have k5 : bits .or .u64 8 2048 = 2056 := by decide
  have k6 : bits .or .u64 128 2048 = 2176 := by decide
  have k7 : bits .or .u64 136 2048 = 2184 := by decide
  have b1 : (s.msip == 1) = true := by simpa using q1
  have b3 : decide (s.cmp ≤ s.now) = true := by simpa using q3
  rw [q4] at c15
  have HV := Lib.hid (show s.mip = 136 by unfold St.mip b2i; simp [q1, q3, q4, q5])
  have Q5 := Lib.hid q5
  have H := Lib.hid h
  clear h q1 q3 q4 q5
  go_enter Try.func56, Try.ntmps56
  go_wp2
  go_quiet (fail)
  go_wp2_with (go_at_call 73; refine (up_any (H.out.keep0 ((Kept.refl [] w).drewN _)) hs).mono ?_; rw [Q5.out]; rintro e w2 ⟨rfl, hp, hk⟩; have HP := Lib.hid hp; have HK := Lib.hid hk; clear hp hk)
  go_ret
  exact ⟨ret_int (by rw [HV.out]), HP.out, ((Kept.refl [b] w).drewN _).trans HK.out (fun x hx _ => hx)⟩
set_option maxHeartbeats 4000000 in
set_option maxRecDepth 100000 in
theorem mip_3 (h : PL w b vr vi vo s) (hs : s.Ok) (q1 : s.msip = 1) (q3 : s.now < s.cmp) (q4 : s.ext = true) : Calls Try.prog 56 #[.pointer (some ⟨b, 0, none⟩)] w fun e w' => e = .returned (.int .u64 s.mip) ∧ PL w' b vr vi vo s ∧ Kept [b] w w' := by
  have c3 : w.cell? ⟨b, 3, none⟩ = some (.int .u32 s.msip) := h.cell 3 _ rfl
  have c4 : w.cell? ⟨b, 4, none⟩ = some (.int .u64 s.cmp) := h.cell 4 _ rfl
  have c5 : w.cell? ⟨b, 5, none⟩ = some (.int .u64 s.now) := h.cell 5 _ rfl
  have c15 : w.cell? ⟨b, 15, none⟩ = some (.bool s.ext) := h.cell 15 _ rfl
  have c16 : w.cell? ⟨b, 16, none⟩ = some (.bool s.soft) := h.cell 16 _ rfl
  have k1 : bits .or .u64 0 8 = 8 := by decide
  have k2 : bits .or .u64 0 128 = 128 := by decide
  have k3 : bits .or .u64 8 128 = 136 := by decide
  have k4 : bits .or .u64 0 2048 = 2048 := by decide
  have k5 : bits .or .u64 8 2048 = 2056 := by decide
  have k6 : bits .or .u64 128 2048 = 2176 := by decide
  have k7 : bits .or .u64 136 2048 = 2184 := by decide
  have b1 : (s.msip == 1) = true := by simpa using q1
  have b3 : decide (s.cmp ≤ s.now) = false := by simpa using q3
  rw [q4] at c15
  have HV := Lib.hid (show s.mip = 2056 by unfold St.mip b2i; simp [q1, Int.not_le.mpr q3, q4])
  have H := Lib.hid h
  clear h q1 q3 q4
  go_enter Try.func56, Try.ntmps56
  go_wp2
  go_quiet (fail)
  go_wp2
  go_ret
  exact ⟨ret_int (by rw [HV.out]), H.out.keep0 ((Kept.refl [] w).drewN _), (Kept.refl [b] w).drewN _⟩
set_option maxHeartbeats 4000000 in
set_option maxRecDepth 100000 in
theorem mip_4 (h : PL w b vr vi vo s) (hs : s.Ok) (q1 : s.msip = 1) (q3 : s.now < s.cmp) (q4 : s.ext = false) (q5 : s.line = true) : Calls Try.prog 56 #[.pointer (some ⟨b, 0, none⟩)] w fun e w' => e = .returned (.int .u64 s.mip) ∧ PL w' b vr vi vo s ∧ Kept [b] w w' := by
  have c3 : w.cell? ⟨b, 3, none⟩ = some (.int .u32 s.msip) := h.cell 3 _ rfl
  have c4 : w.cell? ⟨b, 4, none⟩ = some (.int .u64 s.cmp) := h.cell 4 _ rfl
  have c5 : w.cell? ⟨b, 5, none⟩ = some (.int .u64 s.now) := h.cell 5 _ rfl
  have c15 : w.cell? ⟨b, 15, none⟩ = some (.bool s.ext) := h.cell 15 _ rfl
  have c16 : w.cell? ⟨b, 16, none⟩ = some (.bool s.soft) := h.cell 16 _ rfl
  have k1 : bits .or .u64 0 8 = 8 := by decide
  have k2 : bits .or .u64 0 128 = 128 := by decide
  have k3 : bits .or .u64 8 128 = 136 := by decide
  have k4 : bits .or .u64 0 2048 = 2048 := by decide
  have k5 : bits .or .u64 8 2048 = 2056 := by decide
  have k6 : bits .or .u64 128 2048 = 2176 := by decide
  have k7 : bits .or .u64 136 2048 = 2184 := by decide
  have b1 : (s.msip == 1) = true := by simpa using q1
  have b3 : decide (s.cmp ≤ s.now) = false := by simpa using q3
  rw [q4] at c15
  have HV := Lib.hid (show s.mip = 2056 by unfold St.mip b2i; simp [q1, Int.not_le.mpr q3, q4, q5])
  have Q5 := Lib.hid q5
  have H := Lib.hid h
  clear h q1 q3 q4 q5
  go_enter Try.func56, Try.ntmps56
  go_wp2
  go_quiet (fail)
  go_wp2_with (go_at_call 73; refine (up_any (H.out.keep0 ((Kept.refl [] w).drewN _)) hs).mono ?_; rw [Q5.out]; rintro e w2 ⟨rfl, hp, hk⟩; have HP := Lib.hid hp; have HK := Lib.hid hk; clear hp hk)
  go_ret
  exact ⟨ret_int (by rw [HV.out]), HP.out, ((Kept.refl [b] w).drewN _).trans HK.out (fun x hx _ => hx)⟩
set_option maxHeartbeats 4000000 in
set_option maxRecDepth 100000 in
theorem mip_5 (h : PL w b vr vi vo s) (hs : s.Ok) (q1 : s.msip = 1) (q3 : s.now < s.cmp) (q4 : s.ext = false) (q5 : s.line = false) : Calls Try.prog 56 #[.pointer (some ⟨b, 0, none⟩)] w fun e w' => e = .returned (.int .u64 s.mip) ∧ PL w' b vr vi vo s ∧ Kept [b] w w' := by
  have c3 : w.cell? ⟨b, 3, none⟩ = some (.int .u32 s.msip) := h.cell 3 _ rfl
  have c4 : w.cell? ⟨b, 4, none⟩ = some (.int .u64 s.cmp) := h.cell 4 _ rfl
  have c5 : w.cell? ⟨b, 5, none⟩ = some (.int .u64 s.now) := h.cell 5 _ rfl
  have c15 : w.cell? ⟨b, 15, none⟩ = some (.bool s.ext) := h.cell 15 _ rfl
  have c16 : w.cell? ⟨b, 16, none⟩ = some (.bool s.soft) := h.cell 16 _ rfl
  have k1 : bits .or .u64 0 8 = 8 := by decide
  have k2 : bits .or .u64 0 128 = 128 := by decide
  have k3 : bits .or .u64 8 128 = 136 := by decide
  have k4 : bits .or .u64 0 2048 = 2048 := by decide
  have k5 : bits .or .u64 8 2048 = 2056 := by decide
  have k6 : bits .or .u64 128 2048 = 2176 := by decide
  have k7 : bits .or .u64 136 2048 = 2184 := by decide
  have b1 : (s.msip == 1) = true := by simpa using q1
  have b3 : decide (s.cmp ≤ s.now) = false := by simpa using q3
  rw [q4] at c15
  have HV := Lib.hid (show s.mip = 8 by unfold St.mip b2i; simp [q1, Int.not_le.mpr q3, q4, q5])
  have Q5 := Lib.hid q5
  have H := Lib.hid h
  clear h q1 q3 q4 q5
  go_enter Try.func56, Try.ntmps56
  go_wp2
  go_quiet (fail)
  go_wp2_with (go_at_call 73; refine (up_any (H.out.keep0 ((Kept.refl [] w).drewN _)) hs).mono ?_; rw [Q5.out]; rintro e w2 ⟨rfl, hp, hk⟩; have HP := Lib.hid hp; have HK := Lib.hid hk; clear hp hk)
  go_ret
  exact ⟨ret_int (by rw [HV.out]), HP.out, ((Kept.refl [b] w).drewN _).trans HK.out (fun x hx _ => hx)⟩
set_option maxHeartbeats 4000000 in
set_option maxRecDepth 100000 in
theorem mip_6 (h : PL w b vr vi vo s) (hs : s.Ok) (q1 : ¬ s.msip = 1) (q2 : s.soft = true) (q3 : s.cmp ≤ s.now) (q4 : s.ext = true) : Calls Try.prog 56 #[.pointer (some ⟨b, 0, none⟩)] w fun e w' => e = .returned (.int .u64 s.mip) ∧ PL w' b vr vi vo s ∧ Kept [b] w w' := by
  have c3 : w.cell? ⟨b, 3, none⟩ = some (.int .u32 s.msip) := h.cell 3 _ rfl
  have c4 : w.cell? ⟨b, 4, none⟩ = some (.int .u64 s.cmp) := h.cell 4 _ rfl
  have c5 : w.cell? ⟨b, 5, none⟩ = some (.int .u64 s.now) := h.cell 5 _ rfl
  have c15 : w.cell? ⟨b, 15, none⟩ = some (.bool s.ext) := h.cell 15 _ rfl
  have c16 : w.cell? ⟨b, 16, none⟩ = some (.bool s.soft) := h.cell 16 _ rfl
  have k1 : bits .or .u64 0 8 = 8 := by decide
  have k2 : bits .or .u64 0 128 = 128 := by decide
  have k3 : bits .or .u64 8 128 = 136 := by decide
  have k4 : bits .or .u64 0 2048 = 2048 := by decide
  have k5 : bits .or .u64 8 2048 = 2056 := by decide
  have k6 : bits .or .u64 128 2048 = 2176 := by decide
  have k7 : bits .or .u64 136 2048 = 2184 := by decide
  have b1 : (s.msip == 1) = false := by simpa using q1
  rw [q2] at c16
  have b3 : decide (s.cmp ≤ s.now) = true := by simpa using q3
  rw [q4] at c15
  have HV := Lib.hid (show s.mip = 2184 by unfold St.mip b2i; simp [q1, q2, q3, q4])
  have H := Lib.hid h
  clear h q1 q3 q4 q2
  go_enter Try.func56, Try.ntmps56
  go_wp2
  go_quiet (fail)
  go_wp2
  go_ret
  exact ⟨ret_int (by rw [HV.out]), H.out.keep0 ((Kept.refl [] w).drewN _), (Kept.refl [b] w).drewN _⟩
set_option maxHeartbeats 4000000 in
set_option maxRecDepth 100000 in
theorem mip_7 (h : PL w b vr vi vo s) (hs : s.Ok) (q1 : ¬ s.msip = 1) (q2 : s.soft = true) (q3 : s.cmp ≤ s.now) (q4 : s.ext = false) (q5 : s.line = true) : Calls Try.prog 56 #[.pointer (some ⟨b, 0, none⟩)] w fun e w' => e = .returned (.int .u64 s.mip) ∧ PL w' b vr vi vo s ∧ Kept [b] w w' := by
  have c3 : w.cell? ⟨b, 3, none⟩ = some (.int .u32 s.msip) := h.cell 3 _ rfl
  have c4 : w.cell? ⟨b, 4, none⟩ = some (.int .u64 s.cmp) := h.cell 4 _ rfl
  have c5 : w.cell? ⟨b, 5, none⟩ = some (.int .u64 s.now) := h.cell 5 _ rfl
  have c15 : w.cell? ⟨b, 15, none⟩ = some (.bool s.ext) := h.cell 15 _ rfl
  have c16 : w.cell? ⟨b, 16, none⟩ = some (.bool s.soft) := h.cell 16 _ rfl
  have k1 : bits .or .u64 0 8 = 8 := by decide
  have k2 : bits .or .u64 0 128 = 128 := by decide
  have k3 : bits .or .u64 8 128 = 136 := by decide
  have k4 : bits .or .u64 0 2048 = 2048 := by decide
  have k5 : bits .or .u64 8 2048 = 2056 := by decide
  have k6 : bits .or .u64 128 2048 = 2176 := by decide
  have k7 : bits .or .u64 136 2048 = 2184 := by decide
  have b1 : (s.msip == 1) = false := by simpa using q1
  rw [q2] at c16
  have b3 : decide (s.cmp ≤ s.now) = true := by simpa using q3
  rw [q4] at c15
  have HV := Lib.hid (show s.mip = 2184 by unfold St.mip b2i; simp [q1, q2, q3, q4, q5])
  have Q5 := Lib.hid q5
  have H := Lib.hid h
  clear h q1 q3 q4 q2 q5
  go_enter Try.func56, Try.ntmps56
  go_wp2
  go_quiet (fail)
  go_wp2_with (go_at_call 73; refine (up_any (H.out.keep0 ((Kept.refl [] w).drewN _)) hs).mono ?_; rw [Q5.out]; rintro e w2 ⟨rfl, hp, hk⟩; have HP := Lib.hid hp; have HK := Lib.hid hk; clear hp hk)
  go_ret
  exact ⟨ret_int (by rw [HV.out]), HP.out, ((Kept.refl [b] w).drewN _).trans HK.out (fun x hx _ => hx)⟩
set_option maxHeartbeats 4000000 in
set_option maxRecDepth 100000 in
theorem mip_8 (h : PL w b vr vi vo s) (hs : s.Ok) (q1 : ¬ s.msip = 1) (q2 : s.soft = true) (q3 : s.cmp ≤ s.now) (q4 : s.ext = false) (q5 : s.line = false) : Calls Try.prog 56 #[.pointer (some ⟨b, 0, none⟩)] w fun e w' => e = .returned (.int .u64 s.mip) ∧ PL w' b vr vi vo s ∧ Kept [b] w w' := by
  have c3 : w.cell? ⟨b, 3, none⟩ = some (.int .u32 s.msip) := h.cell 3 _ rfl
  have c4 : w.cell? ⟨b, 4, none⟩ = some (.int .u64 s.cmp) := h.cell 4 _ rfl
  have c5 : w.cell? ⟨b, 5, none⟩ = some (.int .u64 s.now) := h.cell 5 _ rfl
  have c15 : w.cell? ⟨b, 15, none⟩ = some (.bool s.ext) := h.cell 15 _ rfl
  have c16 : w.cell? ⟨b, 16, none⟩ = some (.bool s.soft) := h.cell 16 _ rfl
  have k1 : bits .or .u64 0 8 = 8 := by decide
  have k2 : bits .or .u64 0 128 = 128 := by decide
  have k3 : bits .or .u64 8 128 = 136 := by decide
  have k4 : bits .or .u64 0 2048 = 2048 := by decide
  have k5 : bits .or .u64 8 2048 = 2056 := by decide
  have k6 : bits .or .u64 128 2048 = 2176 := by decide
  have k7 : bits .or .u64 136 2048 = 2184 := by decide
  have b1 : (s.msip == 1) = false := by simpa using q1
  rw [q2] at c16
  have b3 : decide (s.cmp ≤ s.now) = true := by simpa using q3
  rw [q4] at c15
  have HV := Lib.hid (show s.mip = 136 by unfold St.mip b2i; simp [q1, q2, q3, q4, q5])
  have Q5 := Lib.hid q5
  have H := Lib.hid h
  clear h q1 q3 q4 q2 q5
  go_enter Try.func56, Try.ntmps56
  go_wp2
  go_quiet (fail)
  go_wp2_with (go_at_call 73; refine (up_any (H.out.keep0 ((Kept.refl [] w).drewN _)) hs).mono ?_; rw [Q5.out]; rintro e w2 ⟨rfl, hp, hk⟩; have HP := Lib.hid hp; have HK := Lib.hid hk; clear hp hk)
  go_ret
  exact ⟨ret_int (by rw [HV.out]), HP.out, ((Kept.refl [b] w).drewN _).trans HK.out (fun x hx _ => hx)⟩
set_option maxHeartbeats 4000000 in
set_option maxRecDepth 100000 in
theorem mip_9 (h : PL w b vr vi vo s) (hs : s.Ok) (q1 : ¬ s.msip = 1) (q2 : s.soft = true) (q3 : s.now < s.cmp) (q4 : s.ext = true) : Calls Try.prog 56 #[.pointer (some ⟨b, 0, none⟩)] w fun e w' => e = .returned (.int .u64 s.mip) ∧ PL w' b vr vi vo s ∧ Kept [b] w w' := by
  have c3 : w.cell? ⟨b, 3, none⟩ = some (.int .u32 s.msip) := h.cell 3 _ rfl
  have c4 : w.cell? ⟨b, 4, none⟩ = some (.int .u64 s.cmp) := h.cell 4 _ rfl
  have c5 : w.cell? ⟨b, 5, none⟩ = some (.int .u64 s.now) := h.cell 5 _ rfl
  have c15 : w.cell? ⟨b, 15, none⟩ = some (.bool s.ext) := h.cell 15 _ rfl
  have c16 : w.cell? ⟨b, 16, none⟩ = some (.bool s.soft) := h.cell 16 _ rfl
  have k1 : bits .or .u64 0 8 = 8 := by decide
  have k2 : bits .or .u64 0 128 = 128 := by decide
  have k3 : bits .or .u64 8 128 = 136 := by decide
  have k4 : bits .or .u64 0 2048 = 2048 := by decide
  have k5 : bits .or .u64 8 2048 = 2056 := by decide
  have k6 : bits .or .u64 128 2048 = 2176 := by decide
  have k7 : bits .or .u64 136 2048 = 2184 := by decide
  have b1 : (s.msip == 1) = false := by simpa using q1
  rw [q2] at c16
  have b3 : decide (s.cmp ≤ s.now) = false := by simpa using q3
  rw [q4] at c15
  have HV := Lib.hid (show s.mip = 2056 by unfold St.mip b2i; simp [q1, q2, Int.not_le.mpr q3, q4])
  have H := Lib.hid h
  clear h q1 q3 q4 q2
  go_enter Try.func56, Try.ntmps56
  go_wp2
  go_quiet (fail)
  go_wp2
  go_ret
  exact ⟨ret_int (by rw [HV.out]), H.out.keep0 ((Kept.refl [] w).drewN _), (Kept.refl [b] w).drewN _⟩
set_option maxHeartbeats 4000000 in
set_option maxRecDepth 100000 in
theorem mip_10 (h : PL w b vr vi vo s) (hs : s.Ok) (q1 : ¬ s.msip = 1) (q2 : s.soft = true) (q3 : s.now < s.cmp) (q4 : s.ext = false) (q5 : s.line = true) : Calls Try.prog 56 #[.pointer (some ⟨b, 0, none⟩)] w fun e w' => e = .returned (.int .u64 s.mip) ∧ PL w' b vr vi vo s ∧ Kept [b] w w' := by
  have c3 : w.cell? ⟨b, 3, none⟩ = some (.int .u32 s.msip) := h.cell 3 _ rfl
  have c4 : w.cell? ⟨b, 4, none⟩ = some (.int .u64 s.cmp) := h.cell 4 _ rfl
  have c5 : w.cell? ⟨b, 5, none⟩ = some (.int .u64 s.now) := h.cell 5 _ rfl
  have c15 : w.cell? ⟨b, 15, none⟩ = some (.bool s.ext) := h.cell 15 _ rfl
  have c16 : w.cell? ⟨b, 16, none⟩ = some (.bool s.soft) := h.cell 16 _ rfl
  have k1 : bits .or .u64 0 8 = 8 := by decide
  have k2 : bits .or .u64 0 128 = 128 := by decide
  have k3 : bits .or .u64 8 128 = 136 := by decide
  have k4 : bits .or .u64 0 2048 = 2048 := by decide
  have k5 : bits .or .u64 8 2048 = 2056 := by decide
  have k6 : bits .or .u64 128 2048 = 2176 := by decide
  have k7 : bits .or .u64 136 2048 = 2184 := by decide
  have b1 : (s.msip == 1) = false := by simpa using q1
  rw [q2] at c16
  have b3 : decide (s.cmp ≤ s.now) = false := by simpa using q3
  rw [q4] at c15
  have HV := Lib.hid (show s.mip = 2056 by unfold St.mip b2i; simp [q1, q2, Int.not_le.mpr q3, q4, q5])
  have Q5 := Lib.hid q5
  have H := Lib.hid h
  clear h q1 q3 q4 q2 q5
  go_enter Try.func56, Try.ntmps56
  go_wp2
  go_quiet (fail)
  go_wp2_with (go_at_call 73; refine (up_any (H.out.keep0 ((Kept.refl [] w).drewN _)) hs).mono ?_; rw [Q5.out]; rintro e w2 ⟨rfl, hp, hk⟩; have HP := Lib.hid hp; have HK := Lib.hid hk; clear hp hk)
  go_ret
  exact ⟨ret_int (by rw [HV.out]), HP.out, ((Kept.refl [b] w).drewN _).trans HK.out (fun x hx _ => hx)⟩
set_option maxHeartbeats 4000000 in
set_option maxRecDepth 100000 in
theorem mip_11 (h : PL w b vr vi vo s) (hs : s.Ok) (q1 : ¬ s.msip = 1) (q2 : s.soft = true) (q3 : s.now < s.cmp) (q4 : s.ext = false) (q5 : s.line = false) : Calls Try.prog 56 #[.pointer (some ⟨b, 0, none⟩)] w fun e w' => e = .returned (.int .u64 s.mip) ∧ PL w' b vr vi vo s ∧ Kept [b] w w' := by
  have c3 : w.cell? ⟨b, 3, none⟩ = some (.int .u32 s.msip) := h.cell 3 _ rfl
  have c4 : w.cell? ⟨b, 4, none⟩ = some (.int .u64 s.cmp) := h.cell 4 _ rfl
  have c5 : w.cell? ⟨b, 5, none⟩ = some (.int .u64 s.now) := h.cell 5 _ rfl
  have c15 : w.cell? ⟨b, 15, none⟩ = some (.bool s.ext) := h.cell 15 _ rfl
  have c16 : w.cell? ⟨b, 16, none⟩ = some (.bool s.soft) := h.cell 16 _ rfl
  have k1 : bits .or .u64 0 8 = 8 := by decide
  have k2 : bits .or .u64 0 128 = 128 := by decide
  have k3 : bits .or .u64 8 128 = 136 := by decide
  have k4 : bits .or .u64 0 2048 = 2048 := by decide
  have k5 : bits .or .u64 8 2048 = 2056 := by decide
  have k6 : bits .or .u64 128 2048 = 2176 := by decide
  have k7 : bits .or .u64 136 2048 = 2184 := by decide
  have b1 : (s.msip == 1) = false := by simpa using q1
  rw [q2] at c16
  have b3 : decide (s.cmp ≤ s.now) = false := by simpa using q3
  rw [q4] at c15
  have HV := Lib.hid (show s.mip = 8 by unfold St.mip b2i; simp [q1, q2, Int.not_le.mpr q3, q4, q5])
  have Q5 := Lib.hid q5
  have H := Lib.hid h
  clear h q1 q3 q4 q2 q5
  go_enter Try.func56, Try.ntmps56
  go_wp2
  go_quiet (fail)
  go_wp2_with (go_at_call 73; refine (up_any (H.out.keep0 ((Kept.refl [] w).drewN _)) hs).mono ?_; rw [Q5.out]; rintro e w2 ⟨rfl, hp, hk⟩; have HP := Lib.hid hp; have HK := Lib.hid hk; clear hp hk)
  go_ret
  exact ⟨ret_int (by rw [HV.out]), HP.out, ((Kept.refl [b] w).drewN _).trans HK.out (fun x hx _ => hx)⟩
set_option maxHeartbeats 4000000 in
set_option maxRecDepth 100000 in
theorem mip_12 (h : PL w b vr vi vo s) (hs : s.Ok) (q1 : ¬ s.msip = 1) (q2 : s.soft = false) (q3 : s.cmp ≤ s.now) (q4 : s.ext = true) : Calls Try.prog 56 #[.pointer (some ⟨b, 0, none⟩)] w fun e w' => e = .returned (.int .u64 s.mip) ∧ PL w' b vr vi vo s ∧ Kept [b] w w' := by
  have c3 : w.cell? ⟨b, 3, none⟩ = some (.int .u32 s.msip) := h.cell 3 _ rfl
  have c4 : w.cell? ⟨b, 4, none⟩ = some (.int .u64 s.cmp) := h.cell 4 _ rfl
  have c5 : w.cell? ⟨b, 5, none⟩ = some (.int .u64 s.now) := h.cell 5 _ rfl
  have c15 : w.cell? ⟨b, 15, none⟩ = some (.bool s.ext) := h.cell 15 _ rfl
  have c16 : w.cell? ⟨b, 16, none⟩ = some (.bool s.soft) := h.cell 16 _ rfl
  have k1 : bits .or .u64 0 8 = 8 := by decide
  have k2 : bits .or .u64 0 128 = 128 := by decide
  have k3 : bits .or .u64 8 128 = 136 := by decide
  have k4 : bits .or .u64 0 2048 = 2048 := by decide
  have k5 : bits .or .u64 8 2048 = 2056 := by decide
  have k6 : bits .or .u64 128 2048 = 2176 := by decide
  have k7 : bits .or .u64 136 2048 = 2184 := by decide
  have b1 : (s.msip == 1) = false := by simpa using q1
  rw [q2] at c16
  have b3 : decide (s.cmp ≤ s.now) = true := by simpa using q3
  rw [q4] at c15
  have HV := Lib.hid (show s.mip = 2176 by unfold St.mip b2i; simp [q1, q2, q3, q4])
  have H := Lib.hid h
  clear h q1 q3 q4 q2
  go_enter Try.func56, Try.ntmps56
  go_wp2
  go_quiet (fail)
  go_wp2
  go_ret
  exact ⟨ret_int (by rw [HV.out]), H.out.keep0 ((Kept.refl [] w).drewN _), (Kept.refl [b] w).drewN _⟩
set_option maxHeartbeats 4000000 in
set_option maxRecDepth 100000 in
theorem mip_13 (h : PL w b vr vi vo s) (hs : s.Ok) (q1 : ¬ s.msip = 1) (q2 : s.soft = false) (q3 : s.cmp ≤ s.now) (q4 : s.ext = false) (q5 : s.line = true) : Calls Try.prog 56 #[.pointer (some ⟨b, 0, none⟩)] w fun e w' => e = .returned (.int .u64 s.mip) ∧ PL w' b vr vi vo s ∧ Kept [b] w w' := by
  have c3 : w.cell? ⟨b, 3, none⟩ = some (.int .u32 s.msip) := h.cell 3 _ rfl
  have c4 : w.cell? ⟨b, 4, none⟩ = some (.int .u64 s.cmp) := h.cell 4 _ rfl
  have c5 : w.cell? ⟨b, 5, none⟩ = some (.int .u64 s.now) := h.cell 5 _ rfl
  have c15 : w.cell? ⟨b, 15, none⟩ = some (.bool s.ext) := h.cell 15 _ rfl
  have c16 : w.cell? ⟨b, 16, none⟩ = some (.bool s.soft) := h.cell 16 _ rfl
  have k1 : bits .or .u64 0 8 = 8 := by decide
  have k2 : bits .or .u64 0 128 = 128 := by decide
  have k3 : bits .or .u64 8 128 = 136 := by decide
  have k4 : bits .or .u64 0 2048 = 2048 := by decide
  have k5 : bits .or .u64 8 2048 = 2056 := by decide
  have k6 : bits .or .u64 128 2048 = 2176 := by decide
  have k7 : bits .or .u64 136 2048 = 2184 := by decide
  have b1 : (s.msip == 1) = false := by simpa using q1
  rw [q2] at c16
  have b3 : decide (s.cmp ≤ s.now) = true := by simpa using q3
  rw [q4] at c15
  have HV := Lib.hid (show s.mip = 2176 by unfold St.mip b2i; simp [q1, q2, q3, q4, q5])
  have Q5 := Lib.hid q5
  have H := Lib.hid h
  clear h q1 q3 q4 q2 q5
  go_enter Try.func56, Try.ntmps56
  go_wp2
  go_quiet (fail)
  go_wp2_with (go_at_call 73; refine (up_any (H.out.keep0 ((Kept.refl [] w).drewN _)) hs).mono ?_; rw [Q5.out]; rintro e w2 ⟨rfl, hp, hk⟩; have HP := Lib.hid hp; have HK := Lib.hid hk; clear hp hk)
  go_ret
  exact ⟨ret_int (by rw [HV.out]), HP.out, ((Kept.refl [b] w).drewN _).trans HK.out (fun x hx _ => hx)⟩
set_option maxHeartbeats 4000000 in
set_option maxRecDepth 100000 in
theorem mip_14 (h : PL w b vr vi vo s) (hs : s.Ok) (q1 : ¬ s.msip = 1) (q2 : s.soft = false) (q3 : s.cmp ≤ s.now) (q4 : s.ext = false) (q5 : s.line = false) : Calls Try.prog 56 #[.pointer (some ⟨b, 0, none⟩)] w fun e w' => e = .returned (.int .u64 s.mip) ∧ PL w' b vr vi vo s ∧ Kept [b] w w' := by
  have c3 : w.cell? ⟨b, 3, none⟩ = some (.int .u32 s.msip) := h.cell 3 _ rfl
  have c4 : w.cell? ⟨b, 4, none⟩ = some (.int .u64 s.cmp) := h.cell 4 _ rfl
  have c5 : w.cell? ⟨b, 5, none⟩ = some (.int .u64 s.now) := h.cell 5 _ rfl
  have c15 : w.cell? ⟨b, 15, none⟩ = some (.bool s.ext) := h.cell 15 _ rfl
  have c16 : w.cell? ⟨b, 16, none⟩ = some (.bool s.soft) := h.cell 16 _ rfl
  have k1 : bits .or .u64 0 8 = 8 := by decide
  have k2 : bits .or .u64 0 128 = 128 := by decide
  have k3 : bits .or .u64 8 128 = 136 := by decide
  have k4 : bits .or .u64 0 2048 = 2048 := by decide
  have k5 : bits .or .u64 8 2048 = 2056 := by decide
  have k6 : bits .or .u64 128 2048 = 2176 := by decide
  have k7 : bits .or .u64 136 2048 = 2184 := by decide
  have b1 : (s.msip == 1) = false := by simpa using q1
  rw [q2] at c16
  have b3 : decide (s.cmp ≤ s.now) = true := by simpa using q3
  rw [q4] at c15
  have HV := Lib.hid (show s.mip = 128 by unfold St.mip b2i; simp [q1, q2, q3, q4, q5])
  have Q5 := Lib.hid q5
  have H := Lib.hid h
  clear h q1 q3 q4 q2 q5
  go_enter Try.func56, Try.ntmps56
  go_wp2
  go_quiet (fail)
  go_wp2_with (go_at_call 73; refine (up_any (H.out.keep0 ((Kept.refl [] w).drewN _)) hs).mono ?_; rw [Q5.out]; rintro e w2 ⟨rfl, hp, hk⟩; have HP := Lib.hid hp; have HK := Lib.hid hk; clear hp hk)
  go_ret
  exact ⟨ret_int (by rw [HV.out]), HP.out, ((Kept.refl [b] w).drewN _).trans HK.out (fun x hx _ => hx)⟩
set_option maxHeartbeats 4000000 in
set_option maxRecDepth 100000 in
theorem mip_15 (h : PL w b vr vi vo s) (hs : s.Ok) (q1 : ¬ s.msip = 1) (q2 : s.soft = false) (q3 : s.now < s.cmp) (q4 : s.ext = true) : Calls Try.prog 56 #[.pointer (some ⟨b, 0, none⟩)] w fun e w' => e = .returned (.int .u64 s.mip) ∧ PL w' b vr vi vo s ∧ Kept [b] w w' := by
  have c3 : w.cell? ⟨b, 3, none⟩ = some (.int .u32 s.msip) := h.cell 3 _ rfl
  have c4 : w.cell? ⟨b, 4, none⟩ = some (.int .u64 s.cmp) := h.cell 4 _ rfl
  have c5 : w.cell? ⟨b, 5, none⟩ = some (.int .u64 s.now) := h.cell 5 _ rfl
  have c15 : w.cell? ⟨b, 15, none⟩ = some (.bool s.ext) := h.cell 15 _ rfl
  have c16 : w.cell? ⟨b, 16, none⟩ = some (.bool s.soft) := h.cell 16 _ rfl
  have k1 : bits .or .u64 0 8 = 8 := by decide
  have k2 : bits .or .u64 0 128 = 128 := by decide
  have k3 : bits .or .u64 8 128 = 136 := by decide
  have k4 : bits .or .u64 0 2048 = 2048 := by decide
  have k5 : bits .or .u64 8 2048 = 2056 := by decide
  have k6 : bits .or .u64 128 2048 = 2176 := by decide
  have k7 : bits .or .u64 136 2048 = 2184 := by decide
  have b1 : (s.msip == 1) = false := by simpa using q1
  rw [q2] at c16
  have b3 : decide (s.cmp ≤ s.now) = false := by simpa using q3
  rw [q4] at c15
  have HV := Lib.hid (show s.mip = 2048 by unfold St.mip b2i; simp [q1, q2, Int.not_le.mpr q3, q4])
  have H := Lib.hid h
  clear h q1 q3 q4 q2
  go_enter Try.func56, Try.ntmps56
  go_wp2
  go_quiet (fail)
  go_wp2
  go_ret
  exact ⟨ret_int (by rw [HV.out]), H.out.keep0 ((Kept.refl [] w).drewN _), (Kept.refl [b] w).drewN _⟩
set_option maxHeartbeats 4000000 in
set_option maxRecDepth 100000 in
theorem mip_16 (h : PL w b vr vi vo s) (hs : s.Ok) (q1 : ¬ s.msip = 1) (q2 : s.soft = false) (q3 : s.now < s.cmp) (q4 : s.ext = false) (q5 : s.line = true) : Calls Try.prog 56 #[.pointer (some ⟨b, 0, none⟩)] w fun e w' => e = .returned (.int .u64 s.mip) ∧ PL w' b vr vi vo s ∧ Kept [b] w w' := by
  have c3 : w.cell? ⟨b, 3, none⟩ = some (.int .u32 s.msip) := h.cell 3 _ rfl
  have c4 : w.cell? ⟨b, 4, none⟩ = some (.int .u64 s.cmp) := h.cell 4 _ rfl
  have c5 : w.cell? ⟨b, 5, none⟩ = some (.int .u64 s.now) := h.cell 5 _ rfl
  have c15 : w.cell? ⟨b, 15, none⟩ = some (.bool s.ext) := h.cell 15 _ rfl
  have c16 : w.cell? ⟨b, 16, none⟩ = some (.bool s.soft) := h.cell 16 _ rfl
  have k1 : bits .or .u64 0 8 = 8 := by decide
  have k2 : bits .or .u64 0 128 = 128 := by decide
  have k3 : bits .or .u64 8 128 = 136 := by decide
  have k4 : bits .or .u64 0 2048 = 2048 := by decide
  have k5 : bits .or .u64 8 2048 = 2056 := by decide
  have k6 : bits .or .u64 128 2048 = 2176 := by decide
  have k7 : bits .or .u64 136 2048 = 2184 := by decide
  have b1 : (s.msip == 1) = false := by simpa using q1
  rw [q2] at c16
  have b3 : decide (s.cmp ≤ s.now) = false := by simpa using q3
  rw [q4] at c15
  have HV := Lib.hid (show s.mip = 2048 by unfold St.mip b2i; simp [q1, q2, Int.not_le.mpr q3, q4, q5])
  have Q5 := Lib.hid q5
  have H := Lib.hid h
  clear h q1 q3 q4 q2 q5
  go_enter Try.func56, Try.ntmps56
  go_wp2
  go_quiet (fail)
  go_wp2_with (go_at_call 73; refine (up_any (H.out.keep0 ((Kept.refl [] w).drewN _)) hs).mono ?_; rw [Q5.out]; rintro e w2 ⟨rfl, hp, hk⟩; have HP := Lib.hid hp; have HK := Lib.hid hk; clear hp hk)
  go_ret
  exact ⟨ret_int (by rw [HV.out]), HP.out, ((Kept.refl [b] w).drewN _).trans HK.out (fun x hx _ => hx)⟩
set_option maxHeartbeats 4000000 in
set_option maxRecDepth 100000 in
theorem mip_17 (h : PL w b vr vi vo s) (hs : s.Ok) (q1 : ¬ s.msip = 1) (q2 : s.soft = false) (q3 : s.now < s.cmp) (q4 : s.ext = false) (q5 : s.line = false) : Calls Try.prog 56 #[.pointer (some ⟨b, 0, none⟩)] w fun e w' => e = .returned (.int .u64 s.mip) ∧ PL w' b vr vi vo s ∧ Kept [b] w w' := by
  have c3 : w.cell? ⟨b, 3, none⟩ = some (.int .u32 s.msip) := h.cell 3 _ rfl
  have c4 : w.cell? ⟨b, 4, none⟩ = some (.int .u64 s.cmp) := h.cell 4 _ rfl
  have c5 : w.cell? ⟨b, 5, none⟩ = some (.int .u64 s.now) := h.cell 5 _ rfl
  have c15 : w.cell? ⟨b, 15, none⟩ = some (.bool s.ext) := h.cell 15 _ rfl
  have c16 : w.cell? ⟨b, 16, none⟩ = some (.bool s.soft) := h.cell 16 _ rfl
  have k1 : bits .or .u64 0 8 = 8 := by decide
  have k2 : bits .or .u64 0 128 = 128 := by decide
  have k3 : bits .or .u64 8 128 = 136 := by decide
  have k4 : bits .or .u64 0 2048 = 2048 := by decide
  have k5 : bits .or .u64 8 2048 = 2056 := by decide
  have k6 : bits .or .u64 128 2048 = 2176 := by decide
  have k7 : bits .or .u64 136 2048 = 2184 := by decide
  have b1 : (s.msip == 1) = false := by simpa using q1
  rw [q2] at c16
  have b3 : decide (s.cmp ≤ s.now) = false := by simpa using q3
  rw [q4] at c15
  have HV := Lib.hid (show s.mip = 0 by unfold St.mip b2i; simp [q1, q2, Int.not_le.mpr q3, q4, q5])
  have Q5 := Lib.hid q5
  have H := Lib.hid h
  clear h q1 q3 q4 q2 q5
  go_enter Try.func56, Try.ntmps56
  go_wp2
  go_quiet (fail)
  go_wp2_with (go_at_call 73; refine (up_any (H.out.keep0 ((Kept.refl [] w).drewN _)) hs).mono ?_; rw [Q5.out]; rintro e w2 ⟨rfl, hp, hk⟩; have HP := Lib.hid hp; have HK := Lib.hid hk; clear hp hk)
  go_ret
  exact ⟨ret_int (by rw [HV.out]), HP.out, ((Kept.refl [b] w).drewN _).trans HK.out (fun x hx _ => hx)⟩
theorem mip_any (h : PL w b vr vi vo s) (hs : s.Ok) : Calls Try.prog 56 #[.pointer (some ⟨b, 0, none⟩)] w fun e w' => e = .returned (.int .u64 s.mip) ∧ PL w' b vr vi vo s ∧ Kept [b] w w' := by
  by_cases q1 : s.msip = 1
  · by_cases q3 : s.cmp ≤ s.now
    · cases q4 : s.ext
      · cases q5 : s.line
        · exact mip_2 h hs q1 q3 q4 q5
        · exact mip_1 h hs q1 q3 q4 q5
      · exact mip_0 h hs q1 q3 q4
    · have q3 : s.now < s.cmp := by omega
      cases q4 : s.ext
      · cases q5 : s.line
        · exact mip_5 h hs q1 q3 q4 q5
        · exact mip_4 h hs q1 q3 q4 q5
      · exact mip_3 h hs q1 q3 q4
  · cases q2 : s.soft
    · by_cases q3 : s.cmp ≤ s.now
      · cases q4 : s.ext
        · cases q5 : s.line
          · exact mip_14 h hs q1 q2 q3 q4 q5
          · exact mip_13 h hs q1 q2 q3 q4 q5
        · exact mip_12 h hs q1 q2 q3 q4
      · have q3 : s.now < s.cmp := by omega
        cases q4 : s.ext
        · cases q5 : s.line
          · exact mip_17 h hs q1 q2 q3 q4 q5
          · exact mip_16 h hs q1 q2 q3 q4 q5
        · exact mip_15 h hs q1 q2 q3 q4
    · by_cases q3 : s.cmp ≤ s.now
      · cases q4 : s.ext
        · cases q5 : s.line
          · exact mip_8 h hs q1 q2 q3 q4 q5
          · exact mip_7 h hs q1 q2 q3 q4 q5
        · exact mip_6 h hs q1 q2 q3 q4
      · have q3 : s.now < s.cmp := by omega
        cases q4 : s.ext
        · cases q5 : s.line
          · exact mip_11 h hs q1 q2 q3 q4 q5
          · exact mip_10 h hs q1 q2 q3 q4 q5
        · exact mip_9 h hs q1 q2 q3 q4
end
end Go.Proofs.Ytkocfcgdjjdnhaa.BW
