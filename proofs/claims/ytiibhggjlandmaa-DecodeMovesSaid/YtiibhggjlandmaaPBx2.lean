-- Written by a program (a turned copy of the kit's print.py) for this claim. Lean checks it.
import Derived.Test.YtiibhggjlandmaaPBx0
import Derived.Test.YtiibhggjlandmaaPBx1
namespace Go.Proofs.Ytiibhggjlandmaa.PB
open Go.RowKit Go.Proofs.YtiibhggjlandmaaW.PrintWords Go.Proofs.YtiibhggjlandmaaW.PrintLast Go.Proofs.YtiibhggjlandmaaW.PrintMore Go.Proofs.Ytiibhggjlandmaa.PE
attribute [local go_sem] max2_int min2_int max_two min_two max_three min_three max_four min_four   -- for this text's walks alone
set_option linter.unusedVariables false
set_option linter.unusedSimpArgs false

/-! ### decode_r: function 71 -/
def decode_r.f (k : Nat) (a0 : Int) : Option (Int) := (decode_bits.f k a0 11 7 0).bind fun t151 => (some t151)
theorem decode_r.mono : ∀ a0 k, LeO (decode_r.f k a0) (decode_r.f (k + 1) a0) := by
  intro a0 k
  unfold decode_r.f
  repeat' first
      | (with_reducible exact decode_bits.mono _ _ _ _ _)
      | (with_reducible exact LeO.refl _)
      | (with_reducible exact LeO.none _)
      | (with_reducible refine LeO.ite ?_ ?_)
      | (with_reducible refine LeO.bind ?_ (fun _ => ?_))
      | exact decode_bits.mono _ _ _ _ _
      | exact LeO.none _
      | refine LeO.ite ?_ ?_
      | refine LeO.bind ?_ (fun _ => ?_)
set_option maxHeartbeats 8000000 in
set_option maxRecDepth 100000 in
theorem decode_r.calls (k : Nat) (a0 : Int) (r : Int) (w : World) (h : decode_r.f k a0 = some r) :
    Calls Try.prog 71 #[.int .u32 a0] w fun e w' => e = .returned (.int .u32 r) ∧ Drawn0 w w' := by
  have H : ((decode_bits.f k a0 11 7 0).bind fun t151 => (some t151)) = some r := h
  clear h
  replace H := Option.bind_eq_some_iff.mp H
  obtain ⟨t151, A20, H⟩ := H
  replace H : (some t151) = some r := H
  have A2 := Aside0.mk A20
  clear A20
  obtain rfl := Option.some.inj H
  go_enter Try.func71, Try.ntmps71
  go_wp2_with (first | ((with_reducible refine gate_callee (f := 64) rfl ?_); refine goesL_ (some 4) rfl rfl Try.func64 (by kernel_rfl) rfl #[.int .u32 a0, .int .i64 11, .int .i64 7, .int .i64 0] rfl (by (try simp only [List.map_toArray, List.map_cons, List.map_nil]); first | done | rfl | (simp only [List.length_drop, List.length_take]; rfl)) ?_; (with_reducible refine (decode_bits.calls k a0 11 7 0 t151 _ A2.out).mono ?_); rintro e w' ⟨rfl, ⟨nd, rfl⟩⟩; refine ⟨_, rfl, ?_⟩))
  go_ret
  exact ⟨by first | rfl | (simp; done) | (simp [*]; done), by repeat (first | exact Drawn0.refl _ | apply Drawn0.step)⟩

/-! ### arith_Extend: function 79 -/
def arith_Extend.f (a0 : Int) (a1 : Int) : Option (Int) := if a1 ≤ 0 then (some 0) else (if a1 ≥ 64 then (some a0) else (if 0 ≤ (wrap64 (64 - a1)) then (some (IntKind.u64.wrap (shr .i64 (wrap64 (shl .u64 a0 (wrap64 (64 - a1)))) (wrap64 (64 - a1))))) else (none)))
set_option maxHeartbeats 8000000 in
set_option maxRecDepth 100000 in
theorem arith_Extend.calls (a0 : Int) (a1 : Int) (r : Int) (w : World) (h : arith_Extend.f a0 a1 = some r) :
    Calls Try.prog 79 #[.int .u64 a0, .int .i64 a1] w fun e w' => e = .returned (.int .u64 r) ∧ Drawn0 w w' := by
  have H : (if a1 ≤ 0 then (some 0) else (if a1 ≥ 64 then (some a0) else (if 0 ≤ (wrap64 (64 - a1)) then (some (IntKind.u64.wrap (shr .i64 (wrap64 (shl .u64 a0 (wrap64 (64 - a1)))) (wrap64 (64 - a1))))) else (none)))) = some r := h
  clear h
  by_cases c3 : a1 ≤ 0
  · rw [if_pos c3] at H
    have c3b0 : decide (a1 ≤ 0) = true := decide_eq_true c3
    clear c3
    obtain rfl := Option.some.inj H
    go_enter Try.func79, Try.ntmps79
    go_wp2
    go_ret
    exact ⟨by first | rfl | (simp; done) | (simp [*]; done), by repeat (first | exact Drawn0.refl _ | apply Drawn0.step)⟩
  · rw [if_neg c3] at H
    have c3b0 : decide (a1 ≤ 0) = false := decide_eq_false c3
    clear c3
    by_cases c4 : a1 ≥ 64
    · rw [if_pos c4] at H
      have c4b0 : decide (64 ≤ a1) = true := decide_eq_true c4
      clear c4
      obtain rfl := Option.some.inj H
      go_enter Try.func79, Try.ntmps79
      go_wp2
      go_ret
      exact ⟨by first | rfl | (simp; done) | (simp [*]; done), by repeat (first | exact Drawn0.refl _ | apply Drawn0.step)⟩
    · rw [if_neg c4] at H
      have c4b0 : decide (64 ≤ a1) = false := decide_eq_false c4
      clear c4
      obtain ⟨ji5, hji5⟩ : ∃ j_ : Int, (wrap64 (64 - a1)) = j_ := ⟨_, rfl⟩
      replace H : (if 0 ≤ (ji5) then (some (IntKind.u64.wrap (shr .i64 (wrap64 (shl .u64 a0 (ji5))) (ji5)))) else (none)) = some r := by first | (rw [hji5] at H; exact H) | (simp only [hji5] at H ⊢; exact H)
      have hji5w : (IntKind.i64.wrap (64 - a1)) = ji5 := (i64_w _).trans hji5
      by_cases c6 : 0 ≤ (ji5)
      · rw [if_pos c6] at H
        have c6b0 := eq_true c6
        have c6b1 : decide (0 ≤ (ji5)) = true := decide_eq_true c6
        clear c6
        obtain ⟨ji7, hji7⟩ : ∃ j_ : Int, (shl .u64 a0 (ji5)) = j_ := ⟨_, rfl⟩
        replace H : (some (IntKind.u64.wrap (shr .i64 (wrap64 (ji7)) (ji5)))) = some r := by first | (rw [hji7] at H; exact H) | (simp only [hji7] at H ⊢; exact H)
        have hji7_ : (IntKind.u64.wrap (a0 * 2 ^ min (ji5).toNat 64)) = ji7 := hji7
        have hji7z : (ji5) ≤ 64 → (IntKind.u64.wrap (a0 * 2 ^ (ji5).toNat)) = ji7 := shl_small hji7
        have c8b0 := eq_true (of_decide_eq_true (by first | (with_reducible assumption) | assumption) : 0 ≤ (ji5))
        obtain ⟨ji9, hji9⟩ : ∃ j_ : Int, (shr .i64 (wrap64 (ji7)) (ji5)) = j_ := ⟨_, rfl⟩
        replace H : (some (IntKind.u64.wrap (ji9))) = some r := by first | (rw [hji9] at H; exact H) | (simp only [hji9] at H ⊢; exact H)
        have hji9_ : ((wrap64 (ji7)) / 2 ^ min (ji5).toNat 64) = ji9 := hji9
        have hji9z : (ji5) ≤ 64 → ((wrap64 (ji7)) / 2 ^ (ji5).toNat) = ji9 := shr_small hji9
        obtain rfl := Option.some.inj H
        go_enter Try.func79, Try.ntmps79
        go_wp2
        go_ret
        exact ⟨by first | rfl | (simp; done) | (simp only [← hji5, ← hji7, ← hji9] <;> (first | rfl | simp)) | (simp [*]; done), by repeat (first | exact Drawn0.refl _ | apply Drawn0.step)⟩
      · rw [if_neg c6] at H
        exact absurd H (by simp)

/-! ### decode_signed: function 61 -/
def decode_signed.f (a0 : Int) (a1 : Int) : Option (Int) := (arith_Extend.f (IntKind.u64.wrap (a0)) a1).bind fun t152 => (some (wrap64 (t152)))
set_option maxHeartbeats 8000000 in
set_option maxRecDepth 100000 in
theorem decode_signed.calls (a0 : Int) (a1 : Int) (r : Int) (w : World) (h : decode_signed.f a0 a1 = some r) :
    Calls Try.prog 61 #[.int .i64 a0, .int .i64 a1] w fun e w' => e = .returned (.int .i64 r) ∧ Drawn0 w w' := by
  have H : ((arith_Extend.f (IntKind.u64.wrap (a0)) a1).bind fun t152 => (some (wrap64 (t152)))) = some r := h
  clear h
  replace H := Option.bind_eq_some_iff.mp H
  obtain ⟨t152, A30, H⟩ := H
  replace H : (some (wrap64 (t152))) = some r := H
  have A3 := Aside0.mk A30
  clear A30
  obtain rfl := Option.some.inj H
  go_enter Try.func61, Try.ntmps61
  go_wp2_with (first | ((with_reducible refine gate_callee (f := 79) rfl ?_); refine goesL_ (some 8) rfl rfl Try.func79 (by kernel_rfl) rfl #[.int .u64 (IntKind.u64.wrap (a0)), .int .i64 a1] rfl (by (try simp only [List.map_toArray, List.map_cons, List.map_nil]); first | done | rfl | (simp only [List.length_drop, List.length_take]; rfl)) ?_; (with_reducible refine (arith_Extend.calls (IntKind.u64.wrap (a0)) a1 t152 _ A3.out).mono ?_); rintro e w' ⟨rfl, ⟨nd, rfl⟩⟩; refine ⟨_, rfl, ?_⟩))
  go_ret
  exact ⟨by first | rfl | (simp; done) | (simp [*]; done), by repeat (first | exact Drawn0.refl _ | apply Drawn0.step)⟩

/-! ### decode_t: function 76 -/
def decode_t.f (k : Nat) (a0 : Int) : Option (Int) := (decode_bits.f k a0 6 2 0).bind fun t153 => (some t153)
theorem decode_t.mono : ∀ a0 k, LeO (decode_t.f k a0) (decode_t.f (k + 1) a0) := by
  intro a0 k
  unfold decode_t.f
  repeat' first
      | (with_reducible exact decode_bits.mono _ _ _ _ _)
      | (with_reducible exact LeO.refl _)
      | (with_reducible exact LeO.none _)
      | (with_reducible refine LeO.ite ?_ ?_)
      | (with_reducible refine LeO.bind ?_ (fun _ => ?_))
      | exact decode_bits.mono _ _ _ _ _
      | exact LeO.none _
      | refine LeO.ite ?_ ?_
      | refine LeO.bind ?_ (fun _ => ?_)
set_option maxHeartbeats 8000000 in
set_option maxRecDepth 100000 in
theorem decode_t.calls (k : Nat) (a0 : Int) (r : Int) (w : World) (h : decode_t.f k a0 = some r) :
    Calls Try.prog 76 #[.int .u32 a0] w fun e w' => e = .returned (.int .u32 r) ∧ Drawn0 w w' := by
  have H : ((decode_bits.f k a0 6 2 0).bind fun t153 => (some t153)) = some r := h
  clear h
  replace H := Option.bind_eq_some_iff.mp H
  obtain ⟨t153, A20, H⟩ := H
  replace H : (some t153) = some r := H
  have A2 := Aside0.mk A20
  clear A20
  obtain rfl := Option.some.inj H
  go_enter Try.func76, Try.ntmps76
  go_wp2_with (first | ((with_reducible refine gate_callee (f := 64) rfl ?_); refine goesL_ (some 4) rfl rfl Try.func64 (by kernel_rfl) rfl #[.int .u32 a0, .int .i64 6, .int .i64 2, .int .i64 0] rfl (by (try simp only [List.map_toArray, List.map_cons, List.map_nil]); first | done | rfl | (simp only [List.length_drop, List.length_take]; rfl)) ?_; (with_reducible refine (decode_bits.calls k a0 6 2 0 t153 _ A2.out).mono ?_); rintro e w' ⟨rfl, ⟨nd, rfl⟩⟩; refine ⟨_, rfl, ?_⟩))
  go_ret
  exact ⟨by first | rfl | (simp; done) | (simp [*]; done), by repeat (first | exact Drawn0.refl _ | apply Drawn0.step)⟩

/-! ### decode_s6: function 73 -/
def decode_s6.f (k : Nat) (a0 : Int) : Option (Int) := (decode_bits.f k a0 12 12 5).bind fun t154 => ((decode_t.f k a0).bind fun t155 => (some (Go.bits .or .u32 t154 t155)))
theorem decode_s6.mono : ∀ a0 k, LeO (decode_s6.f k a0) (decode_s6.f (k + 1) a0) := by
  intro a0 k
  unfold decode_s6.f
  repeat' first
      | (with_reducible exact decode_bits.mono _ _ _ _ _)
      | (with_reducible exact decode_t.mono _ _)
      | (with_reducible exact LeO.refl _)
      | (with_reducible exact LeO.none _)
      | (with_reducible refine LeO.ite ?_ ?_)
      | (with_reducible refine LeO.bind ?_ (fun _ => ?_))
      | exact decode_bits.mono _ _ _ _ _
      | exact decode_t.mono _ _
      | exact LeO.none _
      | refine LeO.ite ?_ ?_
      | refine LeO.bind ?_ (fun _ => ?_)
set_option maxHeartbeats 8000000 in
set_option maxRecDepth 100000 in
theorem decode_s6.calls (k : Nat) (a0 : Int) (r : Int) (w : World) (h : decode_s6.f k a0 = some r) :
    Calls Try.prog 73 #[.int .u32 a0] w fun e w' => e = .returned (.int .u32 r) ∧ Drawn0 w w' := by
  have H : ((decode_bits.f k a0 12 12 5).bind fun t154 => ((decode_t.f k a0).bind fun t155 => (some (Go.bits .or .u32 t154 t155)))) = some r := h
  clear h
  replace H := Option.bind_eq_some_iff.mp H
  obtain ⟨t154, A20, H⟩ := H
  replace H : ((decode_t.f k a0).bind fun t155 => (some (Go.bits .or .u32 t154 t155))) = some r := H
  have A2 := Aside0.mk A20
  clear A20
  replace H := Option.bind_eq_some_iff.mp H
  obtain ⟨t155, A30, H⟩ := H
  replace H : (some (Go.bits .or .u32 t154 t155)) = some r := H
  have A3 := Aside0.mk A30
  clear A30
  obtain rfl := Option.some.inj H
  go_enter Try.func73, Try.ntmps73
  go_wp2_with (first | ((with_reducible refine gate_callee (f := 64) rfl ?_); refine goesL_ (some 4) rfl rfl Try.func64 (by kernel_rfl) rfl #[.int .u32 a0, .int .i64 12, .int .i64 12, .int .i64 5] rfl (by (try simp only [List.map_toArray, List.map_cons, List.map_nil]); first | done | rfl | (simp only [List.length_drop, List.length_take]; rfl)) ?_; (with_reducible refine (decode_bits.calls k a0 12 12 5 t154 _ A2.out).mono ?_); rintro e w' ⟨rfl, ⟨nd, rfl⟩⟩; refine ⟨_, rfl, ?_⟩) | ((with_reducible refine gate_callee (f := 76) rfl ?_); refine goesL_ (some 6) rfl rfl Try.func76 (by kernel_rfl) rfl #[.int .u32 a0] rfl (by (try simp only [List.map_toArray, List.map_cons, List.map_nil]); first | done | rfl | (simp only [List.length_drop, List.length_take]; rfl)) ?_; (with_reducible refine (decode_t.calls k a0 t155 _ A3.out).mono ?_); rintro e w' ⟨rfl, ⟨nd, rfl⟩⟩; refine ⟨_, rfl, ?_⟩))
  go_ret
  exact ⟨by first | rfl | (simp; done) | (simp [*]; done), by repeat (first | exact Drawn0.refl _ | apply Drawn0.step)⟩

/-! ### decode_i6: function 72 -/
def decode_i6.f (k : Nat) (a0 : Int) : Option (Int) := (decode_s6.f k a0).bind fun t156 => ((decode_signed.f (wrap64 (t156)) 6).bind fun t157 => (some (Go.bits .and .u32 ((t157) % 4294967296) 4095)))
theorem decode_i6.mono : ∀ a0 k, LeO (decode_i6.f k a0) (decode_i6.f (k + 1) a0) := by
  intro a0 k
  unfold decode_i6.f
  repeat' first
      | (with_reducible exact decode_s6.mono _ _)
      | (with_reducible exact LeO.refl _)
      | (with_reducible exact LeO.none _)
      | (with_reducible refine LeO.ite ?_ ?_)
      | (with_reducible refine LeO.bind ?_ (fun _ => ?_))
      | exact decode_s6.mono _ _
      | exact LeO.none _
      | refine LeO.ite ?_ ?_
      | refine LeO.bind ?_ (fun _ => ?_)
set_option maxHeartbeats 8000000 in
set_option maxRecDepth 100000 in
theorem decode_i6.calls (k : Nat) (a0 : Int) (r : Int) (w : World) (h : decode_i6.f k a0 = some r) :
    Calls Try.prog 72 #[.int .u32 a0] w fun e w' => e = .returned (.int .u32 r) ∧ Drawn0 w w' := by
  have H : ((decode_s6.f k a0).bind fun t156 => ((decode_signed.f (wrap64 (t156)) 6).bind fun t157 => (some (Go.bits .and .u32 ((t157) % 4294967296) 4095)))) = some r := h
  clear h
  replace H := Option.bind_eq_some_iff.mp H
  obtain ⟨t156, A20, H⟩ := H
  replace H : ((decode_signed.f (wrap64 (t156)) 6).bind fun t157 => (some (Go.bits .and .u32 ((t157) % 4294967296) 4095))) = some r := H
  have A2 := Aside0.mk A20
  clear A20
  replace H := Option.bind_eq_some_iff.mp H
  obtain ⟨t157, A30, H⟩ := H
  replace H : (some (Go.bits .and .u32 ((t157) % 4294967296) 4095)) = some r := H
  have A3 := Aside0.mk A30
  clear A30
  obtain rfl := Option.some.inj H
  go_enter Try.func72, Try.ntmps72
  go_wp2_with (first | ((with_reducible refine gate_callee (f := 73) rfl ?_); refine goesL_ (some 4) rfl rfl Try.func73 (by kernel_rfl) rfl #[.int .u32 a0] rfl (by (try simp only [List.map_toArray, List.map_cons, List.map_nil]); first | done | rfl | (simp only [List.length_drop, List.length_take]; rfl)) ?_; (with_reducible refine (decode_s6.calls k a0 t156 _ A2.out).mono ?_); rintro e w' ⟨rfl, ⟨nd, rfl⟩⟩; refine ⟨_, rfl, ?_⟩) | ((with_reducible refine gate_callee (f := 61) rfl ?_); refine goesL_ (some 6) rfl rfl Try.func61 (by kernel_rfl) rfl #[.int .i64 (wrap64 (t156)), .int .i64 6] rfl (by (try simp only [List.map_toArray, List.map_cons, List.map_nil]); first | done | rfl | (simp only [List.length_drop, List.length_take]; rfl)) ?_; (with_reducible refine (decode_signed.calls (wrap64 (t156)) 6 t157 _ A3.out).mono ?_); rintro e w' ⟨rfl, ⟨nd, rfl⟩⟩; refine ⟨_, rfl, ?_⟩))
  go_ret
  exact ⟨by first | rfl | (simp; done) | (simp [*]; done), by repeat (first | exact Drawn0.refl _ | apply Drawn0.step)⟩

/-! ### decode_addi: function 37 -/
def decode_addi.f (k : Nat) (a0 : Int) : Option (Int × Bool) := (decode_r.f k a0).bind fun t158 => ((decode_r.f k a0).bind fun t159 => ((decode_i6.f k a0).bind fun t160 => ((decode_typeI.f 19 0 t158 t159 t160).bind fun bt161 => (some (bt161.1, bt161.2)))))
theorem decode_addi.mono : ∀ a0 k, LeO (decode_addi.f k a0) (decode_addi.f (k + 1) a0) := by
  intro a0 k
  unfold decode_addi.f
  repeat' first
      | (with_reducible exact decode_i6.mono _ _)
      | (with_reducible exact decode_r.mono _ _)
      | (with_reducible exact LeO.refl _)
      | (with_reducible exact LeO.none _)
      | (with_reducible refine LeO.ite ?_ ?_)
      | (with_reducible refine LeO.bind ?_ (fun _ => ?_))
      | exact decode_i6.mono _ _
      | exact decode_r.mono _ _
      | exact LeO.none _
      | refine LeO.ite ?_ ?_
      | refine LeO.bind ?_ (fun _ => ?_)
set_option maxHeartbeats 8000000 in
set_option maxRecDepth 100000 in
theorem decode_addi.calls (k : Nat) (a0 : Int) (r1 : Int) (r2 : Bool) (w : World) (h : decode_addi.f k a0 = some (r1, r2)) :
    Calls Try.prog 37 #[.int .u32 a0] w fun e w' => e = .returned (.tuple #[.int .u32 r1, .bool r2]) ∧ Drawn0 w w' := by
  have H : ((decode_r.f k a0).bind fun t158 => ((decode_r.f k a0).bind fun t159 => ((decode_i6.f k a0).bind fun t160 => ((decode_typeI.f 19 0 t158 t159 t160).bind fun bt161 => (some (bt161.1, bt161.2)))))) = some (r1, r2) := h
  clear h
  replace H := Option.bind_eq_some_iff.mp H
  obtain ⟨t158, A20, H⟩ := H
  replace H : ((decode_r.f k a0).bind fun t159 => ((decode_i6.f k a0).bind fun t160 => ((decode_typeI.f 19 0 t158 t159 t160).bind fun bt161 => (some (bt161.1, bt161.2))))) = some (r1, r2) := H
  have A2 := Aside0.mk A20
  clear A20
  replace H := Option.bind_eq_some_iff.mp H
  obtain ⟨t159, A30, H⟩ := H
  replace H : ((decode_i6.f k a0).bind fun t160 => ((decode_typeI.f 19 0 t158 t159 t160).bind fun bt161 => (some (bt161.1, bt161.2)))) = some (r1, r2) := H
  have A3 := Aside0.mk A30
  clear A30
  replace H := Option.bind_eq_some_iff.mp H
  obtain ⟨t160, A40, H⟩ := H
  replace H : ((decode_typeI.f 19 0 t158 t159 t160).bind fun bt161 => (some (bt161.1, bt161.2))) = some (r1, r2) := H
  have A4 := Aside0.mk A40
  clear A40
  replace H := Option.bind_eq_some_iff.mp H
  obtain ⟨⟨t161, t162⟩, A50, H⟩ := H
  replace H : (some (t161, t162)) = some (r1, r2) := H
  have A5 := Aside0.mk A50
  clear A50
  simp only [Option.some.injEq, Prod.mk.injEq] at H
  obtain ⟨rfl, rfl⟩ := H
  go_enter Try.func37, Try.ntmps37
  go_wp2_with (first | ((with_reducible refine gate_callee (f := 71) rfl ?_); refine goesL_ (some 5) rfl rfl Try.func71 (by kernel_rfl) rfl #[.int .u32 a0] rfl (by (try simp only [List.map_toArray, List.map_cons, List.map_nil]); first | done | rfl | (simp only [List.length_drop, List.length_take]; rfl)) ?_; (with_reducible refine (decode_r.calls k a0 t158 _ A2.out).mono ?_); rintro e w' ⟨rfl, ⟨nd, rfl⟩⟩; refine ⟨_, rfl, ?_⟩) | ((with_reducible refine gate_callee (f := 71) rfl ?_); refine goesL_ (some 7) rfl rfl Try.func71 (by kernel_rfl) rfl #[.int .u32 a0] rfl (by (try simp only [List.map_toArray, List.map_cons, List.map_nil]); first | done | rfl | (simp only [List.length_drop, List.length_take]; rfl)) ?_; (with_reducible refine (decode_r.calls k a0 t159 _ A3.out).mono ?_); rintro e w' ⟨rfl, ⟨nd, rfl⟩⟩; refine ⟨_, rfl, ?_⟩) | ((with_reducible refine gate_callee (f := 72) rfl ?_); refine goesL_ (some 9) rfl rfl Try.func72 (by kernel_rfl) rfl #[.int .u32 a0] rfl (by (try simp only [List.map_toArray, List.map_cons, List.map_nil]); first | done | rfl | (simp only [List.length_drop, List.length_take]; rfl)) ?_; (with_reducible refine (decode_i6.calls k a0 t160 _ A4.out).mono ?_); rintro e w' ⟨rfl, ⟨nd, rfl⟩⟩; refine ⟨_, rfl, ?_⟩) | ((with_reducible refine gate_callee (f := 65) rfl ?_); refine goesL_ (some 10) rfl rfl Try.func65 (by kernel_rfl) rfl #[.int .u32 19, .int .u32 0, .int .u32 t158, .int .u32 t159, .int .u32 t160] rfl (by (try simp only [List.map_toArray, List.map_cons, List.map_nil]); first | done | rfl | (simp only [List.length_drop, List.length_take]; rfl)) ?_; (with_reducible refine (decode_typeI.calls 19 0 t158 t159 t160 t161 t162 _ A5.out).mono ?_); rintro e w' ⟨rfl, ⟨nd, rfl⟩⟩; refine ⟨_, rfl, ?_⟩))
  go_ret2
  exact ⟨by first | rfl | (simp; done) | (simp [*]; done), by repeat (first | exact Drawn0.refl _ | apply Drawn0.step)⟩

/-! ### decode_addiw: function 38 -/
def decode_addiw.f (k : Nat) (a0 : Int) : Option (Int × Bool) := (decode_r.f k a0).bind fun t163 => (if t163 = 0 then ((decode_none.f).bind fun bt164 => (some (bt164.1, bt164.2))) else ((decode_r.f k a0).bind fun t166 => ((decode_r.f k a0).bind fun t167 => ((decode_i6.f k a0).bind fun t168 => ((decode_typeI.f 27 0 t166 t167 t168).bind fun bt169 => (some (bt169.1, bt169.2)))))))
theorem decode_addiw.mono : ∀ a0 k, LeO (decode_addiw.f k a0) (decode_addiw.f (k + 1) a0) := by
  intro a0 k
  unfold decode_addiw.f
  repeat' first
      | (with_reducible exact decode_i6.mono _ _)
      | (with_reducible exact decode_r.mono _ _)
      | (with_reducible exact LeO.refl _)
      | (with_reducible exact LeO.none _)
      | (with_reducible refine LeO.ite ?_ ?_)
      | (with_reducible refine LeO.bind ?_ (fun _ => ?_))
      | exact decode_i6.mono _ _
      | exact decode_r.mono _ _
      | exact LeO.none _
      | refine LeO.ite ?_ ?_
      | refine LeO.bind ?_ (fun _ => ?_)
set_option maxHeartbeats 8000000 in
set_option maxRecDepth 100000 in
theorem decode_addiw.calls (k : Nat) (a0 : Int) (r1 : Int) (r2 : Bool) (w : World) (h : decode_addiw.f k a0 = some (r1, r2)) :
    Calls Try.prog 38 #[.int .u32 a0] w fun e w' => e = .returned (.tuple #[.int .u32 r1, .bool r2]) ∧ Drawn0 w w' := by
  have H : ((decode_r.f k a0).bind fun t163 => (if t163 = 0 then ((decode_none.f).bind fun bt164 => (some (bt164.1, bt164.2))) else ((decode_r.f k a0).bind fun t166 => ((decode_r.f k a0).bind fun t167 => ((decode_i6.f k a0).bind fun t168 => ((decode_typeI.f 27 0 t166 t167 t168).bind fun bt169 => (some (bt169.1, bt169.2)))))))) = some (r1, r2) := h
  clear h
  replace H := Option.bind_eq_some_iff.mp H
  obtain ⟨t163, A20, H⟩ := H
  replace H : (if t163 = 0 then ((decode_none.f).bind fun bt164 => (some (bt164.1, bt164.2))) else ((decode_r.f k a0).bind fun t166 => ((decode_r.f k a0).bind fun t167 => ((decode_i6.f k a0).bind fun t168 => ((decode_typeI.f 27 0 t166 t167 t168).bind fun bt169 => (some (bt169.1, bt169.2))))))) = some (r1, r2) := H
  have A2 := Aside0.mk A20
  clear A20
  by_cases c3 : t163 = 0
  · rw [if_pos c3] at H
    have c3b0 : (t163 == 0) = true := beq_iff_eq.mpr c3
    have c3b1 : (t163 != 0) = false := bne_eq_false_iff_eq.mpr c3
    clear c3
    replace H := Option.bind_eq_some_iff.mp H
    obtain ⟨⟨t164, t165⟩, A40, H⟩ := H
    replace H : (some (t164, t165)) = some (r1, r2) := H
    have A4 := Aside0.mk A40
    clear A40
    simp only [Option.some.injEq, Prod.mk.injEq] at H
    obtain ⟨rfl, rfl⟩ := H
    go_enter Try.func38, Try.ntmps38
    go_wp2_with (first | ((with_reducible refine gate_callee (f := 71) rfl ?_); refine goesL_ (some 5) rfl rfl Try.func71 (by kernel_rfl) rfl #[.int .u32 a0] rfl (by (try simp only [List.map_toArray, List.map_cons, List.map_nil]); first | done | rfl | (simp only [List.length_drop, List.length_take]; rfl)) ?_; (with_reducible refine (decode_r.calls k a0 t163 _ A2.out).mono ?_); rintro e w' ⟨rfl, ⟨nd, rfl⟩⟩; refine ⟨_, rfl, ?_⟩) | ((with_reducible refine gate_callee (f := 20) rfl ?_); refine goesL_ (some 7) rfl rfl Try.func20 (by kernel_rfl) rfl #[] rfl (by (try simp only [List.map_toArray, List.map_cons, List.map_nil]); first | done | rfl | (simp only [List.length_drop, List.length_take]; rfl)) ?_; (with_reducible refine (decode_none.calls  t164 t165 _ A4.out).mono ?_); rintro e w' ⟨rfl, ⟨nd, rfl⟩⟩; refine ⟨_, rfl, ?_⟩))
    go_ret2
    exact ⟨by first | rfl | (simp; done) | (simp [*]; done), by repeat (first | exact Drawn0.refl _ | apply Drawn0.step)⟩
  · rw [if_neg c3] at H
    have c3b0 : (t163 == 0) = false := beq_eq_false_iff_ne.mpr c3
    have c3b1 : (t163 != 0) = true := bne_iff_ne.mpr c3
    replace H := Option.bind_eq_some_iff.mp H
    obtain ⟨t166, A50, H⟩ := H
    replace H : ((decode_r.f k a0).bind fun t167 => ((decode_i6.f k a0).bind fun t168 => ((decode_typeI.f 27 0 t166 t167 t168).bind fun bt169 => (some (bt169.1, bt169.2))))) = some (r1, r2) := H
    have A5 := Aside0.mk A50
    clear A50
    replace H := Option.bind_eq_some_iff.mp H
    obtain ⟨t167, A60, H⟩ := H
    replace H : ((decode_i6.f k a0).bind fun t168 => ((decode_typeI.f 27 0 t166 t167 t168).bind fun bt169 => (some (bt169.1, bt169.2)))) = some (r1, r2) := H
    have A6 := Aside0.mk A60
    clear A60
    replace H := Option.bind_eq_some_iff.mp H
    obtain ⟨t168, A70, H⟩ := H
    replace H : ((decode_typeI.f 27 0 t166 t167 t168).bind fun bt169 => (some (bt169.1, bt169.2))) = some (r1, r2) := H
    have A7 := Aside0.mk A70
    clear A70
    replace H := Option.bind_eq_some_iff.mp H
    obtain ⟨⟨t169, t170⟩, A80, H⟩ := H
    replace H : (some (t169, t170)) = some (r1, r2) := H
    have A8 := Aside0.mk A80
    clear A80
    simp only [Option.some.injEq, Prod.mk.injEq] at H
    obtain ⟨rfl, rfl⟩ := H
    go_enter Try.func38, Try.ntmps38
    go_wp2_with (first | ((with_reducible refine gate_callee (f := 71) rfl ?_); refine goesL_ (some 5) rfl rfl Try.func71 (by kernel_rfl) rfl #[.int .u32 a0] rfl (by (try simp only [List.map_toArray, List.map_cons, List.map_nil]); first | done | rfl | (simp only [List.length_drop, List.length_take]; rfl)) ?_; (with_reducible refine (decode_r.calls k a0 t163 _ A2.out).mono ?_); rintro e w' ⟨rfl, ⟨nd, rfl⟩⟩; refine ⟨_, rfl, ?_⟩) | ((with_reducible refine gate_callee (f := 71) rfl ?_); refine goesL_ (some 11) rfl rfl Try.func71 (by kernel_rfl) rfl #[.int .u32 a0] rfl (by (try simp only [List.map_toArray, List.map_cons, List.map_nil]); first | done | rfl | (simp only [List.length_drop, List.length_take]; rfl)) ?_; (with_reducible refine (decode_r.calls k a0 t166 _ A5.out).mono ?_); rintro e w' ⟨rfl, ⟨nd, rfl⟩⟩; refine ⟨_, rfl, ?_⟩) | ((with_reducible refine gate_callee (f := 71) rfl ?_); refine goesL_ (some 13) rfl rfl Try.func71 (by kernel_rfl) rfl #[.int .u32 a0] rfl (by (try simp only [List.map_toArray, List.map_cons, List.map_nil]); first | done | rfl | (simp only [List.length_drop, List.length_take]; rfl)) ?_; (with_reducible refine (decode_r.calls k a0 t167 _ A6.out).mono ?_); rintro e w' ⟨rfl, ⟨nd, rfl⟩⟩; refine ⟨_, rfl, ?_⟩) | ((with_reducible refine gate_callee (f := 72) rfl ?_); refine goesL_ (some 15) rfl rfl Try.func72 (by kernel_rfl) rfl #[.int .u32 a0] rfl (by (try simp only [List.map_toArray, List.map_cons, List.map_nil]); first | done | rfl | (simp only [List.length_drop, List.length_take]; rfl)) ?_; (with_reducible refine (decode_i6.calls k a0 t168 _ A7.out).mono ?_); rintro e w' ⟨rfl, ⟨nd, rfl⟩⟩; refine ⟨_, rfl, ?_⟩) | ((with_reducible refine gate_callee (f := 65) rfl ?_); refine goesL_ (some 16) rfl rfl Try.func65 (by kernel_rfl) rfl #[.int .u32 27, .int .u32 0, .int .u32 t166, .int .u32 t167, .int .u32 t168] rfl (by (try simp only [List.map_toArray, List.map_cons, List.map_nil]); first | done | rfl | (simp only [List.length_drop, List.length_take]; rfl)) ?_; (with_reducible refine (decode_typeI.calls 27 0 t166 t167 t168 t169 t170 _ A8.out).mono ?_); rintro e w' ⟨rfl, ⟨nd, rfl⟩⟩; refine ⟨_, rfl, ?_⟩))
    go_ret2
    exact ⟨by first | rfl | (simp; done) | (simp [*]; done), by repeat (first | exact Drawn0.refl _ | apply Drawn0.step)⟩

/-! ### decode_li: function 39 -/
def decode_li.f (k : Nat) (a0 : Int) : Option (Int × Bool) := (decode_r.f k a0).bind fun t171 => ((decode_i6.f k a0).bind fun t172 => ((decode_typeI.f 19 0 t171 0 t172).bind fun bt173 => (some (bt173.1, bt173.2))))
theorem decode_li.mono : ∀ a0 k, LeO (decode_li.f k a0) (decode_li.f (k + 1) a0) := by
  intro a0 k
  unfold decode_li.f
  repeat' first
      | (with_reducible exact decode_i6.mono _ _)
      | (with_reducible exact decode_r.mono _ _)
      | (with_reducible exact LeO.refl _)
      | (with_reducible exact LeO.none _)
      | (with_reducible refine LeO.ite ?_ ?_)
      | (with_reducible refine LeO.bind ?_ (fun _ => ?_))
      | exact decode_i6.mono _ _
      | exact decode_r.mono _ _
      | exact LeO.none _
      | refine LeO.ite ?_ ?_
      | refine LeO.bind ?_ (fun _ => ?_)
set_option maxHeartbeats 8000000 in
set_option maxRecDepth 100000 in
theorem decode_li.calls (k : Nat) (a0 : Int) (r1 : Int) (r2 : Bool) (w : World) (h : decode_li.f k a0 = some (r1, r2)) :
    Calls Try.prog 39 #[.int .u32 a0] w fun e w' => e = .returned (.tuple #[.int .u32 r1, .bool r2]) ∧ Drawn0 w w' := by
  have H : ((decode_r.f k a0).bind fun t171 => ((decode_i6.f k a0).bind fun t172 => ((decode_typeI.f 19 0 t171 0 t172).bind fun bt173 => (some (bt173.1, bt173.2))))) = some (r1, r2) := h
  clear h
  replace H := Option.bind_eq_some_iff.mp H
  obtain ⟨t171, A20, H⟩ := H
  replace H : ((decode_i6.f k a0).bind fun t172 => ((decode_typeI.f 19 0 t171 0 t172).bind fun bt173 => (some (bt173.1, bt173.2)))) = some (r1, r2) := H
  have A2 := Aside0.mk A20
  clear A20
  replace H := Option.bind_eq_some_iff.mp H
  obtain ⟨t172, A30, H⟩ := H
  replace H : ((decode_typeI.f 19 0 t171 0 t172).bind fun bt173 => (some (bt173.1, bt173.2))) = some (r1, r2) := H
  have A3 := Aside0.mk A30
  clear A30
  replace H := Option.bind_eq_some_iff.mp H
  obtain ⟨⟨t173, t174⟩, A40, H⟩ := H
  replace H : (some (t173, t174)) = some (r1, r2) := H
  have A4 := Aside0.mk A40
  clear A40
  simp only [Option.some.injEq, Prod.mk.injEq] at H
  obtain ⟨rfl, rfl⟩ := H
  go_enter Try.func39, Try.ntmps39
  go_wp2_with (first | ((with_reducible refine gate_callee (f := 71) rfl ?_); refine goesL_ (some 5) rfl rfl Try.func71 (by kernel_rfl) rfl #[.int .u32 a0] rfl (by (try simp only [List.map_toArray, List.map_cons, List.map_nil]); first | done | rfl | (simp only [List.length_drop, List.length_take]; rfl)) ?_; (with_reducible refine (decode_r.calls k a0 t171 _ A2.out).mono ?_); rintro e w' ⟨rfl, ⟨nd, rfl⟩⟩; refine ⟨_, rfl, ?_⟩) | ((with_reducible refine gate_callee (f := 72) rfl ?_); refine goesL_ (some 7) rfl rfl Try.func72 (by kernel_rfl) rfl #[.int .u32 a0] rfl (by (try simp only [List.map_toArray, List.map_cons, List.map_nil]); first | done | rfl | (simp only [List.length_drop, List.length_take]; rfl)) ?_; (with_reducible refine (decode_i6.calls k a0 t172 _ A3.out).mono ?_); rintro e w' ⟨rfl, ⟨nd, rfl⟩⟩; refine ⟨_, rfl, ?_⟩) | ((with_reducible refine gate_callee (f := 65) rfl ?_); refine goesL_ (some 8) rfl rfl Try.func65 (by kernel_rfl) rfl #[.int .u32 19, .int .u32 0, .int .u32 t171, .int .u32 0, .int .u32 t172] rfl (by (try simp only [List.map_toArray, List.map_cons, List.map_nil]); first | done | rfl | (simp only [List.length_drop, List.length_take]; rfl)) ?_; (with_reducible refine (decode_typeI.calls 19 0 t171 0 t172 t173 t174 _ A4.out).mono ?_); rintro e w' ⟨rfl, ⟨nd, rfl⟩⟩; refine ⟨_, rfl, ?_⟩))
  go_ret2
  exact ⟨by first | rfl | (simp; done) | (simp [*]; done), by repeat (first | exact Drawn0.refl _ | apply Drawn0.step)⟩

/-! ### decode_lui: function 40 -/
def decode_lui.f (k : Nat) (a0 : Int) : Option (Int × Bool) := (decode_r.f k a0).bind fun t175 => (if t175 = 2 then ((decode_bits.f k a0 12 12 9).bind fun t181 => ((decode_bits.f k a0 6 6 4).bind fun t182 => ((decode_bits.f k a0 5 5 6).bind fun t183 => ((decode_bits.f k a0 4 3 7).bind fun t184 => ((decode_bits.f k a0 2 2 5).bind fun t185 => (if (Go.bits .or .u32 (Go.bits .or .u32 (Go.bits .or .u32 (Go.bits .or .u32 t181 t182) t183) t184) t185) = 0 then ((decode_none.f).bind fun bt186 => (some (bt186.1, bt186.2))) else ((decode_signed.f (wrap64 (Go.bits .or .u32 (Go.bits .or .u32 (Go.bits .or .u32 (Go.bits .or .u32 t181 t182) t183) t184) t185)) 10).bind fun t188 => ((decode_typeI.f 19 0 2 2 ((t188) % 4294967296)).bind fun bt189 => (some (bt189.1, bt189.2)))))))))) else ((decode_s6.f k a0).bind fun t176 => ((decode_signed.f (wrap64 (t176)) 6).bind fun t177 => (if ((((t177) % 4294967296) * 4096) % 4294967296) = 0 then ((decode_none.f).bind fun bt178 => (some (bt178.1, bt178.2))) else ((decode_r.f k a0).bind fun t180 => (some (Go.bits .or .u32 (Go.bits .or .u32 ((((t177) % 4294967296) * 4096) % 4294967296) ((t180 * 128) % 4294967296)) 55, true)))))))
theorem decode_lui.mono : ∀ a0 k, LeO (decode_lui.f k a0) (decode_lui.f (k + 1) a0) := by
  intro a0 k
  unfold decode_lui.f
  repeat' first
      | (with_reducible exact decode_bits.mono _ _ _ _ _)
      | (with_reducible exact decode_r.mono _ _)
      | (with_reducible exact decode_s6.mono _ _)
      | (with_reducible exact LeO.refl _)
      | (with_reducible exact LeO.none _)
      | (with_reducible refine LeO.ite ?_ ?_)
      | (with_reducible refine LeO.bind ?_ (fun _ => ?_))
      | exact decode_bits.mono _ _ _ _ _
      | exact decode_r.mono _ _
      | exact decode_s6.mono _ _
      | exact LeO.none _
      | refine LeO.ite ?_ ?_
      | refine LeO.bind ?_ (fun _ => ?_)
set_option maxHeartbeats 8000000 in
set_option maxRecDepth 100000 in
theorem decode_lui.calls (k : Nat) (a0 : Int) (r1 : Int) (r2 : Bool) (w : World) (h : decode_lui.f k a0 = some (r1, r2)) :
    Calls Try.prog 40 #[.int .u32 a0] w fun e w' => e = .returned (.tuple #[.int .u32 r1, .bool r2]) ∧ Drawn0 w w' := by
  have H : ((decode_r.f k a0).bind fun t175 => (if t175 = 2 then ((decode_bits.f k a0 12 12 9).bind fun t181 => ((decode_bits.f k a0 6 6 4).bind fun t182 => ((decode_bits.f k a0 5 5 6).bind fun t183 => ((decode_bits.f k a0 4 3 7).bind fun t184 => ((decode_bits.f k a0 2 2 5).bind fun t185 => (if (Go.bits .or .u32 (Go.bits .or .u32 (Go.bits .or .u32 (Go.bits .or .u32 t181 t182) t183) t184) t185) = 0 then ((decode_none.f).bind fun bt186 => (some (bt186.1, bt186.2))) else ((decode_signed.f (wrap64 (Go.bits .or .u32 (Go.bits .or .u32 (Go.bits .or .u32 (Go.bits .or .u32 t181 t182) t183) t184) t185)) 10).bind fun t188 => ((decode_typeI.f 19 0 2 2 ((t188) % 4294967296)).bind fun bt189 => (some (bt189.1, bt189.2)))))))))) else ((decode_s6.f k a0).bind fun t176 => ((decode_signed.f (wrap64 (t176)) 6).bind fun t177 => (if ((((t177) % 4294967296) * 4096) % 4294967296) = 0 then ((decode_none.f).bind fun bt178 => (some (bt178.1, bt178.2))) else ((decode_r.f k a0).bind fun t180 => (some (Go.bits .or .u32 (Go.bits .or .u32 ((((t177) % 4294967296) * 4096) % 4294967296) ((t180 * 128) % 4294967296)) 55, true)))))))) = some (r1, r2) := h
  clear h
  replace H := Option.bind_eq_some_iff.mp H
  obtain ⟨t175, A20, H⟩ := H
  replace H : (if t175 = 2 then ((decode_bits.f k a0 12 12 9).bind fun t181 => ((decode_bits.f k a0 6 6 4).bind fun t182 => ((decode_bits.f k a0 5 5 6).bind fun t183 => ((decode_bits.f k a0 4 3 7).bind fun t184 => ((decode_bits.f k a0 2 2 5).bind fun t185 => (if (Go.bits .or .u32 (Go.bits .or .u32 (Go.bits .or .u32 (Go.bits .or .u32 t181 t182) t183) t184) t185) = 0 then ((decode_none.f).bind fun bt186 => (some (bt186.1, bt186.2))) else ((decode_signed.f (wrap64 (Go.bits .or .u32 (Go.bits .or .u32 (Go.bits .or .u32 (Go.bits .or .u32 t181 t182) t183) t184) t185)) 10).bind fun t188 => ((decode_typeI.f 19 0 2 2 ((t188) % 4294967296)).bind fun bt189 => (some (bt189.1, bt189.2)))))))))) else ((decode_s6.f k a0).bind fun t176 => ((decode_signed.f (wrap64 (t176)) 6).bind fun t177 => (if ((((t177) % 4294967296) * 4096) % 4294967296) = 0 then ((decode_none.f).bind fun bt178 => (some (bt178.1, bt178.2))) else ((decode_r.f k a0).bind fun t180 => (some (Go.bits .or .u32 (Go.bits .or .u32 ((((t177) % 4294967296) * 4096) % 4294967296) ((t180 * 128) % 4294967296)) 55, true))))))) = some (r1, r2) := H
  have A2 := Aside0.mk A20
  clear A20
  by_cases c3 : t175 = 2
  · rw [if_pos c3] at H
    have c3b0 : (t175 == 2) = true := beq_iff_eq.mpr c3
    have c3b1 : (t175 != 2) = false := bne_eq_false_iff_eq.mpr c3
    clear c3
    replace H := Option.bind_eq_some_iff.mp H
    obtain ⟨t181, A40, H⟩ := H
    replace H : ((decode_bits.f k a0 6 6 4).bind fun t182 => ((decode_bits.f k a0 5 5 6).bind fun t183 => ((decode_bits.f k a0 4 3 7).bind fun t184 => ((decode_bits.f k a0 2 2 5).bind fun t185 => (if (Go.bits .or .u32 (Go.bits .or .u32 (Go.bits .or .u32 (Go.bits .or .u32 t181 t182) t183) t184) t185) = 0 then ((decode_none.f).bind fun bt186 => (some (bt186.1, bt186.2))) else ((decode_signed.f (wrap64 (Go.bits .or .u32 (Go.bits .or .u32 (Go.bits .or .u32 (Go.bits .or .u32 t181 t182) t183) t184) t185)) 10).bind fun t188 => ((decode_typeI.f 19 0 2 2 ((t188) % 4294967296)).bind fun bt189 => (some (bt189.1, bt189.2))))))))) = some (r1, r2) := H
    have A4 := Aside0.mk A40
    clear A40
    replace H := Option.bind_eq_some_iff.mp H
    obtain ⟨t182, A50, H⟩ := H
    replace H : ((decode_bits.f k a0 5 5 6).bind fun t183 => ((decode_bits.f k a0 4 3 7).bind fun t184 => ((decode_bits.f k a0 2 2 5).bind fun t185 => (if (Go.bits .or .u32 (Go.bits .or .u32 (Go.bits .or .u32 (Go.bits .or .u32 t181 t182) t183) t184) t185) = 0 then ((decode_none.f).bind fun bt186 => (some (bt186.1, bt186.2))) else ((decode_signed.f (wrap64 (Go.bits .or .u32 (Go.bits .or .u32 (Go.bits .or .u32 (Go.bits .or .u32 t181 t182) t183) t184) t185)) 10).bind fun t188 => ((decode_typeI.f 19 0 2 2 ((t188) % 4294967296)).bind fun bt189 => (some (bt189.1, bt189.2)))))))) = some (r1, r2) := H
    have A5 := Aside0.mk A50
    clear A50
    replace H := Option.bind_eq_some_iff.mp H
    obtain ⟨t183, A60, H⟩ := H
    replace H : ((decode_bits.f k a0 4 3 7).bind fun t184 => ((decode_bits.f k a0 2 2 5).bind fun t185 => (if (Go.bits .or .u32 (Go.bits .or .u32 (Go.bits .or .u32 (Go.bits .or .u32 t181 t182) t183) t184) t185) = 0 then ((decode_none.f).bind fun bt186 => (some (bt186.1, bt186.2))) else ((decode_signed.f (wrap64 (Go.bits .or .u32 (Go.bits .or .u32 (Go.bits .or .u32 (Go.bits .or .u32 t181 t182) t183) t184) t185)) 10).bind fun t188 => ((decode_typeI.f 19 0 2 2 ((t188) % 4294967296)).bind fun bt189 => (some (bt189.1, bt189.2))))))) = some (r1, r2) := H
    have A6 := Aside0.mk A60
    clear A60
    replace H := Option.bind_eq_some_iff.mp H
    obtain ⟨t184, A70, H⟩ := H
    replace H : ((decode_bits.f k a0 2 2 5).bind fun t185 => (if (Go.bits .or .u32 (Go.bits .or .u32 (Go.bits .or .u32 (Go.bits .or .u32 t181 t182) t183) t184) t185) = 0 then ((decode_none.f).bind fun bt186 => (some (bt186.1, bt186.2))) else ((decode_signed.f (wrap64 (Go.bits .or .u32 (Go.bits .or .u32 (Go.bits .or .u32 (Go.bits .or .u32 t181 t182) t183) t184) t185)) 10).bind fun t188 => ((decode_typeI.f 19 0 2 2 ((t188) % 4294967296)).bind fun bt189 => (some (bt189.1, bt189.2)))))) = some (r1, r2) := H
    have A7 := Aside0.mk A70
    clear A70
    replace H := Option.bind_eq_some_iff.mp H
    obtain ⟨t185, A80, H⟩ := H
    replace H : (if (Go.bits .or .u32 (Go.bits .or .u32 (Go.bits .or .u32 (Go.bits .or .u32 t181 t182) t183) t184) t185) = 0 then ((decode_none.f).bind fun bt186 => (some (bt186.1, bt186.2))) else ((decode_signed.f (wrap64 (Go.bits .or .u32 (Go.bits .or .u32 (Go.bits .or .u32 (Go.bits .or .u32 t181 t182) t183) t184) t185)) 10).bind fun t188 => ((decode_typeI.f 19 0 2 2 ((t188) % 4294967296)).bind fun bt189 => (some (bt189.1, bt189.2))))) = some (r1, r2) := H
    have A8 := Aside0.mk A80
    clear A80
    by_cases c9 : (Go.bits .or .u32 (Go.bits .or .u32 (Go.bits .or .u32 (Go.bits .or .u32 t181 t182) t183) t184) t185) = 0
    · rw [if_pos c9] at H
      have c9b0 : ((Go.bits .or .u32 (Go.bits .or .u32 (Go.bits .or .u32 (Go.bits .or .u32 t181 t182) t183) t184) t185) == 0) = true := beq_iff_eq.mpr c9
      have c9b1 : ((Go.bits .or .u32 (Go.bits .or .u32 (Go.bits .or .u32 (Go.bits .or .u32 t181 t182) t183) t184) t185) != 0) = false := bne_eq_false_iff_eq.mpr c9
      clear c9
      replace H := Option.bind_eq_some_iff.mp H
      obtain ⟨⟨t186, t187⟩, A100, H⟩ := H
      replace H : (some (t186, t187)) = some (r1, r2) := H
      have A10 := Aside0.mk A100
      clear A100
      simp only [Option.some.injEq, Prod.mk.injEq] at H
      obtain ⟨rfl, rfl⟩ := H
      go_enter Try.func40, Try.ntmps40
      go_wp2_with (first | ((with_reducible refine gate_callee (f := 71) rfl ?_); refine goesL_ (some 7) rfl rfl Try.func71 (by kernel_rfl) rfl #[.int .u32 a0] rfl (by (try simp only [List.map_toArray, List.map_cons, List.map_nil]); first | done | rfl | (simp only [List.length_drop, List.length_take]; rfl)) ?_; (with_reducible refine (decode_r.calls k a0 t175 _ A2.out).mono ?_); rintro e w' ⟨rfl, ⟨nd, rfl⟩⟩; refine ⟨_, rfl, ?_⟩) | ((with_reducible refine gate_callee (f := 64) rfl ?_); refine goesL_ (some 27) rfl rfl Try.func64 (by kernel_rfl) rfl #[.int .u32 a0, .int .i64 12, .int .i64 12, .int .i64 9] rfl (by (try simp only [List.map_toArray, List.map_cons, List.map_nil]); first | done | rfl | (simp only [List.length_drop, List.length_take]; rfl)) ?_; (with_reducible refine (decode_bits.calls k a0 12 12 9 t181 _ A4.out).mono ?_); rintro e w' ⟨rfl, ⟨nd, rfl⟩⟩; refine ⟨_, rfl, ?_⟩) | ((with_reducible refine gate_callee (f := 64) rfl ?_); refine goesL_ (some 29) rfl rfl Try.func64 (by kernel_rfl) rfl #[.int .u32 a0, .int .i64 6, .int .i64 6, .int .i64 4] rfl (by (try simp only [List.map_toArray, List.map_cons, List.map_nil]); first | done | rfl | (simp only [List.length_drop, List.length_take]; rfl)) ?_; (with_reducible refine (decode_bits.calls k a0 6 6 4 t182 _ A5.out).mono ?_); rintro e w' ⟨rfl, ⟨nd, rfl⟩⟩; refine ⟨_, rfl, ?_⟩) | ((with_reducible refine gate_callee (f := 64) rfl ?_); refine goesL_ (some 32) rfl rfl Try.func64 (by kernel_rfl) rfl #[.int .u32 a0, .int .i64 5, .int .i64 5, .int .i64 6] rfl (by (try simp only [List.map_toArray, List.map_cons, List.map_nil]); first | done | rfl | (simp only [List.length_drop, List.length_take]; rfl)) ?_; (with_reducible refine (decode_bits.calls k a0 5 5 6 t183 _ A6.out).mono ?_); rintro e w' ⟨rfl, ⟨nd, rfl⟩⟩; refine ⟨_, rfl, ?_⟩) | ((with_reducible refine gate_callee (f := 64) rfl ?_); refine goesL_ (some 35) rfl rfl Try.func64 (by kernel_rfl) rfl #[.int .u32 a0, .int .i64 4, .int .i64 3, .int .i64 7] rfl (by (try simp only [List.map_toArray, List.map_cons, List.map_nil]); first | done | rfl | (simp only [List.length_drop, List.length_take]; rfl)) ?_; (with_reducible refine (decode_bits.calls k a0 4 3 7 t184 _ A7.out).mono ?_); rintro e w' ⟨rfl, ⟨nd, rfl⟩⟩; refine ⟨_, rfl, ?_⟩) | ((with_reducible refine gate_callee (f := 64) rfl ?_); refine goesL_ (some 38) rfl rfl Try.func64 (by kernel_rfl) rfl #[.int .u32 a0, .int .i64 2, .int .i64 2, .int .i64 5] rfl (by (try simp only [List.map_toArray, List.map_cons, List.map_nil]); first | done | rfl | (simp only [List.length_drop, List.length_take]; rfl)) ?_; (with_reducible refine (decode_bits.calls k a0 2 2 5 t185 _ A8.out).mono ?_); rintro e w' ⟨rfl, ⟨nd, rfl⟩⟩; refine ⟨_, rfl, ?_⟩) | ((with_reducible refine gate_callee (f := 20) rfl ?_); refine goesL_ (some 42) rfl rfl Try.func20 (by kernel_rfl) rfl #[] rfl (by (try simp only [List.map_toArray, List.map_cons, List.map_nil]); first | done | rfl | (simp only [List.length_drop, List.length_take]; rfl)) ?_; (with_reducible refine (decode_none.calls  t186 t187 _ A10.out).mono ?_); rintro e w' ⟨rfl, ⟨nd, rfl⟩⟩; refine ⟨_, rfl, ?_⟩))
      go_ret2
      exact ⟨by first | rfl | (simp; done) | (simp [*]; done), by repeat (first | exact Drawn0.refl _ | apply Drawn0.step)⟩
    · rw [if_neg c9] at H
      have c9b0 : ((Go.bits .or .u32 (Go.bits .or .u32 (Go.bits .or .u32 (Go.bits .or .u32 t181 t182) t183) t184) t185) == 0) = false := beq_eq_false_iff_ne.mpr c9
      have c9b1 : ((Go.bits .or .u32 (Go.bits .or .u32 (Go.bits .or .u32 (Go.bits .or .u32 t181 t182) t183) t184) t185) != 0) = true := bne_iff_ne.mpr c9
      replace H := Option.bind_eq_some_iff.mp H
      obtain ⟨t188, A110, H⟩ := H
      replace H : ((decode_typeI.f 19 0 2 2 ((t188) % 4294967296)).bind fun bt189 => (some (bt189.1, bt189.2))) = some (r1, r2) := H
      have A11 := Aside0.mk A110
      clear A110
      replace H := Option.bind_eq_some_iff.mp H
      obtain ⟨⟨t189, t190⟩, A120, H⟩ := H
      replace H : (some (t189, t190)) = some (r1, r2) := H
      have A12 := Aside0.mk A120
      clear A120
      simp only [Option.some.injEq, Prod.mk.injEq] at H
      obtain ⟨rfl, rfl⟩ := H
      go_enter Try.func40, Try.ntmps40
      go_wp2_with (first | ((with_reducible refine gate_callee (f := 71) rfl ?_); refine goesL_ (some 7) rfl rfl Try.func71 (by kernel_rfl) rfl #[.int .u32 a0] rfl (by (try simp only [List.map_toArray, List.map_cons, List.map_nil]); first | done | rfl | (simp only [List.length_drop, List.length_take]; rfl)) ?_; (with_reducible refine (decode_r.calls k a0 t175 _ A2.out).mono ?_); rintro e w' ⟨rfl, ⟨nd, rfl⟩⟩; refine ⟨_, rfl, ?_⟩) | ((with_reducible refine gate_callee (f := 64) rfl ?_); refine goesL_ (some 27) rfl rfl Try.func64 (by kernel_rfl) rfl #[.int .u32 a0, .int .i64 12, .int .i64 12, .int .i64 9] rfl (by (try simp only [List.map_toArray, List.map_cons, List.map_nil]); first | done | rfl | (simp only [List.length_drop, List.length_take]; rfl)) ?_; (with_reducible refine (decode_bits.calls k a0 12 12 9 t181 _ A4.out).mono ?_); rintro e w' ⟨rfl, ⟨nd, rfl⟩⟩; refine ⟨_, rfl, ?_⟩) | ((with_reducible refine gate_callee (f := 64) rfl ?_); refine goesL_ (some 29) rfl rfl Try.func64 (by kernel_rfl) rfl #[.int .u32 a0, .int .i64 6, .int .i64 6, .int .i64 4] rfl (by (try simp only [List.map_toArray, List.map_cons, List.map_nil]); first | done | rfl | (simp only [List.length_drop, List.length_take]; rfl)) ?_; (with_reducible refine (decode_bits.calls k a0 6 6 4 t182 _ A5.out).mono ?_); rintro e w' ⟨rfl, ⟨nd, rfl⟩⟩; refine ⟨_, rfl, ?_⟩) | ((with_reducible refine gate_callee (f := 64) rfl ?_); refine goesL_ (some 32) rfl rfl Try.func64 (by kernel_rfl) rfl #[.int .u32 a0, .int .i64 5, .int .i64 5, .int .i64 6] rfl (by (try simp only [List.map_toArray, List.map_cons, List.map_nil]); first | done | rfl | (simp only [List.length_drop, List.length_take]; rfl)) ?_; (with_reducible refine (decode_bits.calls k a0 5 5 6 t183 _ A6.out).mono ?_); rintro e w' ⟨rfl, ⟨nd, rfl⟩⟩; refine ⟨_, rfl, ?_⟩) | ((with_reducible refine gate_callee (f := 64) rfl ?_); refine goesL_ (some 35) rfl rfl Try.func64 (by kernel_rfl) rfl #[.int .u32 a0, .int .i64 4, .int .i64 3, .int .i64 7] rfl (by (try simp only [List.map_toArray, List.map_cons, List.map_nil]); first | done | rfl | (simp only [List.length_drop, List.length_take]; rfl)) ?_; (with_reducible refine (decode_bits.calls k a0 4 3 7 t184 _ A7.out).mono ?_); rintro e w' ⟨rfl, ⟨nd, rfl⟩⟩; refine ⟨_, rfl, ?_⟩) | ((with_reducible refine gate_callee (f := 64) rfl ?_); refine goesL_ (some 38) rfl rfl Try.func64 (by kernel_rfl) rfl #[.int .u32 a0, .int .i64 2, .int .i64 2, .int .i64 5] rfl (by (try simp only [List.map_toArray, List.map_cons, List.map_nil]); first | done | rfl | (simp only [List.length_drop, List.length_take]; rfl)) ?_; (with_reducible refine (decode_bits.calls k a0 2 2 5 t185 _ A8.out).mono ?_); rintro e w' ⟨rfl, ⟨nd, rfl⟩⟩; refine ⟨_, rfl, ?_⟩) | ((with_reducible refine gate_callee (f := 61) rfl ?_); refine goesL_ (some 47) rfl rfl Try.func61 (by kernel_rfl) rfl #[.int .i64 (wrap64 (Go.bits .or .u32 (Go.bits .or .u32 (Go.bits .or .u32 (Go.bits .or .u32 t181 t182) t183) t184) t185)), .int .i64 10] rfl (by (try simp only [List.map_toArray, List.map_cons, List.map_nil]); first | done | rfl | (simp only [List.length_drop, List.length_take]; rfl)) ?_; (with_reducible refine (decode_signed.calls (wrap64 (Go.bits .or .u32 (Go.bits .or .u32 (Go.bits .or .u32 (Go.bits .or .u32 t181 t182) t183) t184) t185)) 10 t188 _ A11.out).mono ?_); rintro e w' ⟨rfl, ⟨nd, rfl⟩⟩; refine ⟨_, rfl, ?_⟩) | ((with_reducible refine gate_callee (f := 65) rfl ?_); refine goesL_ (some 49) rfl rfl Try.func65 (by kernel_rfl) rfl #[.int .u32 19, .int .u32 0, .int .u32 2, .int .u32 2, .int .u32 ((t188) % 4294967296)] rfl (by (try simp only [List.map_toArray, List.map_cons, List.map_nil]); first | done | rfl | (simp only [List.length_drop, List.length_take]; rfl)) ?_; (with_reducible refine (decode_typeI.calls 19 0 2 2 ((t188) % 4294967296) t189 t190 _ A12.out).mono ?_); rintro e w' ⟨rfl, ⟨nd, rfl⟩⟩; refine ⟨_, rfl, ?_⟩))
      go_ret2
      exact ⟨by first | rfl | (simp; done) | (simp [*]; done), by repeat (first | exact Drawn0.refl _ | apply Drawn0.step)⟩
  · rw [if_neg c3] at H
    have c3b0 : (t175 == 2) = false := beq_eq_false_iff_ne.mpr c3
    have c3b1 : (t175 != 2) = true := bne_iff_ne.mpr c3
    replace H := Option.bind_eq_some_iff.mp H
    obtain ⟨t176, A130, H⟩ := H
    replace H : ((decode_signed.f (wrap64 (t176)) 6).bind fun t177 => (if ((((t177) % 4294967296) * 4096) % 4294967296) = 0 then ((decode_none.f).bind fun bt178 => (some (bt178.1, bt178.2))) else ((decode_r.f k a0).bind fun t180 => (some (Go.bits .or .u32 (Go.bits .or .u32 ((((t177) % 4294967296) * 4096) % 4294967296) ((t180 * 128) % 4294967296)) 55, true))))) = some (r1, r2) := H
    have A13 := Aside0.mk A130
    clear A130
    replace H := Option.bind_eq_some_iff.mp H
    obtain ⟨t177, A140, H⟩ := H
    replace H : (if ((((t177) % 4294967296) * 4096) % 4294967296) = 0 then ((decode_none.f).bind fun bt178 => (some (bt178.1, bt178.2))) else ((decode_r.f k a0).bind fun t180 => (some (Go.bits .or .u32 (Go.bits .or .u32 ((((t177) % 4294967296) * 4096) % 4294967296) ((t180 * 128) % 4294967296)) 55, true)))) = some (r1, r2) := H
    have A14 := Aside0.mk A140
    clear A140
    by_cases c15 : ((((t177) % 4294967296) * 4096) % 4294967296) = 0
    · rw [if_pos c15] at H
      have c15b0 : (((((t177) % 4294967296) * 4096) % 4294967296) == 0) = true := beq_iff_eq.mpr c15
      have c15b1 : (((((t177) % 4294967296) * 4096) % 4294967296) != 0) = false := bne_eq_false_iff_eq.mpr c15
      clear c15
      replace H := Option.bind_eq_some_iff.mp H
      obtain ⟨⟨t178, t179⟩, A160, H⟩ := H
      replace H : (some (t178, t179)) = some (r1, r2) := H
      have A16 := Aside0.mk A160
      clear A160
      simp only [Option.some.injEq, Prod.mk.injEq] at H
      obtain ⟨rfl, rfl⟩ := H
      go_enter Try.func40, Try.ntmps40
      go_wp2_with (first | ((with_reducible refine gate_callee (f := 71) rfl ?_); refine goesL_ (some 7) rfl rfl Try.func71 (by kernel_rfl) rfl #[.int .u32 a0] rfl (by (try simp only [List.map_toArray, List.map_cons, List.map_nil]); first | done | rfl | (simp only [List.length_drop, List.length_take]; rfl)) ?_; (with_reducible refine (decode_r.calls k a0 t175 _ A2.out).mono ?_); rintro e w' ⟨rfl, ⟨nd, rfl⟩⟩; refine ⟨_, rfl, ?_⟩) | ((with_reducible refine gate_callee (f := 73) rfl ?_); refine goesL_ (some 10) rfl rfl Try.func73 (by kernel_rfl) rfl #[.int .u32 a0] rfl (by (try simp only [List.map_toArray, List.map_cons, List.map_nil]); first | done | rfl | (simp only [List.length_drop, List.length_take]; rfl)) ?_; (with_reducible refine (decode_s6.calls k a0 t176 _ A13.out).mono ?_); rintro e w' ⟨rfl, ⟨nd, rfl⟩⟩; refine ⟨_, rfl, ?_⟩) | ((with_reducible refine gate_callee (f := 61) rfl ?_); refine goesL_ (some 12) rfl rfl Try.func61 (by kernel_rfl) rfl #[.int .i64 (wrap64 (t176)), .int .i64 6] rfl (by (try simp only [List.map_toArray, List.map_cons, List.map_nil]); first | done | rfl | (simp only [List.length_drop, List.length_take]; rfl)) ?_; (with_reducible refine (decode_signed.calls (wrap64 (t176)) 6 t177 _ A14.out).mono ?_); rintro e w' ⟨rfl, ⟨nd, rfl⟩⟩; refine ⟨_, rfl, ?_⟩) | ((with_reducible refine gate_callee (f := 20) rfl ?_); refine goesL_ (some 17) rfl rfl Try.func20 (by kernel_rfl) rfl #[] rfl (by (try simp only [List.map_toArray, List.map_cons, List.map_nil]); first | done | rfl | (simp only [List.length_drop, List.length_take]; rfl)) ?_; (with_reducible refine (decode_none.calls  t178 t179 _ A16.out).mono ?_); rintro e w' ⟨rfl, ⟨nd, rfl⟩⟩; refine ⟨_, rfl, ?_⟩))
      go_ret2
      exact ⟨by first | rfl | (simp; done) | (simp [*]; done), by repeat (first | exact Drawn0.refl _ | apply Drawn0.step)⟩
    · rw [if_neg c15] at H
      have c15b0 : (((((t177) % 4294967296) * 4096) % 4294967296) == 0) = false := beq_eq_false_iff_ne.mpr c15
      have c15b1 : (((((t177) % 4294967296) * 4096) % 4294967296) != 0) = true := bne_iff_ne.mpr c15
      replace H := Option.bind_eq_some_iff.mp H
      obtain ⟨t180, A170, H⟩ := H
      replace H : (some (Go.bits .or .u32 (Go.bits .or .u32 ((((t177) % 4294967296) * 4096) % 4294967296) ((t180 * 128) % 4294967296)) 55, true)) = some (r1, r2) := H
      have A17 := Aside0.mk A170
      clear A170
      simp only [Option.some.injEq, Prod.mk.injEq] at H
      obtain ⟨rfl, rfl⟩ := H
      go_enter Try.func40, Try.ntmps40
      go_wp2_with (first | ((with_reducible refine gate_callee (f := 71) rfl ?_); refine goesL_ (some 7) rfl rfl Try.func71 (by kernel_rfl) rfl #[.int .u32 a0] rfl (by (try simp only [List.map_toArray, List.map_cons, List.map_nil]); first | done | rfl | (simp only [List.length_drop, List.length_take]; rfl)) ?_; (with_reducible refine (decode_r.calls k a0 t175 _ A2.out).mono ?_); rintro e w' ⟨rfl, ⟨nd, rfl⟩⟩; refine ⟨_, rfl, ?_⟩) | ((with_reducible refine gate_callee (f := 73) rfl ?_); refine goesL_ (some 10) rfl rfl Try.func73 (by kernel_rfl) rfl #[.int .u32 a0] rfl (by (try simp only [List.map_toArray, List.map_cons, List.map_nil]); first | done | rfl | (simp only [List.length_drop, List.length_take]; rfl)) ?_; (with_reducible refine (decode_s6.calls k a0 t176 _ A13.out).mono ?_); rintro e w' ⟨rfl, ⟨nd, rfl⟩⟩; refine ⟨_, rfl, ?_⟩) | ((with_reducible refine gate_callee (f := 61) rfl ?_); refine goesL_ (some 12) rfl rfl Try.func61 (by kernel_rfl) rfl #[.int .i64 (wrap64 (t176)), .int .i64 6] rfl (by (try simp only [List.map_toArray, List.map_cons, List.map_nil]); first | done | rfl | (simp only [List.length_drop, List.length_take]; rfl)) ?_; (with_reducible refine (decode_signed.calls (wrap64 (t176)) 6 t177 _ A14.out).mono ?_); rintro e w' ⟨rfl, ⟨nd, rfl⟩⟩; refine ⟨_, rfl, ?_⟩) | ((with_reducible refine gate_callee (f := 71) rfl ?_); refine goesL_ (some 22) rfl rfl Try.func71 (by kernel_rfl) rfl #[.int .u32 a0] rfl (by (try simp only [List.map_toArray, List.map_cons, List.map_nil]); first | done | rfl | (simp only [List.length_drop, List.length_take]; rfl)) ?_; (with_reducible refine (decode_r.calls k a0 t180 _ A17.out).mono ?_); rintro e w' ⟨rfl, ⟨nd, rfl⟩⟩; refine ⟨_, rfl, ?_⟩))
      go_ret2
      exact ⟨by first | rfl | (simp; done) | (simp [*]; done), by repeat (first | exact Drawn0.refl _ | apply Drawn0.step)⟩

/-! ### decode_typeR: function 74 -/
def decode_typeR.f (a0 : Int) (a1 : Int) (a2 : Int) (a3 : Int) (a4 : Int) (a5 : Int) : Option (Int × Bool) := some (Go.bits .or .u32 (Go.bits .or .u32 (Go.bits .or .u32 (Go.bits .or .u32 (Go.bits .or .u32 ((a2 * 33554432) % 4294967296) ((a5 * 1048576) % 4294967296)) ((a4 * 32768) % 4294967296)) ((a1 * 4096) % 4294967296)) ((a3 * 128) % 4294967296)) a0, true)
set_option maxHeartbeats 8000000 in
set_option maxRecDepth 100000 in
theorem decode_typeR.calls (a0 : Int) (a1 : Int) (a2 : Int) (a3 : Int) (a4 : Int) (a5 : Int) (r1 : Int) (r2 : Bool) (w : World) (h : decode_typeR.f a0 a1 a2 a3 a4 a5 = some (r1, r2)) :
    Calls Try.prog 74 #[.int .u32 a0, .int .u32 a1, .int .u32 a2, .int .u32 a3, .int .u32 a4, .int .u32 a5] w fun e w' => e = .returned (.tuple #[.int .u32 r1, .bool r2]) ∧ Drawn0 w w' := by
  have H : (some (Go.bits .or .u32 (Go.bits .or .u32 (Go.bits .or .u32 (Go.bits .or .u32 (Go.bits .or .u32 ((a2 * 33554432) % 4294967296) ((a5 * 1048576) % 4294967296)) ((a4 * 32768) % 4294967296)) ((a1 * 4096) % 4294967296)) ((a3 * 128) % 4294967296)) a0, true)) = some (r1, r2) := h
  clear h
  simp only [Option.some.injEq, Prod.mk.injEq] at H
  obtain ⟨rfl, rfl⟩ := H
  go_enter Try.func74, Try.ntmps74
  go_wp2
  go_ret2
  exact ⟨by first | rfl | (simp; done) | (simp [*]; done), by repeat (first | exact Drawn0.refl _ | apply Drawn0.step)⟩

/-! ### decode_sums: function 41 -/
def decode_sums.f (k : Nat) (a0 : Int) : Option (Int × Bool) := (decode_ra.f k a0).bind fun t191 => ((decode_bits.f k a0 11 10 0).bind fun t192 => (if t192 = 0 then ((decode_s6.f k a0).bind fun t193 => ((decode_typeI.f 19 5 t191 t191 t193).bind fun bt194 => (some (bt194.1, bt194.2)))) else (if t192 = 1 then ((decode_s6.f k a0).bind fun t196 => ((decode_typeI.f 19 5 t191 t191 (Go.bits .or .u32 t196 1024)).bind fun bt197 => (some (bt197.1, bt197.2)))) else (if t192 = 2 then ((decode_i6.f k a0).bind fun t199 => ((decode_typeI.f 19 7 t191 t191 t199).bind fun bt200 => (some (bt200.1, bt200.2)))) else ((decode_ta.f k a0).bind fun t202 => ((decode_bits.f k a0 12 12 2).bind fun t203 => ((decode_bits.f k a0 6 5 0).bind fun t204 => (if (Go.bits .or .u32 t203 t204) = 0 then ((decode_typeR.f 51 0 32 t191 t191 t202).bind fun bt205 => (some (bt205.1, bt205.2))) else (if (Go.bits .or .u32 t203 t204) = 1 then ((decode_typeR.f 51 4 0 t191 t191 t202).bind fun bt207 => (some (bt207.1, bt207.2))) else (if (Go.bits .or .u32 t203 t204) = 2 then ((decode_typeR.f 51 6 0 t191 t191 t202).bind fun bt209 => (some (bt209.1, bt209.2))) else (if (Go.bits .or .u32 t203 t204) = 3 then ((decode_typeR.f 51 7 0 t191 t191 t202).bind fun bt211 => (some (bt211.1, bt211.2))) else (if (Go.bits .or .u32 t203 t204) = 4 then ((decode_typeR.f 59 0 32 t191 t191 t202).bind fun bt213 => (some (bt213.1, bt213.2))) else (if (Go.bits .or .u32 t203 t204) = 5 then ((decode_typeR.f 59 0 0 t191 t191 t202).bind fun bt215 => (some (bt215.1, bt215.2))) else ((decode_none.f).bind fun bt217 => (some (bt217.1, bt217.2))))))))))))))))
theorem decode_sums.mono : ∀ a0 k, LeO (decode_sums.f k a0) (decode_sums.f (k + 1) a0) := by
  intro a0 k
  unfold decode_sums.f
  repeat' first
      | (with_reducible exact decode_bits.mono _ _ _ _ _)
      | (with_reducible exact decode_i6.mono _ _)
      | (with_reducible exact decode_ra.mono _ _)
      | (with_reducible exact decode_s6.mono _ _)
      | (with_reducible exact decode_ta.mono _ _)
      | (with_reducible exact LeO.refl _)
      | (with_reducible exact LeO.none _)
      | (with_reducible refine LeO.ite ?_ ?_)
      | (with_reducible refine LeO.bind ?_ (fun _ => ?_))
      | exact decode_bits.mono _ _ _ _ _
      | exact decode_i6.mono _ _
      | exact decode_ra.mono _ _
      | exact decode_s6.mono _ _
      | exact decode_ta.mono _ _
      | exact LeO.none _
      | refine LeO.ite ?_ ?_
      | refine LeO.bind ?_ (fun _ => ?_)
set_option maxHeartbeats 8000000 in
set_option maxRecDepth 100000 in
theorem decode_sums.calls (k : Nat) (a0 : Int) (r1 : Int) (r2 : Bool) (w : World) (h : decode_sums.f k a0 = some (r1, r2)) :
    Calls Try.prog 41 #[.int .u32 a0] w fun e w' => e = .returned (.tuple #[.int .u32 r1, .bool r2]) ∧ Drawn0 w w' := by
  have H : ((decode_ra.f k a0).bind fun t191 => ((decode_bits.f k a0 11 10 0).bind fun t192 => (if t192 = 0 then ((decode_s6.f k a0).bind fun t193 => ((decode_typeI.f 19 5 t191 t191 t193).bind fun bt194 => (some (bt194.1, bt194.2)))) else (if t192 = 1 then ((decode_s6.f k a0).bind fun t196 => ((decode_typeI.f 19 5 t191 t191 (Go.bits .or .u32 t196 1024)).bind fun bt197 => (some (bt197.1, bt197.2)))) else (if t192 = 2 then ((decode_i6.f k a0).bind fun t199 => ((decode_typeI.f 19 7 t191 t191 t199).bind fun bt200 => (some (bt200.1, bt200.2)))) else ((decode_ta.f k a0).bind fun t202 => ((decode_bits.f k a0 12 12 2).bind fun t203 => ((decode_bits.f k a0 6 5 0).bind fun t204 => (if (Go.bits .or .u32 t203 t204) = 0 then ((decode_typeR.f 51 0 32 t191 t191 t202).bind fun bt205 => (some (bt205.1, bt205.2))) else (if (Go.bits .or .u32 t203 t204) = 1 then ((decode_typeR.f 51 4 0 t191 t191 t202).bind fun bt207 => (some (bt207.1, bt207.2))) else (if (Go.bits .or .u32 t203 t204) = 2 then ((decode_typeR.f 51 6 0 t191 t191 t202).bind fun bt209 => (some (bt209.1, bt209.2))) else (if (Go.bits .or .u32 t203 t204) = 3 then ((decode_typeR.f 51 7 0 t191 t191 t202).bind fun bt211 => (some (bt211.1, bt211.2))) else (if (Go.bits .or .u32 t203 t204) = 4 then ((decode_typeR.f 59 0 32 t191 t191 t202).bind fun bt213 => (some (bt213.1, bt213.2))) else (if (Go.bits .or .u32 t203 t204) = 5 then ((decode_typeR.f 59 0 0 t191 t191 t202).bind fun bt215 => (some (bt215.1, bt215.2))) else ((decode_none.f).bind fun bt217 => (some (bt217.1, bt217.2))))))))))))))))) = some (r1, r2) := h
  clear h
  replace H := Option.bind_eq_some_iff.mp H
  obtain ⟨t191, A20, H⟩ := H
  replace H : ((decode_bits.f k a0 11 10 0).bind fun t192 => (if t192 = 0 then ((decode_s6.f k a0).bind fun t193 => ((decode_typeI.f 19 5 t191 t191 t193).bind fun bt194 => (some (bt194.1, bt194.2)))) else (if t192 = 1 then ((decode_s6.f k a0).bind fun t196 => ((decode_typeI.f 19 5 t191 t191 (Go.bits .or .u32 t196 1024)).bind fun bt197 => (some (bt197.1, bt197.2)))) else (if t192 = 2 then ((decode_i6.f k a0).bind fun t199 => ((decode_typeI.f 19 7 t191 t191 t199).bind fun bt200 => (some (bt200.1, bt200.2)))) else ((decode_ta.f k a0).bind fun t202 => ((decode_bits.f k a0 12 12 2).bind fun t203 => ((decode_bits.f k a0 6 5 0).bind fun t204 => (if (Go.bits .or .u32 t203 t204) = 0 then ((decode_typeR.f 51 0 32 t191 t191 t202).bind fun bt205 => (some (bt205.1, bt205.2))) else (if (Go.bits .or .u32 t203 t204) = 1 then ((decode_typeR.f 51 4 0 t191 t191 t202).bind fun bt207 => (some (bt207.1, bt207.2))) else (if (Go.bits .or .u32 t203 t204) = 2 then ((decode_typeR.f 51 6 0 t191 t191 t202).bind fun bt209 => (some (bt209.1, bt209.2))) else (if (Go.bits .or .u32 t203 t204) = 3 then ((decode_typeR.f 51 7 0 t191 t191 t202).bind fun bt211 => (some (bt211.1, bt211.2))) else (if (Go.bits .or .u32 t203 t204) = 4 then ((decode_typeR.f 59 0 32 t191 t191 t202).bind fun bt213 => (some (bt213.1, bt213.2))) else (if (Go.bits .or .u32 t203 t204) = 5 then ((decode_typeR.f 59 0 0 t191 t191 t202).bind fun bt215 => (some (bt215.1, bt215.2))) else ((decode_none.f).bind fun bt217 => (some (bt217.1, bt217.2)))))))))))))))) = some (r1, r2) := H
  have A2 := Aside0.mk A20
  clear A20
  replace H := Option.bind_eq_some_iff.mp H
  obtain ⟨t192, A30, H⟩ := H
  replace H : (if t192 = 0 then ((decode_s6.f k a0).bind fun t193 => ((decode_typeI.f 19 5 t191 t191 t193).bind fun bt194 => (some (bt194.1, bt194.2)))) else (if t192 = 1 then ((decode_s6.f k a0).bind fun t196 => ((decode_typeI.f 19 5 t191 t191 (Go.bits .or .u32 t196 1024)).bind fun bt197 => (some (bt197.1, bt197.2)))) else (if t192 = 2 then ((decode_i6.f k a0).bind fun t199 => ((decode_typeI.f 19 7 t191 t191 t199).bind fun bt200 => (some (bt200.1, bt200.2)))) else ((decode_ta.f k a0).bind fun t202 => ((decode_bits.f k a0 12 12 2).bind fun t203 => ((decode_bits.f k a0 6 5 0).bind fun t204 => (if (Go.bits .or .u32 t203 t204) = 0 then ((decode_typeR.f 51 0 32 t191 t191 t202).bind fun bt205 => (some (bt205.1, bt205.2))) else (if (Go.bits .or .u32 t203 t204) = 1 then ((decode_typeR.f 51 4 0 t191 t191 t202).bind fun bt207 => (some (bt207.1, bt207.2))) else (if (Go.bits .or .u32 t203 t204) = 2 then ((decode_typeR.f 51 6 0 t191 t191 t202).bind fun bt209 => (some (bt209.1, bt209.2))) else (if (Go.bits .or .u32 t203 t204) = 3 then ((decode_typeR.f 51 7 0 t191 t191 t202).bind fun bt211 => (some (bt211.1, bt211.2))) else (if (Go.bits .or .u32 t203 t204) = 4 then ((decode_typeR.f 59 0 32 t191 t191 t202).bind fun bt213 => (some (bt213.1, bt213.2))) else (if (Go.bits .or .u32 t203 t204) = 5 then ((decode_typeR.f 59 0 0 t191 t191 t202).bind fun bt215 => (some (bt215.1, bt215.2))) else ((decode_none.f).bind fun bt217 => (some (bt217.1, bt217.2))))))))))))))) = some (r1, r2) := H
  have A3 := Aside0.mk A30
  clear A30
  by_cases c4 : t192 = 0
  · rw [if_pos c4] at H
    have c4b0 : (t192 == 0) = true := beq_iff_eq.mpr c4
    have c4b1 : (t192 != 0) = false := bne_eq_false_iff_eq.mpr c4
    clear c4
    replace H := Option.bind_eq_some_iff.mp H
    obtain ⟨t193, A50, H⟩ := H
    replace H : ((decode_typeI.f 19 5 t191 t191 t193).bind fun bt194 => (some (bt194.1, bt194.2))) = some (r1, r2) := H
    have A5 := Aside0.mk A50
    clear A50
    replace H := Option.bind_eq_some_iff.mp H
    obtain ⟨⟨t194, t195⟩, A60, H⟩ := H
    replace H : (some (t194, t195)) = some (r1, r2) := H
    have A6 := Aside0.mk A60
    clear A60
    simp only [Option.some.injEq, Prod.mk.injEq] at H
    obtain ⟨rfl, rfl⟩ := H
    go_enter Try.func41, Try.ntmps41
    go_wp2_with (first | ((with_reducible refine gate_callee (f := 67) rfl ?_); refine goesL_ (some 7) rfl rfl Try.func67 (by kernel_rfl) rfl #[.int .u32 a0] rfl (by (try simp only [List.map_toArray, List.map_cons, List.map_nil]); first | done | rfl | (simp only [List.length_drop, List.length_take]; rfl)) ?_; (with_reducible refine (decode_ra.calls k a0 t191 _ A2.out).mono ?_); rintro e w' ⟨rfl, ⟨nd, rfl⟩⟩; refine ⟨_, rfl, ?_⟩) | ((with_reducible refine gate_callee (f := 64) rfl ?_); refine goesL_ (some 9) rfl rfl Try.func64 (by kernel_rfl) rfl #[.int .u32 a0, .int .i64 11, .int .i64 10, .int .i64 0] rfl (by (try simp only [List.map_toArray, List.map_cons, List.map_nil]); first | done | rfl | (simp only [List.length_drop, List.length_take]; rfl)) ?_; (with_reducible refine (decode_bits.calls k a0 11 10 0 t192 _ A3.out).mono ?_); rintro e w' ⟨rfl, ⟨nd, rfl⟩⟩; refine ⟨_, rfl, ?_⟩) | ((with_reducible refine gate_callee (f := 73) rfl ?_); refine goesL_ (some 15) rfl rfl Try.func73 (by kernel_rfl) rfl #[.int .u32 a0] rfl (by (try simp only [List.map_toArray, List.map_cons, List.map_nil]); first | done | rfl | (simp only [List.length_drop, List.length_take]; rfl)) ?_; (with_reducible refine (decode_s6.calls k a0 t193 _ A5.out).mono ?_); rintro e w' ⟨rfl, ⟨nd, rfl⟩⟩; refine ⟨_, rfl, ?_⟩) | ((with_reducible refine gate_callee (f := 65) rfl ?_); refine goesL_ (some 16) rfl rfl Try.func65 (by kernel_rfl) rfl #[.int .u32 19, .int .u32 5, .int .u32 t191, .int .u32 t191, .int .u32 t193] rfl (by (try simp only [List.map_toArray, List.map_cons, List.map_nil]); first | done | rfl | (simp only [List.length_drop, List.length_take]; rfl)) ?_; (with_reducible refine (decode_typeI.calls 19 5 t191 t191 t193 t194 t195 _ A6.out).mono ?_); rintro e w' ⟨rfl, ⟨nd, rfl⟩⟩; refine ⟨_, rfl, ?_⟩))
    go_ret2
    exact ⟨by first | rfl | (simp; done) | (simp [*]; done), by repeat (first | exact Drawn0.refl _ | apply Drawn0.step)⟩
  · rw [if_neg c4] at H
    have c4b0 : (t192 == 0) = false := beq_eq_false_iff_ne.mpr c4
    have c4b1 : (t192 != 0) = true := bne_iff_ne.mpr c4
    by_cases c7 : t192 = 1
    · rw [if_pos c7] at H
      have c7b0 : (t192 == 1) = true := beq_iff_eq.mpr c7
      have c7b1 : (t192 != 1) = false := bne_eq_false_iff_eq.mpr c7
      clear c7
      replace H := Option.bind_eq_some_iff.mp H
      obtain ⟨t196, A80, H⟩ := H
      replace H : ((decode_typeI.f 19 5 t191 t191 (Go.bits .or .u32 t196 1024)).bind fun bt197 => (some (bt197.1, bt197.2))) = some (r1, r2) := H
      have A8 := Aside0.mk A80
      clear A80
      replace H := Option.bind_eq_some_iff.mp H
      obtain ⟨⟨t197, t198⟩, A90, H⟩ := H
      replace H : (some (t197, t198)) = some (r1, r2) := H
      have A9 := Aside0.mk A90
      clear A90
      simp only [Option.some.injEq, Prod.mk.injEq] at H
      obtain ⟨rfl, rfl⟩ := H
      go_enter Try.func41, Try.ntmps41
      go_wp2_with (first | ((with_reducible refine gate_callee (f := 67) rfl ?_); refine goesL_ (some 7) rfl rfl Try.func67 (by kernel_rfl) rfl #[.int .u32 a0] rfl (by (try simp only [List.map_toArray, List.map_cons, List.map_nil]); first | done | rfl | (simp only [List.length_drop, List.length_take]; rfl)) ?_; (with_reducible refine (decode_ra.calls k a0 t191 _ A2.out).mono ?_); rintro e w' ⟨rfl, ⟨nd, rfl⟩⟩; refine ⟨_, rfl, ?_⟩) | ((with_reducible refine gate_callee (f := 64) rfl ?_); refine goesL_ (some 9) rfl rfl Try.func64 (by kernel_rfl) rfl #[.int .u32 a0, .int .i64 11, .int .i64 10, .int .i64 0] rfl (by (try simp only [List.map_toArray, List.map_cons, List.map_nil]); first | done | rfl | (simp only [List.length_drop, List.length_take]; rfl)) ?_; (with_reducible refine (decode_bits.calls k a0 11 10 0 t192 _ A3.out).mono ?_); rintro e w' ⟨rfl, ⟨nd, rfl⟩⟩; refine ⟨_, rfl, ?_⟩) | ((with_reducible refine gate_callee (f := 73) rfl ?_); refine goesL_ (some 24) rfl rfl Try.func73 (by kernel_rfl) rfl #[.int .u32 a0] rfl (by (try simp only [List.map_toArray, List.map_cons, List.map_nil]); first | done | rfl | (simp only [List.length_drop, List.length_take]; rfl)) ?_; (with_reducible refine (decode_s6.calls k a0 t196 _ A8.out).mono ?_); rintro e w' ⟨rfl, ⟨nd, rfl⟩⟩; refine ⟨_, rfl, ?_⟩) | ((with_reducible refine gate_callee (f := 65) rfl ?_); refine goesL_ (some 26) rfl rfl Try.func65 (by kernel_rfl) rfl #[.int .u32 19, .int .u32 5, .int .u32 t191, .int .u32 t191, .int .u32 (Go.bits .or .u32 t196 1024)] rfl (by (try simp only [List.map_toArray, List.map_cons, List.map_nil]); first | done | rfl | (simp only [List.length_drop, List.length_take]; rfl)) ?_; (with_reducible refine (decode_typeI.calls 19 5 t191 t191 (Go.bits .or .u32 t196 1024) t197 t198 _ A9.out).mono ?_); rintro e w' ⟨rfl, ⟨nd, rfl⟩⟩; refine ⟨_, rfl, ?_⟩))
      go_ret2
      exact ⟨by first | rfl | (simp; done) | (simp [*]; done), by repeat (first | exact Drawn0.refl _ | apply Drawn0.step)⟩
    · rw [if_neg c7] at H
      have c7b0 : (t192 == 1) = false := beq_eq_false_iff_ne.mpr c7
      have c7b1 : (t192 != 1) = true := bne_iff_ne.mpr c7
      by_cases c10 : t192 = 2
      · rw [if_pos c10] at H
        have c10b0 : (t192 == 2) = true := beq_iff_eq.mpr c10
        have c10b1 : (t192 != 2) = false := bne_eq_false_iff_eq.mpr c10
        clear c10
        replace H := Option.bind_eq_some_iff.mp H
        obtain ⟨t199, A110, H⟩ := H
        replace H : ((decode_typeI.f 19 7 t191 t191 t199).bind fun bt200 => (some (bt200.1, bt200.2))) = some (r1, r2) := H
        have A11 := Aside0.mk A110
        clear A110
        replace H := Option.bind_eq_some_iff.mp H
        obtain ⟨⟨t200, t201⟩, A120, H⟩ := H
        replace H : (some (t200, t201)) = some (r1, r2) := H
        have A12 := Aside0.mk A120
        clear A120
        simp only [Option.some.injEq, Prod.mk.injEq] at H
        obtain ⟨rfl, rfl⟩ := H
        go_enter Try.func41, Try.ntmps41
        go_wp2_with (first | ((with_reducible refine gate_callee (f := 67) rfl ?_); refine goesL_ (some 7) rfl rfl Try.func67 (by kernel_rfl) rfl #[.int .u32 a0] rfl (by (try simp only [List.map_toArray, List.map_cons, List.map_nil]); first | done | rfl | (simp only [List.length_drop, List.length_take]; rfl)) ?_; (with_reducible refine (decode_ra.calls k a0 t191 _ A2.out).mono ?_); rintro e w' ⟨rfl, ⟨nd, rfl⟩⟩; refine ⟨_, rfl, ?_⟩) | ((with_reducible refine gate_callee (f := 64) rfl ?_); refine goesL_ (some 9) rfl rfl Try.func64 (by kernel_rfl) rfl #[.int .u32 a0, .int .i64 11, .int .i64 10, .int .i64 0] rfl (by (try simp only [List.map_toArray, List.map_cons, List.map_nil]); first | done | rfl | (simp only [List.length_drop, List.length_take]; rfl)) ?_; (with_reducible refine (decode_bits.calls k a0 11 10 0 t192 _ A3.out).mono ?_); rintro e w' ⟨rfl, ⟨nd, rfl⟩⟩; refine ⟨_, rfl, ?_⟩) | ((with_reducible refine gate_callee (f := 72) rfl ?_); refine goesL_ (some 34) rfl rfl Try.func72 (by kernel_rfl) rfl #[.int .u32 a0] rfl (by (try simp only [List.map_toArray, List.map_cons, List.map_nil]); first | done | rfl | (simp only [List.length_drop, List.length_take]; rfl)) ?_; (with_reducible refine (decode_i6.calls k a0 t199 _ A11.out).mono ?_); rintro e w' ⟨rfl, ⟨nd, rfl⟩⟩; refine ⟨_, rfl, ?_⟩) | ((with_reducible refine gate_callee (f := 65) rfl ?_); refine goesL_ (some 35) rfl rfl Try.func65 (by kernel_rfl) rfl #[.int .u32 19, .int .u32 7, .int .u32 t191, .int .u32 t191, .int .u32 t199] rfl (by (try simp only [List.map_toArray, List.map_cons, List.map_nil]); first | done | rfl | (simp only [List.length_drop, List.length_take]; rfl)) ?_; (with_reducible refine (decode_typeI.calls 19 7 t191 t191 t199 t200 t201 _ A12.out).mono ?_); rintro e w' ⟨rfl, ⟨nd, rfl⟩⟩; refine ⟨_, rfl, ?_⟩))
        go_ret2
        exact ⟨by first | rfl | (simp; done) | (simp [*]; done), by repeat (first | exact Drawn0.refl _ | apply Drawn0.step)⟩
      · rw [if_neg c10] at H
        have c10b0 : (t192 == 2) = false := beq_eq_false_iff_ne.mpr c10
        have c10b1 : (t192 != 2) = true := bne_iff_ne.mpr c10
        replace H := Option.bind_eq_some_iff.mp H
        obtain ⟨t202, A130, H⟩ := H
        replace H : ((decode_bits.f k a0 12 12 2).bind fun t203 => ((decode_bits.f k a0 6 5 0).bind fun t204 => (if (Go.bits .or .u32 t203 t204) = 0 then ((decode_typeR.f 51 0 32 t191 t191 t202).bind fun bt205 => (some (bt205.1, bt205.2))) else (if (Go.bits .or .u32 t203 t204) = 1 then ((decode_typeR.f 51 4 0 t191 t191 t202).bind fun bt207 => (some (bt207.1, bt207.2))) else (if (Go.bits .or .u32 t203 t204) = 2 then ((decode_typeR.f 51 6 0 t191 t191 t202).bind fun bt209 => (some (bt209.1, bt209.2))) else (if (Go.bits .or .u32 t203 t204) = 3 then ((decode_typeR.f 51 7 0 t191 t191 t202).bind fun bt211 => (some (bt211.1, bt211.2))) else (if (Go.bits .or .u32 t203 t204) = 4 then ((decode_typeR.f 59 0 32 t191 t191 t202).bind fun bt213 => (some (bt213.1, bt213.2))) else (if (Go.bits .or .u32 t203 t204) = 5 then ((decode_typeR.f 59 0 0 t191 t191 t202).bind fun bt215 => (some (bt215.1, bt215.2))) else ((decode_none.f).bind fun bt217 => (some (bt217.1, bt217.2))))))))))) = some (r1, r2) := H
        have A13 := Aside0.mk A130
        clear A130
        replace H := Option.bind_eq_some_iff.mp H
        obtain ⟨t203, A140, H⟩ := H
        replace H : ((decode_bits.f k a0 6 5 0).bind fun t204 => (if (Go.bits .or .u32 t203 t204) = 0 then ((decode_typeR.f 51 0 32 t191 t191 t202).bind fun bt205 => (some (bt205.1, bt205.2))) else (if (Go.bits .or .u32 t203 t204) = 1 then ((decode_typeR.f 51 4 0 t191 t191 t202).bind fun bt207 => (some (bt207.1, bt207.2))) else (if (Go.bits .or .u32 t203 t204) = 2 then ((decode_typeR.f 51 6 0 t191 t191 t202).bind fun bt209 => (some (bt209.1, bt209.2))) else (if (Go.bits .or .u32 t203 t204) = 3 then ((decode_typeR.f 51 7 0 t191 t191 t202).bind fun bt211 => (some (bt211.1, bt211.2))) else (if (Go.bits .or .u32 t203 t204) = 4 then ((decode_typeR.f 59 0 32 t191 t191 t202).bind fun bt213 => (some (bt213.1, bt213.2))) else (if (Go.bits .or .u32 t203 t204) = 5 then ((decode_typeR.f 59 0 0 t191 t191 t202).bind fun bt215 => (some (bt215.1, bt215.2))) else ((decode_none.f).bind fun bt217 => (some (bt217.1, bt217.2)))))))))) = some (r1, r2) := H
        have A14 := Aside0.mk A140
        clear A140
        replace H := Option.bind_eq_some_iff.mp H
        obtain ⟨t204, A150, H⟩ := H
        replace H : (if (Go.bits .or .u32 t203 t204) = 0 then ((decode_typeR.f 51 0 32 t191 t191 t202).bind fun bt205 => (some (bt205.1, bt205.2))) else (if (Go.bits .or .u32 t203 t204) = 1 then ((decode_typeR.f 51 4 0 t191 t191 t202).bind fun bt207 => (some (bt207.1, bt207.2))) else (if (Go.bits .or .u32 t203 t204) = 2 then ((decode_typeR.f 51 6 0 t191 t191 t202).bind fun bt209 => (some (bt209.1, bt209.2))) else (if (Go.bits .or .u32 t203 t204) = 3 then ((decode_typeR.f 51 7 0 t191 t191 t202).bind fun bt211 => (some (bt211.1, bt211.2))) else (if (Go.bits .or .u32 t203 t204) = 4 then ((decode_typeR.f 59 0 32 t191 t191 t202).bind fun bt213 => (some (bt213.1, bt213.2))) else (if (Go.bits .or .u32 t203 t204) = 5 then ((decode_typeR.f 59 0 0 t191 t191 t202).bind fun bt215 => (some (bt215.1, bt215.2))) else ((decode_none.f).bind fun bt217 => (some (bt217.1, bt217.2))))))))) = some (r1, r2) := H
        have A15 := Aside0.mk A150
        clear A150
        by_cases c16 : (Go.bits .or .u32 t203 t204) = 0
        · rw [if_pos c16] at H
          have c16b0 : ((Go.bits .or .u32 t203 t204) == 0) = true := beq_iff_eq.mpr c16
          have c16b1 : ((Go.bits .or .u32 t203 t204) != 0) = false := bne_eq_false_iff_eq.mpr c16
          clear c16
          replace H := Option.bind_eq_some_iff.mp H
          obtain ⟨⟨t205, t206⟩, A170, H⟩ := H
          replace H : (some (t205, t206)) = some (r1, r2) := H
          have A17 := Aside0.mk A170
          clear A170
          simp only [Option.some.injEq, Prod.mk.injEq] at H
          obtain ⟨rfl, rfl⟩ := H
          go_enter Try.func41, Try.ntmps41
          go_wp2_with (first | ((with_reducible refine gate_callee (f := 67) rfl ?_); refine goesL_ (some 7) rfl rfl Try.func67 (by kernel_rfl) rfl #[.int .u32 a0] rfl (by (try simp only [List.map_toArray, List.map_cons, List.map_nil]); first | done | rfl | (simp only [List.length_drop, List.length_take]; rfl)) ?_; (with_reducible refine (decode_ra.calls k a0 t191 _ A2.out).mono ?_); rintro e w' ⟨rfl, ⟨nd, rfl⟩⟩; refine ⟨_, rfl, ?_⟩) | ((with_reducible refine gate_callee (f := 64) rfl ?_); refine goesL_ (some 9) rfl rfl Try.func64 (by kernel_rfl) rfl #[.int .u32 a0, .int .i64 11, .int .i64 10, .int .i64 0] rfl (by (try simp only [List.map_toArray, List.map_cons, List.map_nil]); first | done | rfl | (simp only [List.length_drop, List.length_take]; rfl)) ?_; (with_reducible refine (decode_bits.calls k a0 11 10 0 t192 _ A3.out).mono ?_); rintro e w' ⟨rfl, ⟨nd, rfl⟩⟩; refine ⟨_, rfl, ?_⟩) | ((with_reducible refine gate_callee (f := 66) rfl ?_); refine goesL_ (some 39) rfl rfl Try.func66 (by kernel_rfl) rfl #[.int .u32 a0] rfl (by (try simp only [List.map_toArray, List.map_cons, List.map_nil]); first | done | rfl | (simp only [List.length_drop, List.length_take]; rfl)) ?_; (with_reducible refine (decode_ta.calls k a0 t202 _ A13.out).mono ?_); rintro e w' ⟨rfl, ⟨nd, rfl⟩⟩; refine ⟨_, rfl, ?_⟩) | ((with_reducible refine gate_callee (f := 64) rfl ?_); refine goesL_ (some 41) rfl rfl Try.func64 (by kernel_rfl) rfl #[.int .u32 a0, .int .i64 12, .int .i64 12, .int .i64 2] rfl (by (try simp only [List.map_toArray, List.map_cons, List.map_nil]); first | done | rfl | (simp only [List.length_drop, List.length_take]; rfl)) ?_; (with_reducible refine (decode_bits.calls k a0 12 12 2 t203 _ A14.out).mono ?_); rintro e w' ⟨rfl, ⟨nd, rfl⟩⟩; refine ⟨_, rfl, ?_⟩) | ((with_reducible refine gate_callee (f := 64) rfl ?_); refine goesL_ (some 43) rfl rfl Try.func64 (by kernel_rfl) rfl #[.int .u32 a0, .int .i64 6, .int .i64 5, .int .i64 0] rfl (by (try simp only [List.map_toArray, List.map_cons, List.map_nil]); first | done | rfl | (simp only [List.length_drop, List.length_take]; rfl)) ?_; (with_reducible refine (decode_bits.calls k a0 6 5 0 t204 _ A15.out).mono ?_); rintro e w' ⟨rfl, ⟨nd, rfl⟩⟩; refine ⟨_, rfl, ?_⟩) | ((with_reducible refine gate_callee (f := 74) rfl ?_); refine goesL_ (some 50) rfl rfl Try.func74 (by kernel_rfl) rfl #[.int .u32 51, .int .u32 0, .int .u32 32, .int .u32 t191, .int .u32 t191, .int .u32 t202] rfl (by (try simp only [List.map_toArray, List.map_cons, List.map_nil]); first | done | rfl | (simp only [List.length_drop, List.length_take]; rfl)) ?_; (with_reducible refine (decode_typeR.calls 51 0 32 t191 t191 t202 t205 t206 _ A17.out).mono ?_); rintro e w' ⟨rfl, ⟨nd, rfl⟩⟩; refine ⟨_, rfl, ?_⟩))
          go_ret2
          exact ⟨by first | rfl | (simp; done) | (simp [*]; done), by repeat (first | exact Drawn0.refl _ | apply Drawn0.step)⟩
        · rw [if_neg c16] at H
          have c16b0 : ((Go.bits .or .u32 t203 t204) == 0) = false := beq_eq_false_iff_ne.mpr c16
          have c16b1 : ((Go.bits .or .u32 t203 t204) != 0) = true := bne_iff_ne.mpr c16
          by_cases c18 : (Go.bits .or .u32 t203 t204) = 1
          · rw [if_pos c18] at H
            have c18b0 : ((Go.bits .or .u32 t203 t204) == 1) = true := beq_iff_eq.mpr c18
            have c18b1 : ((Go.bits .or .u32 t203 t204) != 1) = false := bne_eq_false_iff_eq.mpr c18
            clear c18
            replace H := Option.bind_eq_some_iff.mp H
            obtain ⟨⟨t207, t208⟩, A190, H⟩ := H
            replace H : (some (t207, t208)) = some (r1, r2) := H
            have A19 := Aside0.mk A190
            clear A190
            simp only [Option.some.injEq, Prod.mk.injEq] at H
            obtain ⟨rfl, rfl⟩ := H
            go_enter Try.func41, Try.ntmps41
            go_wp2_with (first | ((with_reducible refine gate_callee (f := 67) rfl ?_); refine goesL_ (some 7) rfl rfl Try.func67 (by kernel_rfl) rfl #[.int .u32 a0] rfl (by (try simp only [List.map_toArray, List.map_cons, List.map_nil]); first | done | rfl | (simp only [List.length_drop, List.length_take]; rfl)) ?_; (with_reducible refine (decode_ra.calls k a0 t191 _ A2.out).mono ?_); rintro e w' ⟨rfl, ⟨nd, rfl⟩⟩; refine ⟨_, rfl, ?_⟩) | ((with_reducible refine gate_callee (f := 64) rfl ?_); refine goesL_ (some 9) rfl rfl Try.func64 (by kernel_rfl) rfl #[.int .u32 a0, .int .i64 11, .int .i64 10, .int .i64 0] rfl (by (try simp only [List.map_toArray, List.map_cons, List.map_nil]); first | done | rfl | (simp only [List.length_drop, List.length_take]; rfl)) ?_; (with_reducible refine (decode_bits.calls k a0 11 10 0 t192 _ A3.out).mono ?_); rintro e w' ⟨rfl, ⟨nd, rfl⟩⟩; refine ⟨_, rfl, ?_⟩) | ((with_reducible refine gate_callee (f := 66) rfl ?_); refine goesL_ (some 39) rfl rfl Try.func66 (by kernel_rfl) rfl #[.int .u32 a0] rfl (by (try simp only [List.map_toArray, List.map_cons, List.map_nil]); first | done | rfl | (simp only [List.length_drop, List.length_take]; rfl)) ?_; (with_reducible refine (decode_ta.calls k a0 t202 _ A13.out).mono ?_); rintro e w' ⟨rfl, ⟨nd, rfl⟩⟩; refine ⟨_, rfl, ?_⟩) | ((with_reducible refine gate_callee (f := 64) rfl ?_); refine goesL_ (some 41) rfl rfl Try.func64 (by kernel_rfl) rfl #[.int .u32 a0, .int .i64 12, .int .i64 12, .int .i64 2] rfl (by (try simp only [List.map_toArray, List.map_cons, List.map_nil]); first | done | rfl | (simp only [List.length_drop, List.length_take]; rfl)) ?_; (with_reducible refine (decode_bits.calls k a0 12 12 2 t203 _ A14.out).mono ?_); rintro e w' ⟨rfl, ⟨nd, rfl⟩⟩; refine ⟨_, rfl, ?_⟩) | ((with_reducible refine gate_callee (f := 64) rfl ?_); refine goesL_ (some 43) rfl rfl Try.func64 (by kernel_rfl) rfl #[.int .u32 a0, .int .i64 6, .int .i64 5, .int .i64 0] rfl (by (try simp only [List.map_toArray, List.map_cons, List.map_nil]); first | done | rfl | (simp only [List.length_drop, List.length_take]; rfl)) ?_; (with_reducible refine (decode_bits.calls k a0 6 5 0 t204 _ A15.out).mono ?_); rintro e w' ⟨rfl, ⟨nd, rfl⟩⟩; refine ⟨_, rfl, ?_⟩) | ((with_reducible refine gate_callee (f := 74) rfl ?_); refine goesL_ (some 58) rfl rfl Try.func74 (by kernel_rfl) rfl #[.int .u32 51, .int .u32 4, .int .u32 0, .int .u32 t191, .int .u32 t191, .int .u32 t202] rfl (by (try simp only [List.map_toArray, List.map_cons, List.map_nil]); first | done | rfl | (simp only [List.length_drop, List.length_take]; rfl)) ?_; (with_reducible refine (decode_typeR.calls 51 4 0 t191 t191 t202 t207 t208 _ A19.out).mono ?_); rintro e w' ⟨rfl, ⟨nd, rfl⟩⟩; refine ⟨_, rfl, ?_⟩))
            go_ret2
            exact ⟨by first | rfl | (simp; done) | (simp [*]; done), by repeat (first | exact Drawn0.refl _ | apply Drawn0.step)⟩
          · rw [if_neg c18] at H
            have c18b0 : ((Go.bits .or .u32 t203 t204) == 1) = false := beq_eq_false_iff_ne.mpr c18
            have c18b1 : ((Go.bits .or .u32 t203 t204) != 1) = true := bne_iff_ne.mpr c18
            by_cases c20 : (Go.bits .or .u32 t203 t204) = 2
            · rw [if_pos c20] at H
              have c20b0 : ((Go.bits .or .u32 t203 t204) == 2) = true := beq_iff_eq.mpr c20
              have c20b1 : ((Go.bits .or .u32 t203 t204) != 2) = false := bne_eq_false_iff_eq.mpr c20
              clear c20
              replace H := Option.bind_eq_some_iff.mp H
              obtain ⟨⟨t209, t210⟩, A210, H⟩ := H
              replace H : (some (t209, t210)) = some (r1, r2) := H
              have A21 := Aside0.mk A210
              clear A210
              simp only [Option.some.injEq, Prod.mk.injEq] at H
              obtain ⟨rfl, rfl⟩ := H
              go_enter Try.func41, Try.ntmps41
              go_wp2_with (first | ((with_reducible refine gate_callee (f := 67) rfl ?_); refine goesL_ (some 7) rfl rfl Try.func67 (by kernel_rfl) rfl #[.int .u32 a0] rfl (by (try simp only [List.map_toArray, List.map_cons, List.map_nil]); first | done | rfl | (simp only [List.length_drop, List.length_take]; rfl)) ?_; (with_reducible refine (decode_ra.calls k a0 t191 _ A2.out).mono ?_); rintro e w' ⟨rfl, ⟨nd, rfl⟩⟩; refine ⟨_, rfl, ?_⟩) | ((with_reducible refine gate_callee (f := 64) rfl ?_); refine goesL_ (some 9) rfl rfl Try.func64 (by kernel_rfl) rfl #[.int .u32 a0, .int .i64 11, .int .i64 10, .int .i64 0] rfl (by (try simp only [List.map_toArray, List.map_cons, List.map_nil]); first | done | rfl | (simp only [List.length_drop, List.length_take]; rfl)) ?_; (with_reducible refine (decode_bits.calls k a0 11 10 0 t192 _ A3.out).mono ?_); rintro e w' ⟨rfl, ⟨nd, rfl⟩⟩; refine ⟨_, rfl, ?_⟩) | ((with_reducible refine gate_callee (f := 66) rfl ?_); refine goesL_ (some 39) rfl rfl Try.func66 (by kernel_rfl) rfl #[.int .u32 a0] rfl (by (try simp only [List.map_toArray, List.map_cons, List.map_nil]); first | done | rfl | (simp only [List.length_drop, List.length_take]; rfl)) ?_; (with_reducible refine (decode_ta.calls k a0 t202 _ A13.out).mono ?_); rintro e w' ⟨rfl, ⟨nd, rfl⟩⟩; refine ⟨_, rfl, ?_⟩) | ((with_reducible refine gate_callee (f := 64) rfl ?_); refine goesL_ (some 41) rfl rfl Try.func64 (by kernel_rfl) rfl #[.int .u32 a0, .int .i64 12, .int .i64 12, .int .i64 2] rfl (by (try simp only [List.map_toArray, List.map_cons, List.map_nil]); first | done | rfl | (simp only [List.length_drop, List.length_take]; rfl)) ?_; (with_reducible refine (decode_bits.calls k a0 12 12 2 t203 _ A14.out).mono ?_); rintro e w' ⟨rfl, ⟨nd, rfl⟩⟩; refine ⟨_, rfl, ?_⟩) | ((with_reducible refine gate_callee (f := 64) rfl ?_); refine goesL_ (some 43) rfl rfl Try.func64 (by kernel_rfl) rfl #[.int .u32 a0, .int .i64 6, .int .i64 5, .int .i64 0] rfl (by (try simp only [List.map_toArray, List.map_cons, List.map_nil]); first | done | rfl | (simp only [List.length_drop, List.length_take]; rfl)) ?_; (with_reducible refine (decode_bits.calls k a0 6 5 0 t204 _ A15.out).mono ?_); rintro e w' ⟨rfl, ⟨nd, rfl⟩⟩; refine ⟨_, rfl, ?_⟩) | ((with_reducible refine gate_callee (f := 74) rfl ?_); refine goesL_ (some 66) rfl rfl Try.func74 (by kernel_rfl) rfl #[.int .u32 51, .int .u32 6, .int .u32 0, .int .u32 t191, .int .u32 t191, .int .u32 t202] rfl (by (try simp only [List.map_toArray, List.map_cons, List.map_nil]); first | done | rfl | (simp only [List.length_drop, List.length_take]; rfl)) ?_; (with_reducible refine (decode_typeR.calls 51 6 0 t191 t191 t202 t209 t210 _ A21.out).mono ?_); rintro e w' ⟨rfl, ⟨nd, rfl⟩⟩; refine ⟨_, rfl, ?_⟩))
              go_ret2
              exact ⟨by first | rfl | (simp; done) | (simp [*]; done), by repeat (first | exact Drawn0.refl _ | apply Drawn0.step)⟩
            · rw [if_neg c20] at H
              have c20b0 : ((Go.bits .or .u32 t203 t204) == 2) = false := beq_eq_false_iff_ne.mpr c20
              have c20b1 : ((Go.bits .or .u32 t203 t204) != 2) = true := bne_iff_ne.mpr c20
              by_cases c22 : (Go.bits .or .u32 t203 t204) = 3
              · rw [if_pos c22] at H
                have c22b0 : ((Go.bits .or .u32 t203 t204) == 3) = true := beq_iff_eq.mpr c22
                have c22b1 : ((Go.bits .or .u32 t203 t204) != 3) = false := bne_eq_false_iff_eq.mpr c22
                clear c22
                replace H := Option.bind_eq_some_iff.mp H
                obtain ⟨⟨t211, t212⟩, A230, H⟩ := H
                replace H : (some (t211, t212)) = some (r1, r2) := H
                have A23 := Aside0.mk A230
                clear A230
                simp only [Option.some.injEq, Prod.mk.injEq] at H
                obtain ⟨rfl, rfl⟩ := H
                go_enter Try.func41, Try.ntmps41
                go_wp2_with (first | ((with_reducible refine gate_callee (f := 67) rfl ?_); refine goesL_ (some 7) rfl rfl Try.func67 (by kernel_rfl) rfl #[.int .u32 a0] rfl (by (try simp only [List.map_toArray, List.map_cons, List.map_nil]); first | done | rfl | (simp only [List.length_drop, List.length_take]; rfl)) ?_; (with_reducible refine (decode_ra.calls k a0 t191 _ A2.out).mono ?_); rintro e w' ⟨rfl, ⟨nd, rfl⟩⟩; refine ⟨_, rfl, ?_⟩) | ((with_reducible refine gate_callee (f := 64) rfl ?_); refine goesL_ (some 9) rfl rfl Try.func64 (by kernel_rfl) rfl #[.int .u32 a0, .int .i64 11, .int .i64 10, .int .i64 0] rfl (by (try simp only [List.map_toArray, List.map_cons, List.map_nil]); first | done | rfl | (simp only [List.length_drop, List.length_take]; rfl)) ?_; (with_reducible refine (decode_bits.calls k a0 11 10 0 t192 _ A3.out).mono ?_); rintro e w' ⟨rfl, ⟨nd, rfl⟩⟩; refine ⟨_, rfl, ?_⟩) | ((with_reducible refine gate_callee (f := 66) rfl ?_); refine goesL_ (some 39) rfl rfl Try.func66 (by kernel_rfl) rfl #[.int .u32 a0] rfl (by (try simp only [List.map_toArray, List.map_cons, List.map_nil]); first | done | rfl | (simp only [List.length_drop, List.length_take]; rfl)) ?_; (with_reducible refine (decode_ta.calls k a0 t202 _ A13.out).mono ?_); rintro e w' ⟨rfl, ⟨nd, rfl⟩⟩; refine ⟨_, rfl, ?_⟩) | ((with_reducible refine gate_callee (f := 64) rfl ?_); refine goesL_ (some 41) rfl rfl Try.func64 (by kernel_rfl) rfl #[.int .u32 a0, .int .i64 12, .int .i64 12, .int .i64 2] rfl (by (try simp only [List.map_toArray, List.map_cons, List.map_nil]); first | done | rfl | (simp only [List.length_drop, List.length_take]; rfl)) ?_; (with_reducible refine (decode_bits.calls k a0 12 12 2 t203 _ A14.out).mono ?_); rintro e w' ⟨rfl, ⟨nd, rfl⟩⟩; refine ⟨_, rfl, ?_⟩) | ((with_reducible refine gate_callee (f := 64) rfl ?_); refine goesL_ (some 43) rfl rfl Try.func64 (by kernel_rfl) rfl #[.int .u32 a0, .int .i64 6, .int .i64 5, .int .i64 0] rfl (by (try simp only [List.map_toArray, List.map_cons, List.map_nil]); first | done | rfl | (simp only [List.length_drop, List.length_take]; rfl)) ?_; (with_reducible refine (decode_bits.calls k a0 6 5 0 t204 _ A15.out).mono ?_); rintro e w' ⟨rfl, ⟨nd, rfl⟩⟩; refine ⟨_, rfl, ?_⟩) | ((with_reducible refine gate_callee (f := 74) rfl ?_); refine goesL_ (some 74) rfl rfl Try.func74 (by kernel_rfl) rfl #[.int .u32 51, .int .u32 7, .int .u32 0, .int .u32 t191, .int .u32 t191, .int .u32 t202] rfl (by (try simp only [List.map_toArray, List.map_cons, List.map_nil]); first | done | rfl | (simp only [List.length_drop, List.length_take]; rfl)) ?_; (with_reducible refine (decode_typeR.calls 51 7 0 t191 t191 t202 t211 t212 _ A23.out).mono ?_); rintro e w' ⟨rfl, ⟨nd, rfl⟩⟩; refine ⟨_, rfl, ?_⟩))
                go_ret2
                exact ⟨by first | rfl | (simp; done) | (simp [*]; done), by repeat (first | exact Drawn0.refl _ | apply Drawn0.step)⟩
              · rw [if_neg c22] at H
                have c22b0 : ((Go.bits .or .u32 t203 t204) == 3) = false := beq_eq_false_iff_ne.mpr c22
                have c22b1 : ((Go.bits .or .u32 t203 t204) != 3) = true := bne_iff_ne.mpr c22
                by_cases c24 : (Go.bits .or .u32 t203 t204) = 4
                · rw [if_pos c24] at H
                  have c24b0 : ((Go.bits .or .u32 t203 t204) == 4) = true := beq_iff_eq.mpr c24
                  have c24b1 : ((Go.bits .or .u32 t203 t204) != 4) = false := bne_eq_false_iff_eq.mpr c24
                  clear c24
                  replace H := Option.bind_eq_some_iff.mp H
                  obtain ⟨⟨t213, t214⟩, A250, H⟩ := H
                  replace H : (some (t213, t214)) = some (r1, r2) := H
                  have A25 := Aside0.mk A250
                  clear A250
                  simp only [Option.some.injEq, Prod.mk.injEq] at H
                  obtain ⟨rfl, rfl⟩ := H
                  go_enter Try.func41, Try.ntmps41
                  go_wp2_with (first | ((with_reducible refine gate_callee (f := 67) rfl ?_); refine goesL_ (some 7) rfl rfl Try.func67 (by kernel_rfl) rfl #[.int .u32 a0] rfl (by (try simp only [List.map_toArray, List.map_cons, List.map_nil]); first | done | rfl | (simp only [List.length_drop, List.length_take]; rfl)) ?_; (with_reducible refine (decode_ra.calls k a0 t191 _ A2.out).mono ?_); rintro e w' ⟨rfl, ⟨nd, rfl⟩⟩; refine ⟨_, rfl, ?_⟩) | ((with_reducible refine gate_callee (f := 64) rfl ?_); refine goesL_ (some 9) rfl rfl Try.func64 (by kernel_rfl) rfl #[.int .u32 a0, .int .i64 11, .int .i64 10, .int .i64 0] rfl (by (try simp only [List.map_toArray, List.map_cons, List.map_nil]); first | done | rfl | (simp only [List.length_drop, List.length_take]; rfl)) ?_; (with_reducible refine (decode_bits.calls k a0 11 10 0 t192 _ A3.out).mono ?_); rintro e w' ⟨rfl, ⟨nd, rfl⟩⟩; refine ⟨_, rfl, ?_⟩) | ((with_reducible refine gate_callee (f := 66) rfl ?_); refine goesL_ (some 39) rfl rfl Try.func66 (by kernel_rfl) rfl #[.int .u32 a0] rfl (by (try simp only [List.map_toArray, List.map_cons, List.map_nil]); first | done | rfl | (simp only [List.length_drop, List.length_take]; rfl)) ?_; (with_reducible refine (decode_ta.calls k a0 t202 _ A13.out).mono ?_); rintro e w' ⟨rfl, ⟨nd, rfl⟩⟩; refine ⟨_, rfl, ?_⟩) | ((with_reducible refine gate_callee (f := 64) rfl ?_); refine goesL_ (some 41) rfl rfl Try.func64 (by kernel_rfl) rfl #[.int .u32 a0, .int .i64 12, .int .i64 12, .int .i64 2] rfl (by (try simp only [List.map_toArray, List.map_cons, List.map_nil]); first | done | rfl | (simp only [List.length_drop, List.length_take]; rfl)) ?_; (with_reducible refine (decode_bits.calls k a0 12 12 2 t203 _ A14.out).mono ?_); rintro e w' ⟨rfl, ⟨nd, rfl⟩⟩; refine ⟨_, rfl, ?_⟩) | ((with_reducible refine gate_callee (f := 64) rfl ?_); refine goesL_ (some 43) rfl rfl Try.func64 (by kernel_rfl) rfl #[.int .u32 a0, .int .i64 6, .int .i64 5, .int .i64 0] rfl (by (try simp only [List.map_toArray, List.map_cons, List.map_nil]); first | done | rfl | (simp only [List.length_drop, List.length_take]; rfl)) ?_; (with_reducible refine (decode_bits.calls k a0 6 5 0 t204 _ A15.out).mono ?_); rintro e w' ⟨rfl, ⟨nd, rfl⟩⟩; refine ⟨_, rfl, ?_⟩) | ((with_reducible refine gate_callee (f := 74) rfl ?_); refine goesL_ (some 82) rfl rfl Try.func74 (by kernel_rfl) rfl #[.int .u32 59, .int .u32 0, .int .u32 32, .int .u32 t191, .int .u32 t191, .int .u32 t202] rfl (by (try simp only [List.map_toArray, List.map_cons, List.map_nil]); first | done | rfl | (simp only [List.length_drop, List.length_take]; rfl)) ?_; (with_reducible refine (decode_typeR.calls 59 0 32 t191 t191 t202 t213 t214 _ A25.out).mono ?_); rintro e w' ⟨rfl, ⟨nd, rfl⟩⟩; refine ⟨_, rfl, ?_⟩))
                  go_ret2
                  exact ⟨by first | rfl | (simp; done) | (simp [*]; done), by repeat (first | exact Drawn0.refl _ | apply Drawn0.step)⟩
                · rw [if_neg c24] at H
                  have c24b0 : ((Go.bits .or .u32 t203 t204) == 4) = false := beq_eq_false_iff_ne.mpr c24
                  have c24b1 : ((Go.bits .or .u32 t203 t204) != 4) = true := bne_iff_ne.mpr c24
                  by_cases c26 : (Go.bits .or .u32 t203 t204) = 5
                  · rw [if_pos c26] at H
                    have c26b0 : ((Go.bits .or .u32 t203 t204) == 5) = true := beq_iff_eq.mpr c26
                    have c26b1 : ((Go.bits .or .u32 t203 t204) != 5) = false := bne_eq_false_iff_eq.mpr c26
                    clear c26
                    replace H := Option.bind_eq_some_iff.mp H
                    obtain ⟨⟨t215, t216⟩, A270, H⟩ := H
                    replace H : (some (t215, t216)) = some (r1, r2) := H
                    have A27 := Aside0.mk A270
                    clear A270
                    simp only [Option.some.injEq, Prod.mk.injEq] at H
                    obtain ⟨rfl, rfl⟩ := H
                    go_enter Try.func41, Try.ntmps41
                    go_wp2_with (first | ((with_reducible refine gate_callee (f := 67) rfl ?_); refine goesL_ (some 7) rfl rfl Try.func67 (by kernel_rfl) rfl #[.int .u32 a0] rfl (by (try simp only [List.map_toArray, List.map_cons, List.map_nil]); first | done | rfl | (simp only [List.length_drop, List.length_take]; rfl)) ?_; (with_reducible refine (decode_ra.calls k a0 t191 _ A2.out).mono ?_); rintro e w' ⟨rfl, ⟨nd, rfl⟩⟩; refine ⟨_, rfl, ?_⟩) | ((with_reducible refine gate_callee (f := 64) rfl ?_); refine goesL_ (some 9) rfl rfl Try.func64 (by kernel_rfl) rfl #[.int .u32 a0, .int .i64 11, .int .i64 10, .int .i64 0] rfl (by (try simp only [List.map_toArray, List.map_cons, List.map_nil]); first | done | rfl | (simp only [List.length_drop, List.length_take]; rfl)) ?_; (with_reducible refine (decode_bits.calls k a0 11 10 0 t192 _ A3.out).mono ?_); rintro e w' ⟨rfl, ⟨nd, rfl⟩⟩; refine ⟨_, rfl, ?_⟩) | ((with_reducible refine gate_callee (f := 66) rfl ?_); refine goesL_ (some 39) rfl rfl Try.func66 (by kernel_rfl) rfl #[.int .u32 a0] rfl (by (try simp only [List.map_toArray, List.map_cons, List.map_nil]); first | done | rfl | (simp only [List.length_drop, List.length_take]; rfl)) ?_; (with_reducible refine (decode_ta.calls k a0 t202 _ A13.out).mono ?_); rintro e w' ⟨rfl, ⟨nd, rfl⟩⟩; refine ⟨_, rfl, ?_⟩) | ((with_reducible refine gate_callee (f := 64) rfl ?_); refine goesL_ (some 41) rfl rfl Try.func64 (by kernel_rfl) rfl #[.int .u32 a0, .int .i64 12, .int .i64 12, .int .i64 2] rfl (by (try simp only [List.map_toArray, List.map_cons, List.map_nil]); first | done | rfl | (simp only [List.length_drop, List.length_take]; rfl)) ?_; (with_reducible refine (decode_bits.calls k a0 12 12 2 t203 _ A14.out).mono ?_); rintro e w' ⟨rfl, ⟨nd, rfl⟩⟩; refine ⟨_, rfl, ?_⟩) | ((with_reducible refine gate_callee (f := 64) rfl ?_); refine goesL_ (some 43) rfl rfl Try.func64 (by kernel_rfl) rfl #[.int .u32 a0, .int .i64 6, .int .i64 5, .int .i64 0] rfl (by (try simp only [List.map_toArray, List.map_cons, List.map_nil]); first | done | rfl | (simp only [List.length_drop, List.length_take]; rfl)) ?_; (with_reducible refine (decode_bits.calls k a0 6 5 0 t204 _ A15.out).mono ?_); rintro e w' ⟨rfl, ⟨nd, rfl⟩⟩; refine ⟨_, rfl, ?_⟩) | ((with_reducible refine gate_callee (f := 74) rfl ?_); refine goesL_ (some 90) rfl rfl Try.func74 (by kernel_rfl) rfl #[.int .u32 59, .int .u32 0, .int .u32 0, .int .u32 t191, .int .u32 t191, .int .u32 t202] rfl (by (try simp only [List.map_toArray, List.map_cons, List.map_nil]); first | done | rfl | (simp only [List.length_drop, List.length_take]; rfl)) ?_; (with_reducible refine (decode_typeR.calls 59 0 0 t191 t191 t202 t215 t216 _ A27.out).mono ?_); rintro e w' ⟨rfl, ⟨nd, rfl⟩⟩; refine ⟨_, rfl, ?_⟩))
                    go_ret2
                    exact ⟨by first | rfl | (simp; done) | (simp [*]; done), by repeat (first | exact Drawn0.refl _ | apply Drawn0.step)⟩
                  · rw [if_neg c26] at H
                    have c26b0 : ((Go.bits .or .u32 t203 t204) == 5) = false := beq_eq_false_iff_ne.mpr c26
                    have c26b1 : ((Go.bits .or .u32 t203 t204) != 5) = true := bne_iff_ne.mpr c26
                    replace H := Option.bind_eq_some_iff.mp H
                    obtain ⟨⟨t217, t218⟩, A280, H⟩ := H
                    replace H : (some (t217, t218)) = some (r1, r2) := H
                    have A28 := Aside0.mk A280
                    clear A280
                    simp only [Option.some.injEq, Prod.mk.injEq] at H
                    obtain ⟨rfl, rfl⟩ := H
                    go_enter Try.func41, Try.ntmps41
                    go_wp2_with (first | ((with_reducible refine gate_callee (f := 67) rfl ?_); refine goesL_ (some 7) rfl rfl Try.func67 (by kernel_rfl) rfl #[.int .u32 a0] rfl (by (try simp only [List.map_toArray, List.map_cons, List.map_nil]); first | done | rfl | (simp only [List.length_drop, List.length_take]; rfl)) ?_; (with_reducible refine (decode_ra.calls k a0 t191 _ A2.out).mono ?_); rintro e w' ⟨rfl, ⟨nd, rfl⟩⟩; refine ⟨_, rfl, ?_⟩) | ((with_reducible refine gate_callee (f := 64) rfl ?_); refine goesL_ (some 9) rfl rfl Try.func64 (by kernel_rfl) rfl #[.int .u32 a0, .int .i64 11, .int .i64 10, .int .i64 0] rfl (by (try simp only [List.map_toArray, List.map_cons, List.map_nil]); first | done | rfl | (simp only [List.length_drop, List.length_take]; rfl)) ?_; (with_reducible refine (decode_bits.calls k a0 11 10 0 t192 _ A3.out).mono ?_); rintro e w' ⟨rfl, ⟨nd, rfl⟩⟩; refine ⟨_, rfl, ?_⟩) | ((with_reducible refine gate_callee (f := 66) rfl ?_); refine goesL_ (some 39) rfl rfl Try.func66 (by kernel_rfl) rfl #[.int .u32 a0] rfl (by (try simp only [List.map_toArray, List.map_cons, List.map_nil]); first | done | rfl | (simp only [List.length_drop, List.length_take]; rfl)) ?_; (with_reducible refine (decode_ta.calls k a0 t202 _ A13.out).mono ?_); rintro e w' ⟨rfl, ⟨nd, rfl⟩⟩; refine ⟨_, rfl, ?_⟩) | ((with_reducible refine gate_callee (f := 64) rfl ?_); refine goesL_ (some 41) rfl rfl Try.func64 (by kernel_rfl) rfl #[.int .u32 a0, .int .i64 12, .int .i64 12, .int .i64 2] rfl (by (try simp only [List.map_toArray, List.map_cons, List.map_nil]); first | done | rfl | (simp only [List.length_drop, List.length_take]; rfl)) ?_; (with_reducible refine (decode_bits.calls k a0 12 12 2 t203 _ A14.out).mono ?_); rintro e w' ⟨rfl, ⟨nd, rfl⟩⟩; refine ⟨_, rfl, ?_⟩) | ((with_reducible refine gate_callee (f := 64) rfl ?_); refine goesL_ (some 43) rfl rfl Try.func64 (by kernel_rfl) rfl #[.int .u32 a0, .int .i64 6, .int .i64 5, .int .i64 0] rfl (by (try simp only [List.map_toArray, List.map_cons, List.map_nil]); first | done | rfl | (simp only [List.length_drop, List.length_take]; rfl)) ?_; (with_reducible refine (decode_bits.calls k a0 6 5 0 t204 _ A15.out).mono ?_); rintro e w' ⟨rfl, ⟨nd, rfl⟩⟩; refine ⟨_, rfl, ?_⟩) | ((with_reducible refine gate_callee (f := 20) rfl ?_); refine goesL_ (some 93) rfl rfl Try.func20 (by kernel_rfl) rfl #[] rfl (by (try simp only [List.map_toArray, List.map_cons, List.map_nil]); first | done | rfl | (simp only [List.length_drop, List.length_take]; rfl)) ?_; (with_reducible refine (decode_none.calls  t217 t218 _ A28.out).mono ?_); rintro e w' ⟨rfl, ⟨nd, rfl⟩⟩; refine ⟨_, rfl, ?_⟩))
                    go_ret2
                    exact ⟨by first | rfl | (simp; done) | (simp [*]; done), by repeat (first | exact Drawn0.refl _ | apply Drawn0.step)⟩

/-! ### decode_j: function 42 -/
def decode_j.f (k : Nat) (a0 : Int) : Option (Int × Bool) := (decode_bits.f k a0 12 12 11).bind fun t219 => ((decode_bits.f k a0 11 11 4).bind fun t220 => ((decode_bits.f k a0 10 9 8).bind fun t221 => ((decode_bits.f k a0 8 8 10).bind fun t222 => ((decode_bits.f k a0 7 7 6).bind fun t223 => ((decode_bits.f k a0 6 6 7).bind fun t224 => ((decode_bits.f k a0 5 3 1).bind fun t225 => ((decode_bits.f k a0 2 2 5).bind fun t226 => ((decode_signed.f (wrap64 (Go.bits .or .u32 (Go.bits .or .u32 (Go.bits .or .u32 (Go.bits .or .u32 (Go.bits .or .u32 (Go.bits .or .u32 (Go.bits .or .u32 t219 t220) t221) t222) t223) t224) t225) t226)) 12).bind fun t227 => ((decode_bits.f k ((t227) % 4294967296) 20 20 31).bind fun t228 => ((decode_bits.f k ((t227) % 4294967296) 10 1 21).bind fun t229 => ((decode_bits.f k ((t227) % 4294967296) 11 11 20).bind fun t230 => ((decode_bits.f k ((t227) % 4294967296) 19 12 12).bind fun t231 => (some (Go.bits .or .u32 (Go.bits .or .u32 (Go.bits .or .u32 (Go.bits .or .u32 t228 t229) t230) t231) 111, true))))))))))))))
theorem decode_j.mono : ∀ a0 k, LeO (decode_j.f k a0) (decode_j.f (k + 1) a0) := by
  intro a0 k
  unfold decode_j.f
  repeat' first
      | (with_reducible exact decode_bits.mono _ _ _ _ _)
      | (with_reducible exact LeO.refl _)
      | (with_reducible exact LeO.none _)
      | (with_reducible refine LeO.ite ?_ ?_)
      | (with_reducible refine LeO.bind ?_ (fun _ => ?_))
      | exact decode_bits.mono _ _ _ _ _
      | exact LeO.none _
      | refine LeO.ite ?_ ?_
      | refine LeO.bind ?_ (fun _ => ?_)
set_option maxHeartbeats 8000000 in
set_option maxRecDepth 100000 in
theorem decode_j.calls (k : Nat) (a0 : Int) (r1 : Int) (r2 : Bool) (w : World) (h : decode_j.f k a0 = some (r1, r2)) :
    Calls Try.prog 42 #[.int .u32 a0] w fun e w' => e = .returned (.tuple #[.int .u32 r1, .bool r2]) ∧ Drawn0 w w' := by
  have H : ((decode_bits.f k a0 12 12 11).bind fun t219 => ((decode_bits.f k a0 11 11 4).bind fun t220 => ((decode_bits.f k a0 10 9 8).bind fun t221 => ((decode_bits.f k a0 8 8 10).bind fun t222 => ((decode_bits.f k a0 7 7 6).bind fun t223 => ((decode_bits.f k a0 6 6 7).bind fun t224 => ((decode_bits.f k a0 5 3 1).bind fun t225 => ((decode_bits.f k a0 2 2 5).bind fun t226 => ((decode_signed.f (wrap64 (Go.bits .or .u32 (Go.bits .or .u32 (Go.bits .or .u32 (Go.bits .or .u32 (Go.bits .or .u32 (Go.bits .or .u32 (Go.bits .or .u32 t219 t220) t221) t222) t223) t224) t225) t226)) 12).bind fun t227 => ((decode_bits.f k ((t227) % 4294967296) 20 20 31).bind fun t228 => ((decode_bits.f k ((t227) % 4294967296) 10 1 21).bind fun t229 => ((decode_bits.f k ((t227) % 4294967296) 11 11 20).bind fun t230 => ((decode_bits.f k ((t227) % 4294967296) 19 12 12).bind fun t231 => (some (Go.bits .or .u32 (Go.bits .or .u32 (Go.bits .or .u32 (Go.bits .or .u32 t228 t229) t230) t231) 111, true))))))))))))))) = some (r1, r2) := h
  clear h
  replace H := Option.bind_eq_some_iff.mp H
  obtain ⟨t219, A20, H⟩ := H
  replace H : ((decode_bits.f k a0 11 11 4).bind fun t220 => ((decode_bits.f k a0 10 9 8).bind fun t221 => ((decode_bits.f k a0 8 8 10).bind fun t222 => ((decode_bits.f k a0 7 7 6).bind fun t223 => ((decode_bits.f k a0 6 6 7).bind fun t224 => ((decode_bits.f k a0 5 3 1).bind fun t225 => ((decode_bits.f k a0 2 2 5).bind fun t226 => ((decode_signed.f (wrap64 (Go.bits .or .u32 (Go.bits .or .u32 (Go.bits .or .u32 (Go.bits .or .u32 (Go.bits .or .u32 (Go.bits .or .u32 (Go.bits .or .u32 t219 t220) t221) t222) t223) t224) t225) t226)) 12).bind fun t227 => ((decode_bits.f k ((t227) % 4294967296) 20 20 31).bind fun t228 => ((decode_bits.f k ((t227) % 4294967296) 10 1 21).bind fun t229 => ((decode_bits.f k ((t227) % 4294967296) 11 11 20).bind fun t230 => ((decode_bits.f k ((t227) % 4294967296) 19 12 12).bind fun t231 => (some (Go.bits .or .u32 (Go.bits .or .u32 (Go.bits .or .u32 (Go.bits .or .u32 t228 t229) t230) t231) 111, true)))))))))))))) = some (r1, r2) := H
  have A2 := Aside0.mk A20
  clear A20
  replace H := Option.bind_eq_some_iff.mp H
  obtain ⟨t220, A30, H⟩ := H
  replace H : ((decode_bits.f k a0 10 9 8).bind fun t221 => ((decode_bits.f k a0 8 8 10).bind fun t222 => ((decode_bits.f k a0 7 7 6).bind fun t223 => ((decode_bits.f k a0 6 6 7).bind fun t224 => ((decode_bits.f k a0 5 3 1).bind fun t225 => ((decode_bits.f k a0 2 2 5).bind fun t226 => ((decode_signed.f (wrap64 (Go.bits .or .u32 (Go.bits .or .u32 (Go.bits .or .u32 (Go.bits .or .u32 (Go.bits .or .u32 (Go.bits .or .u32 (Go.bits .or .u32 t219 t220) t221) t222) t223) t224) t225) t226)) 12).bind fun t227 => ((decode_bits.f k ((t227) % 4294967296) 20 20 31).bind fun t228 => ((decode_bits.f k ((t227) % 4294967296) 10 1 21).bind fun t229 => ((decode_bits.f k ((t227) % 4294967296) 11 11 20).bind fun t230 => ((decode_bits.f k ((t227) % 4294967296) 19 12 12).bind fun t231 => (some (Go.bits .or .u32 (Go.bits .or .u32 (Go.bits .or .u32 (Go.bits .or .u32 t228 t229) t230) t231) 111, true))))))))))))) = some (r1, r2) := H
  have A3 := Aside0.mk A30
  clear A30
  replace H := Option.bind_eq_some_iff.mp H
  obtain ⟨t221, A40, H⟩ := H
  replace H : ((decode_bits.f k a0 8 8 10).bind fun t222 => ((decode_bits.f k a0 7 7 6).bind fun t223 => ((decode_bits.f k a0 6 6 7).bind fun t224 => ((decode_bits.f k a0 5 3 1).bind fun t225 => ((decode_bits.f k a0 2 2 5).bind fun t226 => ((decode_signed.f (wrap64 (Go.bits .or .u32 (Go.bits .or .u32 (Go.bits .or .u32 (Go.bits .or .u32 (Go.bits .or .u32 (Go.bits .or .u32 (Go.bits .or .u32 t219 t220) t221) t222) t223) t224) t225) t226)) 12).bind fun t227 => ((decode_bits.f k ((t227) % 4294967296) 20 20 31).bind fun t228 => ((decode_bits.f k ((t227) % 4294967296) 10 1 21).bind fun t229 => ((decode_bits.f k ((t227) % 4294967296) 11 11 20).bind fun t230 => ((decode_bits.f k ((t227) % 4294967296) 19 12 12).bind fun t231 => (some (Go.bits .or .u32 (Go.bits .or .u32 (Go.bits .or .u32 (Go.bits .or .u32 t228 t229) t230) t231) 111, true)))))))))))) = some (r1, r2) := H
  have A4 := Aside0.mk A40
  clear A40
  replace H := Option.bind_eq_some_iff.mp H
  obtain ⟨t222, A50, H⟩ := H
  replace H : ((decode_bits.f k a0 7 7 6).bind fun t223 => ((decode_bits.f k a0 6 6 7).bind fun t224 => ((decode_bits.f k a0 5 3 1).bind fun t225 => ((decode_bits.f k a0 2 2 5).bind fun t226 => ((decode_signed.f (wrap64 (Go.bits .or .u32 (Go.bits .or .u32 (Go.bits .or .u32 (Go.bits .or .u32 (Go.bits .or .u32 (Go.bits .or .u32 (Go.bits .or .u32 t219 t220) t221) t222) t223) t224) t225) t226)) 12).bind fun t227 => ((decode_bits.f k ((t227) % 4294967296) 20 20 31).bind fun t228 => ((decode_bits.f k ((t227) % 4294967296) 10 1 21).bind fun t229 => ((decode_bits.f k ((t227) % 4294967296) 11 11 20).bind fun t230 => ((decode_bits.f k ((t227) % 4294967296) 19 12 12).bind fun t231 => (some (Go.bits .or .u32 (Go.bits .or .u32 (Go.bits .or .u32 (Go.bits .or .u32 t228 t229) t230) t231) 111, true))))))))))) = some (r1, r2) := H
  have A5 := Aside0.mk A50
  clear A50
  replace H := Option.bind_eq_some_iff.mp H
  obtain ⟨t223, A60, H⟩ := H
  replace H : ((decode_bits.f k a0 6 6 7).bind fun t224 => ((decode_bits.f k a0 5 3 1).bind fun t225 => ((decode_bits.f k a0 2 2 5).bind fun t226 => ((decode_signed.f (wrap64 (Go.bits .or .u32 (Go.bits .or .u32 (Go.bits .or .u32 (Go.bits .or .u32 (Go.bits .or .u32 (Go.bits .or .u32 (Go.bits .or .u32 t219 t220) t221) t222) t223) t224) t225) t226)) 12).bind fun t227 => ((decode_bits.f k ((t227) % 4294967296) 20 20 31).bind fun t228 => ((decode_bits.f k ((t227) % 4294967296) 10 1 21).bind fun t229 => ((decode_bits.f k ((t227) % 4294967296) 11 11 20).bind fun t230 => ((decode_bits.f k ((t227) % 4294967296) 19 12 12).bind fun t231 => (some (Go.bits .or .u32 (Go.bits .or .u32 (Go.bits .or .u32 (Go.bits .or .u32 t228 t229) t230) t231) 111, true)))))))))) = some (r1, r2) := H
  have A6 := Aside0.mk A60
  clear A60
  replace H := Option.bind_eq_some_iff.mp H
  obtain ⟨t224, A70, H⟩ := H
  replace H : ((decode_bits.f k a0 5 3 1).bind fun t225 => ((decode_bits.f k a0 2 2 5).bind fun t226 => ((decode_signed.f (wrap64 (Go.bits .or .u32 (Go.bits .or .u32 (Go.bits .or .u32 (Go.bits .or .u32 (Go.bits .or .u32 (Go.bits .or .u32 (Go.bits .or .u32 t219 t220) t221) t222) t223) t224) t225) t226)) 12).bind fun t227 => ((decode_bits.f k ((t227) % 4294967296) 20 20 31).bind fun t228 => ((decode_bits.f k ((t227) % 4294967296) 10 1 21).bind fun t229 => ((decode_bits.f k ((t227) % 4294967296) 11 11 20).bind fun t230 => ((decode_bits.f k ((t227) % 4294967296) 19 12 12).bind fun t231 => (some (Go.bits .or .u32 (Go.bits .or .u32 (Go.bits .or .u32 (Go.bits .or .u32 t228 t229) t230) t231) 111, true))))))))) = some (r1, r2) := H
  have A7 := Aside0.mk A70
  clear A70
  replace H := Option.bind_eq_some_iff.mp H
  obtain ⟨t225, A80, H⟩ := H
  replace H : ((decode_bits.f k a0 2 2 5).bind fun t226 => ((decode_signed.f (wrap64 (Go.bits .or .u32 (Go.bits .or .u32 (Go.bits .or .u32 (Go.bits .or .u32 (Go.bits .or .u32 (Go.bits .or .u32 (Go.bits .or .u32 t219 t220) t221) t222) t223) t224) t225) t226)) 12).bind fun t227 => ((decode_bits.f k ((t227) % 4294967296) 20 20 31).bind fun t228 => ((decode_bits.f k ((t227) % 4294967296) 10 1 21).bind fun t229 => ((decode_bits.f k ((t227) % 4294967296) 11 11 20).bind fun t230 => ((decode_bits.f k ((t227) % 4294967296) 19 12 12).bind fun t231 => (some (Go.bits .or .u32 (Go.bits .or .u32 (Go.bits .or .u32 (Go.bits .or .u32 t228 t229) t230) t231) 111, true)))))))) = some (r1, r2) := H
  have A8 := Aside0.mk A80
  clear A80
  replace H := Option.bind_eq_some_iff.mp H
  obtain ⟨t226, A90, H⟩ := H
  replace H : ((decode_signed.f (wrap64 (Go.bits .or .u32 (Go.bits .or .u32 (Go.bits .or .u32 (Go.bits .or .u32 (Go.bits .or .u32 (Go.bits .or .u32 (Go.bits .or .u32 t219 t220) t221) t222) t223) t224) t225) t226)) 12).bind fun t227 => ((decode_bits.f k ((t227) % 4294967296) 20 20 31).bind fun t228 => ((decode_bits.f k ((t227) % 4294967296) 10 1 21).bind fun t229 => ((decode_bits.f k ((t227) % 4294967296) 11 11 20).bind fun t230 => ((decode_bits.f k ((t227) % 4294967296) 19 12 12).bind fun t231 => (some (Go.bits .or .u32 (Go.bits .or .u32 (Go.bits .or .u32 (Go.bits .or .u32 t228 t229) t230) t231) 111, true))))))) = some (r1, r2) := H
  have A9 := Aside0.mk A90
  clear A90
  replace H := Option.bind_eq_some_iff.mp H
  obtain ⟨t227, A100, H⟩ := H
  replace H : ((decode_bits.f k ((t227) % 4294967296) 20 20 31).bind fun t228 => ((decode_bits.f k ((t227) % 4294967296) 10 1 21).bind fun t229 => ((decode_bits.f k ((t227) % 4294967296) 11 11 20).bind fun t230 => ((decode_bits.f k ((t227) % 4294967296) 19 12 12).bind fun t231 => (some (Go.bits .or .u32 (Go.bits .or .u32 (Go.bits .or .u32 (Go.bits .or .u32 t228 t229) t230) t231) 111, true)))))) = some (r1, r2) := H
  have A10 := Aside0.mk A100
  clear A100
  replace H := Option.bind_eq_some_iff.mp H
  obtain ⟨t228, A110, H⟩ := H
  replace H : ((decode_bits.f k ((t227) % 4294967296) 10 1 21).bind fun t229 => ((decode_bits.f k ((t227) % 4294967296) 11 11 20).bind fun t230 => ((decode_bits.f k ((t227) % 4294967296) 19 12 12).bind fun t231 => (some (Go.bits .or .u32 (Go.bits .or .u32 (Go.bits .or .u32 (Go.bits .or .u32 t228 t229) t230) t231) 111, true))))) = some (r1, r2) := H
  have A11 := Aside0.mk A110
  clear A110
  replace H := Option.bind_eq_some_iff.mp H
  obtain ⟨t229, A120, H⟩ := H
  replace H : ((decode_bits.f k ((t227) % 4294967296) 11 11 20).bind fun t230 => ((decode_bits.f k ((t227) % 4294967296) 19 12 12).bind fun t231 => (some (Go.bits .or .u32 (Go.bits .or .u32 (Go.bits .or .u32 (Go.bits .or .u32 t228 t229) t230) t231) 111, true)))) = some (r1, r2) := H
  have A12 := Aside0.mk A120
  clear A120
  replace H := Option.bind_eq_some_iff.mp H
  obtain ⟨t230, A130, H⟩ := H
  replace H : ((decode_bits.f k ((t227) % 4294967296) 19 12 12).bind fun t231 => (some (Go.bits .or .u32 (Go.bits .or .u32 (Go.bits .or .u32 (Go.bits .or .u32 t228 t229) t230) t231) 111, true))) = some (r1, r2) := H
  have A13 := Aside0.mk A130
  clear A130
  replace H := Option.bind_eq_some_iff.mp H
  obtain ⟨t231, A140, H⟩ := H
  replace H : (some (Go.bits .or .u32 (Go.bits .or .u32 (Go.bits .or .u32 (Go.bits .or .u32 t228 t229) t230) t231) 111, true)) = some (r1, r2) := H
  have A14 := Aside0.mk A140
  clear A140
  simp only [Option.some.injEq, Prod.mk.injEq] at H
  obtain ⟨rfl, rfl⟩ := H
  go_enter Try.func42, Try.ntmps42
  go_wp2_with (first | ((with_reducible refine gate_callee (f := 64) rfl ?_); refine goesL_ (some 7) rfl rfl Try.func64 (by kernel_rfl) rfl #[.int .u32 a0, .int .i64 12, .int .i64 12, .int .i64 11] rfl (by (try simp only [List.map_toArray, List.map_cons, List.map_nil]); first | done | rfl | (simp only [List.length_drop, List.length_take]; rfl)) ?_; (with_reducible refine (decode_bits.calls k a0 12 12 11 t219 _ A2.out).mono ?_); rintro e w' ⟨rfl, ⟨nd, rfl⟩⟩; refine ⟨_, rfl, ?_⟩) | ((with_reducible refine gate_callee (f := 64) rfl ?_); refine goesL_ (some 9) rfl rfl Try.func64 (by kernel_rfl) rfl #[.int .u32 a0, .int .i64 11, .int .i64 11, .int .i64 4] rfl (by (try simp only [List.map_toArray, List.map_cons, List.map_nil]); first | done | rfl | (simp only [List.length_drop, List.length_take]; rfl)) ?_; (with_reducible refine (decode_bits.calls k a0 11 11 4 t220 _ A3.out).mono ?_); rintro e w' ⟨rfl, ⟨nd, rfl⟩⟩; refine ⟨_, rfl, ?_⟩) | ((with_reducible refine gate_callee (f := 64) rfl ?_); refine goesL_ (some 12) rfl rfl Try.func64 (by kernel_rfl) rfl #[.int .u32 a0, .int .i64 10, .int .i64 9, .int .i64 8] rfl (by (try simp only [List.map_toArray, List.map_cons, List.map_nil]); first | done | rfl | (simp only [List.length_drop, List.length_take]; rfl)) ?_; (with_reducible refine (decode_bits.calls k a0 10 9 8 t221 _ A4.out).mono ?_); rintro e w' ⟨rfl, ⟨nd, rfl⟩⟩; refine ⟨_, rfl, ?_⟩) | ((with_reducible refine gate_callee (f := 64) rfl ?_); refine goesL_ (some 15) rfl rfl Try.func64 (by kernel_rfl) rfl #[.int .u32 a0, .int .i64 8, .int .i64 8, .int .i64 10] rfl (by (try simp only [List.map_toArray, List.map_cons, List.map_nil]); first | done | rfl | (simp only [List.length_drop, List.length_take]; rfl)) ?_; (with_reducible refine (decode_bits.calls k a0 8 8 10 t222 _ A5.out).mono ?_); rintro e w' ⟨rfl, ⟨nd, rfl⟩⟩; refine ⟨_, rfl, ?_⟩) | ((with_reducible refine gate_callee (f := 64) rfl ?_); refine goesL_ (some 18) rfl rfl Try.func64 (by kernel_rfl) rfl #[.int .u32 a0, .int .i64 7, .int .i64 7, .int .i64 6] rfl (by (try simp only [List.map_toArray, List.map_cons, List.map_nil]); first | done | rfl | (simp only [List.length_drop, List.length_take]; rfl)) ?_; (with_reducible refine (decode_bits.calls k a0 7 7 6 t223 _ A6.out).mono ?_); rintro e w' ⟨rfl, ⟨nd, rfl⟩⟩; refine ⟨_, rfl, ?_⟩) | ((with_reducible refine gate_callee (f := 64) rfl ?_); refine goesL_ (some 21) rfl rfl Try.func64 (by kernel_rfl) rfl #[.int .u32 a0, .int .i64 6, .int .i64 6, .int .i64 7] rfl (by (try simp only [List.map_toArray, List.map_cons, List.map_nil]); first | done | rfl | (simp only [List.length_drop, List.length_take]; rfl)) ?_; (with_reducible refine (decode_bits.calls k a0 6 6 7 t224 _ A7.out).mono ?_); rintro e w' ⟨rfl, ⟨nd, rfl⟩⟩; refine ⟨_, rfl, ?_⟩) | ((with_reducible refine gate_callee (f := 64) rfl ?_); refine goesL_ (some 24) rfl rfl Try.func64 (by kernel_rfl) rfl #[.int .u32 a0, .int .i64 5, .int .i64 3, .int .i64 1] rfl (by (try simp only [List.map_toArray, List.map_cons, List.map_nil]); first | done | rfl | (simp only [List.length_drop, List.length_take]; rfl)) ?_; (with_reducible refine (decode_bits.calls k a0 5 3 1 t225 _ A8.out).mono ?_); rintro e w' ⟨rfl, ⟨nd, rfl⟩⟩; refine ⟨_, rfl, ?_⟩) | ((with_reducible refine gate_callee (f := 64) rfl ?_); refine goesL_ (some 27) rfl rfl Try.func64 (by kernel_rfl) rfl #[.int .u32 a0, .int .i64 2, .int .i64 2, .int .i64 5] rfl (by (try simp only [List.map_toArray, List.map_cons, List.map_nil]); first | done | rfl | (simp only [List.length_drop, List.length_take]; rfl)) ?_; (with_reducible refine (decode_bits.calls k a0 2 2 5 t226 _ A9.out).mono ?_); rintro e w' ⟨rfl, ⟨nd, rfl⟩⟩; refine ⟨_, rfl, ?_⟩) | ((with_reducible refine gate_callee (f := 61) rfl ?_); refine goesL_ (some 31) rfl rfl Try.func61 (by kernel_rfl) rfl #[.int .i64 (wrap64 (Go.bits .or .u32 (Go.bits .or .u32 (Go.bits .or .u32 (Go.bits .or .u32 (Go.bits .or .u32 (Go.bits .or .u32 (Go.bits .or .u32 t219 t220) t221) t222) t223) t224) t225) t226)), .int .i64 12] rfl (by (try simp only [List.map_toArray, List.map_cons, List.map_nil]); first | done | rfl | (simp only [List.length_drop, List.length_take]; rfl)) ?_; (with_reducible refine (decode_signed.calls (wrap64 (Go.bits .or .u32 (Go.bits .or .u32 (Go.bits .or .u32 (Go.bits .or .u32 (Go.bits .or .u32 (Go.bits .or .u32 (Go.bits .or .u32 t219 t220) t221) t222) t223) t224) t225) t226)) 12 t227 _ A10.out).mono ?_); rintro e w' ⟨rfl, ⟨nd, rfl⟩⟩; refine ⟨_, rfl, ?_⟩) | ((with_reducible refine gate_callee (f := 64) rfl ?_); refine goesL_ (some 34) rfl rfl Try.func64 (by kernel_rfl) rfl #[.int .u32 ((t227) % 4294967296), .int .i64 20, .int .i64 20, .int .i64 31] rfl (by (try simp only [List.map_toArray, List.map_cons, List.map_nil]); first | done | rfl | (simp only [List.length_drop, List.length_take]; rfl)) ?_; (with_reducible refine (decode_bits.calls k ((t227) % 4294967296) 20 20 31 t228 _ A11.out).mono ?_); rintro e w' ⟨rfl, ⟨nd, rfl⟩⟩; refine ⟨_, rfl, ?_⟩) | ((with_reducible refine gate_callee (f := 64) rfl ?_); refine goesL_ (some 36) rfl rfl Try.func64 (by kernel_rfl) rfl #[.int .u32 ((t227) % 4294967296), .int .i64 10, .int .i64 1, .int .i64 21] rfl (by (try simp only [List.map_toArray, List.map_cons, List.map_nil]); first | done | rfl | (simp only [List.length_drop, List.length_take]; rfl)) ?_; (with_reducible refine (decode_bits.calls k ((t227) % 4294967296) 10 1 21 t229 _ A12.out).mono ?_); rintro e w' ⟨rfl, ⟨nd, rfl⟩⟩; refine ⟨_, rfl, ?_⟩) | ((with_reducible refine gate_callee (f := 64) rfl ?_); refine goesL_ (some 39) rfl rfl Try.func64 (by kernel_rfl) rfl #[.int .u32 ((t227) % 4294967296), .int .i64 11, .int .i64 11, .int .i64 20] rfl (by (try simp only [List.map_toArray, List.map_cons, List.map_nil]); first | done | rfl | (simp only [List.length_drop, List.length_take]; rfl)) ?_; (with_reducible refine (decode_bits.calls k ((t227) % 4294967296) 11 11 20 t230 _ A13.out).mono ?_); rintro e w' ⟨rfl, ⟨nd, rfl⟩⟩; refine ⟨_, rfl, ?_⟩) | ((with_reducible refine gate_callee (f := 64) rfl ?_); refine goesL_ (some 42) rfl rfl Try.func64 (by kernel_rfl) rfl #[.int .u32 ((t227) % 4294967296), .int .i64 19, .int .i64 12, .int .i64 12] rfl (by (try simp only [List.map_toArray, List.map_cons, List.map_nil]); first | done | rfl | (simp only [List.length_drop, List.length_take]; rfl)) ?_; (with_reducible refine (decode_bits.calls k ((t227) % 4294967296) 19 12 12 t231 _ A14.out).mono ?_); rintro e w' ⟨rfl, ⟨nd, rfl⟩⟩; refine ⟨_, rfl, ?_⟩))
  go_ret2
  exact ⟨by first | rfl | (simp; done) | (simp [*]; done), by repeat (first | exact Drawn0.refl _ | apply Drawn0.step)⟩

end Go.Proofs.Ytiibhggjlandmaa.PB
