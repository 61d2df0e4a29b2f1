-- Written by a program (a turned copy of the kit's print.py) for this claim. Lean checks it.
import Derived.Test.YtiibhggjlandmaaPBx0
namespace Go.Proofs.Ytiibhggjlandmaa.PB
open Go.RowKit Go.Proofs.YtiibhggjlandmaaW.PrintWords Go.Proofs.YtiibhggjlandmaaW.PrintLast Go.Proofs.YtiibhggjlandmaaW.PrintMore Go.Proofs.Ytiibhggjlandmaa.PE
attribute [local go_sem] max2_int min2_int max_two min_two max_three min_three max_four min_four   -- for this text's walks alone
set_option linter.unusedVariables false
set_option linter.unusedSimpArgs false

/-! ### decode_Length: function 11 -/
def decode_Length.f (a0 : Int) : Option (Int) := if (Go.bits .and .u32 a0 3) = 3 then (some 4) else (some 2)
set_option maxHeartbeats 8000000 in
set_option maxRecDepth 100000 in
theorem decode_Length.calls (a0 : Int) (r : Int) (w : World) (h : decode_Length.f a0 = some r) :
    Calls Try.prog 11 #[.int .u32 a0] w fun e w' => e = .returned (.int .i64 r) ∧ Drawn0 w w' := by
  have H : (if (Go.bits .and .u32 a0 3) = 3 then (some 4) else (some 2)) = some r := h
  clear h
  by_cases c2 : (Go.bits .and .u32 a0 3) = 3
  · rw [if_pos c2] at H
    have c2b0 : ((Go.bits .and .u32 a0 3) == 3) = true := beq_iff_eq.mpr c2
    have c2b1 : ((Go.bits .and .u32 a0 3) != 3) = false := bne_eq_false_iff_eq.mpr c2
    clear c2
    obtain rfl := Option.some.inj H
    go_enter Try.func11, Try.ntmps11
    go_wp2
    go_ret
    exact ⟨by first | rfl | (simp; done) | (simp [*]; done), by repeat (first | exact Drawn0.refl _ | apply Drawn0.step)⟩
  · rw [if_neg c2] at H
    have c2b0 : ((Go.bits .and .u32 a0 3) == 3) = false := beq_eq_false_iff_ne.mpr c2
    have c2b1 : ((Go.bits .and .u32 a0 3) != 3) = true := bne_iff_ne.mpr c2
    obtain rfl := Option.some.inj H
    go_enter Try.func11, Try.ntmps11
    go_wp2
    go_ret
    exact ⟨by first | rfl | (simp; done) | (simp [*]; done), by repeat (first | exact Drawn0.refl _ | apply Drawn0.step)⟩

/-! ### decode_none: function 20 -/
def decode_none.f  : Option (Int × Bool) := some (0, false)
set_option maxHeartbeats 8000000 in
set_option maxRecDepth 100000 in
theorem decode_none.calls  (r1 : Int) (r2 : Bool) (w : World) (h : decode_none.f  = some (r1, r2)) :
    Calls Try.prog 20 #[] w fun e w' => e = .returned (.tuple #[.int .u32 r1, .bool r2]) ∧ Drawn0 w w' := by
  have H : (some (0, false)) = some (r1, r2) := h
  clear h
  simp only [Option.some.injEq, Prod.mk.injEq] at H
  obtain ⟨rfl, rfl⟩ := H
  go_enter Try.func20, Try.ntmps20
  go_wp2
  go_ret2
  exact ⟨by first | rfl | (simp; done) | (simp [*]; done), by repeat (first | exact Drawn0.refl _ | apply Drawn0.step)⟩

/-! ### arith_Bits: function 78 -/
mutual
def arith_Bits.j0 : Nat → Int → Int → Int → Bool → Option (Int)
  | 0, _, _, _, _ => none
  | k + 1, x0, x1, x2, x19 => if x19 = true then (some 0) else (arith_Bits.l0 k x0 x2 0 (wrap64 ((wrap64 (x1 - x2)) + 1)) 0)
def arith_Bits.l0 : Nat → Int → Int → Int → Int → Int → Option (Int)
  | 0, _, _, _, _, _ => none
  | k + 1, x0, x2, x7, x23, x24 => if x24 < x23 then (if 0 ≤ (wrap64 (x2 + x24)) then (if 0 ≤ x24 then (arith_Bits.l0 k x0 x2 (Go.bits .or .u64 x7 (shl .u64 (Go.bits .and .u64 (shr .u64 x0 (wrap64 (x2 + x24))) 1) x24)) x23 (wrap64 (x24 + 1))) else (none)) else (none)) else (some x7)
end
def arith_Bits.f (k : Nat) (a0 : Int) (a1 : Int) (a2 : Int) : Option (Int) := if a2 < 0 then (arith_Bits.j0 k a0 a1 a2 true) else (if a1 > 63 then (arith_Bits.j0 k a0 a1 a2 true) else (arith_Bits.j0 k a0 a1 a2 (decide (a1 < a2))))
theorem arith_Bits.mono_l : ∀ k, (∀ y0 y1 y2 y3, LeO (arith_Bits.j0 k y0 y1 y2 y3) (arith_Bits.j0 (k + 1) y0 y1 y2 y3)) ∧ (∀ y0 y1 y2 y3 y4, LeO (arith_Bits.l0 k y0 y1 y2 y3 y4) (arith_Bits.l0 (k + 1) y0 y1 y2 y3 y4))
  | 0 => ⟨fun _ _ _ _ r h => by simp [arith_Bits.j0] at h, fun _ _ _ _ _ r h => by simp [arith_Bits.l0] at h⟩
  | k + 1 => by
    obtain ⟨ih0, ih1⟩ := arith_Bits.mono_l k
    refine ⟨?_, ?_⟩
    · intro y0 y1 y2 y3
      unfold arith_Bits.j0
      repeat' first
      | (with_reducible exact ih0 _ _ _ _)
      | (with_reducible exact ih1 _ _ _ _ _)
      | (with_reducible exact LeO.refl _)
      | (with_reducible exact LeO.none _)
      | (with_reducible refine LeO.ite ?_ ?_)
      | (with_reducible refine LeO.bind ?_ (fun _ => ?_))
      | exact ih0 _ _ _ _
      | exact ih1 _ _ _ _ _
      | exact LeO.none _
      | refine LeO.ite ?_ ?_
      | refine LeO.bind ?_ (fun _ => ?_)
    · intro y0 y1 y2 y3 y4
      unfold arith_Bits.l0
      repeat' first
      | (with_reducible exact ih0 _ _ _ _)
      | (with_reducible exact ih1 _ _ _ _ _)
      | (with_reducible exact LeO.refl _)
      | (with_reducible exact LeO.none _)
      | (with_reducible refine LeO.ite ?_ ?_)
      | (with_reducible refine LeO.bind ?_ (fun _ => ?_))
      | exact ih0 _ _ _ _
      | exact ih1 _ _ _ _ _
      | exact LeO.none _
      | refine LeO.ite ?_ ?_
      | refine LeO.bind ?_ (fun _ => ?_)
theorem arith_Bits.mono : ∀ a0 a1 a2 k, LeO (arith_Bits.f k a0 a1 a2) (arith_Bits.f (k + 1) a0 a1 a2) := by
  intro a0 a1 a2 k
  obtain ⟨ih0, ih1⟩ := arith_Bits.mono_l k
  unfold arith_Bits.f
  repeat' first
      | (with_reducible exact ih0 _ _ _ _)
      | (with_reducible exact ih1 _ _ _ _ _)
      | (with_reducible exact LeO.refl _)
      | (with_reducible exact LeO.none _)
      | (with_reducible refine LeO.ite ?_ ?_)
      | (with_reducible refine LeO.bind ?_ (fun _ => ?_))
      | exact ih0 _ _ _ _
      | exact ih1 _ _ _ _ _
      | exact LeO.none _
      | refine LeO.ite ?_ ?_
      | refine LeO.bind ?_ (fun _ => ?_)
set_option maxHeartbeats 8000000 in
set_option maxRecDepth 100000 in
theorem arith_Bits.calls (k : Nat) (a0 : Int) (a1 : Int) (a2 : Int) (r : Int) (w : World) (h : arith_Bits.f k a0 a1 a2 = some r) :
    Calls Try.prog 78 #[.int .u64 a0, .int .i64 a1, .int .i64 a2] w fun e w' => e = .returned (.int .u64 r) ∧ Drawn0 w w' := by
  have H : (if a2 < 0 then (arith_Bits.j0 k a0 a1 a2 true) else (if a1 > 63 then (arith_Bits.j0 k a0 a1 a2 true) else (arith_Bits.j0 k a0 a1 a2 (decide (a1 < a2))))) = some r := h
  clear h
  have HC4 := Aside0.mk H
  clear H
  go_enter Try.func78, Try.ntmps78
  go_upto_region 1 with (fail)
  go_cut [19] (fun v19 wc => ∃ (kq : Nat) (x19_3 : Bool), v19 = .bool x19_3 ∧ Aside0 (arith_Bits.j0 kq a0 a1 a2 x19_3 = some r) ∧ Aside0 (kq ≤ k) ∧ Drawn0 w wc)
  case first =>
    have H := HC4.out
    clear HC4
    by_cases c5 : a2 < 0
    · rw [if_pos c5] at H
      have c5b0 : decide (a2 < 0) = true := decide_eq_true c5
      clear c5
      (first | rw [c5b0] | (simp only [i64_w, i32_w]; rw [c5b0]) | skip)
      have H' := Aside0.mk H
      clear H
      go_wp2
      go_meet
      case rel => exact ⟨_, (true), (by first | rfl | (simp; done) | (simp [*]; done)), H', ⟨by first | omega | exact Nat.le_refl _⟩, by repeat (first | exact Drawn0.refl _ | apply Drawn0.step)⟩
    · rw [if_neg c5] at H
      have c5b0 : decide (a2 < 0) = false := decide_eq_false c5
      clear c5
      (first | rw [c5b0] | (simp only [i64_w, i32_w]; rw [c5b0]) | skip)
      by_cases c6 : a1 > 63
      · rw [if_pos c6] at H
        have c6b0 : decide (63 < a1) = true := decide_eq_true c6
        clear c6
        have H' := Aside0.mk H
        clear H
        go_wp2
        go_meet
        case rel => exact ⟨_, (true), (by first | rfl | (simp; done) | (simp [*]; done)), H', ⟨by first | omega | exact Nat.le_refl _⟩, by repeat (first | exact Drawn0.refl _ | apply Drawn0.step)⟩
      · rw [if_neg c6] at H
        have c6b0 : decide (63 < a1) = false := decide_eq_false c6
        clear c6
        have H' := Aside0.mk H
        clear H
        go_wp2
        go_meet
        case rel => exact ⟨_, (decide (a1 < a2)), (by first | rfl | (simp; done) | (simp [*]; done)), H', ⟨by first | omega | exact Nat.le_refl _⟩, by repeat (first | exact Drawn0.refl _ | apply Drawn0.step)⟩
  case rest =>
    clear HC4
    try clear p2
    try clear c5
    try clear c5b0
    try clear c6
    try clear c6b0
    obtain ⟨kq, x19_3, rfl, HA, HJ3, ⟨mc3, rfl⟩⟩ := hcut
    cases kq with
    | zero => exact absurd HA.out (by simp [arith_Bits.j0])
    | succ kj3 =>
      have H := HA.out
      clear HA
      simp only [arith_Bits.j0] at H
      by_cases c7 : x19_3 = true
      · subst c7
        have H1 : (some 0) = some r := by rw [if_pos rfl] at H; exact H
        clear H
        have H := H1
        clear H1
        obtain rfl := Option.some.inj H
        go_wp2
        go_ret
        exact ⟨by first | rfl | (simp; done) | (simp [*]; done), by repeat (first | exact Drawn0.refl _ | apply Drawn0.step)⟩
      · replace c7 := Bool.eq_false_iff.mpr c7
        subst c7
        have H1 : (arith_Bits.l0 kj3 a0 a2 0 (wrap64 ((wrap64 (a1 - a2)) + 1)) 0) = some r := by rw [if_neg (show ¬ (false = true) by decide)] at H; exact H
        clear H
        have H := H1
        clear H1
        have H' := Aside0.mk H
        clear H
        go_wp2
        go_loopg [7, 24] kj3 (fun kq v7 v24 w' => ∃ (x7_2 : Int) (x24_2 : Int), v7 = .int .u64 x7_2 ∧ v24 = .int .i64 x24_2 ∧ Aside0 (arith_Bits.l0 kq a0 a2 x7_2 (wrap64 ((wrap64 (a1 - a2)) + 1)) x24_2 = some r) ∧ Aside0 (kq ≤ kj3) ∧ Drawn0 w w')
        case atStart => exact ⟨(0), (0), (by first | rfl | (simp; done) | (simp [*]; done)), (by first | rfl | (simp; done) | (simp [*]; done)), H', ⟨Nat.le_refl _⟩, by repeat (first | exact Drawn0.refl _ | apply Drawn0.step)⟩
        case round =>
          clear H'
          try clear p2
          try clear c3
          try clear c5
          try clear c5b0
          try clear c6
          try clear c6b0
          try clear p6
          try clear c7
          try clear p2
          obtain ⟨x7_2, x24_2, rfl, rfl, HA, HK2, ⟨m2, rfl⟩⟩ := hrel
          cases gk with
          | zero => exact absurd HA.out (by simp [arith_Bits.l0])
          | succ k2 =>
            have H := HA.out
            clear HA
            simp only [arith_Bits.l0] at H
            by_cases c8 : x24_2 < (wrap64 ((wrap64 (a1 - a2)) + 1))
            · rw [if_pos c8] at H
              have c8b0 : decide (x24_2 < (wrap64 ((wrap64 (a1 - a2)) + 1))) = true := decide_eq_true c8
              clear c8
              obtain ⟨ji9, hji9⟩ : ∃ j_ : Int, (wrap64 (a2 + x24_2)) = j_ := ⟨_, rfl⟩
              replace H : (if 0 ≤ (ji9) then (if 0 ≤ x24_2 then (arith_Bits.l0 k2 a0 a2 (Go.bits .or .u64 x7_2 (shl .u64 (Go.bits .and .u64 (shr .u64 a0 (ji9)) 1) x24_2)) (wrap64 ((wrap64 (a1 - a2)) + 1)) (wrap64 (x24_2 + 1))) else (none)) else (none)) = some r := by first | (rw [hji9] at H; exact H) | (simp only [hji9] at H ⊢; exact H)
              have hji9w : (IntKind.i64.wrap (a2 + x24_2)) = ji9 := (i64_w _).trans hji9
              by_cases c10 : 0 ≤ (ji9)
              · rw [if_pos c10] at H
                have c10b0 := eq_true c10
                have c10b1 : decide (0 ≤ (ji9)) = true := decide_eq_true c10
                clear c10
                obtain ⟨ji11, hji11⟩ : ∃ j_ : Int, (shr .u64 a0 (ji9)) = j_ := ⟨_, rfl⟩
                replace H : (if 0 ≤ x24_2 then (arith_Bits.l0 k2 a0 a2 (Go.bits .or .u64 x7_2 (shl .u64 (Go.bits .and .u64 (ji11) 1) x24_2)) (wrap64 ((wrap64 (a1 - a2)) + 1)) (wrap64 (x24_2 + 1))) else (none)) = some r := by first | (rw [hji11] at H; exact H) | (simp only [hji11] at H ⊢; exact H)
                have hji11_ : (a0 / 2 ^ min (ji9).toNat 64) = ji11 := hji11
                have hji11z : (ji9) ≤ 64 → (a0 / 2 ^ (ji9).toNat) = ji11 := shr_small hji11
                by_cases c12 : 0 ≤ x24_2
                · rw [if_pos c12] at H
                  have c12b0 := eq_true c12
                  have c12b1 : decide (0 ≤ x24_2) = true := decide_eq_true c12
                  clear c12
                  obtain ⟨ji13, hji13⟩ : ∃ j_ : Int, (shl .u64 (Go.bits .and .u64 (ji11) 1) x24_2) = j_ := ⟨_, rfl⟩
                  replace H : (arith_Bits.l0 k2 a0 a2 (Go.bits .or .u64 x7_2 (ji13)) (wrap64 ((wrap64 (a1 - a2)) + 1)) (wrap64 (x24_2 + 1))) = some r := by first | (rw [hji13] at H; exact H) | (simp only [hji13] at H ⊢; exact H)
                  have hji13_ : (IntKind.u64.wrap ((Go.bits .and .u64 (ji11) 1) * 2 ^ min x24_2.toNat 64)) = ji13 := hji13
                  have hji13z : x24_2 ≤ 64 → (IntKind.u64.wrap ((Go.bits .and .u64 (ji11) 1) * 2 ^ x24_2.toNat)) = ji13 := shl_small hji13
                  have H' := Aside0.mk H
                  clear H
                  go_wp2
                  go_roundg k2
                  case measure => have := HJ3.out; have := HK2.out; omega
                  case rel => exact ⟨(Go.bits .or .u64 x7_2 (ji13)), (wrap64 (x24_2 + 1)), (by first | rfl | (simp; done) | (simp only [← hji13] <;> (first | rfl | simp)) | (simp [*]; done)), (by first | rfl | (simp; done) | (simp [*]; done)), H', ⟨by have := HJ3.out; have := HK2.out; omega⟩, by repeat (first | exact Drawn0.refl _ | apply Drawn0.step)⟩
                · rw [if_neg c12] at H
                  exact absurd H (by simp)
              · rw [if_neg c10] at H
                exact absurd H (by simp)
            · rw [if_neg c8] at H
              have c8b0 : decide (x24_2 < (wrap64 ((wrap64 (a1 - a2)) + 1))) = false := decide_eq_false c8
              clear c8
              obtain rfl := Option.some.inj H
              go_wp2
              go_ret
              exact ⟨by first | rfl | (simp; done) | (simp [*]; done), by repeat (first | exact Drawn0.refl _ | apply Drawn0.step)⟩

/-! ### decode_field: function 60 -/
def decode_field.f (k : Nat) (a0 : Int) (a1 : Int) (a2 : Int) : Option (Int) := (arith_Bits.f k (IntKind.u64.wrap (a0)) a1 a2).bind fun t101 => (some (wrap64 (t101)))
theorem decode_field.mono : ∀ a0 a1 a2 k, LeO (decode_field.f k a0 a1 a2) (decode_field.f (k + 1) a0 a1 a2) := by
  intro a0 a1 a2 k
  unfold decode_field.f
  repeat' first
      | (with_reducible exact arith_Bits.mono _ _ _ _)
      | (with_reducible exact LeO.refl _)
      | (with_reducible exact LeO.none _)
      | (with_reducible refine LeO.ite ?_ ?_)
      | (with_reducible refine LeO.bind ?_ (fun _ => ?_))
      | exact arith_Bits.mono _ _ _ _
      | exact LeO.none _
      | refine LeO.ite ?_ ?_
      | refine LeO.bind ?_ (fun _ => ?_)
set_option maxHeartbeats 8000000 in
set_option maxRecDepth 100000 in
theorem decode_field.calls (k : Nat) (a0 : Int) (a1 : Int) (a2 : Int) (r : Int) (w : World) (h : decode_field.f k a0 a1 a2 = some r) :
    Calls Try.prog 60 #[.int .u32 a0, .int .i64 a1, .int .i64 a2] w fun e w' => e = .returned (.int .i64 r) ∧ Drawn0 w w' := by
  have H : ((arith_Bits.f k (IntKind.u64.wrap (a0)) a1 a2).bind fun t101 => (some (wrap64 (t101)))) = some r := h
  clear h
  replace H := Option.bind_eq_some_iff.mp H
  obtain ⟨t101, A40, H⟩ := H
  replace H : (some (wrap64 (t101))) = some r := H
  have A4 := Aside0.mk A40
  clear A40
  obtain rfl := Option.some.inj H
  go_enter Try.func60, Try.ntmps60
  go_wp2_with (first | ((with_reducible refine gate_callee (f := 78) rfl ?_); refine goesL_ (some 11) rfl rfl Try.func78 (by kernel_rfl) rfl #[.int .u64 (IntKind.u64.wrap (a0)), .int .i64 a1, .int .i64 a2] rfl (by (try simp only [List.map_toArray, List.map_cons, List.map_nil]); first | done | rfl | (simp only [List.length_drop, List.length_take]; rfl)) ?_; (with_reducible refine (arith_Bits.calls k (IntKind.u64.wrap (a0)) a1 a2 t101 _ A4.out).mono ?_); rintro e w' ⟨rfl, ⟨nd, rfl⟩⟩; refine ⟨_, rfl, ?_⟩))
  go_ret
  exact ⟨by first | rfl | (simp; done) | (simp [*]; done), by repeat (first | exact Drawn0.refl _ | apply Drawn0.step)⟩

/-! ### decode_bits: function 64 -/
def decode_bits.f (k : Nat) (a0 : Int) (a1 : Int) (a2 : Int) (a3 : Int) : Option (Int) := (decode_field.f k a0 a1 a2).bind fun t102 => (if 0 ≤ a3 then (some (shl .u32 ((t102) % 4294967296) a3)) else (none))
theorem decode_bits.mono : ∀ a0 a1 a2 a3 k, LeO (decode_bits.f k a0 a1 a2 a3) (decode_bits.f (k + 1) a0 a1 a2 a3) := by
  intro a0 a1 a2 a3 k
  unfold decode_bits.f
  repeat' first
      | (with_reducible exact decode_field.mono _ _ _ _)
      | (with_reducible exact LeO.refl _)
      | (with_reducible exact LeO.none _)
      | (with_reducible refine LeO.ite ?_ ?_)
      | (with_reducible refine LeO.bind ?_ (fun _ => ?_))
      | exact decode_field.mono _ _ _ _
      | exact LeO.none _
      | refine LeO.ite ?_ ?_
      | refine LeO.bind ?_ (fun _ => ?_)
set_option maxHeartbeats 8000000 in
set_option maxRecDepth 100000 in
theorem decode_bits.calls (k : Nat) (a0 : Int) (a1 : Int) (a2 : Int) (a3 : Int) (r : Int) (w : World) (h : decode_bits.f k a0 a1 a2 a3 = some r) :
    Calls Try.prog 64 #[.int .u32 a0, .int .i64 a1, .int .i64 a2, .int .i64 a3] w fun e w' => e = .returned (.int .u32 r) ∧ Drawn0 w w' := by
  have H : ((decode_field.f k a0 a1 a2).bind fun t102 => (if 0 ≤ a3 then (some (shl .u32 ((t102) % 4294967296) a3)) else (none))) = some r := h
  clear h
  replace H := Option.bind_eq_some_iff.mp H
  obtain ⟨t102, A50, H⟩ := H
  replace H : (if 0 ≤ a3 then (some (shl .u32 ((t102) % 4294967296) a3)) else (none)) = some r := H
  have A5 := Aside0.mk A50
  clear A50
  by_cases c6 : 0 ≤ a3
  · rw [if_pos c6] at H
    have c6b0 := eq_true c6
    have c6b1 : decide (0 ≤ a3) = true := decide_eq_true c6
    clear c6
    obtain ⟨ji7, hji7⟩ : ∃ j_ : Int, (shl .u32 ((t102) % 4294967296) a3) = j_ := ⟨_, rfl⟩
    replace H : (some ji7) = some r := by first | (rw [hji7] at H; exact H) | (simp only [hji7] at H ⊢; exact H)
    (try rw [hji7] at A5)
    have hji7_ : (IntKind.u32.wrap (((t102) % 4294967296) * 2 ^ min a3.toNat 32)) = ji7 := hji7
    have hji7z : a3 ≤ 32 → (IntKind.u32.wrap (((t102) % 4294967296) * 2 ^ a3.toNat)) = ji7 := shl_small hji7
    obtain rfl := Option.some.inj H
    go_enter Try.func64, Try.ntmps64
    go_wp2_with (first | ((with_reducible refine gate_callee (f := 60) rfl ?_); refine goesL_ (some 12) rfl rfl Try.func60 (by kernel_rfl) rfl #[.int .u32 a0, .int .i64 a1, .int .i64 a2] rfl (by (try simp only [List.map_toArray, List.map_cons, List.map_nil]); first | done | rfl | (simp only [List.length_drop, List.length_take]; rfl)) ?_; (with_reducible refine (decode_field.calls k a0 a1 a2 t102 _ A5.out).mono ?_); rintro e w' ⟨rfl, ⟨nd, rfl⟩⟩; refine ⟨_, rfl, ?_⟩))
    go_ret
    exact ⟨by first | rfl | (simp; done) | (simp only [← hji7] <;> (first | rfl | simp)) | (simp [*]; done), by repeat (first | exact Drawn0.refl _ | apply Drawn0.step)⟩
  · rw [if_neg c6] at H
    exact absurd H (by simp)

/-! ### decode_typeI: function 65 -/
def decode_typeI.f (a0 : Int) (a1 : Int) (a2 : Int) (a3 : Int) (a4 : Int) : Option (Int × Bool) := some (Go.bits .or .u32 (Go.bits .or .u32 (Go.bits .or .u32 (Go.bits .or .u32 (((Go.bits .and .u32 a4 4095) * 1048576) % 4294967296) ((a3 * 32768) % 4294967296)) ((a1 * 4096) % 4294967296)) ((a2 * 128) % 4294967296)) a0, true)
set_option maxHeartbeats 8000000 in
set_option maxRecDepth 100000 in
theorem decode_typeI.calls (a0 : Int) (a1 : Int) (a2 : Int) (a3 : Int) (a4 : Int) (r1 : Int) (r2 : Bool) (w : World) (h : decode_typeI.f a0 a1 a2 a3 a4 = some (r1, r2)) :
    Calls Try.prog 65 #[.int .u32 a0, .int .u32 a1, .int .u32 a2, .int .u32 a3, .int .u32 a4] w fun e w' => e = .returned (.tuple #[.int .u32 r1, .bool r2]) ∧ Drawn0 w w' := by
  have H : (some (Go.bits .or .u32 (Go.bits .or .u32 (Go.bits .or .u32 (Go.bits .or .u32 (((Go.bits .and .u32 a4 4095) * 1048576) % 4294967296) ((a3 * 32768) % 4294967296)) ((a1 * 4096) % 4294967296)) ((a2 * 128) % 4294967296)) a0, true)) = some (r1, r2) := h
  clear h
  simp only [Option.some.injEq, Prod.mk.injEq] at H
  obtain ⟨rfl, rfl⟩ := H
  go_enter Try.func65, Try.ntmps65
  go_wp2
  go_ret2
  exact ⟨by first | rfl | (simp; done) | (simp [*]; done), by repeat (first | exact Drawn0.refl _ | apply Drawn0.step)⟩

/-! ### decode_ta: function 66 -/
def decode_ta.f (k : Nat) (a0 : Int) : Option (Int) := (decode_bits.f k a0 4 2 0).bind fun t103 => (some ((8 + t103) % 4294967296))
theorem decode_ta.mono : ∀ a0 k, LeO (decode_ta.f k a0) (decode_ta.f (k + 1) a0) := by
  intro a0 k
  unfold decode_ta.f
  repeat' first
      | (with_reducible exact decode_bits.mono _ _ _ _ _)
      | (with_reducible exact LeO.refl _)
      | (with_reducible exact LeO.none _)
      | (with_reducible refine LeO.ite ?_ ?_)
      | (with_reducible refine LeO.bind ?_ (fun _ => ?_))
      | exact decode_bits.mono _ _ _ _ _
      | exact LeO.none _
      | refine LeO.ite ?_ ?_
      | refine LeO.bind ?_ (fun _ => ?_)
set_option maxHeartbeats 8000000 in
set_option maxRecDepth 100000 in
theorem decode_ta.calls (k : Nat) (a0 : Int) (r : Int) (w : World) (h : decode_ta.f k a0 = some r) :
    Calls Try.prog 66 #[.int .u32 a0] w fun e w' => e = .returned (.int .u32 r) ∧ Drawn0 w w' := by
  have H : ((decode_bits.f k a0 4 2 0).bind fun t103 => (some ((8 + t103) % 4294967296))) = some r := h
  clear h
  replace H := Option.bind_eq_some_iff.mp H
  obtain ⟨t103, A20, H⟩ := H
  replace H : (some ((8 + t103) % 4294967296)) = some r := H
  have A2 := Aside0.mk A20
  clear A20
  obtain rfl := Option.some.inj H
  go_enter Try.func66, Try.ntmps66
  go_wp2_with (first | ((with_reducible refine gate_callee (f := 64) rfl ?_); refine goesL_ (some 4) rfl rfl Try.func64 (by kernel_rfl) rfl #[.int .u32 a0, .int .i64 4, .int .i64 2, .int .i64 0] rfl (by (try simp only [List.map_toArray, List.map_cons, List.map_nil]); first | done | rfl | (simp only [List.length_drop, List.length_take]; rfl)) ?_; (with_reducible refine (decode_bits.calls k a0 4 2 0 t103 _ A2.out).mono ?_); rintro e w' ⟨rfl, ⟨nd, rfl⟩⟩; refine ⟨_, rfl, ?_⟩))
  go_ret
  exact ⟨by first | rfl | (simp; done) | (simp [*]; done), by repeat (first | exact Drawn0.refl _ | apply Drawn0.step)⟩

/-! ### decode_addi4spn: function 32 -/
def decode_addi4spn.f (k : Nat) (a0 : Int) : Option (Int × Bool) := (decode_bits.f k a0 12 11 4).bind fun t104 => ((decode_bits.f k a0 10 7 6).bind fun t105 => ((decode_bits.f k a0 6 6 2).bind fun t106 => ((decode_bits.f k a0 5 5 3).bind fun t107 => (if (Go.bits .or .u32 (Go.bits .or .u32 (Go.bits .or .u32 t104 t105) t106) t107) = 0 then ((decode_none.f).bind fun bt108 => (some (bt108.1, bt108.2))) else ((decode_ta.f k a0).bind fun t110 => ((decode_typeI.f 19 0 t110 2 (Go.bits .or .u32 (Go.bits .or .u32 (Go.bits .or .u32 t104 t105) t106) t107)).bind fun bt111 => (some (bt111.1, bt111.2))))))))
theorem decode_addi4spn.mono : ∀ a0 k, LeO (decode_addi4spn.f k a0) (decode_addi4spn.f (k + 1) a0) := by
  intro a0 k
  unfold decode_addi4spn.f
  repeat' first
      | (with_reducible exact decode_bits.mono _ _ _ _ _)
      | (with_reducible exact decode_ta.mono _ _)
      | (with_reducible exact LeO.refl _)
      | (with_reducible exact LeO.none _)
      | (with_reducible refine LeO.ite ?_ ?_)
      | (with_reducible refine LeO.bind ?_ (fun _ => ?_))
      | exact decode_bits.mono _ _ _ _ _
      | exact decode_ta.mono _ _
      | exact LeO.none _
      | refine LeO.ite ?_ ?_
      | refine LeO.bind ?_ (fun _ => ?_)
set_option maxHeartbeats 8000000 in
set_option maxRecDepth 100000 in
theorem decode_addi4spn.calls (k : Nat) (a0 : Int) (r1 : Int) (r2 : Bool) (w : World) (h : decode_addi4spn.f k a0 = some (r1, r2)) :
    Calls Try.prog 32 #[.int .u32 a0] w fun e w' => e = .returned (.tuple #[.int .u32 r1, .bool r2]) ∧ Drawn0 w w' := by
  have H : ((decode_bits.f k a0 12 11 4).bind fun t104 => ((decode_bits.f k a0 10 7 6).bind fun t105 => ((decode_bits.f k a0 6 6 2).bind fun t106 => ((decode_bits.f k a0 5 5 3).bind fun t107 => (if (Go.bits .or .u32 (Go.bits .or .u32 (Go.bits .or .u32 t104 t105) t106) t107) = 0 then ((decode_none.f).bind fun bt108 => (some (bt108.1, bt108.2))) else ((decode_ta.f k a0).bind fun t110 => ((decode_typeI.f 19 0 t110 2 (Go.bits .or .u32 (Go.bits .or .u32 (Go.bits .or .u32 t104 t105) t106) t107)).bind fun bt111 => (some (bt111.1, bt111.2))))))))) = some (r1, r2) := h
  clear h
  replace H := Option.bind_eq_some_iff.mp H
  obtain ⟨t104, A20, H⟩ := H
  replace H : ((decode_bits.f k a0 10 7 6).bind fun t105 => ((decode_bits.f k a0 6 6 2).bind fun t106 => ((decode_bits.f k a0 5 5 3).bind fun t107 => (if (Go.bits .or .u32 (Go.bits .or .u32 (Go.bits .or .u32 t104 t105) t106) t107) = 0 then ((decode_none.f).bind fun bt108 => (some (bt108.1, bt108.2))) else ((decode_ta.f k a0).bind fun t110 => ((decode_typeI.f 19 0 t110 2 (Go.bits .or .u32 (Go.bits .or .u32 (Go.bits .or .u32 t104 t105) t106) t107)).bind fun bt111 => (some (bt111.1, bt111.2)))))))) = some (r1, r2) := H
  have A2 := Aside0.mk A20
  clear A20
  replace H := Option.bind_eq_some_iff.mp H
  obtain ⟨t105, A30, H⟩ := H
  replace H : ((decode_bits.f k a0 6 6 2).bind fun t106 => ((decode_bits.f k a0 5 5 3).bind fun t107 => (if (Go.bits .or .u32 (Go.bits .or .u32 (Go.bits .or .u32 t104 t105) t106) t107) = 0 then ((decode_none.f).bind fun bt108 => (some (bt108.1, bt108.2))) else ((decode_ta.f k a0).bind fun t110 => ((decode_typeI.f 19 0 t110 2 (Go.bits .or .u32 (Go.bits .or .u32 (Go.bits .or .u32 t104 t105) t106) t107)).bind fun bt111 => (some (bt111.1, bt111.2))))))) = some (r1, r2) := H
  have A3 := Aside0.mk A30
  clear A30
  replace H := Option.bind_eq_some_iff.mp H
  obtain ⟨t106, A40, H⟩ := H
  replace H : ((decode_bits.f k a0 5 5 3).bind fun t107 => (if (Go.bits .or .u32 (Go.bits .or .u32 (Go.bits .or .u32 t104 t105) t106) t107) = 0 then ((decode_none.f).bind fun bt108 => (some (bt108.1, bt108.2))) else ((decode_ta.f k a0).bind fun t110 => ((decode_typeI.f 19 0 t110 2 (Go.bits .or .u32 (Go.bits .or .u32 (Go.bits .or .u32 t104 t105) t106) t107)).bind fun bt111 => (some (bt111.1, bt111.2)))))) = some (r1, r2) := H
  have A4 := Aside0.mk A40
  clear A40
  replace H := Option.bind_eq_some_iff.mp H
  obtain ⟨t107, A50, H⟩ := H
  replace H : (if (Go.bits .or .u32 (Go.bits .or .u32 (Go.bits .or .u32 t104 t105) t106) t107) = 0 then ((decode_none.f).bind fun bt108 => (some (bt108.1, bt108.2))) else ((decode_ta.f k a0).bind fun t110 => ((decode_typeI.f 19 0 t110 2 (Go.bits .or .u32 (Go.bits .or .u32 (Go.bits .or .u32 t104 t105) t106) t107)).bind fun bt111 => (some (bt111.1, bt111.2))))) = some (r1, r2) := H
  have A5 := Aside0.mk A50
  clear A50
  by_cases c6 : (Go.bits .or .u32 (Go.bits .or .u32 (Go.bits .or .u32 t104 t105) t106) t107) = 0
  · rw [if_pos c6] at H
    have c6b0 : ((Go.bits .or .u32 (Go.bits .or .u32 (Go.bits .or .u32 t104 t105) t106) t107) == 0) = true := beq_iff_eq.mpr c6
    have c6b1 : ((Go.bits .or .u32 (Go.bits .or .u32 (Go.bits .or .u32 t104 t105) t106) t107) != 0) = false := bne_eq_false_iff_eq.mpr c6
    clear c6
    replace H := Option.bind_eq_some_iff.mp H
    obtain ⟨⟨t108, t109⟩, A70, H⟩ := H
    replace H : (some (t108, t109)) = some (r1, r2) := H
    have A7 := Aside0.mk A70
    clear A70
    simp only [Option.some.injEq, Prod.mk.injEq] at H
    obtain ⟨rfl, rfl⟩ := H
    go_enter Try.func32, Try.ntmps32
    go_wp2_with (first | ((with_reducible refine gate_callee (f := 64) rfl ?_); refine goesL_ (some 6) rfl rfl Try.func64 (by kernel_rfl) rfl #[.int .u32 a0, .int .i64 12, .int .i64 11, .int .i64 4] rfl (by (try simp only [List.map_toArray, List.map_cons, List.map_nil]); first | done | rfl | (simp only [List.length_drop, List.length_take]; rfl)) ?_; (with_reducible refine (decode_bits.calls k a0 12 11 4 t104 _ A2.out).mono ?_); rintro e w' ⟨rfl, ⟨nd, rfl⟩⟩; refine ⟨_, rfl, ?_⟩) | ((with_reducible refine gate_callee (f := 64) rfl ?_); refine goesL_ (some 8) rfl rfl Try.func64 (by kernel_rfl) rfl #[.int .u32 a0, .int .i64 10, .int .i64 7, .int .i64 6] rfl (by (try simp only [List.map_toArray, List.map_cons, List.map_nil]); first | done | rfl | (simp only [List.length_drop, List.length_take]; rfl)) ?_; (with_reducible refine (decode_bits.calls k a0 10 7 6 t105 _ A3.out).mono ?_); rintro e w' ⟨rfl, ⟨nd, rfl⟩⟩; refine ⟨_, rfl, ?_⟩) | ((with_reducible refine gate_callee (f := 64) rfl ?_); refine goesL_ (some 11) rfl rfl Try.func64 (by kernel_rfl) rfl #[.int .u32 a0, .int .i64 6, .int .i64 6, .int .i64 2] rfl (by (try simp only [List.map_toArray, List.map_cons, List.map_nil]); first | done | rfl | (simp only [List.length_drop, List.length_take]; rfl)) ?_; (with_reducible refine (decode_bits.calls k a0 6 6 2 t106 _ A4.out).mono ?_); rintro e w' ⟨rfl, ⟨nd, rfl⟩⟩; refine ⟨_, rfl, ?_⟩) | ((with_reducible refine gate_callee (f := 64) rfl ?_); refine goesL_ (some 14) rfl rfl Try.func64 (by kernel_rfl) rfl #[.int .u32 a0, .int .i64 5, .int .i64 5, .int .i64 3] rfl (by (try simp only [List.map_toArray, List.map_cons, List.map_nil]); first | done | rfl | (simp only [List.length_drop, List.length_take]; rfl)) ?_; (with_reducible refine (decode_bits.calls k a0 5 5 3 t107 _ A5.out).mono ?_); rintro e w' ⟨rfl, ⟨nd, rfl⟩⟩; refine ⟨_, rfl, ?_⟩) | ((with_reducible refine gate_callee (f := 20) rfl ?_); refine goesL_ (some 18) rfl rfl Try.func20 (by kernel_rfl) rfl #[] rfl (by (try simp only [List.map_toArray, List.map_cons, List.map_nil]); first | done | rfl | (simp only [List.length_drop, List.length_take]; rfl)) ?_; (with_reducible refine (decode_none.calls  t108 t109 _ A7.out).mono ?_); rintro e w' ⟨rfl, ⟨nd, rfl⟩⟩; refine ⟨_, rfl, ?_⟩))
    go_ret2
    exact ⟨by first | rfl | (simp; done) | (simp [*]; done), by repeat (first | exact Drawn0.refl _ | apply Drawn0.step)⟩
  · rw [if_neg c6] at H
    have c6b0 : ((Go.bits .or .u32 (Go.bits .or .u32 (Go.bits .or .u32 t104 t105) t106) t107) == 0) = false := beq_eq_false_iff_ne.mpr c6
    have c6b1 : ((Go.bits .or .u32 (Go.bits .or .u32 (Go.bits .or .u32 t104 t105) t106) t107) != 0) = true := bne_iff_ne.mpr c6
    replace H := Option.bind_eq_some_iff.mp H
    obtain ⟨t110, A80, H⟩ := H
    replace H : ((decode_typeI.f 19 0 t110 2 (Go.bits .or .u32 (Go.bits .or .u32 (Go.bits .or .u32 t104 t105) t106) t107)).bind fun bt111 => (some (bt111.1, bt111.2))) = some (r1, r2) := H
    have A8 := Aside0.mk A80
    clear A80
    replace H := Option.bind_eq_some_iff.mp H
    obtain ⟨⟨t111, t112⟩, A90, H⟩ := H
    replace H : (some (t111, t112)) = some (r1, r2) := H
    have A9 := Aside0.mk A90
    clear A90
    simp only [Option.some.injEq, Prod.mk.injEq] at H
    obtain ⟨rfl, rfl⟩ := H
    go_enter Try.func32, Try.ntmps32
    go_wp2_with (first | ((with_reducible refine gate_callee (f := 64) rfl ?_); refine goesL_ (some 6) rfl rfl Try.func64 (by kernel_rfl) rfl #[.int .u32 a0, .int .i64 12, .int .i64 11, .int .i64 4] rfl (by (try simp only [List.map_toArray, List.map_cons, List.map_nil]); first | done | rfl | (simp only [List.length_drop, List.length_take]; rfl)) ?_; (with_reducible refine (decode_bits.calls k a0 12 11 4 t104 _ A2.out).mono ?_); rintro e w' ⟨rfl, ⟨nd, rfl⟩⟩; refine ⟨_, rfl, ?_⟩) | ((with_reducible refine gate_callee (f := 64) rfl ?_); refine goesL_ (some 8) rfl rfl Try.func64 (by kernel_rfl) rfl #[.int .u32 a0, .int .i64 10, .int .i64 7, .int .i64 6] rfl (by (try simp only [List.map_toArray, List.map_cons, List.map_nil]); first | done | rfl | (simp only [List.length_drop, List.length_take]; rfl)) ?_; (with_reducible refine (decode_bits.calls k a0 10 7 6 t105 _ A3.out).mono ?_); rintro e w' ⟨rfl, ⟨nd, rfl⟩⟩; refine ⟨_, rfl, ?_⟩) | ((with_reducible refine gate_callee (f := 64) rfl ?_); refine goesL_ (some 11) rfl rfl Try.func64 (by kernel_rfl) rfl #[.int .u32 a0, .int .i64 6, .int .i64 6, .int .i64 2] rfl (by (try simp only [List.map_toArray, List.map_cons, List.map_nil]); first | done | rfl | (simp only [List.length_drop, List.length_take]; rfl)) ?_; (with_reducible refine (decode_bits.calls k a0 6 6 2 t106 _ A4.out).mono ?_); rintro e w' ⟨rfl, ⟨nd, rfl⟩⟩; refine ⟨_, rfl, ?_⟩) | ((with_reducible refine gate_callee (f := 64) rfl ?_); refine goesL_ (some 14) rfl rfl Try.func64 (by kernel_rfl) rfl #[.int .u32 a0, .int .i64 5, .int .i64 5, .int .i64 3] rfl (by (try simp only [List.map_toArray, List.map_cons, List.map_nil]); first | done | rfl | (simp only [List.length_drop, List.length_take]; rfl)) ?_; (with_reducible refine (decode_bits.calls k a0 5 5 3 t107 _ A5.out).mono ?_); rintro e w' ⟨rfl, ⟨nd, rfl⟩⟩; refine ⟨_, rfl, ?_⟩) | ((with_reducible refine gate_callee (f := 66) rfl ?_); refine goesL_ (some 22) rfl rfl Try.func66 (by kernel_rfl) rfl #[.int .u32 a0] rfl (by (try simp only [List.map_toArray, List.map_cons, List.map_nil]); first | done | rfl | (simp only [List.length_drop, List.length_take]; rfl)) ?_; (with_reducible refine (decode_ta.calls k a0 t110 _ A8.out).mono ?_); rintro e w' ⟨rfl, ⟨nd, rfl⟩⟩; refine ⟨_, rfl, ?_⟩) | ((with_reducible refine gate_callee (f := 65) rfl ?_); refine goesL_ (some 24) rfl rfl Try.func65 (by kernel_rfl) rfl #[.int .u32 19, .int .u32 0, .int .u32 t110, .int .u32 2, .int .u32 (Go.bits .or .u32 (Go.bits .or .u32 (Go.bits .or .u32 t104 t105) t106) t107)] rfl (by (try simp only [List.map_toArray, List.map_cons, List.map_nil]); first | done | rfl | (simp only [List.length_drop, List.length_take]; rfl)) ?_; (with_reducible refine (decode_typeI.calls 19 0 t110 2 (Go.bits .or .u32 (Go.bits .or .u32 (Go.bits .or .u32 t104 t105) t106) t107) t111 t112 _ A9.out).mono ?_); rintro e w' ⟨rfl, ⟨nd, rfl⟩⟩; refine ⟨_, rfl, ?_⟩))
    go_ret2
    exact ⟨by first | rfl | (simp; done) | (simp [*]; done), by repeat (first | exact Drawn0.refl _ | apply Drawn0.step)⟩

/-! ### decode_ra: function 67 -/
def decode_ra.f (k : Nat) (a0 : Int) : Option (Int) := (decode_bits.f k a0 9 7 0).bind fun t113 => (some ((8 + t113) % 4294967296))
theorem decode_ra.mono : ∀ a0 k, LeO (decode_ra.f k a0) (decode_ra.f (k + 1) a0) := by
  intro a0 k
  unfold decode_ra.f
  repeat' first
      | (with_reducible exact decode_bits.mono _ _ _ _ _)
      | (with_reducible exact LeO.refl _)
      | (with_reducible exact LeO.none _)
      | (with_reducible refine LeO.ite ?_ ?_)
      | (with_reducible refine LeO.bind ?_ (fun _ => ?_))
      | exact decode_bits.mono _ _ _ _ _
      | exact LeO.none _
      | refine LeO.ite ?_ ?_
      | refine LeO.bind ?_ (fun _ => ?_)
set_option maxHeartbeats 8000000 in
set_option maxRecDepth 100000 in
theorem decode_ra.calls (k : Nat) (a0 : Int) (r : Int) (w : World) (h : decode_ra.f k a0 = some r) :
    Calls Try.prog 67 #[.int .u32 a0] w fun e w' => e = .returned (.int .u32 r) ∧ Drawn0 w w' := by
  have H : ((decode_bits.f k a0 9 7 0).bind fun t113 => (some ((8 + t113) % 4294967296))) = some r := h
  clear h
  replace H := Option.bind_eq_some_iff.mp H
  obtain ⟨t113, A20, H⟩ := H
  replace H : (some ((8 + t113) % 4294967296)) = some r := H
  have A2 := Aside0.mk A20
  clear A20
  obtain rfl := Option.some.inj H
  go_enter Try.func67, Try.ntmps67
  go_wp2_with (first | ((with_reducible refine gate_callee (f := 64) rfl ?_); refine goesL_ (some 4) rfl rfl Try.func64 (by kernel_rfl) rfl #[.int .u32 a0, .int .i64 9, .int .i64 7, .int .i64 0] rfl (by (try simp only [List.map_toArray, List.map_cons, List.map_nil]); first | done | rfl | (simp only [List.length_drop, List.length_take]; rfl)) ?_; (with_reducible refine (decode_bits.calls k a0 9 7 0 t113 _ A2.out).mono ?_); rintro e w' ⟨rfl, ⟨nd, rfl⟩⟩; refine ⟨_, rfl, ?_⟩))
  go_ret
  exact ⟨by first | rfl | (simp; done) | (simp [*]; done), by repeat (first | exact Drawn0.refl _ | apply Drawn0.step)⟩

/-! ### decode_byWord: function 68 -/
def decode_byWord.f (k : Nat) (a0 : Int) : Option (Int) := (decode_bits.f k a0 12 10 3).bind fun t114 => ((decode_bits.f k a0 6 6 2).bind fun t115 => ((decode_bits.f k a0 5 5 6).bind fun t116 => (some (Go.bits .or .u32 (Go.bits .or .u32 t114 t115) t116))))
theorem decode_byWord.mono : ∀ a0 k, LeO (decode_byWord.f k a0) (decode_byWord.f (k + 1) a0) := by
  intro a0 k
  unfold decode_byWord.f
  repeat' first
      | (with_reducible exact decode_bits.mono _ _ _ _ _)
      | (with_reducible exact LeO.refl _)
      | (with_reducible exact LeO.none _)
      | (with_reducible refine LeO.ite ?_ ?_)
      | (with_reducible refine LeO.bind ?_ (fun _ => ?_))
      | exact decode_bits.mono _ _ _ _ _
      | exact LeO.none _
      | refine LeO.ite ?_ ?_
      | refine LeO.bind ?_ (fun _ => ?_)
set_option maxHeartbeats 8000000 in
set_option maxRecDepth 100000 in
theorem decode_byWord.calls (k : Nat) (a0 : Int) (r : Int) (w : World) (h : decode_byWord.f k a0 = some r) :
    Calls Try.prog 68 #[.int .u32 a0] w fun e w' => e = .returned (.int .u32 r) ∧ Drawn0 w w' := by
  have H : ((decode_bits.f k a0 12 10 3).bind fun t114 => ((decode_bits.f k a0 6 6 2).bind fun t115 => ((decode_bits.f k a0 5 5 6).bind fun t116 => (some (Go.bits .or .u32 (Go.bits .or .u32 t114 t115) t116))))) = some r := h
  clear h
  replace H := Option.bind_eq_some_iff.mp H
  obtain ⟨t114, A20, H⟩ := H
  replace H : ((decode_bits.f k a0 6 6 2).bind fun t115 => ((decode_bits.f k a0 5 5 6).bind fun t116 => (some (Go.bits .or .u32 (Go.bits .or .u32 t114 t115) t116)))) = some r := H
  have A2 := Aside0.mk A20
  clear A20
  replace H := Option.bind_eq_some_iff.mp H
  obtain ⟨t115, A30, H⟩ := H
  replace H : ((decode_bits.f k a0 5 5 6).bind fun t116 => (some (Go.bits .or .u32 (Go.bits .or .u32 t114 t115) t116))) = some r := H
  have A3 := Aside0.mk A30
  clear A30
  replace H := Option.bind_eq_some_iff.mp H
  obtain ⟨t116, A40, H⟩ := H
  replace H : (some (Go.bits .or .u32 (Go.bits .or .u32 t114 t115) t116)) = some r := H
  have A4 := Aside0.mk A40
  clear A40
  obtain rfl := Option.some.inj H
  go_enter Try.func68, Try.ntmps68
  go_wp2_with (first | ((with_reducible refine gate_callee (f := 64) rfl ?_); refine goesL_ (some 4) rfl rfl Try.func64 (by kernel_rfl) rfl #[.int .u32 a0, .int .i64 12, .int .i64 10, .int .i64 3] rfl (by (try simp only [List.map_toArray, List.map_cons, List.map_nil]); first | done | rfl | (simp only [List.length_drop, List.length_take]; rfl)) ?_; (with_reducible refine (decode_bits.calls k a0 12 10 3 t114 _ A2.out).mono ?_); rintro e w' ⟨rfl, ⟨nd, rfl⟩⟩; refine ⟨_, rfl, ?_⟩) | ((with_reducible refine gate_callee (f := 64) rfl ?_); refine goesL_ (some 6) rfl rfl Try.func64 (by kernel_rfl) rfl #[.int .u32 a0, .int .i64 6, .int .i64 6, .int .i64 2] rfl (by (try simp only [List.map_toArray, List.map_cons, List.map_nil]); first | done | rfl | (simp only [List.length_drop, List.length_take]; rfl)) ?_; (with_reducible refine (decode_bits.calls k a0 6 6 2 t115 _ A3.out).mono ?_); rintro e w' ⟨rfl, ⟨nd, rfl⟩⟩; refine ⟨_, rfl, ?_⟩) | ((with_reducible refine gate_callee (f := 64) rfl ?_); refine goesL_ (some 9) rfl rfl Try.func64 (by kernel_rfl) rfl #[.int .u32 a0, .int .i64 5, .int .i64 5, .int .i64 6] rfl (by (try simp only [List.map_toArray, List.map_cons, List.map_nil]); first | done | rfl | (simp only [List.length_drop, List.length_take]; rfl)) ?_; (with_reducible refine (decode_bits.calls k a0 5 5 6 t116 _ A4.out).mono ?_); rintro e w' ⟨rfl, ⟨nd, rfl⟩⟩; refine ⟨_, rfl, ?_⟩))
  go_ret
  exact ⟨by first | rfl | (simp; done) | (simp [*]; done), by repeat (first | exact Drawn0.refl _ | apply Drawn0.step)⟩

/-! ### decode_lw: function 33 -/
def decode_lw.f (k : Nat) (a0 : Int) : Option (Int × Bool) := (decode_ta.f k a0).bind fun t117 => ((decode_ra.f k a0).bind fun t118 => ((decode_byWord.f k a0).bind fun t119 => ((decode_typeI.f 3 2 t117 t118 t119).bind fun bt120 => (some (bt120.1, bt120.2)))))
theorem decode_lw.mono : ∀ a0 k, LeO (decode_lw.f k a0) (decode_lw.f (k + 1) a0) := by
  intro a0 k
  unfold decode_lw.f
  repeat' first
      | (with_reducible exact decode_byWord.mono _ _)
      | (with_reducible exact decode_ra.mono _ _)
      | (with_reducible exact decode_ta.mono _ _)
      | (with_reducible exact LeO.refl _)
      | (with_reducible exact LeO.none _)
      | (with_reducible refine LeO.ite ?_ ?_)
      | (with_reducible refine LeO.bind ?_ (fun _ => ?_))
      | exact decode_byWord.mono _ _
      | exact decode_ra.mono _ _
      | exact decode_ta.mono _ _
      | exact LeO.none _
      | refine LeO.ite ?_ ?_
      | refine LeO.bind ?_ (fun _ => ?_)
set_option maxHeartbeats 8000000 in
set_option maxRecDepth 100000 in
theorem decode_lw.calls (k : Nat) (a0 : Int) (r1 : Int) (r2 : Bool) (w : World) (h : decode_lw.f k a0 = some (r1, r2)) :
    Calls Try.prog 33 #[.int .u32 a0] w fun e w' => e = .returned (.tuple #[.int .u32 r1, .bool r2]) ∧ Drawn0 w w' := by
  have H : ((decode_ta.f k a0).bind fun t117 => ((decode_ra.f k a0).bind fun t118 => ((decode_byWord.f k a0).bind fun t119 => ((decode_typeI.f 3 2 t117 t118 t119).bind fun bt120 => (some (bt120.1, bt120.2)))))) = some (r1, r2) := h
  clear h
  replace H := Option.bind_eq_some_iff.mp H
  obtain ⟨t117, A20, H⟩ := H
  replace H : ((decode_ra.f k a0).bind fun t118 => ((decode_byWord.f k a0).bind fun t119 => ((decode_typeI.f 3 2 t117 t118 t119).bind fun bt120 => (some (bt120.1, bt120.2))))) = some (r1, r2) := H
  have A2 := Aside0.mk A20
  clear A20
  replace H := Option.bind_eq_some_iff.mp H
  obtain ⟨t118, A30, H⟩ := H
  replace H : ((decode_byWord.f k a0).bind fun t119 => ((decode_typeI.f 3 2 t117 t118 t119).bind fun bt120 => (some (bt120.1, bt120.2)))) = some (r1, r2) := H
  have A3 := Aside0.mk A30
  clear A30
  replace H := Option.bind_eq_some_iff.mp H
  obtain ⟨t119, A40, H⟩ := H
  replace H : ((decode_typeI.f 3 2 t117 t118 t119).bind fun bt120 => (some (bt120.1, bt120.2))) = some (r1, r2) := H
  have A4 := Aside0.mk A40
  clear A40
  replace H := Option.bind_eq_some_iff.mp H
  obtain ⟨⟨t120, t121⟩, A50, H⟩ := H
  replace H : (some (t120, t121)) = some (r1, r2) := H
  have A5 := Aside0.mk A50
  clear A50
  simp only [Option.some.injEq, Prod.mk.injEq] at H
  obtain ⟨rfl, rfl⟩ := H
  go_enter Try.func33, Try.ntmps33
  go_wp2_with (first | ((with_reducible refine gate_callee (f := 66) rfl ?_); refine goesL_ (some 5) rfl rfl Try.func66 (by kernel_rfl) rfl #[.int .u32 a0] rfl (by (try simp only [List.map_toArray, List.map_cons, List.map_nil]); first | done | rfl | (simp only [List.length_drop, List.length_take]; rfl)) ?_; (with_reducible refine (decode_ta.calls k a0 t117 _ A2.out).mono ?_); rintro e w' ⟨rfl, ⟨nd, rfl⟩⟩; refine ⟨_, rfl, ?_⟩) | ((with_reducible refine gate_callee (f := 67) rfl ?_); refine goesL_ (some 7) rfl rfl Try.func67 (by kernel_rfl) rfl #[.int .u32 a0] rfl (by (try simp only [List.map_toArray, List.map_cons, List.map_nil]); first | done | rfl | (simp only [List.length_drop, List.length_take]; rfl)) ?_; (with_reducible refine (decode_ra.calls k a0 t118 _ A3.out).mono ?_); rintro e w' ⟨rfl, ⟨nd, rfl⟩⟩; refine ⟨_, rfl, ?_⟩) | ((with_reducible refine gate_callee (f := 68) rfl ?_); refine goesL_ (some 9) rfl rfl Try.func68 (by kernel_rfl) rfl #[.int .u32 a0] rfl (by (try simp only [List.map_toArray, List.map_cons, List.map_nil]); first | done | rfl | (simp only [List.length_drop, List.length_take]; rfl)) ?_; (with_reducible refine (decode_byWord.calls k a0 t119 _ A4.out).mono ?_); rintro e w' ⟨rfl, ⟨nd, rfl⟩⟩; refine ⟨_, rfl, ?_⟩) | ((with_reducible refine gate_callee (f := 65) rfl ?_); refine goesL_ (some 10) rfl rfl Try.func65 (by kernel_rfl) rfl #[.int .u32 3, .int .u32 2, .int .u32 t117, .int .u32 t118, .int .u32 t119] rfl (by (try simp only [List.map_toArray, List.map_cons, List.map_nil]); first | done | rfl | (simp only [List.length_drop, List.length_take]; rfl)) ?_; (with_reducible refine (decode_typeI.calls 3 2 t117 t118 t119 t120 t121 _ A5.out).mono ?_); rintro e w' ⟨rfl, ⟨nd, rfl⟩⟩; refine ⟨_, rfl, ?_⟩))
  go_ret2
  exact ⟨by first | rfl | (simp; done) | (simp [*]; done), by repeat (first | exact Drawn0.refl _ | apply Drawn0.step)⟩

/-! ### decode_byLong: function 69 -/
def decode_byLong.f (k : Nat) (a0 : Int) : Option (Int) := (decode_bits.f k a0 12 10 3).bind fun t122 => ((decode_bits.f k a0 6 5 6).bind fun t123 => (some (Go.bits .or .u32 t122 t123)))
theorem decode_byLong.mono : ∀ a0 k, LeO (decode_byLong.f k a0) (decode_byLong.f (k + 1) a0) := by
  intro a0 k
  unfold decode_byLong.f
  repeat' first
      | (with_reducible exact decode_bits.mono _ _ _ _ _)
      | (with_reducible exact LeO.refl _)
      | (with_reducible exact LeO.none _)
      | (with_reducible refine LeO.ite ?_ ?_)
      | (with_reducible refine LeO.bind ?_ (fun _ => ?_))
      | exact decode_bits.mono _ _ _ _ _
      | exact LeO.none _
      | refine LeO.ite ?_ ?_
      | refine LeO.bind ?_ (fun _ => ?_)
set_option maxHeartbeats 8000000 in
set_option maxRecDepth 100000 in
theorem decode_byLong.calls (k : Nat) (a0 : Int) (r : Int) (w : World) (h : decode_byLong.f k a0 = some r) :
    Calls Try.prog 69 #[.int .u32 a0] w fun e w' => e = .returned (.int .u32 r) ∧ Drawn0 w w' := by
  have H : ((decode_bits.f k a0 12 10 3).bind fun t122 => ((decode_bits.f k a0 6 5 6).bind fun t123 => (some (Go.bits .or .u32 t122 t123)))) = some r := h
  clear h
  replace H := Option.bind_eq_some_iff.mp H
  obtain ⟨t122, A20, H⟩ := H
  replace H : ((decode_bits.f k a0 6 5 6).bind fun t123 => (some (Go.bits .or .u32 t122 t123))) = some r := H
  have A2 := Aside0.mk A20
  clear A20
  replace H := Option.bind_eq_some_iff.mp H
  obtain ⟨t123, A30, H⟩ := H
  replace H : (some (Go.bits .or .u32 t122 t123)) = some r := H
  have A3 := Aside0.mk A30
  clear A30
  obtain rfl := Option.some.inj H
  go_enter Try.func69, Try.ntmps69
  go_wp2_with (first | ((with_reducible refine gate_callee (f := 64) rfl ?_); refine goesL_ (some 4) rfl rfl Try.func64 (by kernel_rfl) rfl #[.int .u32 a0, .int .i64 12, .int .i64 10, .int .i64 3] rfl (by (try simp only [List.map_toArray, List.map_cons, List.map_nil]); first | done | rfl | (simp only [List.length_drop, List.length_take]; rfl)) ?_; (with_reducible refine (decode_bits.calls k a0 12 10 3 t122 _ A2.out).mono ?_); rintro e w' ⟨rfl, ⟨nd, rfl⟩⟩; refine ⟨_, rfl, ?_⟩) | ((with_reducible refine gate_callee (f := 64) rfl ?_); refine goesL_ (some 6) rfl rfl Try.func64 (by kernel_rfl) rfl #[.int .u32 a0, .int .i64 6, .int .i64 5, .int .i64 6] rfl (by (try simp only [List.map_toArray, List.map_cons, List.map_nil]); first | done | rfl | (simp only [List.length_drop, List.length_take]; rfl)) ?_; (with_reducible refine (decode_bits.calls k a0 6 5 6 t123 _ A3.out).mono ?_); rintro e w' ⟨rfl, ⟨nd, rfl⟩⟩; refine ⟨_, rfl, ?_⟩))
  go_ret
  exact ⟨by first | rfl | (simp; done) | (simp [*]; done), by repeat (first | exact Drawn0.refl _ | apply Drawn0.step)⟩

/-! ### decode_ld: function 34 -/
def decode_ld.f (k : Nat) (a0 : Int) : Option (Int × Bool) := (decode_ta.f k a0).bind fun t124 => ((decode_ra.f k a0).bind fun t125 => ((decode_byLong.f k a0).bind fun t126 => ((decode_typeI.f 3 3 t124 t125 t126).bind fun bt127 => (some (bt127.1, bt127.2)))))
theorem decode_ld.mono : ∀ a0 k, LeO (decode_ld.f k a0) (decode_ld.f (k + 1) a0) := by
  intro a0 k
  unfold decode_ld.f
  repeat' first
      | (with_reducible exact decode_byLong.mono _ _)
      | (with_reducible exact decode_ra.mono _ _)
      | (with_reducible exact decode_ta.mono _ _)
      | (with_reducible exact LeO.refl _)
      | (with_reducible exact LeO.none _)
      | (with_reducible refine LeO.ite ?_ ?_)
      | (with_reducible refine LeO.bind ?_ (fun _ => ?_))
      | exact decode_byLong.mono _ _
      | exact decode_ra.mono _ _
      | exact decode_ta.mono _ _
      | exact LeO.none _
      | refine LeO.ite ?_ ?_
      | refine LeO.bind ?_ (fun _ => ?_)
set_option maxHeartbeats 8000000 in
set_option maxRecDepth 100000 in
theorem decode_ld.calls (k : Nat) (a0 : Int) (r1 : Int) (r2 : Bool) (w : World) (h : decode_ld.f k a0 = some (r1, r2)) :
    Calls Try.prog 34 #[.int .u32 a0] w fun e w' => e = .returned (.tuple #[.int .u32 r1, .bool r2]) ∧ Drawn0 w w' := by
  have H : ((decode_ta.f k a0).bind fun t124 => ((decode_ra.f k a0).bind fun t125 => ((decode_byLong.f k a0).bind fun t126 => ((decode_typeI.f 3 3 t124 t125 t126).bind fun bt127 => (some (bt127.1, bt127.2)))))) = some (r1, r2) := h
  clear h
  replace H := Option.bind_eq_some_iff.mp H
  obtain ⟨t124, A20, H⟩ := H
  replace H : ((decode_ra.f k a0).bind fun t125 => ((decode_byLong.f k a0).bind fun t126 => ((decode_typeI.f 3 3 t124 t125 t126).bind fun bt127 => (some (bt127.1, bt127.2))))) = some (r1, r2) := H
  have A2 := Aside0.mk A20
  clear A20
  replace H := Option.bind_eq_some_iff.mp H
  obtain ⟨t125, A30, H⟩ := H
  replace H : ((decode_byLong.f k a0).bind fun t126 => ((decode_typeI.f 3 3 t124 t125 t126).bind fun bt127 => (some (bt127.1, bt127.2)))) = some (r1, r2) := H
  have A3 := Aside0.mk A30
  clear A30
  replace H := Option.bind_eq_some_iff.mp H
  obtain ⟨t126, A40, H⟩ := H
  replace H : ((decode_typeI.f 3 3 t124 t125 t126).bind fun bt127 => (some (bt127.1, bt127.2))) = some (r1, r2) := H
  have A4 := Aside0.mk A40
  clear A40
  replace H := Option.bind_eq_some_iff.mp H
  obtain ⟨⟨t127, t128⟩, A50, H⟩ := H
  replace H : (some (t127, t128)) = some (r1, r2) := H
  have A5 := Aside0.mk A50
  clear A50
  simp only [Option.some.injEq, Prod.mk.injEq] at H
  obtain ⟨rfl, rfl⟩ := H
  go_enter Try.func34, Try.ntmps34
  go_wp2_with (first | ((with_reducible refine gate_callee (f := 66) rfl ?_); refine goesL_ (some 5) rfl rfl Try.func66 (by kernel_rfl) rfl #[.int .u32 a0] rfl (by (try simp only [List.map_toArray, List.map_cons, List.map_nil]); first | done | rfl | (simp only [List.length_drop, List.length_take]; rfl)) ?_; (with_reducible refine (decode_ta.calls k a0 t124 _ A2.out).mono ?_); rintro e w' ⟨rfl, ⟨nd, rfl⟩⟩; refine ⟨_, rfl, ?_⟩) | ((with_reducible refine gate_callee (f := 67) rfl ?_); refine goesL_ (some 7) rfl rfl Try.func67 (by kernel_rfl) rfl #[.int .u32 a0] rfl (by (try simp only [List.map_toArray, List.map_cons, List.map_nil]); first | done | rfl | (simp only [List.length_drop, List.length_take]; rfl)) ?_; (with_reducible refine (decode_ra.calls k a0 t125 _ A3.out).mono ?_); rintro e w' ⟨rfl, ⟨nd, rfl⟩⟩; refine ⟨_, rfl, ?_⟩) | ((with_reducible refine gate_callee (f := 69) rfl ?_); refine goesL_ (some 9) rfl rfl Try.func69 (by kernel_rfl) rfl #[.int .u32 a0] rfl (by (try simp only [List.map_toArray, List.map_cons, List.map_nil]); first | done | rfl | (simp only [List.length_drop, List.length_take]; rfl)) ?_; (with_reducible refine (decode_byLong.calls k a0 t126 _ A4.out).mono ?_); rintro e w' ⟨rfl, ⟨nd, rfl⟩⟩; refine ⟨_, rfl, ?_⟩) | ((with_reducible refine gate_callee (f := 65) rfl ?_); refine goesL_ (some 10) rfl rfl Try.func65 (by kernel_rfl) rfl #[.int .u32 3, .int .u32 3, .int .u32 t124, .int .u32 t125, .int .u32 t126] rfl (by (try simp only [List.map_toArray, List.map_cons, List.map_nil]); first | done | rfl | (simp only [List.length_drop, List.length_take]; rfl)) ?_; (with_reducible refine (decode_typeI.calls 3 3 t124 t125 t126 t127 t128 _ A5.out).mono ?_); rintro e w' ⟨rfl, ⟨nd, rfl⟩⟩; refine ⟨_, rfl, ?_⟩))
  go_ret2
  exact ⟨by first | rfl | (simp; done) | (simp [*]; done), by repeat (first | exact Drawn0.refl _ | apply Drawn0.step)⟩

/-! ### decode_typeS: function 70 -/
def decode_typeS.f (a0 : Int) (a1 : Int) (a2 : Int) (a3 : Int) : Option (Int × Bool) := some (Go.bits .or .u32 (Go.bits .or .u32 (Go.bits .or .u32 (Go.bits .or .u32 (Go.bits .or .u32 (((a3 / 32) * 33554432) % 4294967296) ((a2 * 1048576) % 4294967296)) ((a1 * 32768) % 4294967296)) ((a0 * 4096) % 4294967296)) (((Go.bits .and .u32 a3 31) * 128) % 4294967296)) 35, true)
set_option maxHeartbeats 8000000 in
set_option maxRecDepth 100000 in
theorem decode_typeS.calls (a0 : Int) (a1 : Int) (a2 : Int) (a3 : Int) (r1 : Int) (r2 : Bool) (w : World) (h : decode_typeS.f a0 a1 a2 a3 = some (r1, r2)) :
    Calls Try.prog 70 #[.int .u32 a0, .int .u32 a1, .int .u32 a2, .int .u32 a3] w fun e w' => e = .returned (.tuple #[.int .u32 r1, .bool r2]) ∧ Drawn0 w w' := by
  have H : (some (Go.bits .or .u32 (Go.bits .or .u32 (Go.bits .or .u32 (Go.bits .or .u32 (Go.bits .or .u32 (((a3 / 32) * 33554432) % 4294967296) ((a2 * 1048576) % 4294967296)) ((a1 * 32768) % 4294967296)) ((a0 * 4096) % 4294967296)) (((Go.bits .and .u32 a3 31) * 128) % 4294967296)) 35, true)) = some (r1, r2) := h
  clear h
  simp only [Option.some.injEq, Prod.mk.injEq] at H
  obtain ⟨rfl, rfl⟩ := H
  go_enter Try.func70, Try.ntmps70
  go_wp2
  go_ret2
  exact ⟨by first | rfl | (simp; done) | (simp [*]; done), by repeat (first | exact Drawn0.refl _ | apply Drawn0.step)⟩

/-! ### decode_sw: function 35 -/
def decode_sw.f (k : Nat) (a0 : Int) : Option (Int × Bool) := (decode_ra.f k a0).bind fun t129 => ((decode_ta.f k a0).bind fun t130 => ((decode_byWord.f k a0).bind fun t131 => ((decode_typeS.f 2 t129 t130 t131).bind fun bt132 => (some (bt132.1, bt132.2)))))
theorem decode_sw.mono : ∀ a0 k, LeO (decode_sw.f k a0) (decode_sw.f (k + 1) a0) := by
  intro a0 k
  unfold decode_sw.f
  repeat' first
      | (with_reducible exact decode_byWord.mono _ _)
      | (with_reducible exact decode_ra.mono _ _)
      | (with_reducible exact decode_ta.mono _ _)
      | (with_reducible exact LeO.refl _)
      | (with_reducible exact LeO.none _)
      | (with_reducible refine LeO.ite ?_ ?_)
      | (with_reducible refine LeO.bind ?_ (fun _ => ?_))
      | exact decode_byWord.mono _ _
      | exact decode_ra.mono _ _
      | exact decode_ta.mono _ _
      | exact LeO.none _
      | refine LeO.ite ?_ ?_
      | refine LeO.bind ?_ (fun _ => ?_)
set_option maxHeartbeats 8000000 in
set_option maxRecDepth 100000 in
theorem decode_sw.calls (k : Nat) (a0 : Int) (r1 : Int) (r2 : Bool) (w : World) (h : decode_sw.f k a0 = some (r1, r2)) :
    Calls Try.prog 35 #[.int .u32 a0] w fun e w' => e = .returned (.tuple #[.int .u32 r1, .bool r2]) ∧ Drawn0 w w' := by
  have H : ((decode_ra.f k a0).bind fun t129 => ((decode_ta.f k a0).bind fun t130 => ((decode_byWord.f k a0).bind fun t131 => ((decode_typeS.f 2 t129 t130 t131).bind fun bt132 => (some (bt132.1, bt132.2)))))) = some (r1, r2) := h
  clear h
  replace H := Option.bind_eq_some_iff.mp H
  obtain ⟨t129, A20, H⟩ := H
  replace H : ((decode_ta.f k a0).bind fun t130 => ((decode_byWord.f k a0).bind fun t131 => ((decode_typeS.f 2 t129 t130 t131).bind fun bt132 => (some (bt132.1, bt132.2))))) = some (r1, r2) := H
  have A2 := Aside0.mk A20
  clear A20
  replace H := Option.bind_eq_some_iff.mp H
  obtain ⟨t130, A30, H⟩ := H
  replace H : ((decode_byWord.f k a0).bind fun t131 => ((decode_typeS.f 2 t129 t130 t131).bind fun bt132 => (some (bt132.1, bt132.2)))) = some (r1, r2) := H
  have A3 := Aside0.mk A30
  clear A30
  replace H := Option.bind_eq_some_iff.mp H
  obtain ⟨t131, A40, H⟩ := H
  replace H : ((decode_typeS.f 2 t129 t130 t131).bind fun bt132 => (some (bt132.1, bt132.2))) = some (r1, r2) := H
  have A4 := Aside0.mk A40
  clear A40
  replace H := Option.bind_eq_some_iff.mp H
  obtain ⟨⟨t132, t133⟩, A50, H⟩ := H
  replace H : (some (t132, t133)) = some (r1, r2) := H
  have A5 := Aside0.mk A50
  clear A50
  simp only [Option.some.injEq, Prod.mk.injEq] at H
  obtain ⟨rfl, rfl⟩ := H
  go_enter Try.func35, Try.ntmps35
  go_wp2_with (first | ((with_reducible refine gate_callee (f := 67) rfl ?_); refine goesL_ (some 5) rfl rfl Try.func67 (by kernel_rfl) rfl #[.int .u32 a0] rfl (by (try simp only [List.map_toArray, List.map_cons, List.map_nil]); first | done | rfl | (simp only [List.length_drop, List.length_take]; rfl)) ?_; (with_reducible refine (decode_ra.calls k a0 t129 _ A2.out).mono ?_); rintro e w' ⟨rfl, ⟨nd, rfl⟩⟩; refine ⟨_, rfl, ?_⟩) | ((with_reducible refine gate_callee (f := 66) rfl ?_); refine goesL_ (some 7) rfl rfl Try.func66 (by kernel_rfl) rfl #[.int .u32 a0] rfl (by (try simp only [List.map_toArray, List.map_cons, List.map_nil]); first | done | rfl | (simp only [List.length_drop, List.length_take]; rfl)) ?_; (with_reducible refine (decode_ta.calls k a0 t130 _ A3.out).mono ?_); rintro e w' ⟨rfl, ⟨nd, rfl⟩⟩; refine ⟨_, rfl, ?_⟩) | ((with_reducible refine gate_callee (f := 68) rfl ?_); refine goesL_ (some 9) rfl rfl Try.func68 (by kernel_rfl) rfl #[.int .u32 a0] rfl (by (try simp only [List.map_toArray, List.map_cons, List.map_nil]); first | done | rfl | (simp only [List.length_drop, List.length_take]; rfl)) ?_; (with_reducible refine (decode_byWord.calls k a0 t131 _ A4.out).mono ?_); rintro e w' ⟨rfl, ⟨nd, rfl⟩⟩; refine ⟨_, rfl, ?_⟩) | ((with_reducible refine gate_callee (f := 70) rfl ?_); refine goesL_ (some 10) rfl rfl Try.func70 (by kernel_rfl) rfl #[.int .u32 2, .int .u32 t129, .int .u32 t130, .int .u32 t131] rfl (by (try simp only [List.map_toArray, List.map_cons, List.map_nil]); first | done | rfl | (simp only [List.length_drop, List.length_take]; rfl)) ?_; (with_reducible refine (decode_typeS.calls 2 t129 t130 t131 t132 t133 _ A5.out).mono ?_); rintro e w' ⟨rfl, ⟨nd, rfl⟩⟩; refine ⟨_, rfl, ?_⟩))
  go_ret2
  exact ⟨by first | rfl | (simp; done) | (simp [*]; done), by repeat (first | exact Drawn0.refl _ | apply Drawn0.step)⟩

/-! ### decode_sd: function 36 -/
def decode_sd.f (k : Nat) (a0 : Int) : Option (Int × Bool) := (decode_ra.f k a0).bind fun t134 => ((decode_ta.f k a0).bind fun t135 => ((decode_byLong.f k a0).bind fun t136 => ((decode_typeS.f 3 t134 t135 t136).bind fun bt137 => (some (bt137.1, bt137.2)))))
theorem decode_sd.mono : ∀ a0 k, LeO (decode_sd.f k a0) (decode_sd.f (k + 1) a0) := by
  intro a0 k
  unfold decode_sd.f
  repeat' first
      | (with_reducible exact decode_byLong.mono _ _)
      | (with_reducible exact decode_ra.mono _ _)
      | (with_reducible exact decode_ta.mono _ _)
      | (with_reducible exact LeO.refl _)
      | (with_reducible exact LeO.none _)
      | (with_reducible refine LeO.ite ?_ ?_)
      | (with_reducible refine LeO.bind ?_ (fun _ => ?_))
      | exact decode_byLong.mono _ _
      | exact decode_ra.mono _ _
      | exact decode_ta.mono _ _
      | exact LeO.none _
      | refine LeO.ite ?_ ?_
      | refine LeO.bind ?_ (fun _ => ?_)
set_option maxHeartbeats 8000000 in
set_option maxRecDepth 100000 in
theorem decode_sd.calls (k : Nat) (a0 : Int) (r1 : Int) (r2 : Bool) (w : World) (h : decode_sd.f k a0 = some (r1, r2)) :
    Calls Try.prog 36 #[.int .u32 a0] w fun e w' => e = .returned (.tuple #[.int .u32 r1, .bool r2]) ∧ Drawn0 w w' := by
  have H : ((decode_ra.f k a0).bind fun t134 => ((decode_ta.f k a0).bind fun t135 => ((decode_byLong.f k a0).bind fun t136 => ((decode_typeS.f 3 t134 t135 t136).bind fun bt137 => (some (bt137.1, bt137.2)))))) = some (r1, r2) := h
  clear h
  replace H := Option.bind_eq_some_iff.mp H
  obtain ⟨t134, A20, H⟩ := H
  replace H : ((decode_ta.f k a0).bind fun t135 => ((decode_byLong.f k a0).bind fun t136 => ((decode_typeS.f 3 t134 t135 t136).bind fun bt137 => (some (bt137.1, bt137.2))))) = some (r1, r2) := H
  have A2 := Aside0.mk A20
  clear A20
  replace H := Option.bind_eq_some_iff.mp H
  obtain ⟨t135, A30, H⟩ := H
  replace H : ((decode_byLong.f k a0).bind fun t136 => ((decode_typeS.f 3 t134 t135 t136).bind fun bt137 => (some (bt137.1, bt137.2)))) = some (r1, r2) := H
  have A3 := Aside0.mk A30
  clear A30
  replace H := Option.bind_eq_some_iff.mp H
  obtain ⟨t136, A40, H⟩ := H
  replace H : ((decode_typeS.f 3 t134 t135 t136).bind fun bt137 => (some (bt137.1, bt137.2))) = some (r1, r2) := H
  have A4 := Aside0.mk A40
  clear A40
  replace H := Option.bind_eq_some_iff.mp H
  obtain ⟨⟨t137, t138⟩, A50, H⟩ := H
  replace H : (some (t137, t138)) = some (r1, r2) := H
  have A5 := Aside0.mk A50
  clear A50
  simp only [Option.some.injEq, Prod.mk.injEq] at H
  obtain ⟨rfl, rfl⟩ := H
  go_enter Try.func36, Try.ntmps36
  go_wp2_with (first | ((with_reducible refine gate_callee (f := 67) rfl ?_); refine goesL_ (some 5) rfl rfl Try.func67 (by kernel_rfl) rfl #[.int .u32 a0] rfl (by (try simp only [List.map_toArray, List.map_cons, List.map_nil]); first | done | rfl | (simp only [List.length_drop, List.length_take]; rfl)) ?_; (with_reducible refine (decode_ra.calls k a0 t134 _ A2.out).mono ?_); rintro e w' ⟨rfl, ⟨nd, rfl⟩⟩; refine ⟨_, rfl, ?_⟩) | ((with_reducible refine gate_callee (f := 66) rfl ?_); refine goesL_ (some 7) rfl rfl Try.func66 (by kernel_rfl) rfl #[.int .u32 a0] rfl (by (try simp only [List.map_toArray, List.map_cons, List.map_nil]); first | done | rfl | (simp only [List.length_drop, List.length_take]; rfl)) ?_; (with_reducible refine (decode_ta.calls k a0 t135 _ A3.out).mono ?_); rintro e w' ⟨rfl, ⟨nd, rfl⟩⟩; refine ⟨_, rfl, ?_⟩) | ((with_reducible refine gate_callee (f := 69) rfl ?_); refine goesL_ (some 9) rfl rfl Try.func69 (by kernel_rfl) rfl #[.int .u32 a0] rfl (by (try simp only [List.map_toArray, List.map_cons, List.map_nil]); first | done | rfl | (simp only [List.length_drop, List.length_take]; rfl)) ?_; (with_reducible refine (decode_byLong.calls k a0 t136 _ A4.out).mono ?_); rintro e w' ⟨rfl, ⟨nd, rfl⟩⟩; refine ⟨_, rfl, ?_⟩) | ((with_reducible refine gate_callee (f := 70) rfl ?_); refine goesL_ (some 10) rfl rfl Try.func70 (by kernel_rfl) rfl #[.int .u32 3, .int .u32 t134, .int .u32 t135, .int .u32 t136] rfl (by (try simp only [List.map_toArray, List.map_cons, List.map_nil]); first | done | rfl | (simp only [List.length_drop, List.length_take]; rfl)) ?_; (with_reducible refine (decode_typeS.calls 3 t134 t135 t136 t137 t138 _ A5.out).mono ?_); rintro e w' ⟨rfl, ⟨nd, rfl⟩⟩; refine ⟨_, rfl, ?_⟩))
  go_ret2
  exact ⟨by first | rfl | (simp; done) | (simp [*]; done), by repeat (first | exact Drawn0.refl _ | apply Drawn0.step)⟩

/-! ### decode_first: function 21 -/
def decode_first.f (k : Nat) (a0 : Int) : Option (Int × Bool) := if (a0 / 8192) = 0 then ((decode_addi4spn.f k a0).bind fun bt139 => (some (bt139.1, bt139.2))) else (if (a0 / 8192) = 2 then ((decode_lw.f k a0).bind fun bt141 => (some (bt141.1, bt141.2))) else (if (a0 / 8192) = 3 then ((decode_ld.f k a0).bind fun bt143 => (some (bt143.1, bt143.2))) else (if (a0 / 8192) = 6 then ((decode_sw.f k a0).bind fun bt145 => (some (bt145.1, bt145.2))) else (if (a0 / 8192) = 7 then ((decode_sd.f k a0).bind fun bt147 => (some (bt147.1, bt147.2))) else ((decode_none.f).bind fun bt149 => (some (bt149.1, bt149.2)))))))
theorem decode_first.mono : ∀ a0 k, LeO (decode_first.f k a0) (decode_first.f (k + 1) a0) := by
  intro a0 k
  unfold decode_first.f
  repeat' first
      | (with_reducible exact decode_addi4spn.mono _ _)
      | (with_reducible exact decode_ld.mono _ _)
      | (with_reducible exact decode_lw.mono _ _)
      | (with_reducible exact decode_sd.mono _ _)
      | (with_reducible exact decode_sw.mono _ _)
      | (with_reducible exact LeO.refl _)
      | (with_reducible exact LeO.none _)
      | (with_reducible refine LeO.ite ?_ ?_)
      | (with_reducible refine LeO.bind ?_ (fun _ => ?_))
      | exact decode_addi4spn.mono _ _
      | exact decode_ld.mono _ _
      | exact decode_lw.mono _ _
      | exact decode_sd.mono _ _
      | exact decode_sw.mono _ _
      | exact LeO.none _
      | refine LeO.ite ?_ ?_
      | refine LeO.bind ?_ (fun _ => ?_)
set_option maxHeartbeats 8000000 in
set_option maxRecDepth 100000 in
theorem decode_first.calls (k : Nat) (a0 : Int) (r1 : Int) (r2 : Bool) (w : World) (h : decode_first.f k a0 = some (r1, r2)) :
    Calls Try.prog 21 #[.int .u32 a0] w fun e w' => e = .returned (.tuple #[.int .u32 r1, .bool r2]) ∧ Drawn0 w w' := by
  have H : (if (a0 / 8192) = 0 then ((decode_addi4spn.f k a0).bind fun bt139 => (some (bt139.1, bt139.2))) else (if (a0 / 8192) = 2 then ((decode_lw.f k a0).bind fun bt141 => (some (bt141.1, bt141.2))) else (if (a0 / 8192) = 3 then ((decode_ld.f k a0).bind fun bt143 => (some (bt143.1, bt143.2))) else (if (a0 / 8192) = 6 then ((decode_sw.f k a0).bind fun bt145 => (some (bt145.1, bt145.2))) else (if (a0 / 8192) = 7 then ((decode_sd.f k a0).bind fun bt147 => (some (bt147.1, bt147.2))) else ((decode_none.f).bind fun bt149 => (some (bt149.1, bt149.2)))))))) = some (r1, r2) := h
  clear h
  by_cases c2 : (a0 / 8192) = 0
  · rw [if_pos c2] at H
    have c2b0 : ((a0 / 8192) == 0) = true := beq_iff_eq.mpr c2
    have c2b1 : ((a0 / 8192) != 0) = false := bne_eq_false_iff_eq.mpr c2
    clear c2
    replace H := Option.bind_eq_some_iff.mp H
    obtain ⟨⟨t139, t140⟩, A30, H⟩ := H
    replace H : (some (t139, t140)) = some (r1, r2) := H
    have A3 := Aside0.mk A30
    clear A30
    simp only [Option.some.injEq, Prod.mk.injEq] at H
    obtain ⟨rfl, rfl⟩ := H
    go_enter Try.func21, Try.ntmps21
    go_wp2_with (first | ((with_reducible refine gate_callee (f := 32) rfl ?_); refine goesL_ (some 9) rfl rfl Try.func32 (by kernel_rfl) rfl #[.int .u32 a0] rfl (by (try simp only [List.map_toArray, List.map_cons, List.map_nil]); first | done | rfl | (simp only [List.length_drop, List.length_take]; rfl)) ?_; (with_reducible refine (decode_addi4spn.calls k a0 t139 t140 _ A3.out).mono ?_); rintro e w' ⟨rfl, ⟨nd, rfl⟩⟩; refine ⟨_, rfl, ?_⟩))
    go_ret2
    exact ⟨by first | rfl | (simp; done) | (simp [*]; done), by repeat (first | exact Drawn0.refl _ | apply Drawn0.step)⟩
  · rw [if_neg c2] at H
    have c2b0 : ((a0 / 8192) == 0) = false := beq_eq_false_iff_ne.mpr c2
    have c2b1 : ((a0 / 8192) != 0) = true := bne_iff_ne.mpr c2
    by_cases c4 : (a0 / 8192) = 2
    · rw [if_pos c4] at H
      have c4b0 : ((a0 / 8192) == 2) = true := beq_iff_eq.mpr c4
      have c4b1 : ((a0 / 8192) != 2) = false := bne_eq_false_iff_eq.mpr c4
      clear c4
      replace H := Option.bind_eq_some_iff.mp H
      obtain ⟨⟨t141, t142⟩, A50, H⟩ := H
      replace H : (some (t141, t142)) = some (r1, r2) := H
      have A5 := Aside0.mk A50
      clear A50
      simp only [Option.some.injEq, Prod.mk.injEq] at H
      obtain ⟨rfl, rfl⟩ := H
      go_enter Try.func21, Try.ntmps21
      go_wp2_with (first | ((with_reducible refine gate_callee (f := 33) rfl ?_); refine goesL_ (some 15) rfl rfl Try.func33 (by kernel_rfl) rfl #[.int .u32 a0] rfl (by (try simp only [List.map_toArray, List.map_cons, List.map_nil]); first | done | rfl | (simp only [List.length_drop, List.length_take]; rfl)) ?_; (with_reducible refine (decode_lw.calls k a0 t141 t142 _ A5.out).mono ?_); rintro e w' ⟨rfl, ⟨nd, rfl⟩⟩; refine ⟨_, rfl, ?_⟩))
      go_ret2
      exact ⟨by first | rfl | (simp; done) | (simp [*]; done), by repeat (first | exact Drawn0.refl _ | apply Drawn0.step)⟩
    · rw [if_neg c4] at H
      have c4b0 : ((a0 / 8192) == 2) = false := beq_eq_false_iff_ne.mpr c4
      have c4b1 : ((a0 / 8192) != 2) = true := bne_iff_ne.mpr c4
      by_cases c6 : (a0 / 8192) = 3
      · rw [if_pos c6] at H
        have c6b0 : ((a0 / 8192) == 3) = true := beq_iff_eq.mpr c6
        have c6b1 : ((a0 / 8192) != 3) = false := bne_eq_false_iff_eq.mpr c6
        clear c6
        replace H := Option.bind_eq_some_iff.mp H
        obtain ⟨⟨t143, t144⟩, A70, H⟩ := H
        replace H : (some (t143, t144)) = some (r1, r2) := H
        have A7 := Aside0.mk A70
        clear A70
        simp only [Option.some.injEq, Prod.mk.injEq] at H
        obtain ⟨rfl, rfl⟩ := H
        go_enter Try.func21, Try.ntmps21
        go_wp2_with (first | ((with_reducible refine gate_callee (f := 34) rfl ?_); refine goesL_ (some 21) rfl rfl Try.func34 (by kernel_rfl) rfl #[.int .u32 a0] rfl (by (try simp only [List.map_toArray, List.map_cons, List.map_nil]); first | done | rfl | (simp only [List.length_drop, List.length_take]; rfl)) ?_; (with_reducible refine (decode_ld.calls k a0 t143 t144 _ A7.out).mono ?_); rintro e w' ⟨rfl, ⟨nd, rfl⟩⟩; refine ⟨_, rfl, ?_⟩))
        go_ret2
        exact ⟨by first | rfl | (simp; done) | (simp [*]; done), by repeat (first | exact Drawn0.refl _ | apply Drawn0.step)⟩
      · rw [if_neg c6] at H
        have c6b0 : ((a0 / 8192) == 3) = false := beq_eq_false_iff_ne.mpr c6
        have c6b1 : ((a0 / 8192) != 3) = true := bne_iff_ne.mpr c6
        by_cases c8 : (a0 / 8192) = 6
        · rw [if_pos c8] at H
          have c8b0 : ((a0 / 8192) == 6) = true := beq_iff_eq.mpr c8
          have c8b1 : ((a0 / 8192) != 6) = false := bne_eq_false_iff_eq.mpr c8
          clear c8
          replace H := Option.bind_eq_some_iff.mp H
          obtain ⟨⟨t145, t146⟩, A90, H⟩ := H
          replace H : (some (t145, t146)) = some (r1, r2) := H
          have A9 := Aside0.mk A90
          clear A90
          simp only [Option.some.injEq, Prod.mk.injEq] at H
          obtain ⟨rfl, rfl⟩ := H
          go_enter Try.func21, Try.ntmps21
          go_wp2_with (first | ((with_reducible refine gate_callee (f := 35) rfl ?_); refine goesL_ (some 27) rfl rfl Try.func35 (by kernel_rfl) rfl #[.int .u32 a0] rfl (by (try simp only [List.map_toArray, List.map_cons, List.map_nil]); first | done | rfl | (simp only [List.length_drop, List.length_take]; rfl)) ?_; (with_reducible refine (decode_sw.calls k a0 t145 t146 _ A9.out).mono ?_); rintro e w' ⟨rfl, ⟨nd, rfl⟩⟩; refine ⟨_, rfl, ?_⟩))
          go_ret2
          exact ⟨by first | rfl | (simp; done) | (simp [*]; done), by repeat (first | exact Drawn0.refl _ | apply Drawn0.step)⟩
        · rw [if_neg c8] at H
          have c8b0 : ((a0 / 8192) == 6) = false := beq_eq_false_iff_ne.mpr c8
          have c8b1 : ((a0 / 8192) != 6) = true := bne_iff_ne.mpr c8
          by_cases c10 : (a0 / 8192) = 7
          · rw [if_pos c10] at H
            have c10b0 : ((a0 / 8192) == 7) = true := beq_iff_eq.mpr c10
            have c10b1 : ((a0 / 8192) != 7) = false := bne_eq_false_iff_eq.mpr c10
            clear c10
            replace H := Option.bind_eq_some_iff.mp H
            obtain ⟨⟨t147, t148⟩, A110, H⟩ := H
            replace H : (some (t147, t148)) = some (r1, r2) := H
            have A11 := Aside0.mk A110
            clear A110
            simp only [Option.some.injEq, Prod.mk.injEq] at H
            obtain ⟨rfl, rfl⟩ := H
            go_enter Try.func21, Try.ntmps21
            go_wp2_with (first | ((with_reducible refine gate_callee (f := 36) rfl ?_); refine goesL_ (some 33) rfl rfl Try.func36 (by kernel_rfl) rfl #[.int .u32 a0] rfl (by (try simp only [List.map_toArray, List.map_cons, List.map_nil]); first | done | rfl | (simp only [List.length_drop, List.length_take]; rfl)) ?_; (with_reducible refine (decode_sd.calls k a0 t147 t148 _ A11.out).mono ?_); rintro e w' ⟨rfl, ⟨nd, rfl⟩⟩; refine ⟨_, rfl, ?_⟩))
            go_ret2
            exact ⟨by first | rfl | (simp; done) | (simp [*]; done), by repeat (first | exact Drawn0.refl _ | apply Drawn0.step)⟩
          · rw [if_neg c10] at H
            have c10b0 : ((a0 / 8192) == 7) = false := beq_eq_false_iff_ne.mpr c10
            have c10b1 : ((a0 / 8192) != 7) = true := bne_iff_ne.mpr c10
            replace H := Option.bind_eq_some_iff.mp H
            obtain ⟨⟨t149, t150⟩, A120, H⟩ := H
            replace H : (some (t149, t150)) = some (r1, r2) := H
            have A12 := Aside0.mk A120
            clear A120
            simp only [Option.some.injEq, Prod.mk.injEq] at H
            obtain ⟨rfl, rfl⟩ := H
            go_enter Try.func21, Try.ntmps21
            go_wp2_with (first | ((with_reducible refine gate_callee (f := 20) rfl ?_); refine goesL_ (some 36) rfl rfl Try.func20 (by kernel_rfl) rfl #[] rfl (by (try simp only [List.map_toArray, List.map_cons, List.map_nil]); first | done | rfl | (simp only [List.length_drop, List.length_take]; rfl)) ?_; (with_reducible refine (decode_none.calls  t149 t150 _ A12.out).mono ?_); rintro e w' ⟨rfl, ⟨nd, rfl⟩⟩; refine ⟨_, rfl, ?_⟩))
            go_ret2
            exact ⟨by first | rfl | (simp; done) | (simp [*]; done), by repeat (first | exact Drawn0.refl _ | apply Drawn0.step)⟩

end Go.Proofs.Ytiibhggjlandmaa.PB
