-- Written by a program (a turned copy of the kit's print.py) for this claim. Lean checks it.
import Derived.Test.YtdjppkffmeccoaaDoorQArithKnowsx0
import Derived.Test.YtdjppkffmeccoaaDoorQArithKnowsx1
namespace Go.Proofs.YtdjppkffmeccoaaDoor.QArithKnows
open Go.RowKit Go.Proofs.YtdjppkffmeccoaaDoorW.PrintWords Go.Proofs.YtdjppkffmeccoaaDoorW.PrintLast Go.Proofs.YtdjppkffmeccoaaDoorW.PrintMore Go.Proofs.YtdjppkffmeccoaaDoor.PC Go.Proofs.YtdjppkffmeccoaaDoor.PL Go.Proofs.YtdjppkffmeccoaaDoor.PT
attribute [local go_sem] max2_int min2_int max_two min_two max_three min_three max_four min_four   -- for this text's walks alone
set_option linter.unusedVariables false
set_option linter.unusedSimpArgs false

/-! ### anvillaw01_ArithKnows: function 11 -/
mutual
def anvillaw01_ArithKnows.j0 : Nat → Int → Int → Bool → Option (Bool)
  | 0, _, _, _ => none
  | k + 1, x0, x3, x17 => if x17 = true then (anvillaw01_ArithKnows.j1 k x0 1) else (anvillaw01_ArithKnows.j1 k x0 x3)
def anvillaw01_ArithKnows.j1 : Nat → Int → Int → Option (Bool)
  | 0, _, _ => none
  | k + 1, x0, x3 => (anvillaw01_all.f).bind fun t129 => (anvillaw01_ArithKnows.l0 k x0 x3 t129 0)
def anvillaw01_ArithKnows.l0 : Nat → Int → Int → List Int → Int → Option (Bool)
  | 0, _, _, _, _ => none
  | k + 1, x0, x3, x4, x5 => if x5 < (x4.length : Int) then (if 0 ≤ x5 then (if (rd x4 x5) = x0 then (anvillaw01_ArithKnows.l0 k x0 1 x4 (wrap64 (x5 + 1))) else (anvillaw01_ArithKnows.l0 k x0 x3 x4 (wrap64 (x5 + 1)))) else (none)) else (if x0 ≥ 5 then (anvillaw01_ArithKnows.j3 k x0 x3 (decide (x0 ≤ 10))) else (anvillaw01_ArithKnows.j3 k x0 x3 false))
def anvillaw01_ArithKnows.j3 : Nat → Int → Int → Bool → Option (Bool)
  | 0, _, _, _ => none
  | k + 1, x0, x3, x36 => if x36 = true then (anvillaw01_ArithKnows.j4 k x0 2) else (anvillaw01_ArithKnows.j4 k x0 x3)
def anvillaw01_ArithKnows.j4 : Nat → Int → Int → Option (Bool)
  | 0, _, _ => none
  | k + 1, x0, x3 => (anvilref01_AmoSize.f k x0).bind fun t133 => (if t133 = 0 then ((arith_Compute.f x0 5 3).bind fun bt134 => ((arith_Taken.f x0 5 3).bind fun bt136 => ((arith_Amo.f k x0 5 3).bind fun bt138 => (if (bt134.2 == (x3 == 1)) = true then (if (bt136.2 == (x3 == 2)) = true then (some (bt138.2 == (x3 == 3))) else (some false)) else (some false))))) else ((arith_Compute.f x0 5 3).bind fun bt140 => ((arith_Taken.f x0 5 3).bind fun bt142 => ((arith_Amo.f k x0 5 3).bind fun bt144 => (if (bt140.2 == (3 == 1)) = true then (if (bt142.2 == (3 == 2)) = true then (some (bt144.2 == (3 == 3))) else (some false)) else (some false))))))
end
def anvillaw01_ArithKnows.f (k : Nat) (a0 : Int) : Option (Bool) := if a0 ≥ 22 then (anvillaw01_ArithKnows.j0 k a0 0 (decide (a0 ≤ 34))) else (anvillaw01_ArithKnows.j0 k a0 0 false)
theorem anvillaw01_ArithKnows.mono_l : ∀ k, (∀ y0 y1 y2, LeO (anvillaw01_ArithKnows.j0 k y0 y1 y2) (anvillaw01_ArithKnows.j0 (k + 1) y0 y1 y2)) ∧ (∀ y0 y1, LeO (anvillaw01_ArithKnows.j1 k y0 y1) (anvillaw01_ArithKnows.j1 (k + 1) y0 y1)) ∧ (∀ y0 y1 y2 y3, LeO (anvillaw01_ArithKnows.l0 k y0 y1 y2 y3) (anvillaw01_ArithKnows.l0 (k + 1) y0 y1 y2 y3)) ∧ (∀ y0 y1 y2, LeO (anvillaw01_ArithKnows.j3 k y0 y1 y2) (anvillaw01_ArithKnows.j3 (k + 1) y0 y1 y2)) ∧ (∀ y0 y1, LeO (anvillaw01_ArithKnows.j4 k y0 y1) (anvillaw01_ArithKnows.j4 (k + 1) y0 y1))
  | 0 => ⟨fun _ _ _ r h => by simp [anvillaw01_ArithKnows.j0] at h, fun _ _ r h => by simp [anvillaw01_ArithKnows.j1] at h, fun _ _ _ _ r h => by simp [anvillaw01_ArithKnows.l0] at h, fun _ _ _ r h => by simp [anvillaw01_ArithKnows.j3] at h, fun _ _ r h => by simp [anvillaw01_ArithKnows.j4] at h⟩
  | k + 1 => by
    obtain ⟨ih0, ih1, ih2, ih3, ih4⟩ := anvillaw01_ArithKnows.mono_l k
    refine ⟨?_, ?_, ?_, ?_, ?_⟩
    · intro y0 y1 y2
      unfold anvillaw01_ArithKnows.j0
      repeat' first
      | (with_reducible exact ih0 _ _ _)
      | (with_reducible exact ih1 _ _)
      | (with_reducible exact ih2 _ _ _ _)
      | (with_reducible exact ih3 _ _ _)
      | (with_reducible exact ih4 _ _)
      | (with_reducible exact anvilref01_AmoSize.mono _ _)
      | (with_reducible exact arith_Amo.mono _ _ _ _)
      | (with_reducible exact LeO.refl _)
      | (with_reducible exact LeO.none _)
      | (with_reducible refine LeO.ite ?_ ?_)
      | (with_reducible refine LeO.bind ?_ (fun _ => ?_))
      | exact ih0 _ _ _
      | exact ih1 _ _
      | exact ih2 _ _ _ _
      | exact ih3 _ _ _
      | exact ih4 _ _
      | exact anvilref01_AmoSize.mono _ _
      | exact arith_Amo.mono _ _ _ _
      | exact LeO.none _
      | refine LeO.ite ?_ ?_
      | refine LeO.bind ?_ (fun _ => ?_)
    · intro y0 y1
      unfold anvillaw01_ArithKnows.j1
      repeat' first
      | (with_reducible exact ih0 _ _ _)
      | (with_reducible exact ih1 _ _)
      | (with_reducible exact ih2 _ _ _ _)
      | (with_reducible exact ih3 _ _ _)
      | (with_reducible exact ih4 _ _)
      | (with_reducible exact anvilref01_AmoSize.mono _ _)
      | (with_reducible exact arith_Amo.mono _ _ _ _)
      | (with_reducible exact LeO.refl _)
      | (with_reducible exact LeO.none _)
      | (with_reducible refine LeO.ite ?_ ?_)
      | (with_reducible refine LeO.bind ?_ (fun _ => ?_))
      | exact ih0 _ _ _
      | exact ih1 _ _
      | exact ih2 _ _ _ _
      | exact ih3 _ _ _
      | exact ih4 _ _
      | exact anvilref01_AmoSize.mono _ _
      | exact arith_Amo.mono _ _ _ _
      | exact LeO.none _
      | refine LeO.ite ?_ ?_
      | refine LeO.bind ?_ (fun _ => ?_)
    · intro y0 y1 y2 y3
      unfold anvillaw01_ArithKnows.l0
      repeat' first
      | (with_reducible exact ih0 _ _ _)
      | (with_reducible exact ih1 _ _)
      | (with_reducible exact ih2 _ _ _ _)
      | (with_reducible exact ih3 _ _ _)
      | (with_reducible exact ih4 _ _)
      | (with_reducible exact anvilref01_AmoSize.mono _ _)
      | (with_reducible exact arith_Amo.mono _ _ _ _)
      | (with_reducible exact LeO.refl _)
      | (with_reducible exact LeO.none _)
      | (with_reducible refine LeO.ite ?_ ?_)
      | (with_reducible refine LeO.bind ?_ (fun _ => ?_))
      | exact ih0 _ _ _
      | exact ih1 _ _
      | exact ih2 _ _ _ _
      | exact ih3 _ _ _
      | exact ih4 _ _
      | exact anvilref01_AmoSize.mono _ _
      | exact arith_Amo.mono _ _ _ _
      | exact LeO.none _
      | refine LeO.ite ?_ ?_
      | refine LeO.bind ?_ (fun _ => ?_)
    · intro y0 y1 y2
      unfold anvillaw01_ArithKnows.j3
      repeat' first
      | (with_reducible exact ih0 _ _ _)
      | (with_reducible exact ih1 _ _)
      | (with_reducible exact ih2 _ _ _ _)
      | (with_reducible exact ih3 _ _ _)
      | (with_reducible exact ih4 _ _)
      | (with_reducible exact anvilref01_AmoSize.mono _ _)
      | (with_reducible exact arith_Amo.mono _ _ _ _)
      | (with_reducible exact LeO.refl _)
      | (with_reducible exact LeO.none _)
      | (with_reducible refine LeO.ite ?_ ?_)
      | (with_reducible refine LeO.bind ?_ (fun _ => ?_))
      | exact ih0 _ _ _
      | exact ih1 _ _
      | exact ih2 _ _ _ _
      | exact ih3 _ _ _
      | exact ih4 _ _
      | exact anvilref01_AmoSize.mono _ _
      | exact arith_Amo.mono _ _ _ _
      | exact LeO.none _
      | refine LeO.ite ?_ ?_
      | refine LeO.bind ?_ (fun _ => ?_)
    · intro y0 y1
      unfold anvillaw01_ArithKnows.j4
      repeat' first
      | (with_reducible exact ih0 _ _ _)
      | (with_reducible exact ih1 _ _)
      | (with_reducible exact ih2 _ _ _ _)
      | (with_reducible exact ih3 _ _ _)
      | (with_reducible exact ih4 _ _)
      | (with_reducible exact anvilref01_AmoSize.mono _ _)
      | (with_reducible exact arith_Amo.mono _ _ _ _)
      | (with_reducible exact LeO.refl _)
      | (with_reducible exact LeO.none _)
      | (with_reducible refine LeO.ite ?_ ?_)
      | (with_reducible refine LeO.bind ?_ (fun _ => ?_))
      | exact ih0 _ _ _
      | exact ih1 _ _
      | exact ih2 _ _ _ _
      | exact ih3 _ _ _
      | exact ih4 _ _
      | exact anvilref01_AmoSize.mono _ _
      | exact arith_Amo.mono _ _ _ _
      | exact LeO.none _
      | refine LeO.ite ?_ ?_
      | refine LeO.bind ?_ (fun _ => ?_)
theorem anvillaw01_ArithKnows.mono : ∀ a0 k, LeO (anvillaw01_ArithKnows.f k a0) (anvillaw01_ArithKnows.f (k + 1) a0) := by
  intro a0 k
  obtain ⟨ih0, ih1, ih2, ih3, ih4⟩ := anvillaw01_ArithKnows.mono_l k
  unfold anvillaw01_ArithKnows.f
  repeat' first
      | (with_reducible exact ih0 _ _ _)
      | (with_reducible exact ih1 _ _)
      | (with_reducible exact ih2 _ _ _ _)
      | (with_reducible exact ih3 _ _ _)
      | (with_reducible exact ih4 _ _)
      | (with_reducible exact anvilref01_AmoSize.mono _ _)
      | (with_reducible exact arith_Amo.mono _ _ _ _)
      | (with_reducible exact LeO.refl _)
      | (with_reducible exact LeO.none _)
      | (with_reducible refine LeO.ite ?_ ?_)
      | (with_reducible refine LeO.bind ?_ (fun _ => ?_))
      | exact ih0 _ _ _
      | exact ih1 _ _
      | exact ih2 _ _ _ _
      | exact ih3 _ _ _
      | exact ih4 _ _
      | exact anvilref01_AmoSize.mono _ _
      | exact arith_Amo.mono _ _ _ _
      | exact LeO.none _
      | refine LeO.ite ?_ ?_
      | refine LeO.bind ?_ (fun _ => ?_)
set_option maxHeartbeats 8000000 in
set_option maxRecDepth 100000 in
theorem anvillaw01_ArithKnows.calls (k : Nat) (a0 : Int) (r : Bool) (hr : Aside0 (r = true)) (w : World) (hT : TabOk w) (h : anvillaw01_ArithKnows.f k a0 = some r) :
    Calls Tryd.prog 11 #[.int .i64 a0] w fun e w' => e = .returned (.bool r) ∧ Below w.heap.size w w' := by
  have HB := Aside0.mk (Below.refl w.heap.size w)
  have H : (if a0 ≥ 22 then (anvillaw01_ArithKnows.j0 k a0 0 (decide (a0 ≤ 34))) else (anvillaw01_ArithKnows.j0 k a0 0 false)) = some r := h
  clear h
  have HC2 := Aside0.mk H
  clear H
  go_enter Tryd.func11, Tryd.ntmps11
  go_upto_region 2 with (fail)
  go_cut [17] (fun v17 wc => ∃ (kq : Nat) (x17_1 : Bool), v17 = .bool x17_1 ∧ Aside0 (anvillaw01_ArithKnows.j0 kq a0 0 x17_1 = some r) ∧ Aside0 (kq ≤ k) ∧ Aside0 (Below w.heap.size w wc))
  case first =>
    have H := HC2.out
    clear HC2
    by_cases c3 : a0 ≥ 22
    · rw [if_pos c3] at H
      have c3b0 : decide (22 ≤ a0) = true := decide_eq_true c3
      clear c3
      (first | rw [c3b0] | (simp only [i64_w, i32_w]; rw [c3b0]) | skip)
      have H' := Aside0.mk H
      clear H
      go_wp2
      go_meet
      case rel => exact ⟨_, (decide (a0 ≤ 34)), (by first | rfl | (simp; done) | (simp [*]; done)), H', ⟨by first | omega | exact Nat.le_refl _⟩, ⟨by repeat (first | (with_reducible first | exact HB.out | apply below_alloc | apply pw_below_drewN | apply below_drew1) | exact HB.out)⟩⟩
    · rw [if_neg c3] at H
      have c3b0 : decide (22 ≤ a0) = false := decide_eq_false c3
      clear c3
      (first | rw [c3b0] | (simp only [i64_w, i32_w]; rw [c3b0]) | skip)
      have H' := Aside0.mk H
      clear H
      go_wp2
      go_meet
      case rel => exact ⟨_, (false), (by first | rfl | (simp; done) | (simp [*]; done)), H', ⟨by first | omega | exact Nat.le_refl _⟩, ⟨by repeat (first | (with_reducible first | exact HB.out | apply below_alloc | apply pw_below_drewN | apply below_drew1) | exact HB.out)⟩⟩
  case rest =>
    clear HC2
    try clear c1
    try clear p2
    try clear c3
    try clear c3b0
    obtain ⟨kq, x17_1, rfl, HA, HJ1, HB⟩ := hcut
    cases kq with
    | zero => exact absurd HA.out (by simp [anvillaw01_ArithKnows.j0])
    | succ kj1 =>
      have H := HA.out
      clear HA
      simp only [anvillaw01_ArithKnows.j0] at H
      have HC4 := Aside0.mk H
      clear H
      go_upto_if 17 with (fail)
      go_cut [3] (fun v3 wc => ∃ (kq : Nat) (x3_3 : Int), v3 = .int .i64 x3_3 ∧ Aside0 (anvillaw01_ArithKnows.j1 kq a0 x3_3 = some r) ∧ Aside0 (kq ≤ kj1) ∧ Aside0 (Below w.heap.size w wc))
      case first =>
        have H := HC4.out
        clear HC4
        by_cases c5 : x17_1 = true
        · subst c5
          have H1 : (anvillaw01_ArithKnows.j1 kj1 a0 1) = some r := by rw [if_pos rfl] at H; exact H
          clear H
          have H := H1
          clear H1
          have H' := Aside0.mk H
          clear H
          go_wp2
          go_meet
          case rel => exact ⟨_, (1), (by first | rfl | (simp; done) | (simp [*]; done)), H', ⟨by have := HJ1.out; first | omega | exact Nat.le_refl _⟩, ⟨by repeat (first | (with_reducible first | exact HB.out | apply below_alloc | apply pw_below_drewN | apply below_drew1) | exact HB.out)⟩⟩
        · replace c5 := Bool.eq_false_iff.mpr c5
          subst c5
          have H1 : (anvillaw01_ArithKnows.j1 kj1 a0 0) = some r := by rw [if_neg (show ¬ (false = true) by decide)] at H; exact H
          clear H
          have H := H1
          clear H1
          have H' := Aside0.mk H
          clear H
          go_wp2
          go_meet
          case rel => exact ⟨_, (0), (by first | rfl | (simp; done) | (simp [*]; done)), H', ⟨by have := HJ1.out; first | omega | exact Nat.le_refl _⟩, ⟨by repeat (first | (with_reducible first | exact HB.out | apply below_alloc | apply pw_below_drewN | apply below_drew1) | exact HB.out)⟩⟩
      case rest =>
        clear HC4
        try clear c1
        try clear p2
        try clear c3
        try clear c3b0
        try clear c5
        try clear p2
        obtain ⟨kq, x3_3, rfl, HA, HJ3, HB⟩ := hcut
        cases kq with
        | zero => exact absurd HA.out (by simp [anvillaw01_ArithKnows.j1])
        | succ kj3 =>
          have H := HA.out
          clear HA
          simp only [anvillaw01_ArithKnows.j1] at H
          replace H := Option.bind_eq_some_iff.mp H
          obtain ⟨t129, A60, H⟩ := H
          replace H : (anvillaw01_ArithKnows.l0 kj3 a0 x3_3 t129 0) = some r := H
          have A6 := Aside0.mk A60
          clear A60
          have H' := Aside0.mk H
          clear H
          go_wp2_with (first | ((with_reducible refine gate_callee (f := 25) rfl ?_); refine goesL_ (some 18) rfl rfl Tryd.func25 (by kernel_rfl) rfl #[] rfl (by (try simp only [List.map_toArray, List.map_cons, List.map_nil]); first | done | rfl | (simp only [List.length_drop, List.length_take]; rfl)) ?_; (with_reducible refine (anvillaw01_all.calls  t129 _ A6.out).mono ?_); rintro e w7 ⟨v130, rfl, ho0, hb⟩; refine ⟨_, rfl, ?_⟩; have n0_ := Aside0.mk (Kd.R_lower ho0 (below_size (by repeat (first | (with_reducible first | exact HB.out | apply below_alloc | apply pw_below_drewN | apply below_drew1) | exact HB.out)))); have n1_ := Aside0.mk (below_step (by repeat (first | (with_reducible first | exact HB.out | apply below_alloc | apply pw_below_drewN | apply below_drew1) | exact HB.out)) hb); clear HB; have HO131 := n0_; have HB := n1_; clear n0_ n1_; (try clear hb); (try clear hb2); (try clear hk); (try clear hi); (try clear ho0)))
          go_loopg [3, 5] kj3 (fun kq v3 v5 w' => ∃ (x3_3 : Int) (x5_3 : Int), v3 = .int .i64 x3_3 ∧ v5 = .int .i64 x5_3 ∧ Aside0 (anvillaw01_ArithKnows.l0 kq a0 x3_3 t129 x5_3 = some r) ∧ Aside0 (kq ≤ kj3) ∧ Aside0 (Kd.R (Kd.int .i64) 3 w' w.heap.size (fun _ => True) v130 t129) ∧ Aside0 (Below w.heap.size w w'))
          case atStart => exact ⟨(x3_3), (0), (by first | rfl | (simp; done) | (simp [*]; done)), (by first | rfl | (simp; done) | (simp [*]; done)), H', ⟨Nat.le_refl _⟩, ⟨by (with_reducible repeat (first | apply Kd.R_alloc | apply Kd.R_drewN | apply Kd.R_drew)); exact HO131.out⟩, ⟨by repeat (first | (with_reducible first | exact HB.out | apply below_alloc | apply pw_below_drewN | apply below_drew1) | exact HB.out)⟩⟩
          case round =>
            clear H'
            try clear c1
            try clear c2
            try clear p2
            try clear c3
            try clear c3b0
            try clear c5
            try clear p2
            obtain ⟨x3_3, x5_3, rfl, rfl, HA, HK3, HO_4, HB⟩ := hrel
            cases gk with
            | zero => exact absurd HA.out (by simp [anvillaw01_ArithKnows.l0])
            | succ k3 =>
              have H := HA.out
              clear HA
              simp only [anvillaw01_ArithKnows.l0] at H
              by_cases c8 : x5_3 < (t129.length : Int)
              · rw [if_pos c8] at H
                have c8b0 : decide (x5_3 < (t129.length : Int)) = true := decide_eq_true c8
                clear c8
                by_cases c9 : 0 ≤ x5_3
                · rw [if_pos c9] at H
                  have c9b0 : decide (0 ≤ x5_3) = true := decide_eq_true c9
                  clear c9
                  by_cases c10 : (rd t129 x5_3) = a0
                  · rw [if_pos c10] at H
                    have c10b0 : ((rd t129 x5_3) == a0) = true := beq_iff_eq.mpr c10
                    have c10b1 : ((rd t129 x5_3) != a0) = false := bne_eq_false_iff_eq.mpr c10
                    clear c10
                    have H' := Aside0.mk H
                    clear H
                    obtain ⟨Ao11, co11, eo11⟩ := Kd.R_slice HO_4.out
                    subst eo11
                    have p132 : 0 ≤ (x5_3 : Int) := of_decide_eq_true (by first | (with_reducible assumption) | assumption)
                    have q132 : x5_3 < (t129.length : Int) := of_decide_eq_true (by first | (with_reducible assumption) | assumption)
                    obtain ⟨ad132, e132, hx132_0⟩ := Kd.at_int (Kd.R_reads' HO_4.out).2.2 x5_3 p132 q132
                    cases e132
                    replace p132 := eq_true p132
                    replace q132 := eq_true q132
                    go_wp2
                    go_roundg k3
                    case measure => have := HJ1.out; have := HJ3.out; have := HK3.out; omega
                    case rel => exact ⟨(1), (wrap64 (x5_3 + 1)), (by first | rfl | (simp; done) | (simp [*]; done)), (by first | rfl | (simp; done) | (simp [*]; done)), H', ⟨by have := HJ1.out; have := HJ3.out; have := HK3.out; omega⟩, ⟨by (with_reducible repeat (first | apply Kd.R_alloc | apply Kd.R_drewN | apply Kd.R_drew)); exact HO_4.out⟩, ⟨by repeat (first | (with_reducible first | exact HB.out | apply below_alloc | apply pw_below_drewN | apply below_drew1) | exact HB.out)⟩⟩
                  · rw [if_neg c10] at H
                    have c10b0 : ((rd t129 x5_3) == a0) = false := beq_eq_false_iff_ne.mpr c10
                    have c10b1 : ((rd t129 x5_3) != a0) = true := bne_iff_ne.mpr c10
                    have H' := Aside0.mk H
                    clear H
                    obtain ⟨Ao12, co12, eo12⟩ := Kd.R_slice HO_4.out
                    subst eo12
                    have p132 : 0 ≤ (x5_3 : Int) := of_decide_eq_true (by first | (with_reducible assumption) | assumption)
                    have q132 : x5_3 < (t129.length : Int) := of_decide_eq_true (by first | (with_reducible assumption) | assumption)
                    obtain ⟨ad132, e132, hx132_0⟩ := Kd.at_int (Kd.R_reads' HO_4.out).2.2 x5_3 p132 q132
                    cases e132
                    replace p132 := eq_true p132
                    replace q132 := eq_true q132
                    go_wp2
                    go_roundg k3
                    case measure => have := HJ1.out; have := HJ3.out; have := HK3.out; omega
                    case rel => exact ⟨(x3_3), (wrap64 (x5_3 + 1)), (by first | rfl | (simp; done) | (simp [*]; done)), (by first | rfl | (simp; done) | (simp [*]; done)), H', ⟨by have := HJ1.out; have := HJ3.out; have := HK3.out; omega⟩, ⟨by (with_reducible repeat (first | apply Kd.R_alloc | apply Kd.R_drewN | apply Kd.R_drew)); exact HO_4.out⟩, ⟨by repeat (first | (with_reducible first | exact HB.out | apply below_alloc | apply pw_below_drewN | apply below_drew1) | exact HB.out)⟩⟩
                · rw [if_neg c9] at H
                  exact absurd H (by simp)
              · rw [if_neg c8] at H
                have c8b0 : decide (x5_3 < (t129.length : Int)) = false := decide_eq_false c8
                clear c8
                have HC13 := Aside0.mk H
                clear H
                obtain ⟨Ao14, co14, eo14⟩ := Kd.R_slice HO_4.out
                subst eo14
                go_upto_region 10 with (fail)
                go_cut [36] (fun v36 wc => ∃ (kq : Nat) (x36_12 : Bool), v36 = .bool x36_12 ∧ Aside0 (anvillaw01_ArithKnows.j3 kq a0 x3_3 x36_12 = some r) ∧ Aside0 (kq ≤ k3) ∧ Aside0 (Below w.heap.size w wc))
                case first =>
                  have H := HC13.out
                  clear HC13
                  by_cases c15 : a0 ≥ 5
                  · rw [if_pos c15] at H
                    have c15b0 : decide (5 ≤ a0) = true := decide_eq_true c15
                    clear c15
                    (first | rw [c15b0] | (simp only [i64_w, i32_w]; rw [c15b0]) | skip)
                    have H' := Aside0.mk H
                    clear H
                    go_wp2
                    go_meet
                    case rel => exact ⟨_, (decide (a0 ≤ 10)), (by first | rfl | (simp; done) | (simp [*]; done)), H', ⟨by have := HJ1.out; have := HJ3.out; have := HK3.out; first | omega | exact Nat.le_refl _⟩, ⟨by repeat (first | (with_reducible first | exact HB.out | apply below_alloc | apply pw_below_drewN | apply below_drew1) | exact HB.out)⟩⟩
                  · rw [if_neg c15] at H
                    have c15b0 : decide (5 ≤ a0) = false := decide_eq_false c15
                    clear c15
                    (first | rw [c15b0] | (simp only [i64_w, i32_w]; rw [c15b0]) | skip)
                    have H' := Aside0.mk H
                    clear H
                    go_wp2
                    go_meet
                    case rel => exact ⟨_, (false), (by first | rfl | (simp; done) | (simp [*]; done)), H', ⟨by have := HJ1.out; have := HJ3.out; have := HK3.out; first | omega | exact Nat.le_refl _⟩, ⟨by repeat (first | (with_reducible first | exact HB.out | apply below_alloc | apply pw_below_drewN | apply below_drew1) | exact HB.out)⟩⟩
                case rest =>
                  clear HC13
                  try clear c1
                  try clear p1
                  try clear q1
                  try clear hx1
                  try clear c2
                  try clear p2
                  try clear c3
                  try clear c3b0
                  try clear c5
                  try clear p6
                  try clear c8
                  try clear c8b0
                  try clear c9
                  try clear c9b0
                  try clear c10
                  try clear c10b0
                  try clear c10b1
                  try clear c11
                  try clear p13
                  try clear q13
                  try clear hx13
                  try clear c15
                  try clear c15b0
                  try clear hx132_0
                  try clear p132
                  try clear p2
                  try clear q132
                  obtain ⟨kq, x36_12, rfl, HA, HJ12, HB⟩ := hcut
                  cases kq with
                  | zero => exact absurd HA.out (by simp [anvillaw01_ArithKnows.j3])
                  | succ kj12 =>
                    have H := HA.out
                    clear HA
                    simp only [anvillaw01_ArithKnows.j3] at H
                    have HC16 := Aside0.mk H
                    clear H
                    go_upto_if 36 with (fail)
                    go_cut [3] (fun v3 wc => ∃ (kq : Nat) (x3_15 : Int), v3 = .int .i64 x3_15 ∧ Aside0 (anvillaw01_ArithKnows.j4 kq a0 x3_15 = some r) ∧ Aside0 (kq ≤ kj12) ∧ Aside0 (Below w.heap.size w wc))
                    case first =>
                      have H := HC16.out
                      clear HC16
                      by_cases c17 : x36_12 = true
                      · subst c17
                        have H1 : (anvillaw01_ArithKnows.j4 kj12 a0 2) = some r := by rw [if_pos rfl] at H; exact H
                        clear H
                        have H := H1
                        clear H1
                        have H' := Aside0.mk H
                        clear H
                        go_wp2
                        go_meet
                        case rel => exact ⟨_, (2), (by first | rfl | (simp; done) | (simp [*]; done)), H', ⟨by have := HJ1.out; have := HJ3.out; have := HK3.out; have := HJ12.out; first | omega | exact Nat.le_refl _⟩, ⟨by repeat (first | (with_reducible first | exact HB.out | apply below_alloc | apply pw_below_drewN | apply below_drew1) | exact HB.out)⟩⟩
                      · replace c17 := Bool.eq_false_iff.mpr c17
                        subst c17
                        have H1 : (anvillaw01_ArithKnows.j4 kj12 a0 x3_3) = some r := by rw [if_neg (show ¬ (false = true) by decide)] at H; exact H
                        clear H
                        have H := H1
                        clear H1
                        have H' := Aside0.mk H
                        clear H
                        go_wp2
                        go_meet
                        case rel => exact ⟨_, (x3_3), (by first | rfl | (simp; done) | (simp [*]; done)), H', ⟨by have := HJ1.out; have := HJ3.out; have := HK3.out; have := HJ12.out; first | omega | exact Nat.le_refl _⟩, ⟨by repeat (first | (with_reducible first | exact HB.out | apply below_alloc | apply pw_below_drewN | apply below_drew1) | exact HB.out)⟩⟩
                    case rest =>
                      clear HC16
                      try clear c1
                      try clear p1
                      try clear q1
                      try clear hx1
                      try clear c2
                      try clear p2
                      try clear c3
                      try clear c3b0
                      try clear c5
                      try clear p6
                      try clear c8
                      try clear c8b0
                      try clear c9
                      try clear c9b0
                      try clear c10
                      try clear c10b0
                      try clear c10b1
                      try clear c11
                      try clear p13
                      try clear q13
                      try clear hx13
                      try clear c15
                      try clear c15b0
                      try clear c17
                      try clear hx132_0
                      try clear p1
                      try clear p13
                      try clear p132
                      try clear p2
                      try clear p6
                      try clear q1
                      try clear q13
                      try clear q132
                      obtain ⟨kq, x3_15, rfl, HA, HJ15, HB⟩ := hcut
                      cases kq with
                      | zero => exact absurd HA.out (by simp [anvillaw01_ArithKnows.j4])
                      | succ kj15 =>
                        have H := HA.out
                        clear HA
                        simp only [anvillaw01_ArithKnows.j4] at H
                        replace H := Option.bind_eq_some_iff.mp H
                        obtain ⟨t133, A180, H⟩ := H
                        replace H : (if t133 = 0 then ((arith_Compute.f a0 5 3).bind fun bt134 => ((arith_Taken.f a0 5 3).bind fun bt136 => ((arith_Amo.f kj15 a0 5 3).bind fun bt138 => (if (bt134.2 == (x3_15 == 1)) = true then (if (bt136.2 == (x3_15 == 2)) = true then (some (bt138.2 == (x3_15 == 3))) else (some false)) else (some false))))) else ((arith_Compute.f a0 5 3).bind fun bt140 => ((arith_Taken.f a0 5 3).bind fun bt142 => ((arith_Amo.f kj15 a0 5 3).bind fun bt144 => (if (bt140.2 == (3 == 1)) = true then (if (bt142.2 == (3 == 2)) = true then (some (bt144.2 == (3 == 3))) else (some false)) else (some false)))))) = some r := H
                        have A18 := Aside0.mk A180
                        clear A180
                        by_cases c19 : t133 = 0
                        · rw [if_pos c19] at H
                          have c19b0 : (t133 == 0) = true := beq_iff_eq.mpr c19
                          have c19b1 : (t133 != 0) = false := bne_eq_false_iff_eq.mpr c19
                          clear c19
                          replace H := Option.bind_eq_some_iff.mp H
                          obtain ⟨⟨t134, t135⟩, A200, H⟩ := H
                          replace H : ((arith_Taken.f a0 5 3).bind fun bt136 => ((arith_Amo.f kj15 a0 5 3).bind fun bt138 => (if (t135 == (x3_15 == 1)) = true then (if (bt136.2 == (x3_15 == 2)) = true then (some (bt138.2 == (x3_15 == 3))) else (some false)) else (some false)))) = some r := H
                          have A20 := Aside0.mk A200
                          clear A200
                          replace H := Option.bind_eq_some_iff.mp H
                          obtain ⟨⟨t136, t137⟩, A210, H⟩ := H
                          replace H : ((arith_Amo.f kj15 a0 5 3).bind fun bt138 => (if (t135 == (x3_15 == 1)) = true then (if (t137 == (x3_15 == 2)) = true then (some (bt138.2 == (x3_15 == 3))) else (some false)) else (some false))) = some r := H
                          have A21 := Aside0.mk A210
                          clear A210
                          replace H := Option.bind_eq_some_iff.mp H
                          obtain ⟨⟨t138, t139⟩, A220, H⟩ := H
                          replace H : (if (t135 == (x3_15 == 1)) = true then (if (t137 == (x3_15 == 2)) = true then (some (t139 == (x3_15 == 3))) else (some false)) else (some false)) = some r := H
                          have A22 := Aside0.mk A220
                          clear A220
                          by_cases c23 : (t135 == (x3_15 == 1)) = true
                          · rw [if_pos c23] at H
                            have c23b0 : (t135 == (x3_15 == 1)) = true := c23
                            (try (have c23b1 : decide (t135 = (x3_15 == 1)) = true := by simpa using c23))
                            (try (have c23b2 : (t135 == (x3_15 == 1)) = true := by simpa using c23))
                            clear c23
                            by_cases c24 : (t137 == (x3_15 == 2)) = true
                            · rw [if_pos c24] at H
                              have c24b0 : (t137 == (x3_15 == 2)) = true := c24
                              (try (have c24b1 : decide (t137 = (x3_15 == 2)) = true := by simpa using c24))
                              (try (have c24b2 : (t137 == (x3_15 == 2)) = true := by simpa using c24))
                              clear c24
                              obtain rfl := Option.some.inj H
                              go_wp2_with (first | ((with_reducible refine gate_callee (f := 26) rfl ?_); refine goesL_ (some 38) rfl rfl Tryd.func26 (by kernel_rfl) rfl #[.int .i64 a0] rfl (by (try simp only [List.map_toArray, List.map_cons, List.map_nil]); first | done | rfl | (simp only [List.length_drop, List.length_take]; rfl)) ?_; (with_reducible refine (anvilref01_AmoSize.calls kj15 a0 t133 _ A18.out).mono ?_); rintro e w25 ⟨rfl, hb⟩; refine ⟨_, rfl, ?_⟩; have n0_ := Aside0.mk (below_step (by repeat (first | (with_reducible first | exact HB.out | apply below_alloc | apply pw_below_drewN | apply below_drew1) | exact HB.out)) hb); clear HB; have HB := n0_; clear n0_; (try clear hb); (try clear hb2); (try clear hk); (try clear hi)) | ((with_reducible refine gate_callee (f := 13) rfl ?_); refine goesL_ (some 42) rfl rfl Tryd.func13 (by kernel_rfl) rfl #[.int .i64 a0, .int .u64 5, .int .u64 3] rfl (by (try simp only [List.map_toArray, List.map_cons, List.map_nil]); first | done | rfl | (simp only [List.length_drop, List.length_take]; rfl)) ?_; (with_reducible refine (arith_Compute.calls a0 5 3 t134 t135 _ (by exact hT.below (by repeat (first | (with_reducible first | exact HB.out | apply below_alloc | apply pw_below_drewN | apply below_drew1) | exact HB.out))) A20.out).mono ?_); rintro e w26 ⟨rfl, hb⟩; refine ⟨_, rfl, ?_⟩; have n0_ := Aside0.mk (below_step (by repeat (first | (with_reducible first | exact HB.out | apply below_alloc | apply pw_below_drewN | apply below_drew1) | exact HB.out)) hb); clear HB; have HB := n0_; clear n0_; (try clear hb); (try clear hb2); (try clear hk); (try clear hi)) | ((with_reducible refine gate_callee (f := 27) rfl ?_); refine goesL_ (some 47) rfl rfl Tryd.func27 (by kernel_rfl) rfl #[.int .i64 a0, .int .u64 5, .int .u64 3] rfl (by (try simp only [List.map_toArray, List.map_cons, List.map_nil]); first | done | rfl | (simp only [List.length_drop, List.length_take]; rfl)) ?_; (with_reducible refine (arith_Taken.calls a0 5 3 t136 t137 _ A21.out).mono ?_); rintro e w' ⟨rfl, ⟨nd, rfl⟩⟩; refine ⟨_, rfl, ?_⟩) | ((with_reducible refine gate_callee (f := 28) rfl ?_); refine goesL_ (some 52) rfl rfl Tryd.func28 (by kernel_rfl) rfl #[.int .i64 a0, .int .u64 5, .int .u64 3] rfl (by (try simp only [List.map_toArray, List.map_cons, List.map_nil]); first | done | rfl | (simp only [List.length_drop, List.length_take]; rfl)) ?_; (with_reducible refine (arith_Amo.calls kj15 a0 5 3 t138 t139 _ A22.out).mono ?_); rintro e w27 ⟨rfl, hb⟩; refine ⟨_, rfl, ?_⟩; have n0_ := Aside0.mk (below_step (by repeat (first | (with_reducible first | exact HB.out | apply below_alloc | apply pw_below_drewN | apply below_drew1) | exact HB.out)) hb); clear HB; have HB := n0_; clear n0_; (try clear hb); (try clear hb2); (try clear hk); (try clear hi)))
                              go_ret
                              exact ⟨by first | rfl | (simp [errW_none, errW_some] <;> rfl) | (simp [*, errW_none, errW_some] <;> rfl), by repeat (first | (with_reducible first | exact HB.out | apply below_alloc | apply pw_below_drewN | apply below_drew1) | exact HB.out)⟩
                            · rw [if_neg c24] at H
                              have c24b0 : (t137 == (x3_15 == 2)) = false := by simpa using c24
                              (try (have c24b1 : decide (t137 = (x3_15 == 2)) = false := by simpa using c24))
                              (try (have c24b2 : (t137 == (x3_15 == 2)) = false := by simpa using c24))
                              (try (have c24b3 : ¬ (t137 = (x3_15 == 2)) := by simpa using c24))
                              clear c24
                              obtain rfl := Option.some.inj H
                              exact absurd hr.out (by decide)
                          · rw [if_neg c23] at H
                            have c23b0 : (t135 == (x3_15 == 1)) = false := by simpa using c23
                            (try (have c23b1 : decide (t135 = (x3_15 == 1)) = false := by simpa using c23))
                            (try (have c23b2 : (t135 == (x3_15 == 1)) = false := by simpa using c23))
                            (try (have c23b3 : ¬ (t135 = (x3_15 == 1)) := by simpa using c23))
                            clear c23
                            obtain rfl := Option.some.inj H
                            exact absurd hr.out (by decide)
                        · rw [if_neg c19] at H
                          have c19b0 : (t133 == 0) = false := beq_eq_false_iff_ne.mpr c19
                          have c19b1 : (t133 != 0) = true := bne_iff_ne.mpr c19
                          replace H := Option.bind_eq_some_iff.mp H
                          obtain ⟨⟨t140, t141⟩, A280, H⟩ := H
                          replace H : ((arith_Taken.f a0 5 3).bind fun bt142 => ((arith_Amo.f kj15 a0 5 3).bind fun bt144 => (if (t141 == (3 == 1)) = true then (if (bt142.2 == (3 == 2)) = true then (some (bt144.2 == (3 == 3))) else (some false)) else (some false)))) = some r := H
                          have A28 := Aside0.mk A280
                          clear A280
                          replace H := Option.bind_eq_some_iff.mp H
                          obtain ⟨⟨t142, t143⟩, A290, H⟩ := H
                          replace H : ((arith_Amo.f kj15 a0 5 3).bind fun bt144 => (if (t141 == (3 == 1)) = true then (if (t143 == (3 == 2)) = true then (some (bt144.2 == (3 == 3))) else (some false)) else (some false))) = some r := H
                          have A29 := Aside0.mk A290
                          clear A290
                          replace H := Option.bind_eq_some_iff.mp H
                          obtain ⟨⟨t144, t145⟩, A300, H⟩ := H
                          replace H : (if (t141 == (3 == 1)) = true then (if (t143 == (3 == 2)) = true then (some (t145 == (3 == 3))) else (some false)) else (some false)) = some r := H
                          have A30 := Aside0.mk A300
                          clear A300
                          by_cases c31 : (t141 == (3 == 1)) = true
                          · rw [if_pos c31] at H
                            have c31b0 : (t141 == (3 == 1)) = true := c31
                            (try (have c31b9 : t141 = false := by simpa using c31))
                            (try (have c31b1 : decide (t141 = (3 == 1)) = true := by simpa using c31))
                            (try (have c31b2 : (t141 == (3 == 1)) = true := by simpa using c31))
                            clear c31
                            by_cases c32 : (t143 == (3 == 2)) = true
                            · rw [if_pos c32] at H
                              have c32b0 : (t143 == (3 == 2)) = true := c32
                              (try (have c32b9 : t143 = false := by simpa using c32))
                              (try (have c32b1 : decide (t143 = (3 == 2)) = true := by simpa using c32))
                              (try (have c32b2 : (t143 == (3 == 2)) = true := by simpa using c32))
                              clear c32
                              obtain rfl := Option.some.inj H
                              go_wp2_with (first | ((with_reducible refine gate_callee (f := 26) rfl ?_); refine goesL_ (some 38) rfl rfl Tryd.func26 (by kernel_rfl) rfl #[.int .i64 a0] rfl (by (try simp only [List.map_toArray, List.map_cons, List.map_nil]); first | done | rfl | (simp only [List.length_drop, List.length_take]; rfl)) ?_; (with_reducible refine (anvilref01_AmoSize.calls kj15 a0 t133 _ A18.out).mono ?_); rintro e w33 ⟨rfl, hb⟩; refine ⟨_, rfl, ?_⟩; have n0_ := Aside0.mk (below_step (by repeat (first | (with_reducible first | exact HB.out | apply below_alloc | apply pw_below_drewN | apply below_drew1) | exact HB.out)) hb); clear HB; have HB := n0_; clear n0_; (try clear hb); (try clear hb2); (try clear hk); (try clear hi)) | ((with_reducible refine gate_callee (f := 13) rfl ?_); refine goesL_ (some 42) rfl rfl Tryd.func13 (by kernel_rfl) rfl #[.int .i64 a0, .int .u64 5, .int .u64 3] rfl (by (try simp only [List.map_toArray, List.map_cons, List.map_nil]); first | done | rfl | (simp only [List.length_drop, List.length_take]; rfl)) ?_; (with_reducible refine (arith_Compute.calls a0 5 3 t140 t141 _ (by exact hT.below (by repeat (first | (with_reducible first | exact HB.out | apply below_alloc | apply pw_below_drewN | apply below_drew1) | exact HB.out))) A28.out).mono ?_); rintro e w34 ⟨rfl, hb⟩; refine ⟨_, rfl, ?_⟩; have n0_ := Aside0.mk (below_step (by repeat (first | (with_reducible first | exact HB.out | apply below_alloc | apply pw_below_drewN | apply below_drew1) | exact HB.out)) hb); clear HB; have HB := n0_; clear n0_; (try clear hb); (try clear hb2); (try clear hk); (try clear hi)) | ((with_reducible refine gate_callee (f := 27) rfl ?_); refine goesL_ (some 47) rfl rfl Tryd.func27 (by kernel_rfl) rfl #[.int .i64 a0, .int .u64 5, .int .u64 3] rfl (by (try simp only [List.map_toArray, List.map_cons, List.map_nil]); first | done | rfl | (simp only [List.length_drop, List.length_take]; rfl)) ?_; (with_reducible refine (arith_Taken.calls a0 5 3 t142 t143 _ A29.out).mono ?_); rintro e w' ⟨rfl, ⟨nd, rfl⟩⟩; refine ⟨_, rfl, ?_⟩) | ((with_reducible refine gate_callee (f := 28) rfl ?_); refine goesL_ (some 52) rfl rfl Tryd.func28 (by kernel_rfl) rfl #[.int .i64 a0, .int .u64 5, .int .u64 3] rfl (by (try simp only [List.map_toArray, List.map_cons, List.map_nil]); first | done | rfl | (simp only [List.length_drop, List.length_take]; rfl)) ?_; (with_reducible refine (arith_Amo.calls kj15 a0 5 3 t144 t145 _ A30.out).mono ?_); rintro e w35 ⟨rfl, hb⟩; refine ⟨_, rfl, ?_⟩; have n0_ := Aside0.mk (below_step (by repeat (first | (with_reducible first | exact HB.out | apply below_alloc | apply pw_below_drewN | apply below_drew1) | exact HB.out)) hb); clear HB; have HB := n0_; clear n0_; (try clear hb); (try clear hb2); (try clear hk); (try clear hi)))
                              go_ret
                              exact ⟨by first | rfl | (simp [errW_none, errW_some] <;> rfl) | (simp [*, errW_none, errW_some] <;> rfl), by repeat (first | (with_reducible first | exact HB.out | apply below_alloc | apply pw_below_drewN | apply below_drew1) | exact HB.out)⟩
                            · rw [if_neg c32] at H
                              have c32b0 : (t143 == (3 == 2)) = false := by simpa using c32
                              (try (have c32b9 : t143 = true := by simpa using c32))
                              (try (have c32b1 : decide (t143 = (3 == 2)) = false := by simpa using c32))
                              (try (have c32b2 : (t143 == (3 == 2)) = false := by simpa using c32))
                              (try (have c32b3 : ¬ (t143 = (3 == 2)) := by simpa using c32))
                              clear c32
                              obtain rfl := Option.some.inj H
                              exact absurd hr.out (by decide)
                          · rw [if_neg c31] at H
                            have c31b0 : (t141 == (3 == 1)) = false := by simpa using c31
                            (try (have c31b9 : t141 = true := by simpa using c31))
                            (try (have c31b1 : decide (t141 = (3 == 1)) = false := by simpa using c31))
                            (try (have c31b2 : (t141 == (3 == 1)) = false := by simpa using c31))
                            (try (have c31b3 : ¬ (t141 = (3 == 1)) := by simpa using c31))
                            clear c31
                            obtain rfl := Option.some.inj H
                            exact absurd hr.out (by decide)

/-- THE ONE PURE STATEMENT of anvillaw01_ArithKnows: yours. -/
def anvillaw01_ArithKnows.Pure : Prop := ∀ (a0 : Int), (Lit.int .i64 a0).wf = true → ∃ k, anvillaw01_ArithKnows.f k a0 = some true

end Go.Proofs.YtdjppkffmeccoaaDoor.QArithKnows
