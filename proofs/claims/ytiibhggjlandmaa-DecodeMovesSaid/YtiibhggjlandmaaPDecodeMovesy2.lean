-- Written by a program (a turned copy of the kit's print.py) for this claim. Lean checks it.
import Derived.Test.YtiibhggjlandmaaPDecodeMovesy0
import Derived.Test.YtiibhggjlandmaaPDecodeMovesy1
namespace Go.Proofs.Ytiibhggjlandmaa.PDecodeMoves
open Go.RowKit Go.Proofs.YtiibhggjlandmaaW.PrintWords Go.Proofs.YtiibhggjlandmaaW.PrintLast Go.Proofs.YtiibhggjlandmaaW.PrintMore Go.Proofs.Ytiibhggjlandmaa.PB
attribute [local go_sem] max2_int min2_int max_two min_two max_three min_three max_four min_four   -- for this text's walks alone
set_option linter.unusedVariables false
set_option linter.unusedSimpArgs false

attribute [local go_sem high] eqA29
-- given elsewhere: function 9 (decode_Expand)

-- given elsewhere: function 13 (decode_Decode)

/-! ### anvillaw05_first: function 15 -/
def anvillaw05_first.f (k : Nat)  : Option (Bool) := (decode_Decode.f k 4293918867).bind fun bt101 => (if (!(bt101.1 == 22) || (!(bt101.2.1 == 1) || (!(bt101.2.2.1 == 0) || (!(bt101.2.2.2.1 == 0) || (!(bt101.2.2.2.2.1 == (-1)) || (bt101.2.2.2.2.2.1 || (bt101.2.2.2.2.2.2.1 || (!(bt101.2.2.2.2.2.2.2.1 == 4) || (!(bt101.2.2.2.2.2.2.2.2 == 4293918867)))))))))) = true then (some false) else ((decode_Expand.f k 17669).bind fun bt110 => (if bt110.2 = true then (if bt110.1 = 1049875 then ((decode_Decode.f k 17669).bind fun bt112 => (some (bt112.1 == 22 && (bt112.2.1 == 10 && (bt112.2.2.1 == 0 && (bt112.2.2.2.1 == 0 && (bt112.2.2.2.2.1 == 1 && (!bt112.2.2.2.2.2.1 && (!bt112.2.2.2.2.2.2.1 && (bt112.2.2.2.2.2.2.2.1 == 2 && (bt112.2.2.2.2.2.2.2.2 == 17669))))))))))) else (some false)) else (some false))))
theorem anvillaw05_first.mono : ∀ k, LeO (anvillaw05_first.f k ) (anvillaw05_first.f (k + 1) ) := by
  intro  k
  unfold anvillaw05_first.f
  repeat' first
      | (with_reducible exact decode_Decode.mono _ _)
      | (with_reducible exact decode_Expand.mono _ _)
      | (with_reducible exact LeO.refl _)
      | (with_reducible exact LeO.none _)
      | (with_reducible refine LeO.ite ?_ ?_)
      | (with_reducible refine LeO.bind ?_ (fun _ => ?_))
      | exact decode_Decode.mono _ _
      | exact decode_Expand.mono _ _
      | exact LeO.none _
      | refine LeO.ite ?_ ?_
      | refine LeO.bind ?_ (fun _ => ?_)
set_option maxHeartbeats 8000000 in
set_option maxRecDepth 100000 in
theorem anvillaw05_first.calls (k : Nat)  (r : Bool) (w : World) (h : anvillaw05_first.f k  = some r) :
    Calls Try.prog 15 #[] w fun e w' => e = .returned (.bool r) ∧ Below w.heap.size w w' := by
  have hu29 := Try.underlying29
  have HB := Aside0.mk (Below.refl w.heap.size w)
  have H : ((decode_Decode.f k 4293918867).bind fun bt101 => (if (!(bt101.1 == 22) || (!(bt101.2.1 == 1) || (!(bt101.2.2.1 == 0) || (!(bt101.2.2.2.1 == 0) || (!(bt101.2.2.2.2.1 == (-1)) || (bt101.2.2.2.2.2.1 || (bt101.2.2.2.2.2.2.1 || (!(bt101.2.2.2.2.2.2.2.1 == 4) || (!(bt101.2.2.2.2.2.2.2.2 == 4293918867)))))))))) = true then (some false) else ((decode_Expand.f k 17669).bind fun bt110 => (if bt110.2 = true then (if bt110.1 = 1049875 then ((decode_Decode.f k 17669).bind fun bt112 => (some (bt112.1 == 22 && (bt112.2.1 == 10 && (bt112.2.2.1 == 0 && (bt112.2.2.2.1 == 0 && (bt112.2.2.2.2.1 == 1 && (!bt112.2.2.2.2.2.1 && (!bt112.2.2.2.2.2.2.1 && (bt112.2.2.2.2.2.2.2.1 == 2 && (bt112.2.2.2.2.2.2.2.2 == 17669))))))))))) else (some false)) else (some false))))) = some r := h
  clear h
  replace H := Option.bind_eq_some_iff.mp H
  obtain ⟨⟨t101, t102, t103, t104, t105, t106, t107, t108, t109⟩, A10, H⟩ := H
  replace H : (if (!(t101 == 22) || (!(t102 == 1) || (!(t103 == 0) || (!(t104 == 0) || (!(t105 == (-1)) || (t106 || (t107 || (!(t108 == 4) || (!(t109 == 4293918867)))))))))) = true then (some false) else ((decode_Expand.f k 17669).bind fun bt110 => (if bt110.2 = true then (if bt110.1 = 1049875 then ((decode_Decode.f k 17669).bind fun bt112 => (some (bt112.1 == 22 && (bt112.2.1 == 10 && (bt112.2.2.1 == 0 && (bt112.2.2.2.1 == 0 && (bt112.2.2.2.2.1 == 1 && (!bt112.2.2.2.2.2.1 && (!bt112.2.2.2.2.2.2.1 && (bt112.2.2.2.2.2.2.2.1 == 2 && (bt112.2.2.2.2.2.2.2.2 == 17669))))))))))) else (some false)) else (some false)))) = some r := H
  have A1 := Aside0.mk A10
  clear A10
  by_cases c2 : (!(t101 == 22) || (!(t102 == 1) || (!(t103 == 0) || (!(t104 == 0) || (!(t105 == (-1)) || (t106 || (t107 || (!(t108 == 4) || (!(t109 == 4293918867)))))))))) = true
  · rw [if_pos c2] at H
    have c2b0 : (!(t101 == 22) || (!(t102 == 1) || (!(t103 == 0) || (!(t104 == 0) || (!(t105 == (-1)) || (t106 || (t107 || (!(t108 == 4) || (!(t109 == 4293918867)))))))))) = true := c2
    clear c2
    obtain rfl := Option.some.inj H
    go_enter Try.func15, Try.ntmps15
    go_wp2_with (first | ((with_reducible refine gate_callee (f := 13) rfl ?_); refine goesL_ (some 3) rfl rfl Try.func13 (by kernel_rfl) rfl #[.int .u32 4293918867] rfl (by (try simp only [List.map_toArray, List.map_cons, List.map_nil]); first | done | rfl | (simp only [List.length_drop, List.length_take]; rfl)) ?_; (with_reducible refine (decode_Decode.calls k 4293918867 t101 t102 t103 t104 t105 t106 t107 t108 t109 _ A1.out).mono ?_); rintro e w3 ⟨rfl, hb⟩; refine ⟨_, rfl, ?_⟩; have n0_ := Aside0.mk (below_step (by repeat (first | (with_reducible first | exact HB.out | apply below_alloc | apply pw_below_drewN | apply below_drew1) | exact HB.out)) hb); clear HB; have HB := n0_; clear n0_; (try clear hb); (try clear hb2); (try clear hk); (try clear hi)))
    go_ret
    exact ⟨by first | rfl | (simp [errW_none, errW_some] <;> rfl) | (simp [*, errW_none, errW_some] <;> rfl), by repeat (first | (with_reducible first | exact HB.out | apply below_alloc | apply pw_below_drewN | apply below_drew1) | exact HB.out)⟩
  · rw [if_neg c2] at H
    have c2b0 : (!(t101 == 22) || (!(t102 == 1) || (!(t103 == 0) || (!(t104 == 0) || (!(t105 == (-1)) || (t106 || (t107 || (!(t108 == 4) || (!(t109 == 4293918867)))))))))) = false := by simpa using c2
    clear c2
    replace H := Option.bind_eq_some_iff.mp H
    obtain ⟨⟨t110, t111⟩, A40, H⟩ := H
    replace H : (if t111 = true then (if t110 = 1049875 then ((decode_Decode.f k 17669).bind fun bt112 => (some (bt112.1 == 22 && (bt112.2.1 == 10 && (bt112.2.2.1 == 0 && (bt112.2.2.2.1 == 0 && (bt112.2.2.2.2.1 == 1 && (!bt112.2.2.2.2.2.1 && (!bt112.2.2.2.2.2.2.1 && (bt112.2.2.2.2.2.2.2.1 == 2 && (bt112.2.2.2.2.2.2.2.2 == 17669))))))))))) else (some false)) else (some false)) = some r := H
    have A4 := Aside0.mk A40
    clear A40
    by_cases c5 : t111 = true
    · subst c5
      have H1 : (if t110 = 1049875 then ((decode_Decode.f k 17669).bind fun bt112 => (some (bt112.1 == 22 && (bt112.2.1 == 10 && (bt112.2.2.1 == 0 && (bt112.2.2.2.1 == 0 && (bt112.2.2.2.2.1 == 1 && (!bt112.2.2.2.2.2.1 && (!bt112.2.2.2.2.2.2.1 && (bt112.2.2.2.2.2.2.2.1 == 2 && (bt112.2.2.2.2.2.2.2.2 == 17669))))))))))) else (some false)) = some r := by rw [if_pos rfl] at H; exact H
      clear H
      have H := H1
      clear H1
      by_cases c6 : t110 = 1049875
      · rw [if_pos c6] at H
        have c6b0 : (t110 == 1049875) = true := beq_iff_eq.mpr c6
        have c6b1 : (t110 != 1049875) = false := bne_eq_false_iff_eq.mpr c6
        clear c6
        replace H := Option.bind_eq_some_iff.mp H
        obtain ⟨⟨t112, t113, t114, t115, t116, t117, t118, t119, t120⟩, A70, H⟩ := H
        replace H : (some (t112 == 22 && (t113 == 10 && (t114 == 0 && (t115 == 0 && (t116 == 1 && (!t117 && (!t118 && (t119 == 2 && (t120 == 17669)))))))))) = some r := H
        have A7 := Aside0.mk A70
        clear A70
        obtain rfl := Option.some.inj H
        go_enter Try.func15, Try.ntmps15
        go_wp2_with (first | ((with_reducible refine gate_callee (f := 13) rfl ?_); refine goesL_ (some 3) rfl rfl Try.func13 (by kernel_rfl) rfl #[.int .u32 4293918867] rfl (by (try simp only [List.map_toArray, List.map_cons, List.map_nil]); first | done | rfl | (simp only [List.length_drop, List.length_take]; rfl)) ?_; (with_reducible refine (decode_Decode.calls k 4293918867 t101 t102 t103 t104 t105 t106 t107 t108 t109 _ A1.out).mono ?_); rintro e w8 ⟨rfl, hb⟩; refine ⟨_, rfl, ?_⟩; have n0_ := Aside0.mk (below_step (by repeat (first | (with_reducible first | exact HB.out | apply below_alloc | apply pw_below_drewN | apply below_drew1) | exact HB.out)) hb); clear HB; have HB := n0_; clear n0_; (try clear hb); (try clear hb2); (try clear hk); (try clear hi)) | ((with_reducible refine gate_callee (f := 9) rfl ?_); refine goesL_ (some 7) rfl rfl Try.func9 (by kernel_rfl) rfl #[.int .u16 17669] rfl (by (try simp only [List.map_toArray, List.map_cons, List.map_nil]); first | done | rfl | (simp only [List.length_drop, List.length_take]; rfl)) ?_; (with_reducible refine (decode_Expand.calls k 17669 t110 true _ A4.out).mono ?_); rintro e w' ⟨rfl, ⟨nd, rfl⟩⟩; refine ⟨_, rfl, ?_⟩) | (go_at_call 13; (with_reducible refine (decode_Decode.calls k 17669 t112 t113 t114 t115 t116 t117 t118 t119 t120 _ A7.out).mono ?_); rintro e w9 ⟨rfl, hb⟩; have n0_ := Aside0.mk (below_step (by repeat (first | (with_reducible first | exact HB.out | apply below_alloc | apply pw_below_drewN | apply below_drew1) | exact HB.out)) hb); clear HB; have HB := n0_; clear n0_; (try clear hb); (try clear hb2); (try clear hk); (try clear hi)))
        go_ret
        exact ⟨by first | rfl | (simp [errW_none, errW_some] <;> rfl) | (simp [*, errW_none, errW_some] <;> rfl), by repeat (first | (with_reducible first | exact HB.out | apply below_alloc | apply pw_below_drewN | apply below_drew1) | exact HB.out)⟩
      · rw [if_neg c6] at H
        have c6b0 : (t110 == 1049875) = false := beq_eq_false_iff_ne.mpr c6
        have c6b1 : (t110 != 1049875) = true := bne_iff_ne.mpr c6
        obtain rfl := Option.some.inj H
        go_enter Try.func15, Try.ntmps15
        go_wp2_with (first | ((with_reducible refine gate_callee (f := 13) rfl ?_); refine goesL_ (some 3) rfl rfl Try.func13 (by kernel_rfl) rfl #[.int .u32 4293918867] rfl (by (try simp only [List.map_toArray, List.map_cons, List.map_nil]); first | done | rfl | (simp only [List.length_drop, List.length_take]; rfl)) ?_; (with_reducible refine (decode_Decode.calls k 4293918867 t101 t102 t103 t104 t105 t106 t107 t108 t109 _ A1.out).mono ?_); rintro e w10 ⟨rfl, hb⟩; refine ⟨_, rfl, ?_⟩; have n0_ := Aside0.mk (below_step (by repeat (first | (with_reducible first | exact HB.out | apply below_alloc | apply pw_below_drewN | apply below_drew1) | exact HB.out)) hb); clear HB; have HB := n0_; clear n0_; (try clear hb); (try clear hb2); (try clear hk); (try clear hi)) | ((with_reducible refine gate_callee (f := 9) rfl ?_); refine goesL_ (some 7) rfl rfl Try.func9 (by kernel_rfl) rfl #[.int .u16 17669] rfl (by (try simp only [List.map_toArray, List.map_cons, List.map_nil]); first | done | rfl | (simp only [List.length_drop, List.length_take]; rfl)) ?_; (with_reducible refine (decode_Expand.calls k 17669 t110 true _ A4.out).mono ?_); rintro e w' ⟨rfl, ⟨nd, rfl⟩⟩; refine ⟨_, rfl, ?_⟩))
        go_ret
        exact ⟨by first | rfl | (simp [errW_none, errW_some] <;> rfl) | (simp [*, errW_none, errW_some] <;> rfl), by repeat (first | (with_reducible first | exact HB.out | apply below_alloc | apply pw_below_drewN | apply below_drew1) | exact HB.out)⟩
    · replace c5 := Bool.eq_false_iff.mpr c5
      subst c5
      have H1 : (some false) = some r := by rw [if_neg (show ¬ (false = true) by decide)] at H; exact H
      clear H
      have H := H1
      clear H1
      obtain rfl := Option.some.inj H
      go_enter Try.func15, Try.ntmps15
      go_wp2_with (first | ((with_reducible refine gate_callee (f := 13) rfl ?_); refine goesL_ (some 3) rfl rfl Try.func13 (by kernel_rfl) rfl #[.int .u32 4293918867] rfl (by (try simp only [List.map_toArray, List.map_cons, List.map_nil]); first | done | rfl | (simp only [List.length_drop, List.length_take]; rfl)) ?_; (with_reducible refine (decode_Decode.calls k 4293918867 t101 t102 t103 t104 t105 t106 t107 t108 t109 _ A1.out).mono ?_); rintro e w11 ⟨rfl, hb⟩; refine ⟨_, rfl, ?_⟩; have n0_ := Aside0.mk (below_step (by repeat (first | (with_reducible first | exact HB.out | apply below_alloc | apply pw_below_drewN | apply below_drew1) | exact HB.out)) hb); clear HB; have HB := n0_; clear n0_; (try clear hb); (try clear hb2); (try clear hk); (try clear hi)) | ((with_reducible refine gate_callee (f := 9) rfl ?_); refine goesL_ (some 7) rfl rfl Try.func9 (by kernel_rfl) rfl #[.int .u16 17669] rfl (by (try simp only [List.map_toArray, List.map_cons, List.map_nil]); first | done | rfl | (simp only [List.length_drop, List.length_take]; rfl)) ?_; (with_reducible refine (decode_Expand.calls k 17669 t110 false _ A4.out).mono ?_); rintro e w' ⟨rfl, ⟨nd, rfl⟩⟩; refine ⟨_, rfl, ?_⟩))
      go_ret
      exact ⟨by first | rfl | (simp [errW_none, errW_some] <;> rfl) | (simp [*, errW_none, errW_some] <;> rfl), by repeat (first | (with_reducible first | exact HB.out | apply below_alloc | apply pw_below_drewN | apply below_drew1) | exact HB.out)⟩

/-! ### anvillaw05_reg: function 17 -/
def anvillaw05_reg.f (a0 : Int) : Option (Bool) := if a0 ≥ 0 then (some (decide (a0 ≤ 31))) else (some false)
set_option maxHeartbeats 8000000 in
set_option maxRecDepth 100000 in
theorem anvillaw05_reg.calls (a0 : Int) (r : Bool) (w : World) (h : anvillaw05_reg.f a0 = some r) :
    Calls Try.prog 17 #[.int .i64 a0] w fun e w' => e = .returned (.bool r) ∧ Drawn0 w w' := by
  have H : (if a0 ≥ 0 then (some (decide (a0 ≤ 31))) else (some false)) = some r := h
  clear h
  by_cases c2 : a0 ≥ 0
  · rw [if_pos c2] at H
    have c2b0 : decide (0 ≤ a0) = true := decide_eq_true c2
    clear c2
    obtain rfl := Option.some.inj H
    go_enter Try.func17, Try.ntmps17
    go_wp2
    go_ret
    exact ⟨by first | rfl | (simp; done) | (simp [*]; done), by repeat (first | exact Drawn0.refl _ | apply Drawn0.step)⟩
  · rw [if_neg c2] at H
    have c2b0 : decide (0 ≤ a0) = false := decide_eq_false c2
    clear c2
    obtain rfl := Option.some.inj H
    go_enter Try.func17, Try.ntmps17
    go_wp2
    go_ret
    exact ⟨by first | rfl | (simp; done) | (simp [*]; done), by repeat (first | exact Drawn0.refl _ | apply Drawn0.step)⟩

/-! ### anvillaw05_hasRd: function 18 -/
def anvillaw05_hasRd.f (a0 : Int) : Option (Bool) := if a0 ≥ 5 then (if a0 ≥ 18 then (if a0 ≥ 52 then (if a0 = 0 then (some false) else (if a0 ≤ 10 then (some false) else (if a0 ≤ 21 then (some false) else (some (!(decide (a0 ≤ 55))))))) else (if a0 = 0 then (some false) else (if a0 ≤ 10 then (some false) else (if a0 ≤ 21 then (some false) else (some (!false)))))) else (if a0 ≥ 52 then (if a0 = 0 then (some false) else (if a0 ≤ 10 then (some false) else (some (!(decide (a0 ≤ 55)))))) else (if a0 = 0 then (some false) else (if a0 ≤ 10 then (some false) else (some (!false)))))) else (if a0 ≥ 18 then (if a0 ≥ 52 then (if a0 = 0 then (some false) else (if a0 ≤ 21 then (some false) else (some (!(decide (a0 ≤ 55)))))) else (if a0 = 0 then (some false) else (if a0 ≤ 21 then (some false) else (some (!false))))) else (if a0 ≥ 52 then (if a0 = 0 then (some false) else (some (!(decide (a0 ≤ 55))))) else (if a0 = 0 then (some false) else (some (!false)))))
set_option maxHeartbeats 8000000 in
set_option maxRecDepth 100000 in
theorem anvillaw05_hasRd.calls (a0 : Int) (r : Bool) (w : World) (h : anvillaw05_hasRd.f a0 = some r) :
    Calls Try.prog 18 #[.int .i64 a0] w fun e w' => e = .returned (.bool r) ∧ Drawn0 w w' := by
  have H : (if a0 ≥ 5 then (if a0 ≥ 18 then (if a0 ≥ 52 then (if a0 = 0 then (some false) else (if a0 ≤ 10 then (some false) else (if a0 ≤ 21 then (some false) else (some (!(decide (a0 ≤ 55))))))) else (if a0 = 0 then (some false) else (if a0 ≤ 10 then (some false) else (if a0 ≤ 21 then (some false) else (some (!false)))))) else (if a0 ≥ 52 then (if a0 = 0 then (some false) else (if a0 ≤ 10 then (some false) else (some (!(decide (a0 ≤ 55)))))) else (if a0 = 0 then (some false) else (if a0 ≤ 10 then (some false) else (some (!false)))))) else (if a0 ≥ 18 then (if a0 ≥ 52 then (if a0 = 0 then (some false) else (if a0 ≤ 21 then (some false) else (some (!(decide (a0 ≤ 55)))))) else (if a0 = 0 then (some false) else (if a0 ≤ 21 then (some false) else (some (!false))))) else (if a0 ≥ 52 then (if a0 = 0 then (some false) else (some (!(decide (a0 ≤ 55))))) else (if a0 = 0 then (some false) else (some (!false)))))) = some r := h
  clear h
  by_cases c2 : a0 ≥ 5
  · rw [if_pos c2] at H
    have c2b0 : decide (5 ≤ a0) = true := decide_eq_true c2
    clear c2
    by_cases c3 : a0 ≥ 18
    · rw [if_pos c3] at H
      have c3b0 : decide (18 ≤ a0) = true := decide_eq_true c3
      clear c3
      by_cases c4 : a0 ≥ 52
      · rw [if_pos c4] at H
        have c4b0 : decide (52 ≤ a0) = true := decide_eq_true c4
        clear c4
        by_cases c5 : a0 = 0
        · rw [if_pos c5] at H
          have c5b0 : (a0 == 0) = true := beq_iff_eq.mpr c5
          have c5b1 : (a0 != 0) = false := bne_eq_false_iff_eq.mpr c5
          clear c5
          obtain rfl := Option.some.inj H
          go_enter Try.func18, Try.ntmps18
          go_wp2
          go_ret
          exact ⟨by first | rfl | (simp; done) | (simp [*]; done), by repeat (first | exact Drawn0.refl _ | apply Drawn0.step)⟩
        · rw [if_neg c5] at H
          have c5b0 : (a0 == 0) = false := beq_eq_false_iff_ne.mpr c5
          have c5b1 : (a0 != 0) = true := bne_iff_ne.mpr c5
          by_cases c6 : a0 ≤ 10
          · rw [if_pos c6] at H
            have c6b0 : decide (a0 ≤ 10) = true := decide_eq_true c6
            clear c6
            obtain rfl := Option.some.inj H
            go_enter Try.func18, Try.ntmps18
            go_wp2
            go_ret
            exact ⟨by first | rfl | (simp; done) | (simp [*]; done), by repeat (first | exact Drawn0.refl _ | apply Drawn0.step)⟩
          · rw [if_neg c6] at H
            have c6b0 : decide (a0 ≤ 10) = false := decide_eq_false c6
            clear c6
            by_cases c7 : a0 ≤ 21
            · rw [if_pos c7] at H
              have c7b0 : decide (a0 ≤ 21) = true := decide_eq_true c7
              clear c7
              obtain rfl := Option.some.inj H
              go_enter Try.func18, Try.ntmps18
              go_wp2
              go_ret
              exact ⟨by first | rfl | (simp; done) | (simp [*]; done), by repeat (first | exact Drawn0.refl _ | apply Drawn0.step)⟩
            · rw [if_neg c7] at H
              have c7b0 : decide (a0 ≤ 21) = false := decide_eq_false c7
              clear c7
              obtain rfl := Option.some.inj H
              go_enter Try.func18, Try.ntmps18
              go_wp2
              go_ret
              exact ⟨by first | rfl | (simp; done) | (simp [*]; done), by repeat (first | exact Drawn0.refl _ | apply Drawn0.step)⟩
      · rw [if_neg c4] at H
        have c4b0 : decide (52 ≤ a0) = false := decide_eq_false c4
        clear c4
        by_cases c8 : a0 = 0
        · rw [if_pos c8] at H
          have c8b0 : (a0 == 0) = true := beq_iff_eq.mpr c8
          have c8b1 : (a0 != 0) = false := bne_eq_false_iff_eq.mpr c8
          clear c8
          obtain rfl := Option.some.inj H
          go_enter Try.func18, Try.ntmps18
          go_wp2
          go_ret
          exact ⟨by first | rfl | (simp; done) | (simp [*]; done), by repeat (first | exact Drawn0.refl _ | apply Drawn0.step)⟩
        · rw [if_neg c8] at H
          have c8b0 : (a0 == 0) = false := beq_eq_false_iff_ne.mpr c8
          have c8b1 : (a0 != 0) = true := bne_iff_ne.mpr c8
          by_cases c9 : a0 ≤ 10
          · rw [if_pos c9] at H
            have c9b0 : decide (a0 ≤ 10) = true := decide_eq_true c9
            clear c9
            obtain rfl := Option.some.inj H
            go_enter Try.func18, Try.ntmps18
            go_wp2
            go_ret
            exact ⟨by first | rfl | (simp; done) | (simp [*]; done), by repeat (first | exact Drawn0.refl _ | apply Drawn0.step)⟩
          · rw [if_neg c9] at H
            have c9b0 : decide (a0 ≤ 10) = false := decide_eq_false c9
            clear c9
            by_cases c10 : a0 ≤ 21
            · rw [if_pos c10] at H
              have c10b0 : decide (a0 ≤ 21) = true := decide_eq_true c10
              clear c10
              obtain rfl := Option.some.inj H
              go_enter Try.func18, Try.ntmps18
              go_wp2
              go_ret
              exact ⟨by first | rfl | (simp; done) | (simp [*]; done), by repeat (first | exact Drawn0.refl _ | apply Drawn0.step)⟩
            · rw [if_neg c10] at H
              have c10b0 : decide (a0 ≤ 21) = false := decide_eq_false c10
              clear c10
              obtain rfl := Option.some.inj H
              go_enter Try.func18, Try.ntmps18
              go_wp2
              go_ret
              exact ⟨by first | rfl | (simp; done) | (simp [*]; done), by repeat (first | exact Drawn0.refl _ | apply Drawn0.step)⟩
    · rw [if_neg c3] at H
      have c3b0 : decide (18 ≤ a0) = false := decide_eq_false c3
      clear c3
      by_cases c11 : a0 ≥ 52
      · rw [if_pos c11] at H
        have c11b0 : decide (52 ≤ a0) = true := decide_eq_true c11
        clear c11
        by_cases c12 : a0 = 0
        · rw [if_pos c12] at H
          have c12b0 : (a0 == 0) = true := beq_iff_eq.mpr c12
          have c12b1 : (a0 != 0) = false := bne_eq_false_iff_eq.mpr c12
          clear c12
          obtain rfl := Option.some.inj H
          go_enter Try.func18, Try.ntmps18
          go_wp2
          go_ret
          exact ⟨by first | rfl | (simp; done) | (simp [*]; done), by repeat (first | exact Drawn0.refl _ | apply Drawn0.step)⟩
        · rw [if_neg c12] at H
          have c12b0 : (a0 == 0) = false := beq_eq_false_iff_ne.mpr c12
          have c12b1 : (a0 != 0) = true := bne_iff_ne.mpr c12
          by_cases c13 : a0 ≤ 10
          · rw [if_pos c13] at H
            have c13b0 : decide (a0 ≤ 10) = true := decide_eq_true c13
            clear c13
            obtain rfl := Option.some.inj H
            go_enter Try.func18, Try.ntmps18
            go_wp2
            go_ret
            exact ⟨by first | rfl | (simp; done) | (simp [*]; done), by repeat (first | exact Drawn0.refl _ | apply Drawn0.step)⟩
          · rw [if_neg c13] at H
            have c13b0 : decide (a0 ≤ 10) = false := decide_eq_false c13
            clear c13
            obtain rfl := Option.some.inj H
            go_enter Try.func18, Try.ntmps18
            go_wp2
            go_ret
            exact ⟨by first | rfl | (simp; done) | (simp [*]; done), by repeat (first | exact Drawn0.refl _ | apply Drawn0.step)⟩
      · rw [if_neg c11] at H
        have c11b0 : decide (52 ≤ a0) = false := decide_eq_false c11
        clear c11
        by_cases c14 : a0 = 0
        · rw [if_pos c14] at H
          have c14b0 : (a0 == 0) = true := beq_iff_eq.mpr c14
          have c14b1 : (a0 != 0) = false := bne_eq_false_iff_eq.mpr c14
          clear c14
          obtain rfl := Option.some.inj H
          go_enter Try.func18, Try.ntmps18
          go_wp2
          go_ret
          exact ⟨by first | rfl | (simp; done) | (simp [*]; done), by repeat (first | exact Drawn0.refl _ | apply Drawn0.step)⟩
        · rw [if_neg c14] at H
          have c14b0 : (a0 == 0) = false := beq_eq_false_iff_ne.mpr c14
          have c14b1 : (a0 != 0) = true := bne_iff_ne.mpr c14
          by_cases c15 : a0 ≤ 10
          · rw [if_pos c15] at H
            have c15b0 : decide (a0 ≤ 10) = true := decide_eq_true c15
            clear c15
            obtain rfl := Option.some.inj H
            go_enter Try.func18, Try.ntmps18
            go_wp2
            go_ret
            exact ⟨by first | rfl | (simp; done) | (simp [*]; done), by repeat (first | exact Drawn0.refl _ | apply Drawn0.step)⟩
          · rw [if_neg c15] at H
            have c15b0 : decide (a0 ≤ 10) = false := decide_eq_false c15
            clear c15
            obtain rfl := Option.some.inj H
            go_enter Try.func18, Try.ntmps18
            go_wp2
            go_ret
            exact ⟨by first | rfl | (simp; done) | (simp [*]; done), by repeat (first | exact Drawn0.refl _ | apply Drawn0.step)⟩
  · rw [if_neg c2] at H
    have c2b0 : decide (5 ≤ a0) = false := decide_eq_false c2
    clear c2
    by_cases c16 : a0 ≥ 18
    · rw [if_pos c16] at H
      have c16b0 : decide (18 ≤ a0) = true := decide_eq_true c16
      clear c16
      by_cases c17 : a0 ≥ 52
      · rw [if_pos c17] at H
        have c17b0 : decide (52 ≤ a0) = true := decide_eq_true c17
        clear c17
        by_cases c18 : a0 = 0
        · rw [if_pos c18] at H
          have c18b0 : (a0 == 0) = true := beq_iff_eq.mpr c18
          have c18b1 : (a0 != 0) = false := bne_eq_false_iff_eq.mpr c18
          clear c18
          obtain rfl := Option.some.inj H
          go_enter Try.func18, Try.ntmps18
          go_wp2
          go_ret
          exact ⟨by first | rfl | (simp; done) | (simp [*]; done), by repeat (first | exact Drawn0.refl _ | apply Drawn0.step)⟩
        · rw [if_neg c18] at H
          have c18b0 : (a0 == 0) = false := beq_eq_false_iff_ne.mpr c18
          have c18b1 : (a0 != 0) = true := bne_iff_ne.mpr c18
          by_cases c19 : a0 ≤ 21
          · rw [if_pos c19] at H
            have c19b0 : decide (a0 ≤ 21) = true := decide_eq_true c19
            clear c19
            obtain rfl := Option.some.inj H
            go_enter Try.func18, Try.ntmps18
            go_wp2
            go_ret
            exact ⟨by first | rfl | (simp; done) | (simp [*]; done), by repeat (first | exact Drawn0.refl _ | apply Drawn0.step)⟩
          · rw [if_neg c19] at H
            have c19b0 : decide (a0 ≤ 21) = false := decide_eq_false c19
            clear c19
            obtain rfl := Option.some.inj H
            go_enter Try.func18, Try.ntmps18
            go_wp2
            go_ret
            exact ⟨by first | rfl | (simp; done) | (simp [*]; done), by repeat (first | exact Drawn0.refl _ | apply Drawn0.step)⟩
      · rw [if_neg c17] at H
        have c17b0 : decide (52 ≤ a0) = false := decide_eq_false c17
        clear c17
        by_cases c20 : a0 = 0
        · rw [if_pos c20] at H
          have c20b0 : (a0 == 0) = true := beq_iff_eq.mpr c20
          have c20b1 : (a0 != 0) = false := bne_eq_false_iff_eq.mpr c20
          clear c20
          obtain rfl := Option.some.inj H
          go_enter Try.func18, Try.ntmps18
          go_wp2
          go_ret
          exact ⟨by first | rfl | (simp; done) | (simp [*]; done), by repeat (first | exact Drawn0.refl _ | apply Drawn0.step)⟩
        · rw [if_neg c20] at H
          have c20b0 : (a0 == 0) = false := beq_eq_false_iff_ne.mpr c20
          have c20b1 : (a0 != 0) = true := bne_iff_ne.mpr c20
          by_cases c21 : a0 ≤ 21
          · rw [if_pos c21] at H
            have c21b0 : decide (a0 ≤ 21) = true := decide_eq_true c21
            clear c21
            obtain rfl := Option.some.inj H
            go_enter Try.func18, Try.ntmps18
            go_wp2
            go_ret
            exact ⟨by first | rfl | (simp; done) | (simp [*]; done), by repeat (first | exact Drawn0.refl _ | apply Drawn0.step)⟩
          · rw [if_neg c21] at H
            have c21b0 : decide (a0 ≤ 21) = false := decide_eq_false c21
            clear c21
            obtain rfl := Option.some.inj H
            go_enter Try.func18, Try.ntmps18
            go_wp2
            go_ret
            exact ⟨by first | rfl | (simp; done) | (simp [*]; done), by repeat (first | exact Drawn0.refl _ | apply Drawn0.step)⟩
    · rw [if_neg c16] at H
      have c16b0 : decide (18 ≤ a0) = false := decide_eq_false c16
      clear c16
      by_cases c22 : a0 ≥ 52
      · rw [if_pos c22] at H
        have c22b0 : decide (52 ≤ a0) = true := decide_eq_true c22
        clear c22
        by_cases c23 : a0 = 0
        · rw [if_pos c23] at H
          have c23b0 : (a0 == 0) = true := beq_iff_eq.mpr c23
          have c23b1 : (a0 != 0) = false := bne_eq_false_iff_eq.mpr c23
          clear c23
          obtain rfl := Option.some.inj H
          go_enter Try.func18, Try.ntmps18
          go_wp2
          go_ret
          exact ⟨by first | rfl | (simp; done) | (simp [*]; done), by repeat (first | exact Drawn0.refl _ | apply Drawn0.step)⟩
        · rw [if_neg c23] at H
          have c23b0 : (a0 == 0) = false := beq_eq_false_iff_ne.mpr c23
          have c23b1 : (a0 != 0) = true := bne_iff_ne.mpr c23
          obtain rfl := Option.some.inj H
          go_enter Try.func18, Try.ntmps18
          go_wp2
          go_ret
          exact ⟨by first | rfl | (simp; done) | (simp [*]; done), by repeat (first | exact Drawn0.refl _ | apply Drawn0.step)⟩
      · rw [if_neg c22] at H
        have c22b0 : decide (52 ≤ a0) = false := decide_eq_false c22
        clear c22
        by_cases c24 : a0 = 0
        · rw [if_pos c24] at H
          have c24b0 : (a0 == 0) = true := beq_iff_eq.mpr c24
          have c24b1 : (a0 != 0) = false := bne_eq_false_iff_eq.mpr c24
          clear c24
          obtain rfl := Option.some.inj H
          go_enter Try.func18, Try.ntmps18
          go_wp2
          go_ret
          exact ⟨by first | rfl | (simp; done) | (simp [*]; done), by repeat (first | exact Drawn0.refl _ | apply Drawn0.step)⟩
        · rw [if_neg c24] at H
          have c24b0 : (a0 == 0) = false := beq_eq_false_iff_ne.mpr c24
          have c24b1 : (a0 != 0) = true := bne_iff_ne.mpr c24
          obtain rfl := Option.some.inj H
          go_enter Try.func18, Try.ntmps18
          go_wp2
          go_ret
          exact ⟨by first | rfl | (simp; done) | (simp [*]; done), by repeat (first | exact Drawn0.refl _ | apply Drawn0.step)⟩

/-! ### anvillaw05_hasRs1: function 19 -/
def anvillaw05_hasRs1.f (a0 : Int) : Option (Bool) := if a0 = 1 then (if a0 ≥ 52 then (if a0 = 0 then (some false) else (some false)) else (if a0 = 0 then (some false) else (some false))) else (if a0 = 2 then (if a0 ≥ 52 then (if a0 = 0 then (some false) else (some false)) else (if a0 = 0 then (some false) else (some false))) else (if a0 ≥ 52 then (if a0 = 0 then (some false) else (if a0 = 3 then (some false) else (some (!(decide (a0 ≤ 55)))))) else (if a0 = 0 then (some false) else (if a0 = 3 then (some false) else (some (!false))))))
set_option maxHeartbeats 8000000 in
set_option maxRecDepth 100000 in
theorem anvillaw05_hasRs1.calls (a0 : Int) (r : Bool) (w : World) (h : anvillaw05_hasRs1.f a0 = some r) :
    Calls Try.prog 19 #[.int .i64 a0] w fun e w' => e = .returned (.bool r) ∧ Drawn0 w w' := by
  have H : (if a0 = 1 then (if a0 ≥ 52 then (if a0 = 0 then (some false) else (some false)) else (if a0 = 0 then (some false) else (some false))) else (if a0 = 2 then (if a0 ≥ 52 then (if a0 = 0 then (some false) else (some false)) else (if a0 = 0 then (some false) else (some false))) else (if a0 ≥ 52 then (if a0 = 0 then (some false) else (if a0 = 3 then (some false) else (some (!(decide (a0 ≤ 55)))))) else (if a0 = 0 then (some false) else (if a0 = 3 then (some false) else (some (!false))))))) = some r := h
  clear h
  by_cases c2 : a0 = 1
  · rw [if_pos c2] at H
    have c2b0 : (a0 == 1) = true := beq_iff_eq.mpr c2
    have c2b1 : (a0 != 1) = false := bne_eq_false_iff_eq.mpr c2
    clear c2
    by_cases c3 : a0 ≥ 52
    · rw [if_pos c3] at H
      have c3b0 : decide (52 ≤ a0) = true := decide_eq_true c3
      clear c3
      by_cases c4 : a0 = 0
      · rw [if_pos c4] at H
        have c4b0 : (a0 == 0) = true := beq_iff_eq.mpr c4
        have c4b1 : (a0 != 0) = false := bne_eq_false_iff_eq.mpr c4
        clear c4
        obtain rfl := Option.some.inj H
        go_enter Try.func19, Try.ntmps19
        go_wp2
        go_ret
        exact ⟨by first | rfl | (simp; done) | (simp [*]; done), by repeat (first | exact Drawn0.refl _ | apply Drawn0.step)⟩
      · rw [if_neg c4] at H
        have c4b0 : (a0 == 0) = false := beq_eq_false_iff_ne.mpr c4
        have c4b1 : (a0 != 0) = true := bne_iff_ne.mpr c4
        obtain rfl := Option.some.inj H
        go_enter Try.func19, Try.ntmps19
        go_wp2
        go_ret
        exact ⟨by first | rfl | (simp; done) | (simp [*]; done), by repeat (first | exact Drawn0.refl _ | apply Drawn0.step)⟩
    · rw [if_neg c3] at H
      have c3b0 : decide (52 ≤ a0) = false := decide_eq_false c3
      clear c3
      by_cases c5 : a0 = 0
      · rw [if_pos c5] at H
        have c5b0 : (a0 == 0) = true := beq_iff_eq.mpr c5
        have c5b1 : (a0 != 0) = false := bne_eq_false_iff_eq.mpr c5
        clear c5
        obtain rfl := Option.some.inj H
        go_enter Try.func19, Try.ntmps19
        go_wp2
        go_ret
        exact ⟨by first | rfl | (simp; done) | (simp [*]; done), by repeat (first | exact Drawn0.refl _ | apply Drawn0.step)⟩
      · rw [if_neg c5] at H
        have c5b0 : (a0 == 0) = false := beq_eq_false_iff_ne.mpr c5
        have c5b1 : (a0 != 0) = true := bne_iff_ne.mpr c5
        obtain rfl := Option.some.inj H
        go_enter Try.func19, Try.ntmps19
        go_wp2
        go_ret
        exact ⟨by first | rfl | (simp; done) | (simp [*]; done), by repeat (first | exact Drawn0.refl _ | apply Drawn0.step)⟩
  · rw [if_neg c2] at H
    have c2b0 : (a0 == 1) = false := beq_eq_false_iff_ne.mpr c2
    have c2b1 : (a0 != 1) = true := bne_iff_ne.mpr c2
    by_cases c6 : a0 = 2
    · rw [if_pos c6] at H
      have c6b0 : (a0 == 2) = true := beq_iff_eq.mpr c6
      have c6b1 : (a0 != 2) = false := bne_eq_false_iff_eq.mpr c6
      clear c6
      by_cases c7 : a0 ≥ 52
      · rw [if_pos c7] at H
        have c7b0 : decide (52 ≤ a0) = true := decide_eq_true c7
        clear c7
        by_cases c8 : a0 = 0
        · rw [if_pos c8] at H
          have c8b0 : (a0 == 0) = true := beq_iff_eq.mpr c8
          have c8b1 : (a0 != 0) = false := bne_eq_false_iff_eq.mpr c8
          clear c8
          obtain rfl := Option.some.inj H
          go_enter Try.func19, Try.ntmps19
          go_wp2
          go_ret
          exact ⟨by first | rfl | (simp; done) | (simp [*]; done), by repeat (first | exact Drawn0.refl _ | apply Drawn0.step)⟩
        · rw [if_neg c8] at H
          have c8b0 : (a0 == 0) = false := beq_eq_false_iff_ne.mpr c8
          have c8b1 : (a0 != 0) = true := bne_iff_ne.mpr c8
          obtain rfl := Option.some.inj H
          go_enter Try.func19, Try.ntmps19
          go_wp2
          go_ret
          exact ⟨by first | rfl | (simp; done) | (simp [*]; done), by repeat (first | exact Drawn0.refl _ | apply Drawn0.step)⟩
      · rw [if_neg c7] at H
        have c7b0 : decide (52 ≤ a0) = false := decide_eq_false c7
        clear c7
        by_cases c9 : a0 = 0
        · rw [if_pos c9] at H
          have c9b0 : (a0 == 0) = true := beq_iff_eq.mpr c9
          have c9b1 : (a0 != 0) = false := bne_eq_false_iff_eq.mpr c9
          clear c9
          obtain rfl := Option.some.inj H
          go_enter Try.func19, Try.ntmps19
          go_wp2
          go_ret
          exact ⟨by first | rfl | (simp; done) | (simp [*]; done), by repeat (first | exact Drawn0.refl _ | apply Drawn0.step)⟩
        · rw [if_neg c9] at H
          have c9b0 : (a0 == 0) = false := beq_eq_false_iff_ne.mpr c9
          have c9b1 : (a0 != 0) = true := bne_iff_ne.mpr c9
          obtain rfl := Option.some.inj H
          go_enter Try.func19, Try.ntmps19
          go_wp2
          go_ret
          exact ⟨by first | rfl | (simp; done) | (simp [*]; done), by repeat (first | exact Drawn0.refl _ | apply Drawn0.step)⟩
    · rw [if_neg c6] at H
      have c6b0 : (a0 == 2) = false := beq_eq_false_iff_ne.mpr c6
      have c6b1 : (a0 != 2) = true := bne_iff_ne.mpr c6
      by_cases c10 : a0 ≥ 52
      · rw [if_pos c10] at H
        have c10b0 : decide (52 ≤ a0) = true := decide_eq_true c10
        clear c10
        by_cases c11 : a0 = 0
        · rw [if_pos c11] at H
          have c11b0 : (a0 == 0) = true := beq_iff_eq.mpr c11
          have c11b1 : (a0 != 0) = false := bne_eq_false_iff_eq.mpr c11
          clear c11
          obtain rfl := Option.some.inj H
          go_enter Try.func19, Try.ntmps19
          go_wp2
          go_ret
          exact ⟨by first | rfl | (simp; done) | (simp [*]; done), by repeat (first | exact Drawn0.refl _ | apply Drawn0.step)⟩
        · rw [if_neg c11] at H
          have c11b0 : (a0 == 0) = false := beq_eq_false_iff_ne.mpr c11
          have c11b1 : (a0 != 0) = true := bne_iff_ne.mpr c11
          by_cases c12 : a0 = 3
          · rw [if_pos c12] at H
            have c12b0 : (a0 == 3) = true := beq_iff_eq.mpr c12
            have c12b1 : (a0 != 3) = false := bne_eq_false_iff_eq.mpr c12
            clear c12
            obtain rfl := Option.some.inj H
            go_enter Try.func19, Try.ntmps19
            go_wp2
            go_ret
            exact ⟨by first | rfl | (simp; done) | (simp [*]; done), by repeat (first | exact Drawn0.refl _ | apply Drawn0.step)⟩
          · rw [if_neg c12] at H
            have c12b0 : (a0 == 3) = false := beq_eq_false_iff_ne.mpr c12
            have c12b1 : (a0 != 3) = true := bne_iff_ne.mpr c12
            obtain rfl := Option.some.inj H
            go_enter Try.func19, Try.ntmps19
            go_wp2
            go_ret
            exact ⟨by first | rfl | (simp; done) | (simp [*]; done), by repeat (first | exact Drawn0.refl _ | apply Drawn0.step)⟩
      · rw [if_neg c10] at H
        have c10b0 : decide (52 ≤ a0) = false := decide_eq_false c10
        clear c10
        by_cases c13 : a0 = 0
        · rw [if_pos c13] at H
          have c13b0 : (a0 == 0) = true := beq_iff_eq.mpr c13
          have c13b1 : (a0 != 0) = false := bne_eq_false_iff_eq.mpr c13
          clear c13
          obtain rfl := Option.some.inj H
          go_enter Try.func19, Try.ntmps19
          go_wp2
          go_ret
          exact ⟨by first | rfl | (simp; done) | (simp [*]; done), by repeat (first | exact Drawn0.refl _ | apply Drawn0.step)⟩
        · rw [if_neg c13] at H
          have c13b0 : (a0 == 0) = false := beq_eq_false_iff_ne.mpr c13
          have c13b1 : (a0 != 0) = true := bne_iff_ne.mpr c13
          by_cases c14 : a0 = 3
          · rw [if_pos c14] at H
            have c14b0 : (a0 == 3) = true := beq_iff_eq.mpr c14
            have c14b1 : (a0 != 3) = false := bne_eq_false_iff_eq.mpr c14
            clear c14
            obtain rfl := Option.some.inj H
            go_enter Try.func19, Try.ntmps19
            go_wp2
            go_ret
            exact ⟨by first | rfl | (simp; done) | (simp [*]; done), by repeat (first | exact Drawn0.refl _ | apply Drawn0.step)⟩
          · rw [if_neg c14] at H
            have c14b0 : (a0 == 3) = false := beq_eq_false_iff_ne.mpr c14
            have c14b1 : (a0 != 3) = true := bne_iff_ne.mpr c14
            obtain rfl := Option.some.inj H
            go_enter Try.func19, Try.ntmps19
            go_wp2
            go_ret
            exact ⟨by first | rfl | (simp; done) | (simp [*]; done), by repeat (first | exact Drawn0.refl _ | apply Drawn0.step)⟩

end Go.Proofs.Ytiibhggjlandmaa.PDecodeMoves
