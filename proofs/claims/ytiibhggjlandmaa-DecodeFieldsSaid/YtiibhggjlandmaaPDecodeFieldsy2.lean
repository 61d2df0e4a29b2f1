-- Written by a program (a turned copy of the kit's print.py) for this claim. Lean checks it.
import Derived.Test.YtiibhggjlandmaaPDecodeFieldsy0
import Derived.Test.YtiibhggjlandmaaPDecodeFieldsy1
namespace Go.Proofs.Ytiibhggjlandmaa.PDecodeFields
open Go.RowKit Go.Proofs.YtiibhggjlandmaaW.PrintWords Go.Proofs.YtiibhggjlandmaaW.PrintLast Go.Proofs.YtiibhggjlandmaaW.PrintMore Go.Proofs.Ytiibhggjlandmaa.PB
attribute [local go_sem] max2_int min2_int max_two min_two max_three min_three max_four min_four   -- for this text's walks alone
set_option linter.unusedVariables false
set_option linter.unusedSimpArgs false

attribute [local go_sem high] eqA29
-- given elsewhere: function 11 (decode_Length)

-- given elsewhere: function 9 (decode_Expand)

-- given elsewhere: function 13 (decode_Decode)

/-! ### anvillaw05_first: function 15 -/
def anvillaw05_first.f (k : Nat)  : Option (Bool) := (decode_Decode.f k 4293918867).bind fun bt101 => (if (!(bt101.1 == 22) || (!(bt101.2.1 == 1) || (!(bt101.2.2.1 == 0) || (!(bt101.2.2.2.1 == 0) || (!(bt101.2.2.2.2.1 == (-1)) || (bt101.2.2.2.2.2.1 || (bt101.2.2.2.2.2.2.1 || (!(bt101.2.2.2.2.2.2.2.1 == 4) || (!(bt101.2.2.2.2.2.2.2.2 == 4293918867)))))))))) = true then (some false) else ((decode_Expand.f k 17669).bind fun bt110 => (if bt110.2 = true then (if bt110.1 = 1049875 then ((decode_Decode.f k 17669).bind fun bt112 => (some (bt112.1 == 22 && (bt112.2.1 == 10 && (bt112.2.2.1 == 0 && (bt112.2.2.2.1 == 0 && (bt112.2.2.2.2.1 == 1 && (!bt112.2.2.2.2.2.1 && (!bt112.2.2.2.2.2.2.1 && (bt112.2.2.2.2.2.2.2.1 == 2 && (bt112.2.2.2.2.2.2.2.2 == 17669))))))))))) else (some false)) else (some false))))
theorem anvillaw05_first.mono : ∀ k, LeO (anvillaw05_first.f k ) (anvillaw05_first.f (k + 1) ) := by
  intro  k
  unfold anvillaw05_first.f
  repeat' first
      | (with_reducible exact decode_Decode.mono _ _)
      | (with_reducible exact decode_Expand.mono _ _)
      | (with_reducible exact LeO.refl _)
      | (with_reducible exact LeO.none _)
      | (with_reducible refine LeO.ite ?_ ?_)
      | (with_reducible refine LeO.bind ?_ (fun _ => ?_))
      | exact decode_Decode.mono _ _
      | exact decode_Expand.mono _ _
      | exact LeO.none _
      | refine LeO.ite ?_ ?_
      | refine LeO.bind ?_ (fun _ => ?_)
set_option maxHeartbeats 8000000 in
set_option maxRecDepth 100000 in
theorem anvillaw05_first.calls (k : Nat)  (r : Bool) (w : World) (h : anvillaw05_first.f k  = some r) :
    Calls Try.prog 15 #[] w fun e w' => e = .returned (.bool r) ∧ Below w.heap.size w w' := by
  have hu29 := Try.underlying29
  have HB := Aside0.mk (Below.refl w.heap.size w)
  have H : ((decode_Decode.f k 4293918867).bind fun bt101 => (if (!(bt101.1 == 22) || (!(bt101.2.1 == 1) || (!(bt101.2.2.1 == 0) || (!(bt101.2.2.2.1 == 0) || (!(bt101.2.2.2.2.1 == (-1)) || (bt101.2.2.2.2.2.1 || (bt101.2.2.2.2.2.2.1 || (!(bt101.2.2.2.2.2.2.2.1 == 4) || (!(bt101.2.2.2.2.2.2.2.2 == 4293918867)))))))))) = true then (some false) else ((decode_Expand.f k 17669).bind fun bt110 => (if bt110.2 = true then (if bt110.1 = 1049875 then ((decode_Decode.f k 17669).bind fun bt112 => (some (bt112.1 == 22 && (bt112.2.1 == 10 && (bt112.2.2.1 == 0 && (bt112.2.2.2.1 == 0 && (bt112.2.2.2.2.1 == 1 && (!bt112.2.2.2.2.2.1 && (!bt112.2.2.2.2.2.2.1 && (bt112.2.2.2.2.2.2.2.1 == 2 && (bt112.2.2.2.2.2.2.2.2 == 17669))))))))))) else (some false)) else (some false))))) = some r := h
  clear h
  replace H := Option.bind_eq_some_iff.mp H
  obtain ⟨⟨t101, t102, t103, t104, t105, t106, t107, t108, t109⟩, A10, H⟩ := H
  replace H : (if (!(t101 == 22) || (!(t102 == 1) || (!(t103 == 0) || (!(t104 == 0) || (!(t105 == (-1)) || (t106 || (t107 || (!(t108 == 4) || (!(t109 == 4293918867)))))))))) = true then (some false) else ((decode_Expand.f k 17669).bind fun bt110 => (if bt110.2 = true then (if bt110.1 = 1049875 then ((decode_Decode.f k 17669).bind fun bt112 => (some (bt112.1 == 22 && (bt112.2.1 == 10 && (bt112.2.2.1 == 0 && (bt112.2.2.2.1 == 0 && (bt112.2.2.2.2.1 == 1 && (!bt112.2.2.2.2.2.1 && (!bt112.2.2.2.2.2.2.1 && (bt112.2.2.2.2.2.2.2.1 == 2 && (bt112.2.2.2.2.2.2.2.2 == 17669))))))))))) else (some false)) else (some false)))) = some r := H
  have A1 := Aside0.mk A10
  clear A10
  by_cases c2 : (!(t101 == 22) || (!(t102 == 1) || (!(t103 == 0) || (!(t104 == 0) || (!(t105 == (-1)) || (t106 || (t107 || (!(t108 == 4) || (!(t109 == 4293918867)))))))))) = true
  · rw [if_pos c2] at H
    have c2b0 : (!(t101 == 22) || (!(t102 == 1) || (!(t103 == 0) || (!(t104 == 0) || (!(t105 == (-1)) || (t106 || (t107 || (!(t108 == 4) || (!(t109 == 4293918867)))))))))) = true := c2
    clear c2
    obtain rfl := Option.some.inj H
    go_enter Try.func15, Try.ntmps15
    go_wp2_with (first | ((with_reducible refine gate_callee (f := 13) rfl ?_); refine goesL_ (some 3) rfl rfl Try.func13 (by kernel_rfl) rfl #[.int .u32 4293918867] rfl (by (try simp only [List.map_toArray, List.map_cons, List.map_nil]); first | done | rfl | (simp only [List.length_drop, List.length_take]; rfl)) ?_; (with_reducible refine (decode_Decode.calls k 4293918867 t101 t102 t103 t104 t105 t106 t107 t108 t109 _ A1.out).mono ?_); rintro e w3 ⟨rfl, hb⟩; refine ⟨_, rfl, ?_⟩; have n0_ := Aside0.mk (below_step (by repeat (first | (with_reducible first | exact HB.out | apply below_alloc | apply pw_below_drewN | apply below_drew1) | exact HB.out)) hb); clear HB; have HB := n0_; clear n0_; (try clear hb); (try clear hb2); (try clear hk); (try clear hi)))
    go_ret
    exact ⟨by first | rfl | (simp [errW_none, errW_some] <;> rfl) | (simp [*, errW_none, errW_some] <;> rfl), by repeat (first | (with_reducible first | exact HB.out | apply below_alloc | apply pw_below_drewN | apply below_drew1) | exact HB.out)⟩
  · rw [if_neg c2] at H
    have c2b0 : (!(t101 == 22) || (!(t102 == 1) || (!(t103 == 0) || (!(t104 == 0) || (!(t105 == (-1)) || (t106 || (t107 || (!(t108 == 4) || (!(t109 == 4293918867)))))))))) = false := by simpa using c2
    clear c2
    replace H := Option.bind_eq_some_iff.mp H
    obtain ⟨⟨t110, t111⟩, A40, H⟩ := H
    replace H : (if t111 = true then (if t110 = 1049875 then ((decode_Decode.f k 17669).bind fun bt112 => (some (bt112.1 == 22 && (bt112.2.1 == 10 && (bt112.2.2.1 == 0 && (bt112.2.2.2.1 == 0 && (bt112.2.2.2.2.1 == 1 && (!bt112.2.2.2.2.2.1 && (!bt112.2.2.2.2.2.2.1 && (bt112.2.2.2.2.2.2.2.1 == 2 && (bt112.2.2.2.2.2.2.2.2 == 17669))))))))))) else (some false)) else (some false)) = some r := H
    have A4 := Aside0.mk A40
    clear A40
    by_cases c5 : t111 = true
    · subst c5
      have H1 : (if t110 = 1049875 then ((decode_Decode.f k 17669).bind fun bt112 => (some (bt112.1 == 22 && (bt112.2.1 == 10 && (bt112.2.2.1 == 0 && (bt112.2.2.2.1 == 0 && (bt112.2.2.2.2.1 == 1 && (!bt112.2.2.2.2.2.1 && (!bt112.2.2.2.2.2.2.1 && (bt112.2.2.2.2.2.2.2.1 == 2 && (bt112.2.2.2.2.2.2.2.2 == 17669))))))))))) else (some false)) = some r := by rw [if_pos rfl] at H; exact H
      clear H
      have H := H1
      clear H1
      by_cases c6 : t110 = 1049875
      · rw [if_pos c6] at H
        have c6b0 : (t110 == 1049875) = true := beq_iff_eq.mpr c6
        have c6b1 : (t110 != 1049875) = false := bne_eq_false_iff_eq.mpr c6
        clear c6
        replace H := Option.bind_eq_some_iff.mp H
        obtain ⟨⟨t112, t113, t114, t115, t116, t117, t118, t119, t120⟩, A70, H⟩ := H
        replace H : (some (t112 == 22 && (t113 == 10 && (t114 == 0 && (t115 == 0 && (t116 == 1 && (!t117 && (!t118 && (t119 == 2 && (t120 == 17669)))))))))) = some r := H
        have A7 := Aside0.mk A70
        clear A70
        obtain rfl := Option.some.inj H
        go_enter Try.func15, Try.ntmps15
        go_wp2_with (first | ((with_reducible refine gate_callee (f := 13) rfl ?_); refine goesL_ (some 3) rfl rfl Try.func13 (by kernel_rfl) rfl #[.int .u32 4293918867] rfl (by (try simp only [List.map_toArray, List.map_cons, List.map_nil]); first | done | rfl | (simp only [List.length_drop, List.length_take]; rfl)) ?_; (with_reducible refine (decode_Decode.calls k 4293918867 t101 t102 t103 t104 t105 t106 t107 t108 t109 _ A1.out).mono ?_); rintro e w8 ⟨rfl, hb⟩; refine ⟨_, rfl, ?_⟩; have n0_ := Aside0.mk (below_step (by repeat (first | (with_reducible first | exact HB.out | apply below_alloc | apply pw_below_drewN | apply below_drew1) | exact HB.out)) hb); clear HB; have HB := n0_; clear n0_; (try clear hb); (try clear hb2); (try clear hk); (try clear hi)) | ((with_reducible refine gate_callee (f := 9) rfl ?_); refine goesL_ (some 7) rfl rfl Try.func9 (by kernel_rfl) rfl #[.int .u16 17669] rfl (by (try simp only [List.map_toArray, List.map_cons, List.map_nil]); first | done | rfl | (simp only [List.length_drop, List.length_take]; rfl)) ?_; (with_reducible refine (decode_Expand.calls k 17669 t110 true _ A4.out).mono ?_); rintro e w' ⟨rfl, ⟨nd, rfl⟩⟩; refine ⟨_, rfl, ?_⟩) | (go_at_call 13; (with_reducible refine (decode_Decode.calls k 17669 t112 t113 t114 t115 t116 t117 t118 t119 t120 _ A7.out).mono ?_); rintro e w9 ⟨rfl, hb⟩; have n0_ := Aside0.mk (below_step (by repeat (first | (with_reducible first | exact HB.out | apply below_alloc | apply pw_below_drewN | apply below_drew1) | exact HB.out)) hb); clear HB; have HB := n0_; clear n0_; (try clear hb); (try clear hb2); (try clear hk); (try clear hi)))
        go_ret
        exact ⟨by first | rfl | (simp [errW_none, errW_some] <;> rfl) | (simp [*, errW_none, errW_some] <;> rfl), by repeat (first | (with_reducible first | exact HB.out | apply below_alloc | apply pw_below_drewN | apply below_drew1) | exact HB.out)⟩
      · rw [if_neg c6] at H
        have c6b0 : (t110 == 1049875) = false := beq_eq_false_iff_ne.mpr c6
        have c6b1 : (t110 != 1049875) = true := bne_iff_ne.mpr c6
        obtain rfl := Option.some.inj H
        go_enter Try.func15, Try.ntmps15
        go_wp2_with (first | ((with_reducible refine gate_callee (f := 13) rfl ?_); refine goesL_ (some 3) rfl rfl Try.func13 (by kernel_rfl) rfl #[.int .u32 4293918867] rfl (by (try simp only [List.map_toArray, List.map_cons, List.map_nil]); first | done | rfl | (simp only [List.length_drop, List.length_take]; rfl)) ?_; (with_reducible refine (decode_Decode.calls k 4293918867 t101 t102 t103 t104 t105 t106 t107 t108 t109 _ A1.out).mono ?_); rintro e w10 ⟨rfl, hb⟩; refine ⟨_, rfl, ?_⟩; have n0_ := Aside0.mk (below_step (by repeat (first | (with_reducible first | exact HB.out | apply below_alloc | apply pw_below_drewN | apply below_drew1) | exact HB.out)) hb); clear HB; have HB := n0_; clear n0_; (try clear hb); (try clear hb2); (try clear hk); (try clear hi)) | ((with_reducible refine gate_callee (f := 9) rfl ?_); refine goesL_ (some 7) rfl rfl Try.func9 (by kernel_rfl) rfl #[.int .u16 17669] rfl (by (try simp only [List.map_toArray, List.map_cons, List.map_nil]); first | done | rfl | (simp only [List.length_drop, List.length_take]; rfl)) ?_; (with_reducible refine (decode_Expand.calls k 17669 t110 true _ A4.out).mono ?_); rintro e w' ⟨rfl, ⟨nd, rfl⟩⟩; refine ⟨_, rfl, ?_⟩))
        go_ret
        exact ⟨by first | rfl | (simp [errW_none, errW_some] <;> rfl) | (simp [*, errW_none, errW_some] <;> rfl), by repeat (first | (with_reducible first | exact HB.out | apply below_alloc | apply pw_below_drewN | apply below_drew1) | exact HB.out)⟩
    · replace c5 := Bool.eq_false_iff.mpr c5
      subst c5
      have H1 : (some false) = some r := by rw [if_neg (show ¬ (false = true) by decide)] at H; exact H
      clear H
      have H := H1
      clear H1
      obtain rfl := Option.some.inj H
      go_enter Try.func15, Try.ntmps15
      go_wp2_with (first | ((with_reducible refine gate_callee (f := 13) rfl ?_); refine goesL_ (some 3) rfl rfl Try.func13 (by kernel_rfl) rfl #[.int .u32 4293918867] rfl (by (try simp only [List.map_toArray, List.map_cons, List.map_nil]); first | done | rfl | (simp only [List.length_drop, List.length_take]; rfl)) ?_; (with_reducible refine (decode_Decode.calls k 4293918867 t101 t102 t103 t104 t105 t106 t107 t108 t109 _ A1.out).mono ?_); rintro e w11 ⟨rfl, hb⟩; refine ⟨_, rfl, ?_⟩; have n0_ := Aside0.mk (below_step (by repeat (first | (with_reducible first | exact HB.out | apply below_alloc | apply pw_below_drewN | apply below_drew1) | exact HB.out)) hb); clear HB; have HB := n0_; clear n0_; (try clear hb); (try clear hb2); (try clear hk); (try clear hi)) | ((with_reducible refine gate_callee (f := 9) rfl ?_); refine goesL_ (some 7) rfl rfl Try.func9 (by kernel_rfl) rfl #[.int .u16 17669] rfl (by (try simp only [List.map_toArray, List.map_cons, List.map_nil]); first | done | rfl | (simp only [List.length_drop, List.length_take]; rfl)) ?_; (with_reducible refine (decode_Expand.calls k 17669 t110 false _ A4.out).mono ?_); rintro e w' ⟨rfl, ⟨nd, rfl⟩⟩; refine ⟨_, rfl, ?_⟩))
      go_ret
      exact ⟨by first | rfl | (simp [errW_none, errW_some] <;> rfl) | (simp [*, errW_none, errW_some] <;> rfl), by repeat (first | (with_reducible first | exact HB.out | apply below_alloc | apply pw_below_drewN | apply below_drew1) | exact HB.out)⟩

/-! ### anvillaw05_bound: function 16 -/
mutual
def anvillaw05_bound.j0 : Nat → Int → Bool → Option (Int × Int × Int)
  | 0, _, _ => none
  | k + 1, x0, x5 => if x5 = true then (some ((-2147483648), 2147479552, 4096)) else (if x0 = 3 then (some ((-1048576), 1048574, 2)) else (if x0 ≥ 5 then (anvillaw05_bound.j1 k x0 (decide (x0 ≤ 10))) else (anvillaw05_bound.j1 k x0 false)))
def anvillaw05_bound.j1 : Nat → Int → Bool → Option (Int × Int × Int)
  | 0, _, _ => none
  | k + 1, x0, x15 => if x15 = true then (some ((-4096), 4094, 2)) else (if x0 = 28 then (anvillaw05_bound.j2 k x0 true) else (if x0 = 29 then (anvillaw05_bound.j2 k x0 true) else (anvillaw05_bound.j2 k x0 (x0 == 30))))
def anvillaw05_bound.j2 : Nat → Int → Bool → Option (Int × Int × Int)
  | 0, _, _ => none
  | k + 1, x0, x22 => if x22 = true then (some (0, 63, 1)) else (if x0 = 32 then (anvillaw05_bound.j3 k x0 true) else (if x0 = 33 then (anvillaw05_bound.j3 k x0 true) else (anvillaw05_bound.j3 k x0 (x0 == 34))))
def anvillaw05_bound.j3 : Nat → Int → Bool → Option (Int × Int × Int)
  | 0, _, _ => none
  | k + 1, x0, x33 => if x33 = true then (some (0, 31, 1)) else (if x0 = 50 then (anvillaw05_bound.j4 k x0 true) else (if x0 = 51 then (anvillaw05_bound.j4 k x0 true) else (if x0 ≥ 56 then (anvillaw05_bound.j4 k x0 (decide (x0 ≤ 61))) else (anvillaw05_bound.j4 k x0 false))))
def anvillaw05_bound.j4 : Nat → Int → Bool → Option (Int × Int × Int)
  | 0, _, _ => none
  | k + 1, x0, x44 => if x44 = true then (some (0, 4095, 1)) else (if x0 = 4 then (some ((-2048), 2047, 1)) else (if x0 ≥ 11 then (if x0 ≤ 21 then (some ((-2048), 2047, 1)) else (if x0 ≥ 22 then (if x0 ≤ 27 then (some ((-2048), 2047, 1)) else (if x0 = 31 then (some ((-2048), 2047, 1)) else (some (0, 0, 1)))) else (if x0 = 31 then (some ((-2048), 2047, 1)) else (some (0, 0, 1))))) else (if x0 ≥ 22 then (if x0 ≤ 27 then (some ((-2048), 2047, 1)) else (if x0 = 31 then (some ((-2048), 2047, 1)) else (some (0, 0, 1)))) else (if x0 = 31 then (some ((-2048), 2047, 1)) else (some (0, 0, 1))))))
end
def anvillaw05_bound.f (k : Nat) (a0 : Int) : Option (Int × Int × Int) := if a0 = 1 then (anvillaw05_bound.j0 k a0 true) else (anvillaw05_bound.j0 k a0 (a0 == 2))
theorem anvillaw05_bound.mono_l : ∀ k, (∀ y0 y1, LeO (anvillaw05_bound.j0 k y0 y1) (anvillaw05_bound.j0 (k + 1) y0 y1)) ∧ (∀ y0 y1, LeO (anvillaw05_bound.j1 k y0 y1) (anvillaw05_bound.j1 (k + 1) y0 y1)) ∧ (∀ y0 y1, LeO (anvillaw05_bound.j2 k y0 y1) (anvillaw05_bound.j2 (k + 1) y0 y1)) ∧ (∀ y0 y1, LeO (anvillaw05_bound.j3 k y0 y1) (anvillaw05_bound.j3 (k + 1) y0 y1)) ∧ (∀ y0 y1, LeO (anvillaw05_bound.j4 k y0 y1) (anvillaw05_bound.j4 (k + 1) y0 y1))
  | 0 => ⟨fun _ _ r h => by simp [anvillaw05_bound.j0] at h, fun _ _ r h => by simp [anvillaw05_bound.j1] at h, fun _ _ r h => by simp [anvillaw05_bound.j2] at h, fun _ _ r h => by simp [anvillaw05_bound.j3] at h, fun _ _ r h => by simp [anvillaw05_bound.j4] at h⟩
  | k + 1 => by
    obtain ⟨ih0, ih1, ih2, ih3, ih4⟩ := anvillaw05_bound.mono_l k
    refine ⟨?_, ?_, ?_, ?_, ?_⟩
    · intro y0 y1
      unfold anvillaw05_bound.j0
      repeat' first
      | (with_reducible exact ih0 _ _)
      | (with_reducible exact ih1 _ _)
      | (with_reducible exact ih2 _ _)
      | (with_reducible exact ih3 _ _)
      | (with_reducible exact ih4 _ _)
      | (with_reducible exact LeO.refl _)
      | (with_reducible exact LeO.none _)
      | (with_reducible refine LeO.ite ?_ ?_)
      | (with_reducible refine LeO.bind ?_ (fun _ => ?_))
      | exact ih0 _ _
      | exact ih1 _ _
      | exact ih2 _ _
      | exact ih3 _ _
      | exact ih4 _ _
      | exact LeO.none _
      | refine LeO.ite ?_ ?_
      | refine LeO.bind ?_ (fun _ => ?_)
    · intro y0 y1
      unfold anvillaw05_bound.j1
      repeat' first
      | (with_reducible exact ih0 _ _)
      | (with_reducible exact ih1 _ _)
      | (with_reducible exact ih2 _ _)
      | (with_reducible exact ih3 _ _)
      | (with_reducible exact ih4 _ _)
      | (with_reducible exact LeO.refl _)
      | (with_reducible exact LeO.none _)
      | (with_reducible refine LeO.ite ?_ ?_)
      | (with_reducible refine LeO.bind ?_ (fun _ => ?_))
      | exact ih0 _ _
      | exact ih1 _ _
      | exact ih2 _ _
      | exact ih3 _ _
      | exact ih4 _ _
      | exact LeO.none _
      | refine LeO.ite ?_ ?_
      | refine LeO.bind ?_ (fun _ => ?_)
    · intro y0 y1
      unfold anvillaw05_bound.j2
      repeat' first
      | (with_reducible exact ih0 _ _)
      | (with_reducible exact ih1 _ _)
      | (with_reducible exact ih2 _ _)
      | (with_reducible exact ih3 _ _)
      | (with_reducible exact ih4 _ _)
      | (with_reducible exact LeO.refl _)
      | (with_reducible exact LeO.none _)
      | (with_reducible refine LeO.ite ?_ ?_)
      | (with_reducible refine LeO.bind ?_ (fun _ => ?_))
      | exact ih0 _ _
      | exact ih1 _ _
      | exact ih2 _ _
      | exact ih3 _ _
      | exact ih4 _ _
      | exact LeO.none _
      | refine LeO.ite ?_ ?_
      | refine LeO.bind ?_ (fun _ => ?_)
    · intro y0 y1
      unfold anvillaw05_bound.j3
      repeat' first
      | (with_reducible exact ih0 _ _)
      | (with_reducible exact ih1 _ _)
      | (with_reducible exact ih2 _ _)
      | (with_reducible exact ih3 _ _)
      | (with_reducible exact ih4 _ _)
      | (with_reducible exact LeO.refl _)
      | (with_reducible exact LeO.none _)
      | (with_reducible refine LeO.ite ?_ ?_)
      | (with_reducible refine LeO.bind ?_ (fun _ => ?_))
      | exact ih0 _ _
      | exact ih1 _ _
      | exact ih2 _ _
      | exact ih3 _ _
      | exact ih4 _ _
      | exact LeO.none _
      | refine LeO.ite ?_ ?_
      | refine LeO.bind ?_ (fun _ => ?_)
    · intro y0 y1
      unfold anvillaw05_bound.j4
      repeat' first
      | (with_reducible exact ih0 _ _)
      | (with_reducible exact ih1 _ _)
      | (with_reducible exact ih2 _ _)
      | (with_reducible exact ih3 _ _)
      | (with_reducible exact ih4 _ _)
      | (with_reducible exact LeO.refl _)
      | (with_reducible exact LeO.none _)
      | (with_reducible refine LeO.ite ?_ ?_)
      | (with_reducible refine LeO.bind ?_ (fun _ => ?_))
      | exact ih0 _ _
      | exact ih1 _ _
      | exact ih2 _ _
      | exact ih3 _ _
      | exact ih4 _ _
      | exact LeO.none _
      | refine LeO.ite ?_ ?_
      | refine LeO.bind ?_ (fun _ => ?_)
theorem anvillaw05_bound.mono : ∀ a0 k, LeO (anvillaw05_bound.f k a0) (anvillaw05_bound.f (k + 1) a0) := by
  intro a0 k
  obtain ⟨ih0, ih1, ih2, ih3, ih4⟩ := anvillaw05_bound.mono_l k
  unfold anvillaw05_bound.f
  repeat' first
      | (with_reducible exact ih0 _ _)
      | (with_reducible exact ih1 _ _)
      | (with_reducible exact ih2 _ _)
      | (with_reducible exact ih3 _ _)
      | (with_reducible exact ih4 _ _)
      | (with_reducible exact LeO.refl _)
      | (with_reducible exact LeO.none _)
      | (with_reducible refine LeO.ite ?_ ?_)
      | (with_reducible refine LeO.bind ?_ (fun _ => ?_))
      | exact ih0 _ _
      | exact ih1 _ _
      | exact ih2 _ _
      | exact ih3 _ _
      | exact ih4 _ _
      | exact LeO.none _
      | refine LeO.ite ?_ ?_
      | refine LeO.bind ?_ (fun _ => ?_)
set_option maxHeartbeats 8000000 in
set_option maxRecDepth 100000 in
theorem anvillaw05_bound.calls (k : Nat) (a0 : Int) (r1 : Int) (r2 : Int) (r3 : Int) (w : World) (h : anvillaw05_bound.f k a0 = some (r1, r2, r3)) :
    Calls Try.prog 16 #[.int .i64 a0] w fun e w' => e = .returned (.tuple #[.int .i64 r1, .int .i64 r2, .int .i64 r3]) ∧ Drawn0 w w' := by
  have H : (if a0 = 1 then (anvillaw05_bound.j0 k a0 true) else (anvillaw05_bound.j0 k a0 (a0 == 2))) = some (r1, r2, r3) := h
  clear h
  have HC2 := Aside0.mk H
  clear H
  go_enter Try.func16, Try.ntmps16
  go_upto_region 1 with (fail)
  go_cut [5] (fun v5 wc => ∃ (kq : Nat) (x5_1 : Bool), v5 = .bool x5_1 ∧ Aside0 (anvillaw05_bound.j0 kq a0 x5_1 = some (r1, r2, r3)) ∧ Aside0 (kq ≤ k) ∧ Drawn0 w wc)
  case first =>
    have H := HC2.out
    clear HC2
    by_cases c3 : a0 = 1
    · rw [if_pos c3] at H
      have c3b0 : (a0 == 1) = true := beq_iff_eq.mpr c3
      have c3b1 : (a0 != 1) = false := bne_eq_false_iff_eq.mpr c3
      clear c3
      (first | rw [c3b0] | (simp only [i64_w, i32_w]; rw [c3b0]) | skip)
      have H' := Aside0.mk H
      clear H
      go_wp2
      go_meet
      case rel => exact ⟨_, (true), (by first | rfl | (simp; done) | (simp [*]; done)), H', ⟨by first | omega | exact Nat.le_refl _⟩, by repeat (first | exact Drawn0.refl _ | apply Drawn0.step)⟩
    · rw [if_neg c3] at H
      have c3b0 : (a0 == 1) = false := beq_eq_false_iff_ne.mpr c3
      have c3b1 : (a0 != 1) = true := bne_iff_ne.mpr c3
      (first | rw [c3b0] | (simp only [i64_w, i32_w]; rw [c3b0]) | skip)
      have H' := Aside0.mk H
      clear H
      go_wp2
      go_meet
      case rel => exact ⟨_, ((a0 == 2)), (by first | rfl | (simp; done) | (simp [*]; done)), H', ⟨by first | omega | exact Nat.le_refl _⟩, by repeat (first | exact Drawn0.refl _ | apply Drawn0.step)⟩
  case rest =>
    clear HC2
    try clear c1
    try clear p2
    try clear c3
    try clear c3b0
    try clear c3b1
    obtain ⟨kq, x5_1, rfl, HA, HJ1, ⟨mc1, rfl⟩⟩ := hcut
    cases kq with
    | zero => exact absurd HA.out (by simp [anvillaw05_bound.j0])
    | succ kj1 =>
      have H := HA.out
      clear HA
      simp only [anvillaw05_bound.j0] at H
      by_cases c4 : x5_1 = true
      · subst c4
        have H1 : (some ((-2147483648), 2147479552, 4096)) = some (r1, r2, r3) := by rw [if_pos rfl] at H; exact H
        clear H
        have H := H1
        clear H1
        simp only [Option.some.injEq, Prod.mk.injEq] at H
        obtain ⟨rfl, rfl, rfl⟩ := H
        go_wp2
        go_ret3
        exact ⟨by first | rfl | (simp; done) | (simp [*]; done), by repeat (first | exact Drawn0.refl _ | apply Drawn0.step)⟩
      · replace c4 := Bool.eq_false_iff.mpr c4
        subst c4
        have H1 : (if a0 = 3 then (some ((-1048576), 1048574, 2)) else (if a0 ≥ 5 then (anvillaw05_bound.j1 kj1 a0 (decide (a0 ≤ 10))) else (anvillaw05_bound.j1 kj1 a0 false))) = some (r1, r2, r3) := by rw [if_neg (show ¬ (false = true) by decide)] at H; exact H
        clear H
        have H := H1
        clear H1
        by_cases c5 : a0 = 3
        · rw [if_pos c5] at H
          have c5b0 : (a0 == 3) = true := beq_iff_eq.mpr c5
          have c5b1 : (a0 != 3) = false := bne_eq_false_iff_eq.mpr c5
          clear c5
          simp only [Option.some.injEq, Prod.mk.injEq] at H
          obtain ⟨rfl, rfl, rfl⟩ := H
          go_wp2
          go_ret3
          exact ⟨by first | rfl | (simp; done) | (simp [*]; done), by repeat (first | exact Drawn0.refl _ | apply Drawn0.step)⟩
        · rw [if_neg c5] at H
          have c5b0 : (a0 == 3) = false := beq_eq_false_iff_ne.mpr c5
          have c5b1 : (a0 != 3) = true := bne_iff_ne.mpr c5
          have HC6 := Aside0.mk H
          clear H
          go_upto_region 5 with (fail)
          go_cut [15] (fun v15 wc => ∃ (kq : Nat) (x15_5 : Bool), v15 = .bool x15_5 ∧ Aside0 (anvillaw05_bound.j1 kq a0 x15_5 = some (r1, r2, r3)) ∧ Aside0 (kq ≤ kj1) ∧ Drawn0 w wc)
          case first =>
            have H := HC6.out
            clear HC6
            by_cases c7 : a0 ≥ 5
            · rw [if_pos c7] at H
              have c7b0 : decide (5 ≤ a0) = true := decide_eq_true c7
              clear c7
              (first | rw [c7b0] | (simp only [i64_w, i32_w]; rw [c7b0]) | skip)
              have H' := Aside0.mk H
              clear H
              go_wp2
              go_meet
              case rel => exact ⟨_, (decide (a0 ≤ 10)), (by first | rfl | (simp; done) | (simp [*]; done)), H', ⟨by have := HJ1.out; first | omega | exact Nat.le_refl _⟩, by repeat (first | exact Drawn0.refl _ | apply Drawn0.step)⟩
            · rw [if_neg c7] at H
              have c7b0 : decide (5 ≤ a0) = false := decide_eq_false c7
              clear c7
              (first | rw [c7b0] | (simp only [i64_w, i32_w]; rw [c7b0]) | skip)
              have H' := Aside0.mk H
              clear H
              go_wp2
              go_meet
              case rel => exact ⟨_, (false), (by first | rfl | (simp; done) | (simp [*]; done)), H', ⟨by have := HJ1.out; first | omega | exact Nat.le_refl _⟩, by repeat (first | exact Drawn0.refl _ | apply Drawn0.step)⟩
          case rest =>
            clear HC6
            try clear c1
            try clear p2
            try clear c3
            try clear c3b0
            try clear c3b1
            try clear c4
            try clear c5
            try clear c5b0
            try clear c5b1
            try clear c7
            try clear c7b0
            try clear p2
            obtain ⟨kq, x15_5, rfl, HA, HJ5, ⟨mc5, rfl⟩⟩ := hcut
            cases kq with
            | zero => exact absurd HA.out (by simp [anvillaw05_bound.j1])
            | succ kj5 =>
              have H := HA.out
              clear HA
              simp only [anvillaw05_bound.j1] at H
              by_cases c8 : x15_5 = true
              · subst c8
                have H1 : (some ((-4096), 4094, 2)) = some (r1, r2, r3) := by rw [if_pos rfl] at H; exact H
                clear H
                have H := H1
                clear H1
                simp only [Option.some.injEq, Prod.mk.injEq] at H
                obtain ⟨rfl, rfl, rfl⟩ := H
                go_wp2
                go_ret3
                exact ⟨by first | rfl | (simp; done) | (simp [*]; done), by repeat (first | exact Drawn0.refl _ | apply Drawn0.step)⟩
              · replace c8 := Bool.eq_false_iff.mpr c8
                subst c8
                have H1 : (if a0 = 28 then (anvillaw05_bound.j2 kj5 a0 true) else (if a0 = 29 then (anvillaw05_bound.j2 kj5 a0 true) else (anvillaw05_bound.j2 kj5 a0 (a0 == 30)))) = some (r1, r2, r3) := by rw [if_neg (show ¬ (false = true) by decide)] at H; exact H
                clear H
                have H := H1
                clear H1
                have HC9 := Aside0.mk H
                clear H
                go_upto_region 7 with (fail)
                go_cut [22] (fun v22 wc => ∃ (kq : Nat) (x22_8 : Bool), v22 = .bool x22_8 ∧ Aside0 (anvillaw05_bound.j2 kq a0 x22_8 = some (r1, r2, r3)) ∧ Aside0 (kq ≤ kj5) ∧ Drawn0 w wc)
                case first =>
                  have H := HC9.out
                  clear HC9
                  by_cases c10 : a0 = 28
                  · rw [if_pos c10] at H
                    have c10b0 : (a0 == 28) = true := beq_iff_eq.mpr c10
                    have c10b1 : (a0 != 28) = false := bne_eq_false_iff_eq.mpr c10
                    clear c10
                    (first | rw [c10b0] | (simp only [i64_w, i32_w]; rw [c10b0]) | skip)
                    have H' := Aside0.mk H
                    clear H
                    go_wp2
                    go_meet
                    case rel => exact ⟨_, (true), (by first | rfl | (simp; done) | (simp [*]; done)), H', ⟨by have := HJ1.out; have := HJ5.out; first | omega | exact Nat.le_refl _⟩, by repeat (first | exact Drawn0.refl _ | apply Drawn0.step)⟩
                  · rw [if_neg c10] at H
                    have c10b0 : (a0 == 28) = false := beq_eq_false_iff_ne.mpr c10
                    have c10b1 : (a0 != 28) = true := bne_iff_ne.mpr c10
                    (first | rw [c10b0] | (simp only [i64_w, i32_w]; rw [c10b0]) | skip)
                    by_cases c11 : a0 = 29
                    · rw [if_pos c11] at H
                      have c11b0 : (a0 == 29) = true := beq_iff_eq.mpr c11
                      have c11b1 : (a0 != 29) = false := bne_eq_false_iff_eq.mpr c11
                      clear c11
                      have H' := Aside0.mk H
                      clear H
                      go_wp2
                      go_meet
                      case rel => exact ⟨_, (true), (by first | rfl | (simp; done) | (simp [*]; done)), H', ⟨by have := HJ1.out; have := HJ5.out; first | omega | exact Nat.le_refl _⟩, by repeat (first | exact Drawn0.refl _ | apply Drawn0.step)⟩
                    · rw [if_neg c11] at H
                      have c11b0 : (a0 == 29) = false := beq_eq_false_iff_ne.mpr c11
                      have c11b1 : (a0 != 29) = true := bne_iff_ne.mpr c11
                      have H' := Aside0.mk H
                      clear H
                      go_wp2
                      go_meet
                      case rel => exact ⟨_, ((a0 == 30)), (by first | rfl | (simp; done) | (simp [*]; done)), H', ⟨by have := HJ1.out; have := HJ5.out; first | omega | exact Nat.le_refl _⟩, by repeat (first | exact Drawn0.refl _ | apply Drawn0.step)⟩
                case rest =>
                  clear HC9
                  try clear c1
                  try clear p2
                  try clear c3
                  try clear c3b0
                  try clear c3b1
                  try clear c4
                  try clear c5
                  try clear c5b0
                  try clear c5b1
                  try clear c7
                  try clear c7b0
                  try clear c8
                  try clear c10
                  try clear c10b0
                  try clear c10b1
                  try clear c11
                  try clear c11b0
                  try clear c11b1
                  try clear p2
                  obtain ⟨kq, x22_8, rfl, HA, HJ8, ⟨mc8, rfl⟩⟩ := hcut
                  cases kq with
                  | zero => exact absurd HA.out (by simp [anvillaw05_bound.j2])
                  | succ kj8 =>
                    have H := HA.out
                    clear HA
                    simp only [anvillaw05_bound.j2] at H
                    by_cases c12 : x22_8 = true
                    · subst c12
                      have H1 : (some (0, 63, 1)) = some (r1, r2, r3) := by rw [if_pos rfl] at H; exact H
                      clear H
                      have H := H1
                      clear H1
                      simp only [Option.some.injEq, Prod.mk.injEq] at H
                      obtain ⟨rfl, rfl, rfl⟩ := H
                      go_wp2
                      go_ret3
                      exact ⟨by first | rfl | (simp; done) | (simp [*]; done), by repeat (first | exact Drawn0.refl _ | apply Drawn0.step)⟩
                    · replace c12 := Bool.eq_false_iff.mpr c12
                      subst c12
                      have H1 : (if a0 = 32 then (anvillaw05_bound.j3 kj8 a0 true) else (if a0 = 33 then (anvillaw05_bound.j3 kj8 a0 true) else (anvillaw05_bound.j3 kj8 a0 (a0 == 34)))) = some (r1, r2, r3) := by rw [if_neg (show ¬ (false = true) by decide)] at H; exact H
                      clear H
                      have H := H1
                      clear H1
                      have HC13 := Aside0.mk H
                      clear H
                      go_upto_region 9 with (fail)
                      go_cut [33] (fun v33 wc => ∃ (kq : Nat) (x33_12 : Bool), v33 = .bool x33_12 ∧ Aside0 (anvillaw05_bound.j3 kq a0 x33_12 = some (r1, r2, r3)) ∧ Aside0 (kq ≤ kj8) ∧ Drawn0 w wc)
                      case first =>
                        have H := HC13.out
                        clear HC13
                        by_cases c14 : a0 = 32
                        · rw [if_pos c14] at H
                          have c14b0 : (a0 == 32) = true := beq_iff_eq.mpr c14
                          have c14b1 : (a0 != 32) = false := bne_eq_false_iff_eq.mpr c14
                          clear c14
                          (first | rw [c14b0] | (simp only [i64_w, i32_w]; rw [c14b0]) | skip)
                          have H' := Aside0.mk H
                          clear H
                          go_wp2
                          go_meet
                          case rel => exact ⟨_, (true), (by first | rfl | (simp; done) | (simp [*]; done)), H', ⟨by have := HJ1.out; have := HJ5.out; have := HJ8.out; first | omega | exact Nat.le_refl _⟩, by repeat (first | exact Drawn0.refl _ | apply Drawn0.step)⟩
                        · rw [if_neg c14] at H
                          have c14b0 : (a0 == 32) = false := beq_eq_false_iff_ne.mpr c14
                          have c14b1 : (a0 != 32) = true := bne_iff_ne.mpr c14
                          (first | rw [c14b0] | (simp only [i64_w, i32_w]; rw [c14b0]) | skip)
                          by_cases c15 : a0 = 33
                          · rw [if_pos c15] at H
                            have c15b0 : (a0 == 33) = true := beq_iff_eq.mpr c15
                            have c15b1 : (a0 != 33) = false := bne_eq_false_iff_eq.mpr c15
                            clear c15
                            have H' := Aside0.mk H
                            clear H
                            go_wp2
                            go_meet
                            case rel => exact ⟨_, (true), (by first | rfl | (simp; done) | (simp [*]; done)), H', ⟨by have := HJ1.out; have := HJ5.out; have := HJ8.out; first | omega | exact Nat.le_refl _⟩, by repeat (first | exact Drawn0.refl _ | apply Drawn0.step)⟩
                          · rw [if_neg c15] at H
                            have c15b0 : (a0 == 33) = false := beq_eq_false_iff_ne.mpr c15
                            have c15b1 : (a0 != 33) = true := bne_iff_ne.mpr c15
                            have H' := Aside0.mk H
                            clear H
                            go_wp2
                            go_meet
                            case rel => exact ⟨_, ((a0 == 34)), (by first | rfl | (simp; done) | (simp [*]; done)), H', ⟨by have := HJ1.out; have := HJ5.out; have := HJ8.out; first | omega | exact Nat.le_refl _⟩, by repeat (first | exact Drawn0.refl _ | apply Drawn0.step)⟩
                      case rest =>
                        clear HC13
                        try clear c1
                        try clear p2
                        try clear c3
                        try clear c3b0
                        try clear c3b1
                        try clear c4
                        try clear c5
                        try clear c5b0
                        try clear c5b1
                        try clear c7
                        try clear c7b0
                        try clear c8
                        try clear c10
                        try clear c10b0
                        try clear c10b1
                        try clear c11
                        try clear c11b0
                        try clear c11b1
                        try clear c12
                        try clear c14
                        try clear c14b0
                        try clear c14b1
                        try clear c15
                        try clear c15b0
                        try clear c15b1
                        try clear p2
                        obtain ⟨kq, x33_12, rfl, HA, HJ12, ⟨mc12, rfl⟩⟩ := hcut
                        cases kq with
                        | zero => exact absurd HA.out (by simp [anvillaw05_bound.j3])
                        | succ kj12 =>
                          have H := HA.out
                          clear HA
                          simp only [anvillaw05_bound.j3] at H
                          by_cases c16 : x33_12 = true
                          · subst c16
                            have H1 : (some (0, 31, 1)) = some (r1, r2, r3) := by rw [if_pos rfl] at H; exact H
                            clear H
                            have H := H1
                            clear H1
                            simp only [Option.some.injEq, Prod.mk.injEq] at H
                            obtain ⟨rfl, rfl, rfl⟩ := H
                            go_wp2
                            go_ret3
                            exact ⟨by first | rfl | (simp; done) | (simp [*]; done), by repeat (first | exact Drawn0.refl _ | apply Drawn0.step)⟩
                          · replace c16 := Bool.eq_false_iff.mpr c16
                            subst c16
                            have H1 : (if a0 = 50 then (anvillaw05_bound.j4 kj12 a0 true) else (if a0 = 51 then (anvillaw05_bound.j4 kj12 a0 true) else (if a0 ≥ 56 then (anvillaw05_bound.j4 kj12 a0 (decide (a0 ≤ 61))) else (anvillaw05_bound.j4 kj12 a0 false)))) = some (r1, r2, r3) := by rw [if_neg (show ¬ (false = true) by decide)] at H; exact H
                            clear H
                            have H := H1
                            clear H1
                            have HC17 := Aside0.mk H
                            clear H
                            go_upto_region 11 with (fail)
                            go_cut [44] (fun v44 wc => ∃ (kq : Nat) (x44_16 : Bool), v44 = .bool x44_16 ∧ Aside0 (anvillaw05_bound.j4 kq a0 x44_16 = some (r1, r2, r3)) ∧ Aside0 (kq ≤ kj12) ∧ Drawn0 w wc)
                            case first =>
                              have H := HC17.out
                              clear HC17
                              by_cases c18 : a0 = 50
                              · rw [if_pos c18] at H
                                have c18b0 : (a0 == 50) = true := beq_iff_eq.mpr c18
                                have c18b1 : (a0 != 50) = false := bne_eq_false_iff_eq.mpr c18
                                clear c18
                                (first | rw [c18b0] | (simp only [i64_w, i32_w]; rw [c18b0]) | skip)
                                have H' := Aside0.mk H
                                clear H
                                go_wp2
                                go_meet
                                case rel => exact ⟨_, (true), (by first | rfl | (simp; done) | (simp [*]; done)), H', ⟨by have := HJ1.out; have := HJ5.out; have := HJ8.out; have := HJ12.out; first | omega | exact Nat.le_refl _⟩, by repeat (first | exact Drawn0.refl _ | apply Drawn0.step)⟩
                              · rw [if_neg c18] at H
                                have c18b0 : (a0 == 50) = false := beq_eq_false_iff_ne.mpr c18
                                have c18b1 : (a0 != 50) = true := bne_iff_ne.mpr c18
                                (first | rw [c18b0] | (simp only [i64_w, i32_w]; rw [c18b0]) | skip)
                                by_cases c19 : a0 = 51
                                · rw [if_pos c19] at H
                                  have c19b0 : (a0 == 51) = true := beq_iff_eq.mpr c19
                                  have c19b1 : (a0 != 51) = false := bne_eq_false_iff_eq.mpr c19
                                  clear c19
                                  have H' := Aside0.mk H
                                  clear H
                                  go_wp2
                                  go_meet
                                  case rel => exact ⟨_, (true), (by first | rfl | (simp; done) | (simp [*]; done)), H', ⟨by have := HJ1.out; have := HJ5.out; have := HJ8.out; have := HJ12.out; first | omega | exact Nat.le_refl _⟩, by repeat (first | exact Drawn0.refl _ | apply Drawn0.step)⟩
                                · rw [if_neg c19] at H
                                  have c19b0 : (a0 == 51) = false := beq_eq_false_iff_ne.mpr c19
                                  have c19b1 : (a0 != 51) = true := bne_iff_ne.mpr c19
                                  by_cases c20 : a0 ≥ 56
                                  · rw [if_pos c20] at H
                                    have c20b0 : decide (56 ≤ a0) = true := decide_eq_true c20
                                    clear c20
                                    have H' := Aside0.mk H
                                    clear H
                                    go_wp2
                                    go_meet
                                    case rel => exact ⟨_, (decide (a0 ≤ 61)), (by first | rfl | (simp; done) | (simp [*]; done)), H', ⟨by have := HJ1.out; have := HJ5.out; have := HJ8.out; have := HJ12.out; first | omega | exact Nat.le_refl _⟩, by repeat (first | exact Drawn0.refl _ | apply Drawn0.step)⟩
                                  · rw [if_neg c20] at H
                                    have c20b0 : decide (56 ≤ a0) = false := decide_eq_false c20
                                    clear c20
                                    have H' := Aside0.mk H
                                    clear H
                                    go_wp2
                                    go_meet
                                    case rel => exact ⟨_, (false), (by first | rfl | (simp; done) | (simp [*]; done)), H', ⟨by have := HJ1.out; have := HJ5.out; have := HJ8.out; have := HJ12.out; first | omega | exact Nat.le_refl _⟩, by repeat (first | exact Drawn0.refl _ | apply Drawn0.step)⟩
                            case rest =>
                              clear HC17
                              try clear c1
                              try clear c2
                              try clear p2
                              try clear c3
                              try clear c3b0
                              try clear c3b1
                              try clear c4
                              try clear c5
                              try clear c5b0
                              try clear c5b1
                              try clear c7
                              try clear c7b0
                              try clear c8
                              try clear c10
                              try clear c10b0
                              try clear c10b1
                              try clear c11
                              try clear c11b0
                              try clear c11b1
                              try clear c12
                              try clear c14
                              try clear c14b0
                              try clear c14b1
                              try clear c15
                              try clear c15b0
                              try clear c15b1
                              try clear c16
                              try clear c18
                              try clear c18b0
                              try clear c18b1
                              try clear c19
                              try clear c19b0
                              try clear c19b1
                              try clear c20
                              try clear c20b0
                              try clear p2
                              obtain ⟨kq, x44_16, rfl, HA, HJ16, ⟨mc16, rfl⟩⟩ := hcut
                              cases kq with
                              | zero => exact absurd HA.out (by simp [anvillaw05_bound.j4])
                              | succ kj16 =>
                                have H := HA.out
                                clear HA
                                simp only [anvillaw05_bound.j4] at H
                                by_cases c21 : x44_16 = true
                                · subst c21
                                  have H1 : (some (0, 4095, 1)) = some (r1, r2, r3) := by rw [if_pos rfl] at H; exact H
                                  clear H
                                  have H := H1
                                  clear H1
                                  simp only [Option.some.injEq, Prod.mk.injEq] at H
                                  obtain ⟨rfl, rfl, rfl⟩ := H
                                  go_wp2
                                  go_ret3
                                  exact ⟨by first | rfl | (simp; done) | (simp [*]; done), by repeat (first | exact Drawn0.refl _ | apply Drawn0.step)⟩
                                · replace c21 := Bool.eq_false_iff.mpr c21
                                  subst c21
                                  have H1 : (if a0 = 4 then (some ((-2048), 2047, 1)) else (if a0 ≥ 11 then (if a0 ≤ 21 then (some ((-2048), 2047, 1)) else (if a0 ≥ 22 then (if a0 ≤ 27 then (some ((-2048), 2047, 1)) else (if a0 = 31 then (some ((-2048), 2047, 1)) else (some (0, 0, 1)))) else (if a0 = 31 then (some ((-2048), 2047, 1)) else (some (0, 0, 1))))) else (if a0 ≥ 22 then (if a0 ≤ 27 then (some ((-2048), 2047, 1)) else (if a0 = 31 then (some ((-2048), 2047, 1)) else (some (0, 0, 1)))) else (if a0 = 31 then (some ((-2048), 2047, 1)) else (some (0, 0, 1)))))) = some (r1, r2, r3) := by rw [if_neg (show ¬ (false = true) by decide)] at H; exact H
                                  clear H
                                  have H := H1
                                  clear H1
                                  by_cases c22 : a0 = 4
                                  · rw [if_pos c22] at H
                                    have c22b0 : (a0 == 4) = true := beq_iff_eq.mpr c22
                                    have c22b1 : (a0 != 4) = false := bne_eq_false_iff_eq.mpr c22
                                    clear c22
                                    simp only [Option.some.injEq, Prod.mk.injEq] at H
                                    obtain ⟨rfl, rfl, rfl⟩ := H
                                    go_wp2
                                    go_ret3
                                    exact ⟨by first | rfl | (simp; done) | (simp [*]; done), by repeat (first | exact Drawn0.refl _ | apply Drawn0.step)⟩
                                  · rw [if_neg c22] at H
                                    have c22b0 : (a0 == 4) = false := beq_eq_false_iff_ne.mpr c22
                                    have c22b1 : (a0 != 4) = true := bne_iff_ne.mpr c22
                                    by_cases c23 : a0 ≥ 11
                                    · rw [if_pos c23] at H
                                      have c23b0 : decide (11 ≤ a0) = true := decide_eq_true c23
                                      clear c23
                                      by_cases c24 : a0 ≤ 21
                                      · rw [if_pos c24] at H
                                        have c24b0 : decide (a0 ≤ 21) = true := decide_eq_true c24
                                        clear c24
                                        simp only [Option.some.injEq, Prod.mk.injEq] at H
                                        obtain ⟨rfl, rfl, rfl⟩ := H
                                        go_wp2
                                        go_ret3
                                        exact ⟨by first | rfl | (simp; done) | (simp [*]; done), by repeat (first | exact Drawn0.refl _ | apply Drawn0.step)⟩
                                      · rw [if_neg c24] at H
                                        have c24b0 : decide (a0 ≤ 21) = false := decide_eq_false c24
                                        clear c24
                                        by_cases c25 : a0 ≥ 22
                                        · rw [if_pos c25] at H
                                          have c25b0 : decide (22 ≤ a0) = true := decide_eq_true c25
                                          clear c25
                                          by_cases c26 : a0 ≤ 27
                                          · rw [if_pos c26] at H
                                            have c26b0 : decide (a0 ≤ 27) = true := decide_eq_true c26
                                            clear c26
                                            simp only [Option.some.injEq, Prod.mk.injEq] at H
                                            obtain ⟨rfl, rfl, rfl⟩ := H
                                            go_wp2
                                            go_ret3
                                            exact ⟨by first | rfl | (simp; done) | (simp [*]; done), by repeat (first | exact Drawn0.refl _ | apply Drawn0.step)⟩
                                          · rw [if_neg c26] at H
                                            have c26b0 : decide (a0 ≤ 27) = false := decide_eq_false c26
                                            clear c26
                                            by_cases c27 : a0 = 31
                                            · rw [if_pos c27] at H
                                              have c27b0 : (a0 == 31) = true := beq_iff_eq.mpr c27
                                              have c27b1 : (a0 != 31) = false := bne_eq_false_iff_eq.mpr c27
                                              clear c27
                                              simp only [Option.some.injEq, Prod.mk.injEq] at H
                                              obtain ⟨rfl, rfl, rfl⟩ := H
                                              go_wp2
                                              go_ret3
                                              exact ⟨by first | rfl | (simp; done) | (simp [*]; done), by repeat (first | exact Drawn0.refl _ | apply Drawn0.step)⟩
                                            · rw [if_neg c27] at H
                                              have c27b0 : (a0 == 31) = false := beq_eq_false_iff_ne.mpr c27
                                              have c27b1 : (a0 != 31) = true := bne_iff_ne.mpr c27
                                              simp only [Option.some.injEq, Prod.mk.injEq] at H
                                              obtain ⟨rfl, rfl, rfl⟩ := H
                                              go_wp2
                                              go_ret3
                                              exact ⟨by first | rfl | (simp; done) | (simp [*]; done), by repeat (first | exact Drawn0.refl _ | apply Drawn0.step)⟩
                                        · rw [if_neg c25] at H
                                          have c25b0 : decide (22 ≤ a0) = false := decide_eq_false c25
                                          clear c25
                                          by_cases c28 : a0 = 31
                                          · rw [if_pos c28] at H
                                            have c28b0 : (a0 == 31) = true := beq_iff_eq.mpr c28
                                            have c28b1 : (a0 != 31) = false := bne_eq_false_iff_eq.mpr c28
                                            clear c28
                                            simp only [Option.some.injEq, Prod.mk.injEq] at H
                                            obtain ⟨rfl, rfl, rfl⟩ := H
                                            go_wp2
                                            go_ret3
                                            exact ⟨by first | rfl | (simp; done) | (simp [*]; done), by repeat (first | exact Drawn0.refl _ | apply Drawn0.step)⟩
                                          · rw [if_neg c28] at H
                                            have c28b0 : (a0 == 31) = false := beq_eq_false_iff_ne.mpr c28
                                            have c28b1 : (a0 != 31) = true := bne_iff_ne.mpr c28
                                            simp only [Option.some.injEq, Prod.mk.injEq] at H
                                            obtain ⟨rfl, rfl, rfl⟩ := H
                                            go_wp2
                                            go_ret3
                                            exact ⟨by first | rfl | (simp; done) | (simp [*]; done), by repeat (first | exact Drawn0.refl _ | apply Drawn0.step)⟩
                                    · rw [if_neg c23] at H
                                      have c23b0 : decide (11 ≤ a0) = false := decide_eq_false c23
                                      clear c23
                                      by_cases c29 : a0 ≥ 22
                                      · rw [if_pos c29] at H
                                        have c29b0 : decide (22 ≤ a0) = true := decide_eq_true c29
                                        clear c29
                                        by_cases c30 : a0 ≤ 27
                                        · rw [if_pos c30] at H
                                          have c30b0 : decide (a0 ≤ 27) = true := decide_eq_true c30
                                          clear c30
                                          simp only [Option.some.injEq, Prod.mk.injEq] at H
                                          obtain ⟨rfl, rfl, rfl⟩ := H
                                          go_wp2
                                          go_ret3
                                          exact ⟨by first | rfl | (simp; done) | (simp [*]; done), by repeat (first | exact Drawn0.refl _ | apply Drawn0.step)⟩
                                        · rw [if_neg c30] at H
                                          have c30b0 : decide (a0 ≤ 27) = false := decide_eq_false c30
                                          clear c30
                                          by_cases c31 : a0 = 31
                                          · rw [if_pos c31] at H
                                            have c31b0 : (a0 == 31) = true := beq_iff_eq.mpr c31
                                            have c31b1 : (a0 != 31) = false := bne_eq_false_iff_eq.mpr c31
                                            clear c31
                                            simp only [Option.some.injEq, Prod.mk.injEq] at H
                                            obtain ⟨rfl, rfl, rfl⟩ := H
                                            go_wp2
                                            go_ret3
                                            exact ⟨by first | rfl | (simp; done) | (simp [*]; done), by repeat (first | exact Drawn0.refl _ | apply Drawn0.step)⟩
                                          · rw [if_neg c31] at H
                                            have c31b0 : (a0 == 31) = false := beq_eq_false_iff_ne.mpr c31
                                            have c31b1 : (a0 != 31) = true := bne_iff_ne.mpr c31
                                            simp only [Option.some.injEq, Prod.mk.injEq] at H
                                            obtain ⟨rfl, rfl, rfl⟩ := H
                                            go_wp2
                                            go_ret3
                                            exact ⟨by first | rfl | (simp; done) | (simp [*]; done), by repeat (first | exact Drawn0.refl _ | apply Drawn0.step)⟩
                                      · rw [if_neg c29] at H
                                        have c29b0 : decide (22 ≤ a0) = false := decide_eq_false c29
                                        clear c29
                                        by_cases c32 : a0 = 31
                                        · rw [if_pos c32] at H
                                          have c32b0 : (a0 == 31) = true := beq_iff_eq.mpr c32
                                          have c32b1 : (a0 != 31) = false := bne_eq_false_iff_eq.mpr c32
                                          clear c32
                                          simp only [Option.some.injEq, Prod.mk.injEq] at H
                                          obtain ⟨rfl, rfl, rfl⟩ := H
                                          go_wp2
                                          go_ret3
                                          exact ⟨by first | rfl | (simp; done) | (simp [*]; done), by repeat (first | exact Drawn0.refl _ | apply Drawn0.step)⟩
                                        · rw [if_neg c32] at H
                                          have c32b0 : (a0 == 31) = false := beq_eq_false_iff_ne.mpr c32
                                          have c32b1 : (a0 != 31) = true := bne_iff_ne.mpr c32
                                          simp only [Option.some.injEq, Prod.mk.injEq] at H
                                          obtain ⟨rfl, rfl, rfl⟩ := H
                                          go_wp2
                                          go_ret3
                                          exact ⟨by first | rfl | (simp; done) | (simp [*]; done), by repeat (first | exact Drawn0.refl _ | apply Drawn0.step)⟩

/-! ### anvillaw05_reg: function 17 -/
def anvillaw05_reg.f (a0 : Int) : Option (Bool) := if a0 ≥ 0 then (some (decide (a0 ≤ 31))) else (some false)
set_option maxHeartbeats 8000000 in
set_option maxRecDepth 100000 in
theorem anvillaw05_reg.calls (a0 : Int) (r : Bool) (w : World) (h : anvillaw05_reg.f a0 = some r) :
    Calls Try.prog 17 #[.int .i64 a0] w fun e w' => e = .returned (.bool r) ∧ Drawn0 w w' := by
  have H : (if a0 ≥ 0 then (some (decide (a0 ≤ 31))) else (some false)) = some r := h
  clear h
  by_cases c2 : a0 ≥ 0
  · rw [if_pos c2] at H
    have c2b0 : decide (0 ≤ a0) = true := decide_eq_true c2
    clear c2
    obtain rfl := Option.some.inj H
    go_enter Try.func17, Try.ntmps17
    go_wp2
    go_ret
    exact ⟨by first | rfl | (simp; done) | (simp [*]; done), by repeat (first | exact Drawn0.refl _ | apply Drawn0.step)⟩
  · rw [if_neg c2] at H
    have c2b0 : decide (0 ≤ a0) = false := decide_eq_false c2
    clear c2
    obtain rfl := Option.some.inj H
    go_enter Try.func17, Try.ntmps17
    go_wp2
    go_ret
    exact ⟨by first | rfl | (simp; done) | (simp [*]; done), by repeat (first | exact Drawn0.refl _ | apply Drawn0.step)⟩

end Go.Proofs.Ytiibhggjlandmaa.PDecodeFields
