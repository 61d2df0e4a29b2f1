-- Written by a program (a turned copy of the kit's print.py) for this claim. Lean checks it.
import Derived.Test.YtiibhggjlandmaaPDecodeAparty0
import Derived.Test.YtiibhggjlandmaaPDecodeAparty1
namespace Go.Proofs.Ytiibhggjlandmaa.PDecodeApart
open Go.RowKit Go.Proofs.YtiibhggjlandmaaW.PrintWords Go.Proofs.YtiibhggjlandmaaW.PrintLast Go.Proofs.YtiibhggjlandmaaW.PrintMore Go.Proofs.Ytiibhggjlandmaa.PB
attribute [local go_sem] max2_int min2_int max_two min_two max_three min_three max_four min_four   -- for this text's walks alone
set_option linter.unusedVariables false
set_option linter.unusedSimpArgs false

attribute [local go_sem high] eqA29
-- given elsewhere: function 9 (decode_Expand)

-- given elsewhere: function 13 (decode_Decode)

/-! ### anvillaw05_first: function 15 -/
def anvillaw05_first.f (k : Nat)  : Option (Bool) := (decode_Decode.f k 4293918867).bind fun bt101 => (if (!(bt101.1 == 22) || (!(bt101.2.1 == 1) || (!(bt101.2.2.1 == 0) || (!(bt101.2.2.2.1 == 0) || (!(bt101.2.2.2.2.1 == (-1)) || (bt101.2.2.2.2.2.1 || (bt101.2.2.2.2.2.2.1 || (!(bt101.2.2.2.2.2.2.2.1 == 4) || (!(bt101.2.2.2.2.2.2.2.2 == 4293918867)))))))))) = true then (some false) else ((decode_Expand.f k 17669).bind fun bt110 => (if bt110.2 = true then (if bt110.1 = 1049875 then ((decode_Decode.f k 17669).bind fun bt112 => (some (bt112.1 == 22 && (bt112.2.1 == 10 && (bt112.2.2.1 == 0 && (bt112.2.2.2.1 == 0 && (bt112.2.2.2.2.1 == 1 && (!bt112.2.2.2.2.2.1 && (!bt112.2.2.2.2.2.2.1 && (bt112.2.2.2.2.2.2.2.1 == 2 && (bt112.2.2.2.2.2.2.2.2 == 17669))))))))))) else (some false)) else (some false))))
theorem anvillaw05_first.mono : ∀ k, LeO (anvillaw05_first.f k ) (anvillaw05_first.f (k + 1) ) := by
  intro  k
  unfold anvillaw05_first.f
  repeat' first
      | (with_reducible exact decode_Decode.mono _ _)
      | (with_reducible exact decode_Expand.mono _ _)
      | (with_reducible exact LeO.refl _)
      | (with_reducible exact LeO.none _)
      | (with_reducible refine LeO.ite ?_ ?_)
      | (with_reducible refine LeO.bind ?_ (fun _ => ?_))
      | exact decode_Decode.mono _ _
      | exact decode_Expand.mono _ _
      | exact LeO.none _
      | refine LeO.ite ?_ ?_
      | refine LeO.bind ?_ (fun _ => ?_)
set_option maxHeartbeats 8000000 in
set_option maxRecDepth 100000 in
theorem anvillaw05_first.calls (k : Nat)  (r : Bool) (w : World) (h : anvillaw05_first.f k  = some r) :
    Calls Try.prog 15 #[] w fun e w' => e = .returned (.bool r) ∧ Below w.heap.size w w' := by
  have hu29 := Try.underlying29
  have HB := Aside0.mk (Below.refl w.heap.size w)
  have H : ((decode_Decode.f k 4293918867).bind fun bt101 => (if (!(bt101.1 == 22) || (!(bt101.2.1 == 1) || (!(bt101.2.2.1 == 0) || (!(bt101.2.2.2.1 == 0) || (!(bt101.2.2.2.2.1 == (-1)) || (bt101.2.2.2.2.2.1 || (bt101.2.2.2.2.2.2.1 || (!(bt101.2.2.2.2.2.2.2.1 == 4) || (!(bt101.2.2.2.2.2.2.2.2 == 4293918867)))))))))) = true then (some false) else ((decode_Expand.f k 17669).bind fun bt110 => (if bt110.2 = true then (if bt110.1 = 1049875 then ((decode_Decode.f k 17669).bind fun bt112 => (some (bt112.1 == 22 && (bt112.2.1 == 10 && (bt112.2.2.1 == 0 && (bt112.2.2.2.1 == 0 && (bt112.2.2.2.2.1 == 1 && (!bt112.2.2.2.2.2.1 && (!bt112.2.2.2.2.2.2.1 && (bt112.2.2.2.2.2.2.2.1 == 2 && (bt112.2.2.2.2.2.2.2.2 == 17669))))))))))) else (some false)) else (some false))))) = some r := h
  clear h
  replace H := Option.bind_eq_some_iff.mp H
  obtain ⟨⟨t101, t102, t103, t104, t105, t106, t107, t108, t109⟩, A10, H⟩ := H
  replace H : (if (!(t101 == 22) || (!(t102 == 1) || (!(t103 == 0) || (!(t104 == 0) || (!(t105 == (-1)) || (t106 || (t107 || (!(t108 == 4) || (!(t109 == 4293918867)))))))))) = true then (some false) else ((decode_Expand.f k 17669).bind fun bt110 => (if bt110.2 = true then (if bt110.1 = 1049875 then ((decode_Decode.f k 17669).bind fun bt112 => (some (bt112.1 == 22 && (bt112.2.1 == 10 && (bt112.2.2.1 == 0 && (bt112.2.2.2.1 == 0 && (bt112.2.2.2.2.1 == 1 && (!bt112.2.2.2.2.2.1 && (!bt112.2.2.2.2.2.2.1 && (bt112.2.2.2.2.2.2.2.1 == 2 && (bt112.2.2.2.2.2.2.2.2 == 17669))))))))))) else (some false)) else (some false)))) = some r := H
  have A1 := Aside0.mk A10
  clear A10
  by_cases c2 : (!(t101 == 22) || (!(t102 == 1) || (!(t103 == 0) || (!(t104 == 0) || (!(t105 == (-1)) || (t106 || (t107 || (!(t108 == 4) || (!(t109 == 4293918867)))))))))) = true
  · rw [if_pos c2] at H
    have c2b0 : (!(t101 == 22) || (!(t102 == 1) || (!(t103 == 0) || (!(t104 == 0) || (!(t105 == (-1)) || (t106 || (t107 || (!(t108 == 4) || (!(t109 == 4293918867)))))))))) = true := c2
    clear c2
    obtain rfl := Option.some.inj H
    go_enter Try.func15, Try.ntmps15
    go_wp2_with (first | ((with_reducible refine gate_callee (f := 13) rfl ?_); refine goesL_ (some 3) rfl rfl Try.func13 (by kernel_rfl) rfl #[.int .u32 4293918867] rfl (by (try simp only [List.map_toArray, List.map_cons, List.map_nil]); first | done | rfl | (simp only [List.length_drop, List.length_take]; rfl)) ?_; (with_reducible refine (decode_Decode.calls k 4293918867 t101 t102 t103 t104 t105 t106 t107 t108 t109 _ A1.out).mono ?_); rintro e w3 ⟨rfl, hb⟩; refine ⟨_, rfl, ?_⟩; have n0_ := Aside0.mk (below_step (by repeat (first | (with_reducible first | exact HB.out | apply below_alloc | apply pw_below_drewN | apply below_drew1) | exact HB.out)) hb); clear HB; have HB := n0_; clear n0_; (try clear hb); (try clear hb2); (try clear hk); (try clear hi)))
    go_ret
    exact ⟨by first | rfl | (simp [errW_none, errW_some] <;> rfl) | (simp [*, errW_none, errW_some] <;> rfl), by repeat (first | (with_reducible first | exact HB.out | apply below_alloc | apply pw_below_drewN | apply below_drew1) | exact HB.out)⟩
  · rw [if_neg c2] at H
    have c2b0 : (!(t101 == 22) || (!(t102 == 1) || (!(t103 == 0) || (!(t104 == 0) || (!(t105 == (-1)) || (t106 || (t107 || (!(t108 == 4) || (!(t109 == 4293918867)))))))))) = false := by simpa using c2
    clear c2
    replace H := Option.bind_eq_some_iff.mp H
    obtain ⟨⟨t110, t111⟩, A40, H⟩ := H
    replace H : (if t111 = true then (if t110 = 1049875 then ((decode_Decode.f k 17669).bind fun bt112 => (some (bt112.1 == 22 && (bt112.2.1 == 10 && (bt112.2.2.1 == 0 && (bt112.2.2.2.1 == 0 && (bt112.2.2.2.2.1 == 1 && (!bt112.2.2.2.2.2.1 && (!bt112.2.2.2.2.2.2.1 && (bt112.2.2.2.2.2.2.2.1 == 2 && (bt112.2.2.2.2.2.2.2.2 == 17669))))))))))) else (some false)) else (some false)) = some r := H
    have A4 := Aside0.mk A40
    clear A40
    by_cases c5 : t111 = true
    · subst c5
      have H1 : (if t110 = 1049875 then ((decode_Decode.f k 17669).bind fun bt112 => (some (bt112.1 == 22 && (bt112.2.1 == 10 && (bt112.2.2.1 == 0 && (bt112.2.2.2.1 == 0 && (bt112.2.2.2.2.1 == 1 && (!bt112.2.2.2.2.2.1 && (!bt112.2.2.2.2.2.2.1 && (bt112.2.2.2.2.2.2.2.1 == 2 && (bt112.2.2.2.2.2.2.2.2 == 17669))))))))))) else (some false)) = some r := by rw [if_pos rfl] at H; exact H
      clear H
      have H := H1
      clear H1
      by_cases c6 : t110 = 1049875
      · rw [if_pos c6] at H
        have c6b0 : (t110 == 1049875) = true := beq_iff_eq.mpr c6
        have c6b1 : (t110 != 1049875) = false := bne_eq_false_iff_eq.mpr c6
        clear c6
        replace H := Option.bind_eq_some_iff.mp H
        obtain ⟨⟨t112, t113, t114, t115, t116, t117, t118, t119, t120⟩, A70, H⟩ := H
        replace H : (some (t112 == 22 && (t113 == 10 && (t114 == 0 && (t115 == 0 && (t116 == 1 && (!t117 && (!t118 && (t119 == 2 && (t120 == 17669)))))))))) = some r := H
        have A7 := Aside0.mk A70
        clear A70
        obtain rfl := Option.some.inj H
        go_enter Try.func15, Try.ntmps15
        go_wp2_with (first | ((with_reducible refine gate_callee (f := 13) rfl ?_); refine goesL_ (some 3) rfl rfl Try.func13 (by kernel_rfl) rfl #[.int .u32 4293918867] rfl (by (try simp only [List.map_toArray, List.map_cons, List.map_nil]); first | done | rfl | (simp only [List.length_drop, List.length_take]; rfl)) ?_; (with_reducible refine (decode_Decode.calls k 4293918867 t101 t102 t103 t104 t105 t106 t107 t108 t109 _ A1.out).mono ?_); rintro e w8 ⟨rfl, hb⟩; refine ⟨_, rfl, ?_⟩; have n0_ := Aside0.mk (below_step (by repeat (first | (with_reducible first | exact HB.out | apply below_alloc | apply pw_below_drewN | apply below_drew1) | exact HB.out)) hb); clear HB; have HB := n0_; clear n0_; (try clear hb); (try clear hb2); (try clear hk); (try clear hi)) | ((with_reducible refine gate_callee (f := 9) rfl ?_); refine goesL_ (some 7) rfl rfl Try.func9 (by kernel_rfl) rfl #[.int .u16 17669] rfl (by (try simp only [List.map_toArray, List.map_cons, List.map_nil]); first | done | rfl | (simp only [List.length_drop, List.length_take]; rfl)) ?_; (with_reducible refine (decode_Expand.calls k 17669 t110 true _ A4.out).mono ?_); rintro e w' ⟨rfl, ⟨nd, rfl⟩⟩; refine ⟨_, rfl, ?_⟩) | (go_at_call 13; (with_reducible refine (decode_Decode.calls k 17669 t112 t113 t114 t115 t116 t117 t118 t119 t120 _ A7.out).mono ?_); rintro e w9 ⟨rfl, hb⟩; have n0_ := Aside0.mk (below_step (by repeat (first | (with_reducible first | exact HB.out | apply below_alloc | apply pw_below_drewN | apply below_drew1) | exact HB.out)) hb); clear HB; have HB := n0_; clear n0_; (try clear hb); (try clear hb2); (try clear hk); (try clear hi)))
        go_ret
        exact ⟨by first | rfl | (simp [errW_none, errW_some] <;> rfl) | (simp [*, errW_none, errW_some] <;> rfl), by repeat (first | (with_reducible first | exact HB.out | apply below_alloc | apply pw_below_drewN | apply below_drew1) | exact HB.out)⟩
      · rw [if_neg c6] at H
        have c6b0 : (t110 == 1049875) = false := beq_eq_false_iff_ne.mpr c6
        have c6b1 : (t110 != 1049875) = true := bne_iff_ne.mpr c6
        obtain rfl := Option.some.inj H
        go_enter Try.func15, Try.ntmps15
        go_wp2_with (first | ((with_reducible refine gate_callee (f := 13) rfl ?_); refine goesL_ (some 3) rfl rfl Try.func13 (by kernel_rfl) rfl #[.int .u32 4293918867] rfl (by (try simp only [List.map_toArray, List.map_cons, List.map_nil]); first | done | rfl | (simp only [List.length_drop, List.length_take]; rfl)) ?_; (with_reducible refine (decode_Decode.calls k 4293918867 t101 t102 t103 t104 t105 t106 t107 t108 t109 _ A1.out).mono ?_); rintro e w10 ⟨rfl, hb⟩; refine ⟨_, rfl, ?_⟩; have n0_ := Aside0.mk (below_step (by repeat (first | (with_reducible first | exact HB.out | apply below_alloc | apply pw_below_drewN | apply below_drew1) | exact HB.out)) hb); clear HB; have HB := n0_; clear n0_; (try clear hb); (try clear hb2); (try clear hk); (try clear hi)) | ((with_reducible refine gate_callee (f := 9) rfl ?_); refine goesL_ (some 7) rfl rfl Try.func9 (by kernel_rfl) rfl #[.int .u16 17669] rfl (by (try simp only [List.map_toArray, List.map_cons, List.map_nil]); first | done | rfl | (simp only [List.length_drop, List.length_take]; rfl)) ?_; (with_reducible refine (decode_Expand.calls k 17669 t110 true _ A4.out).mono ?_); rintro e w' ⟨rfl, ⟨nd, rfl⟩⟩; refine ⟨_, rfl, ?_⟩))
        go_ret
        exact ⟨by first | rfl | (simp [errW_none, errW_some] <;> rfl) | (simp [*, errW_none, errW_some] <;> rfl), by repeat (first | (with_reducible first | exact HB.out | apply below_alloc | apply pw_below_drewN | apply below_drew1) | exact HB.out)⟩
    · replace c5 := Bool.eq_false_iff.mpr c5
      subst c5
      have H1 : (some false) = some r := by rw [if_neg (show ¬ (false = true) by decide)] at H; exact H
      clear H
      have H := H1
      clear H1
      obtain rfl := Option.some.inj H
      go_enter Try.func15, Try.ntmps15
      go_wp2_with (first | ((with_reducible refine gate_callee (f := 13) rfl ?_); refine goesL_ (some 3) rfl rfl Try.func13 (by kernel_rfl) rfl #[.int .u32 4293918867] rfl (by (try simp only [List.map_toArray, List.map_cons, List.map_nil]); first | done | rfl | (simp only [List.length_drop, List.length_take]; rfl)) ?_; (with_reducible refine (decode_Decode.calls k 4293918867 t101 t102 t103 t104 t105 t106 t107 t108 t109 _ A1.out).mono ?_); rintro e w11 ⟨rfl, hb⟩; refine ⟨_, rfl, ?_⟩; have n0_ := Aside0.mk (below_step (by repeat (first | (with_reducible first | exact HB.out | apply below_alloc | apply pw_below_drewN | apply below_drew1) | exact HB.out)) hb); clear HB; have HB := n0_; clear n0_; (try clear hb); (try clear hb2); (try clear hk); (try clear hi)) | ((with_reducible refine gate_callee (f := 9) rfl ?_); refine goesL_ (some 7) rfl rfl Try.func9 (by kernel_rfl) rfl #[.int .u16 17669] rfl (by (try simp only [List.map_toArray, List.map_cons, List.map_nil]); first | done | rfl | (simp only [List.length_drop, List.length_take]; rfl)) ?_; (with_reducible refine (decode_Expand.calls k 17669 t110 false _ A4.out).mono ?_); rintro e w' ⟨rfl, ⟨nd, rfl⟩⟩; refine ⟨_, rfl, ?_⟩))
      go_ret
      exact ⟨by first | rfl | (simp [errW_none, errW_some] <;> rfl) | (simp [*, errW_none, errW_some] <;> rfl), by repeat (first | (with_reducible first | exact HB.out | apply below_alloc | apply pw_below_drewN | apply below_drew1) | exact HB.out)⟩

/-! ### anvillaw05_DecodeApart: function 6 -/
def anvillaw05_DecodeApart.j0 : Nat → Int → Int → Bool → Int → Int → Int → Int → Int → Bool → Bool → Int → Int → Int → Int → Int → Int → Int → Bool → Bool → Int → Int → Option (Bool)
  | 0, _, _, _, _, _, _, _, _, _, _, _, _, _, _, _, _, _, _, _, _, _ => none
  | k + 1, x0, x1, x38, x131000, x131001, x131002, x131003, x131004, x131005, x131006, x131007, x131008, x141000, x141001, x141002, x141003, x141004, x141005, x141006, x141007, x141008 => if x38 = true then (some false) else (if (Go.bits .or .u32 x0 3) = (Go.bits .or .u32 x1 3) then (some true) else (if x131000 = 0 then (some true) else (if x141000 = 0 then (some true) else (some (!(x131000 == x141000) || (!(x131001 == x141001) || (!(x131002 == x141002) || (!(x131003 == x141003) || (!(x131004 == x141004) || (!(x131005 == x141005) || (!(x131006 == x141006) || (!(x131007 == x141007)))))))))))))
def anvillaw05_DecodeApart.f (k : Nat) (a0 : Int) (a1 : Int) : Option (Bool) := (decode_Decode.f k (Go.bits .or .u32 a0 3)).bind fun bt121 => ((decode_Decode.f k (Go.bits .or .u32 a1 3)).bind fun bt131 => ((anvillaw05_first.f k).bind fun t141 => (if t141 = true then (if bt121.2.2.2.2.2.2.2.1 = 4 then (if bt131.2.2.2.2.2.2.2.1 = 4 then (if bt121.2.2.2.2.2.2.2.2 = (Go.bits .or .u32 a0 3) then (anvillaw05_DecodeApart.j0 k a0 a1 (bt131.2.2.2.2.2.2.2.2 != (Go.bits .or .u32 a1 3)) bt121.1 bt121.2.1 bt121.2.2.1 bt121.2.2.2.1 bt121.2.2.2.2.1 bt121.2.2.2.2.2.1 bt121.2.2.2.2.2.2.1 bt121.2.2.2.2.2.2.2.1 bt121.2.2.2.2.2.2.2.2 bt131.1 bt131.2.1 bt131.2.2.1 bt131.2.2.2.1 bt131.2.2.2.2.1 bt131.2.2.2.2.2.1 bt131.2.2.2.2.2.2.1 bt131.2.2.2.2.2.2.2.1 bt131.2.2.2.2.2.2.2.2) else (anvillaw05_DecodeApart.j0 k a0 a1 true bt121.1 bt121.2.1 bt121.2.2.1 bt121.2.2.2.1 bt121.2.2.2.2.1 bt121.2.2.2.2.2.1 bt121.2.2.2.2.2.2.1 bt121.2.2.2.2.2.2.2.1 bt121.2.2.2.2.2.2.2.2 bt131.1 bt131.2.1 bt131.2.2.1 bt131.2.2.2.1 bt131.2.2.2.2.1 bt131.2.2.2.2.2.1 bt131.2.2.2.2.2.2.1 bt131.2.2.2.2.2.2.2.1 bt131.2.2.2.2.2.2.2.2)) else (anvillaw05_DecodeApart.j0 k a0 a1 true bt121.1 bt121.2.1 bt121.2.2.1 bt121.2.2.2.1 bt121.2.2.2.2.1 bt121.2.2.2.2.2.1 bt121.2.2.2.2.2.2.1 bt121.2.2.2.2.2.2.2.1 bt121.2.2.2.2.2.2.2.2 bt131.1 bt131.2.1 bt131.2.2.1 bt131.2.2.2.1 bt131.2.2.2.2.1 bt131.2.2.2.2.2.1 bt131.2.2.2.2.2.2.1 bt131.2.2.2.2.2.2.2.1 bt131.2.2.2.2.2.2.2.2)) else (anvillaw05_DecodeApart.j0 k a0 a1 true bt121.1 bt121.2.1 bt121.2.2.1 bt121.2.2.2.1 bt121.2.2.2.2.1 bt121.2.2.2.2.2.1 bt121.2.2.2.2.2.2.1 bt121.2.2.2.2.2.2.2.1 bt121.2.2.2.2.2.2.2.2 bt131.1 bt131.2.1 bt131.2.2.1 bt131.2.2.2.1 bt131.2.2.2.2.1 bt131.2.2.2.2.2.1 bt131.2.2.2.2.2.2.1 bt131.2.2.2.2.2.2.2.1 bt131.2.2.2.2.2.2.2.2)) else (anvillaw05_DecodeApart.j0 k a0 a1 true bt121.1 bt121.2.1 bt121.2.2.1 bt121.2.2.2.1 bt121.2.2.2.2.1 bt121.2.2.2.2.2.1 bt121.2.2.2.2.2.2.1 bt121.2.2.2.2.2.2.2.1 bt121.2.2.2.2.2.2.2.2 bt131.1 bt131.2.1 bt131.2.2.1 bt131.2.2.2.1 bt131.2.2.2.2.1 bt131.2.2.2.2.2.1 bt131.2.2.2.2.2.2.1 bt131.2.2.2.2.2.2.2.1 bt131.2.2.2.2.2.2.2.2))))
theorem anvillaw05_DecodeApart.mono_l : ∀ k, (∀ y0 y1 y2 y3 y4 y5 y6 y7 y8 y9 y10 y11 y12 y13 y14 y15 y16 y17 y18 y19 y20, LeO (anvillaw05_DecodeApart.j0 k y0 y1 y2 y3 y4 y5 y6 y7 y8 y9 y10 y11 y12 y13 y14 y15 y16 y17 y18 y19 y20) (anvillaw05_DecodeApart.j0 (k + 1) y0 y1 y2 y3 y4 y5 y6 y7 y8 y9 y10 y11 y12 y13 y14 y15 y16 y17 y18 y19 y20))
  | 0 => fun _ _ _ _ _ _ _ _ _ _ _ _ _ _ _ _ _ _ _ _ _ r h => by simp [anvillaw05_DecodeApart.j0] at h
  | k + 1 => by
    have ih0 := anvillaw05_DecodeApart.mono_l k
    · intro y0 y1 y2 y3 y4 y5 y6 y7 y8 y9 y10 y11 y12 y13 y14 y15 y16 y17 y18 y19 y20
      unfold anvillaw05_DecodeApart.j0
      repeat' first
      | (with_reducible exact ih0 _ _ _ _ _ _ _ _ _ _ _ _ _ _ _ _ _ _ _ _ _)
      | (with_reducible exact anvillaw05_first.mono _)
      | (with_reducible exact decode_Decode.mono _ _)
      | (with_reducible exact LeO.refl _)
      | (with_reducible exact LeO.none _)
      | (with_reducible refine LeO.ite ?_ ?_)
      | (with_reducible refine LeO.bind ?_ (fun _ => ?_))
      | exact ih0 _ _ _ _ _ _ _ _ _ _ _ _ _ _ _ _ _ _ _ _ _
      | exact anvillaw05_first.mono _
      | exact decode_Decode.mono _ _
      | exact LeO.none _
      | refine LeO.ite ?_ ?_
      | refine LeO.bind ?_ (fun _ => ?_)
theorem anvillaw05_DecodeApart.mono : ∀ a0 a1 k, LeO (anvillaw05_DecodeApart.f k a0 a1) (anvillaw05_DecodeApart.f (k + 1) a0 a1) := by
  intro a0 a1 k
  have ih0 := anvillaw05_DecodeApart.mono_l k
  unfold anvillaw05_DecodeApart.f
  repeat' first
      | (with_reducible exact ih0 _ _ _ _ _ _ _ _ _ _ _ _ _ _ _ _ _ _ _ _ _)
      | (with_reducible exact anvillaw05_first.mono _)
      | (with_reducible exact decode_Decode.mono _ _)
      | (with_reducible exact LeO.refl _)
      | (with_reducible exact LeO.none _)
      | (with_reducible refine LeO.ite ?_ ?_)
      | (with_reducible refine LeO.bind ?_ (fun _ => ?_))
      | exact ih0 _ _ _ _ _ _ _ _ _ _ _ _ _ _ _ _ _ _ _ _ _
      | exact anvillaw05_first.mono _
      | exact decode_Decode.mono _ _
      | exact LeO.none _
      | refine LeO.ite ?_ ?_
      | refine LeO.bind ?_ (fun _ => ?_)
set_option maxHeartbeats 8000000 in
set_option maxRecDepth 100000 in
theorem anvillaw05_DecodeApart.calls (k : Nat) (a0 : Int) (a1 : Int) (r : Bool) (hr : Aside0 (r = true)) (w : World) (h : anvillaw05_DecodeApart.f k a0 a1 = some r) :
    Calls Try.prog 6 #[.int .u32 a0, .int .u32 a1] w fun e w' => e = .returned (.bool r) ∧ Below w.heap.size w w' := by
  have hu29 := Try.underlying29
  have HB := Aside0.mk (Below.refl w.heap.size w)
  have H : ((decode_Decode.f k (Go.bits .or .u32 a0 3)).bind fun bt121 => ((decode_Decode.f k (Go.bits .or .u32 a1 3)).bind fun bt131 => ((anvillaw05_first.f k).bind fun t141 => (if t141 = true then (if bt121.2.2.2.2.2.2.2.1 = 4 then (if bt131.2.2.2.2.2.2.2.1 = 4 then (if bt121.2.2.2.2.2.2.2.2 = (Go.bits .or .u32 a0 3) then (anvillaw05_DecodeApart.j0 k a0 a1 (bt131.2.2.2.2.2.2.2.2 != (Go.bits .or .u32 a1 3)) bt121.1 bt121.2.1 bt121.2.2.1 bt121.2.2.2.1 bt121.2.2.2.2.1 bt121.2.2.2.2.2.1 bt121.2.2.2.2.2.2.1 bt121.2.2.2.2.2.2.2.1 bt121.2.2.2.2.2.2.2.2 bt131.1 bt131.2.1 bt131.2.2.1 bt131.2.2.2.1 bt131.2.2.2.2.1 bt131.2.2.2.2.2.1 bt131.2.2.2.2.2.2.1 bt131.2.2.2.2.2.2.2.1 bt131.2.2.2.2.2.2.2.2) else (anvillaw05_DecodeApart.j0 k a0 a1 true bt121.1 bt121.2.1 bt121.2.2.1 bt121.2.2.2.1 bt121.2.2.2.2.1 bt121.2.2.2.2.2.1 bt121.2.2.2.2.2.2.1 bt121.2.2.2.2.2.2.2.1 bt121.2.2.2.2.2.2.2.2 bt131.1 bt131.2.1 bt131.2.2.1 bt131.2.2.2.1 bt131.2.2.2.2.1 bt131.2.2.2.2.2.1 bt131.2.2.2.2.2.2.1 bt131.2.2.2.2.2.2.2.1 bt131.2.2.2.2.2.2.2.2)) else (anvillaw05_DecodeApart.j0 k a0 a1 true bt121.1 bt121.2.1 bt121.2.2.1 bt121.2.2.2.1 bt121.2.2.2.2.1 bt121.2.2.2.2.2.1 bt121.2.2.2.2.2.2.1 bt121.2.2.2.2.2.2.2.1 bt121.2.2.2.2.2.2.2.2 bt131.1 bt131.2.1 bt131.2.2.1 bt131.2.2.2.1 bt131.2.2.2.2.1 bt131.2.2.2.2.2.1 bt131.2.2.2.2.2.2.1 bt131.2.2.2.2.2.2.2.1 bt131.2.2.2.2.2.2.2.2)) else (anvillaw05_DecodeApart.j0 k a0 a1 true bt121.1 bt121.2.1 bt121.2.2.1 bt121.2.2.2.1 bt121.2.2.2.2.1 bt121.2.2.2.2.2.1 bt121.2.2.2.2.2.2.1 bt121.2.2.2.2.2.2.2.1 bt121.2.2.2.2.2.2.2.2 bt131.1 bt131.2.1 bt131.2.2.1 bt131.2.2.2.1 bt131.2.2.2.2.1 bt131.2.2.2.2.2.1 bt131.2.2.2.2.2.2.1 bt131.2.2.2.2.2.2.2.1 bt131.2.2.2.2.2.2.2.2)) else (anvillaw05_DecodeApart.j0 k a0 a1 true bt121.1 bt121.2.1 bt121.2.2.1 bt121.2.2.2.1 bt121.2.2.2.2.1 bt121.2.2.2.2.2.1 bt121.2.2.2.2.2.2.1 bt121.2.2.2.2.2.2.2.1 bt121.2.2.2.2.2.2.2.2 bt131.1 bt131.2.1 bt131.2.2.1 bt131.2.2.2.1 bt131.2.2.2.2.1 bt131.2.2.2.2.2.1 bt131.2.2.2.2.2.2.1 bt131.2.2.2.2.2.2.2.1 bt131.2.2.2.2.2.2.2.2))))) = some r := h
  clear h
  replace H := Option.bind_eq_some_iff.mp H
  obtain ⟨⟨t121, t122, t123, t124, t125, t126, t127, t128, t129⟩, A30, H⟩ := H
  replace H : ((decode_Decode.f k (Go.bits .or .u32 a1 3)).bind fun bt131 => ((anvillaw05_first.f k).bind fun t141 => (if t141 = true then (if t128 = 4 then (if bt131.2.2.2.2.2.2.2.1 = 4 then (if t129 = (Go.bits .or .u32 a0 3) then (anvillaw05_DecodeApart.j0 k a0 a1 (bt131.2.2.2.2.2.2.2.2 != (Go.bits .or .u32 a1 3)) t121 t122 t123 t124 t125 t126 t127 t128 t129 bt131.1 bt131.2.1 bt131.2.2.1 bt131.2.2.2.1 bt131.2.2.2.2.1 bt131.2.2.2.2.2.1 bt131.2.2.2.2.2.2.1 bt131.2.2.2.2.2.2.2.1 bt131.2.2.2.2.2.2.2.2) else (anvillaw05_DecodeApart.j0 k a0 a1 true t121 t122 t123 t124 t125 t126 t127 t128 t129 bt131.1 bt131.2.1 bt131.2.2.1 bt131.2.2.2.1 bt131.2.2.2.2.1 bt131.2.2.2.2.2.1 bt131.2.2.2.2.2.2.1 bt131.2.2.2.2.2.2.2.1 bt131.2.2.2.2.2.2.2.2)) else (anvillaw05_DecodeApart.j0 k a0 a1 true t121 t122 t123 t124 t125 t126 t127 t128 t129 bt131.1 bt131.2.1 bt131.2.2.1 bt131.2.2.2.1 bt131.2.2.2.2.1 bt131.2.2.2.2.2.1 bt131.2.2.2.2.2.2.1 bt131.2.2.2.2.2.2.2.1 bt131.2.2.2.2.2.2.2.2)) else (anvillaw05_DecodeApart.j0 k a0 a1 true t121 t122 t123 t124 t125 t126 t127 t128 t129 bt131.1 bt131.2.1 bt131.2.2.1 bt131.2.2.2.1 bt131.2.2.2.2.1 bt131.2.2.2.2.2.1 bt131.2.2.2.2.2.2.1 bt131.2.2.2.2.2.2.2.1 bt131.2.2.2.2.2.2.2.2)) else (anvillaw05_DecodeApart.j0 k a0 a1 true t121 t122 t123 t124 t125 t126 t127 t128 t129 bt131.1 bt131.2.1 bt131.2.2.1 bt131.2.2.2.1 bt131.2.2.2.2.1 bt131.2.2.2.2.2.1 bt131.2.2.2.2.2.2.1 bt131.2.2.2.2.2.2.2.1 bt131.2.2.2.2.2.2.2.2)))) = some r := H
  have A3 := Aside0.mk A30
  clear A30
  replace H := Option.bind_eq_some_iff.mp H
  obtain ⟨⟨t131, t132, t133, t134, t135, t136, t137, t138, t139⟩, A40, H⟩ := H
  replace H : ((anvillaw05_first.f k).bind fun t141 => (if t141 = true then (if t128 = 4 then (if t138 = 4 then (if t129 = (Go.bits .or .u32 a0 3) then (anvillaw05_DecodeApart.j0 k a0 a1 (t139 != (Go.bits .or .u32 a1 3)) t121 t122 t123 t124 t125 t126 t127 t128 t129 t131 t132 t133 t134 t135 t136 t137 t138 t139) else (anvillaw05_DecodeApart.j0 k a0 a1 true t121 t122 t123 t124 t125 t126 t127 t128 t129 t131 t132 t133 t134 t135 t136 t137 t138 t139)) else (anvillaw05_DecodeApart.j0 k a0 a1 true t121 t122 t123 t124 t125 t126 t127 t128 t129 t131 t132 t133 t134 t135 t136 t137 t138 t139)) else (anvillaw05_DecodeApart.j0 k a0 a1 true t121 t122 t123 t124 t125 t126 t127 t128 t129 t131 t132 t133 t134 t135 t136 t137 t138 t139)) else (anvillaw05_DecodeApart.j0 k a0 a1 true t121 t122 t123 t124 t125 t126 t127 t128 t129 t131 t132 t133 t134 t135 t136 t137 t138 t139))) = some r := H
  have A4 := Aside0.mk A40
  clear A40
  have HC5 := Aside0.mk H
  clear H
  go_enter Try.func6, Try.ntmps6
  go_upto_region 3 with (first | ((with_reducible refine gate_callee (f := 13) rfl ?_); refine goesL_ (some 9) rfl rfl Try.func13 (by kernel_rfl) rfl #[.int .u32 (Go.bits .or .u32 a0 3)] rfl (by (try simp only [List.map_toArray, List.map_cons, List.map_nil]); first | done | rfl | (simp only [List.length_drop, List.length_take]; rfl)) ?_; (with_reducible refine (decode_Decode.calls k (Go.bits .or .u32 a0 3) t121 t122 t123 t124 t125 t126 t127 t128 t129 _ A3.out).mono ?_); rintro e w6 ⟨rfl, hb⟩; refine ⟨_, rfl, ?_⟩; have n0_ := Aside0.mk (below_step (by repeat (first | (with_reducible first | exact HB.out | apply below_alloc | apply pw_below_drewN | apply below_drew1) | exact HB.out)) hb); clear HB; have HB := n0_; clear n0_; (try clear hb); (try clear hb2); (try clear hk); (try clear hi)) | ((with_reducible refine gate_dst (N := 5) rfl ?_); refine box_event ?hg (N := 5) ?hd (cs := #[.int .i64 0, .int .i64 0, .int .i64 0, .int .i64 0, .int .i64 0, .bool false, .bool false, .int .i64 0, .int .u32 0]) (t := 29) ?hr ?_; (case hd => rfl); (case hg => rfl); (case hr => first | (go_simp; done) | (go_simp; rfl)); intro gb130 hg w7 hbox hb; have n0_ := Aside0.mk (below_step (by repeat (first | (with_reducible first | exact HB.out | apply below_alloc | apply pw_below_drewN | apply below_drew1) | exact HB.out)) hb); have n1_ := Aside0.mk (hbox); have n2_ := Aside0.mk ((by rw [hg]; exact (below_size (by repeat (first | (with_reducible first | exact HB.out | apply below_alloc | apply pw_below_drewN | apply below_drew1) | exact HB.out))) : w.heap.size ≤ gb130)); have n3_ := Aside0.mk ((by rw [hg]; exact (below_size (by repeat (first | (with_reducible first | exact HB.out | apply below_alloc | apply pw_below_drewN | apply below_drew1) | exact HB.out))) : w.heap.size ≤ gb130)); clear HB; have HB := n0_; have BK130 := n1_; have GW130 := n2_; have GE130 := n3_; clear n0_ n1_ n2_ n3_; clear hb hbox hg; have hcz8_0 : w7.cell? ⟨gb130, 0, none⟩ = some (.int .i64 0) := (blk_cell BK130.out 0).trans rfl; have hcz8_1 : w7.cell? ⟨gb130, 1, none⟩ = some (.int .i64 0) := (blk_cell BK130.out 1).trans rfl; have hcz8_2 : w7.cell? ⟨gb130, 2, none⟩ = some (.int .i64 0) := (blk_cell BK130.out 2).trans rfl; have hcz8_3 : w7.cell? ⟨gb130, 3, none⟩ = some (.int .i64 0) := (blk_cell BK130.out 3).trans rfl; have hcz8_4 : w7.cell? ⟨gb130, 4, none⟩ = some (.int .i64 0) := (blk_cell BK130.out 4).trans rfl; have hcz8_5 : w7.cell? ⟨gb130, 5, none⟩ = some (.bool false) := (blk_cell BK130.out 5).trans rfl; have hcz8_6 : w7.cell? ⟨gb130, 6, none⟩ = some (.bool false) := (blk_cell BK130.out 6).trans rfl; have hcz8_7 : w7.cell? ⟨gb130, 7, none⟩ = some (.int .i64 0) := (blk_cell BK130.out 7).trans rfl; have hcz8_8 : w7.cell? ⟨gb130, 8, none⟩ = some (.int .u32 0) := (blk_cell BK130.out 8).trans rfl; have hfz8_0 := blk_frozen BK130.out 0; have hfz8_1 := blk_frozen BK130.out 1; have hfz8_2 := blk_frozen BK130.out 2; have hfz8_3 := blk_frozen BK130.out 3; have hfz8_4 := blk_frozen BK130.out 4; have hfz8_5 := blk_frozen BK130.out 5; have hfz8_6 := blk_frozen BK130.out 6; have hfz8_7 := blk_frozen BK130.out 7; have hfz8_8 := blk_frozen BK130.out 8) | ((with_reducible refine gate_callee (f := 13) rfl ?_); refine goesL_ (some 12) rfl rfl Try.func13 (by kernel_rfl) rfl #[.int .u32 (Go.bits .or .u32 a1 3)] rfl (by (try simp only [List.map_toArray, List.map_cons, List.map_nil]); first | done | rfl | (simp only [List.length_drop, List.length_take]; rfl)) ?_; (with_reducible refine (decode_Decode.calls k (Go.bits .or .u32 a1 3) t131 t132 t133 t134 t135 t136 t137 t138 t139 _ A4.out).mono ?_); rintro e w9 ⟨rfl, hb⟩; refine ⟨_, rfl, ?_⟩; have n0_ := Aside0.mk (blk_below (g := gb130) (o := .cells #[.int .i64 t121, .int .i64 t122, .int .i64 t123, .int .i64 t124, .int .i64 t125, .bool t126, .bool t127, .int .i64 t128, .int .u32 t129] 29 (0, 0)) (by (with_reducible repeat (first | refine blk_drewN ?_ _ | refine blk_drew ?_ | refine blk_alloc ?_ _)); refine blk_put (cs := #[.int .i64 t121, .int .i64 t122, .int .i64 t123, .int .i64 t124, .int .i64 t125, .bool t126, .bool t127, .int .i64 t128, .int .u32 0]) ?_ 8 _ rfl; (with_reducible repeat (first | refine blk_drewN ?_ _ | refine blk_drew ?_ | refine blk_alloc ?_ _)); refine blk_put (cs := #[.int .i64 t121, .int .i64 t122, .int .i64 t123, .int .i64 t124, .int .i64 t125, .bool t126, .bool t127, .int .i64 0, .int .u32 0]) ?_ 7 _ rfl; (with_reducible repeat (first | refine blk_drewN ?_ _ | refine blk_drew ?_ | refine blk_alloc ?_ _)); refine blk_put (cs := #[.int .i64 t121, .int .i64 t122, .int .i64 t123, .int .i64 t124, .int .i64 t125, .bool t126, .bool false, .int .i64 0, .int .u32 0]) ?_ 6 _ rfl; (with_reducible repeat (first | refine blk_drewN ?_ _ | refine blk_drew ?_ | refine blk_alloc ?_ _)); refine blk_put (cs := #[.int .i64 t121, .int .i64 t122, .int .i64 t123, .int .i64 t124, .int .i64 t125, .bool false, .bool false, .int .i64 0, .int .u32 0]) ?_ 5 _ rfl; (with_reducible repeat (first | refine blk_drewN ?_ _ | refine blk_drew ?_ | refine blk_alloc ?_ _)); refine blk_put (cs := #[.int .i64 t121, .int .i64 t122, .int .i64 t123, .int .i64 t124, .int .i64 0, .bool false, .bool false, .int .i64 0, .int .u32 0]) ?_ 4 _ rfl; (with_reducible repeat (first | refine blk_drewN ?_ _ | refine blk_drew ?_ | refine blk_alloc ?_ _)); refine blk_put (cs := #[.int .i64 t121, .int .i64 t122, .int .i64 t123, .int .i64 0, .int .i64 0, .bool false, .bool false, .int .i64 0, .int .u32 0]) ?_ 3 _ rfl; (with_reducible repeat (first | refine blk_drewN ?_ _ | refine blk_drew ?_ | refine blk_alloc ?_ _)); refine blk_put (cs := #[.int .i64 t121, .int .i64 t122, .int .i64 0, .int .i64 0, .int .i64 0, .bool false, .bool false, .int .i64 0, .int .u32 0]) ?_ 2 _ rfl; (with_reducible repeat (first | refine blk_drewN ?_ _ | refine blk_drew ?_ | refine blk_alloc ?_ _)); refine blk_put (cs := #[.int .i64 t121, .int .i64 0, .int .i64 0, .int .i64 0, .int .i64 0, .bool false, .bool false, .int .i64 0, .int .u32 0]) ?_ 1 _ rfl; (with_reducible repeat (first | refine blk_drewN ?_ _ | refine blk_drew ?_ | refine blk_alloc ?_ _)); refine blk_put (cs := #[.int .i64 0, .int .i64 0, .int .i64 0, .int .i64 0, .int .i64 0, .bool false, .bool false, .int .i64 0, .int .u32 0]) ?_ 0 _ rfl; (with_reducible repeat (first | refine blk_drewN ?_ _ | refine blk_drew ?_ | refine blk_alloc ?_ _)); exact BK130.out) hb); have n1_ := Aside0.mk (below_step (by repeat (first | (with_reducible first | exact HB.out | apply below_alloc | apply pw_below_drewN | apply below_drew1 | refine below_set ?_ GE130.out) | exact HB.out)) hb); clear BK130; clear HB; have BK130 := n0_; have HB := n1_; clear n0_ n1_; (try clear hb); (try clear hb2); (try clear hk); (try clear hi)) | ((with_reducible refine gate_dst (N := 6) rfl ?_); refine box_event ?hg (N := 6) ?hd (cs := #[.int .i64 0, .int .i64 0, .int .i64 0, .int .i64 0, .int .i64 0, .bool false, .bool false, .int .i64 0, .int .u32 0]) (t := 29) ?hr ?_; (case hd => rfl); (case hg => rfl); (case hr => first | (go_simp; done) | (go_simp; rfl)); intro gb140 hg w10 hbox hb; have n0_ := Aside0.mk (blk_below (g := gb130) (o := .cells #[.int .i64 t121, .int .i64 t122, .int .i64 t123, .int .i64 t124, .int .i64 t125, .bool t126, .bool t127, .int .i64 t128, .int .u32 t129] 29 (0, 0)) (by (with_reducible repeat (first | refine blk_drewN ?_ _ | refine blk_drew ?_ | refine blk_alloc ?_ _)); exact BK130.out) hb); have n1_ := Aside0.mk (below_step (by repeat (first | (with_reducible first | exact HB.out | apply below_alloc | apply pw_below_drewN | apply below_drew1 | refine below_set ?_ GE130.out) | exact HB.out)) hb); have n2_ := Aside0.mk (hbox); have n3_ := Aside0.mk ((by rw [hg]; exact (below_size (by repeat (first | (with_reducible first | exact HB.out | apply below_alloc | apply pw_below_drewN | apply below_drew1 | refine below_set ?_ GE130.out) | exact HB.out))) : w.heap.size ≤ gb140)); have n4_ := Aside0.mk ((by rw [hg]; exact (below_size (by repeat (first | (with_reducible first | exact HB.out | apply below_alloc | apply pw_below_drewN | apply below_drew1 | refine below_set ?_ GE130.out) | exact HB.out))) : w.heap.size ≤ gb140)); have n5_ := Aside0.mk ((by rw [hg]; exact Nat.ne_of_lt (blk_lt (g := gb130) (o := .cells #[.int .i64 t121, .int .i64 t122, .int .i64 t123, .int .i64 t124, .int .i64 t125, .bool t126, .bool t127, .int .i64 t128, .int .u32 t129] 29 (0, 0)) (by (with_reducible repeat (first | refine blk_drewN ?_ _ | refine blk_drew ?_ | refine blk_alloc ?_ _)); exact BK130.out)) : gb130 ≠ gb140)); have n6_ := Aside0.mk ((by rw [hg]; exact Nat.ne_of_gt (blk_lt (g := gb130) (o := .cells #[.int .i64 t121, .int .i64 t122, .int .i64 t123, .int .i64 t124, .int .i64 t125, .bool t126, .bool t127, .int .i64 t128, .int .u32 t129] 29 (0, 0)) (by (with_reducible repeat (first | refine blk_drewN ?_ _ | refine blk_drew ?_ | refine blk_alloc ?_ _)); exact BK130.out)) : gb140 ≠ gb130)); clear BK130; clear HB; have BK130 := n0_; have HB := n1_; have BK140 := n2_; have GW140 := n3_; have GE140 := n4_; have NB130_140 := n5_; have NB140_130 := n6_; clear n0_ n1_ n2_ n3_ n4_ n5_ n6_; clear hb hbox hg; have hnb11 := NB140_130.out; have hnc11 := NB130_140.out; have hcz12_0 : w10.cell? ⟨gb140, 0, none⟩ = some (.int .i64 0) := (blk_cell BK140.out 0).trans rfl; have hcz12_1 : w10.cell? ⟨gb140, 1, none⟩ = some (.int .i64 0) := (blk_cell BK140.out 1).trans rfl; have hcz12_2 : w10.cell? ⟨gb140, 2, none⟩ = some (.int .i64 0) := (blk_cell BK140.out 2).trans rfl; have hcz12_3 : w10.cell? ⟨gb140, 3, none⟩ = some (.int .i64 0) := (blk_cell BK140.out 3).trans rfl; have hcz12_4 : w10.cell? ⟨gb140, 4, none⟩ = some (.int .i64 0) := (blk_cell BK140.out 4).trans rfl; have hcz12_5 : w10.cell? ⟨gb140, 5, none⟩ = some (.bool false) := (blk_cell BK140.out 5).trans rfl; have hcz12_6 : w10.cell? ⟨gb140, 6, none⟩ = some (.bool false) := (blk_cell BK140.out 6).trans rfl; have hcz12_7 : w10.cell? ⟨gb140, 7, none⟩ = some (.int .i64 0) := (blk_cell BK140.out 7).trans rfl; have hcz12_8 : w10.cell? ⟨gb140, 8, none⟩ = some (.int .u32 0) := (blk_cell BK140.out 8).trans rfl; have hfz12_0 := blk_frozen BK140.out 0; have hfz12_1 := blk_frozen BK140.out 1; have hfz12_2 := blk_frozen BK140.out 2; have hfz12_3 := blk_frozen BK140.out 3; have hfz12_4 := blk_frozen BK140.out 4; have hfz12_5 := blk_frozen BK140.out 5; have hfz12_6 := blk_frozen BK140.out 6; have hfz12_7 := blk_frozen BK140.out 7; have hfz12_8 := blk_frozen BK140.out 8))
  (try simp only [Act.put, List.setIfInBounds_toArray, List.set_cons_zero, List.set_cons_succ])
  go_cut [38] (fun v38 wc => ∃ (kq : Nat) (x38_4 : Bool), v38 = .bool x38_4 ∧ Aside0 (anvillaw05_DecodeApart.j0 kq a0 a1 x38_4 t121 t122 t123 t124 t125 t126 t127 t128 t129 t131 t132 t133 t134 t135 t136 t137 t138 t139 = some r) ∧ Aside0 (kq ≤ k) ∧ Aside0 (wc.heap[gb130]? = some (.cells #[.int .i64 t121, .int .i64 t122, .int .i64 t123, .int .i64 t124, .int .i64 t125, .bool t126, .bool t127, .int .i64 t128, .int .u32 t129] 29 (0, 0))) ∧ Aside0 (wc.heap[gb140]? = some (.cells #[.int .i64 t131, .int .i64 t132, .int .i64 t133, .int .i64 t134, .int .i64 t135, .bool t136, .bool t137, .int .i64 t138, .int .u32 t139] 29 (0, 0))) ∧ Aside0 (Below w.heap.size w wc))
  case first =>
    have H := HC5.out
    clear HC5
    replace H := Option.bind_eq_some_iff.mp H
    obtain ⟨t141, A130, H⟩ := H
    replace H : (if t141 = true then (if t128 = 4 then (if t138 = 4 then (if t129 = (Go.bits .or .u32 a0 3) then (anvillaw05_DecodeApart.j0 k a0 a1 (t139 != (Go.bits .or .u32 a1 3)) t121 t122 t123 t124 t125 t126 t127 t128 t129 t131 t132 t133 t134 t135 t136 t137 t138 t139) else (anvillaw05_DecodeApart.j0 k a0 a1 true t121 t122 t123 t124 t125 t126 t127 t128 t129 t131 t132 t133 t134 t135 t136 t137 t138 t139)) else (anvillaw05_DecodeApart.j0 k a0 a1 true t121 t122 t123 t124 t125 t126 t127 t128 t129 t131 t132 t133 t134 t135 t136 t137 t138 t139)) else (anvillaw05_DecodeApart.j0 k a0 a1 true t121 t122 t123 t124 t125 t126 t127 t128 t129 t131 t132 t133 t134 t135 t136 t137 t138 t139)) else (anvillaw05_DecodeApart.j0 k a0 a1 true t121 t122 t123 t124 t125 t126 t127 t128 t129 t131 t132 t133 t134 t135 t136 t137 t138 t139)) = some r := H
    have A13 := Aside0.mk A130
    clear A130
    by_cases c14 : t141 = true
    · subst c14
      have H1 : (if t128 = 4 then (if t138 = 4 then (if t129 = (Go.bits .or .u32 a0 3) then (anvillaw05_DecodeApart.j0 k a0 a1 (t139 != (Go.bits .or .u32 a1 3)) t121 t122 t123 t124 t125 t126 t127 t128 t129 t131 t132 t133 t134 t135 t136 t137 t138 t139) else (anvillaw05_DecodeApart.j0 k a0 a1 true t121 t122 t123 t124 t125 t126 t127 t128 t129 t131 t132 t133 t134 t135 t136 t137 t138 t139)) else (anvillaw05_DecodeApart.j0 k a0 a1 true t121 t122 t123 t124 t125 t126 t127 t128 t129 t131 t132 t133 t134 t135 t136 t137 t138 t139)) else (anvillaw05_DecodeApart.j0 k a0 a1 true t121 t122 t123 t124 t125 t126 t127 t128 t129 t131 t132 t133 t134 t135 t136 t137 t138 t139)) = some r := by rw [if_pos rfl] at H; exact H
      clear H
      have H := H1
      clear H1
      by_cases c15 : t128 = 4
      · rw [if_pos c15] at H
        have c15b0 : (t128 == 4) = true := beq_iff_eq.mpr c15
        have c15b1 : (t128 != 4) = false := bne_eq_false_iff_eq.mpr c15
        clear c15
        (first | rw [c15b0] | (simp only [i64_w, i32_w]; rw [c15b0]) | skip)
        by_cases c16 : t138 = 4
        · rw [if_pos c16] at H
          have c16b0 : (t138 == 4) = true := beq_iff_eq.mpr c16
          have c16b1 : (t138 != 4) = false := bne_eq_false_iff_eq.mpr c16
          clear c16
          by_cases c17 : t129 = (Go.bits .or .u32 a0 3)
          · rw [if_pos c17] at H
            have c17b0 : (t129 == (Go.bits .or .u32 a0 3)) = true := beq_iff_eq.mpr c17
            have c17b1 : (t129 != (Go.bits .or .u32 a0 3)) = false := bne_eq_false_iff_eq.mpr c17
            clear c17
            have H' := Aside0.mk H
            clear H
            go_wp2_with (first | ((with_reducible refine gate_callee (f := 15) rfl ?_); refine goesL_ (some 13) rfl rfl Try.func15 (by kernel_rfl) rfl #[] rfl (by (try simp only [List.map_toArray, List.map_cons, List.map_nil]); first | done | rfl | (simp only [List.length_drop, List.length_take]; rfl)) ?_; (with_reducible refine (anvillaw05_first.calls k  true _ A13.out).mono ?_); rintro e w18 ⟨rfl, hb⟩; refine ⟨_, rfl, ?_⟩; have n0_ := Aside0.mk (blk_below (g := gb130) (o := .cells #[.int .i64 t121, .int .i64 t122, .int .i64 t123, .int .i64 t124, .int .i64 t125, .bool t126, .bool t127, .int .i64 t128, .int .u32 t129] 29 (0, 0)) (by (with_reducible repeat (first | refine blk_drewN ?_ _ | refine blk_drew ?_ | refine blk_alloc ?_ _)); refine blk_far ?_ NB130_140.out _; (with_reducible repeat (first | refine blk_drewN ?_ _ | refine blk_drew ?_ | refine blk_alloc ?_ _)); refine blk_far ?_ NB130_140.out _; (with_reducible repeat (first | refine blk_drewN ?_ _ | refine blk_drew ?_ | refine blk_alloc ?_ _)); refine blk_far ?_ NB130_140.out _; (with_reducible repeat (first | refine blk_drewN ?_ _ | refine blk_drew ?_ | refine blk_alloc ?_ _)); refine blk_far ?_ NB130_140.out _; (with_reducible repeat (first | refine blk_drewN ?_ _ | refine blk_drew ?_ | refine blk_alloc ?_ _)); refine blk_far ?_ NB130_140.out _; (with_reducible repeat (first | refine blk_drewN ?_ _ | refine blk_drew ?_ | refine blk_alloc ?_ _)); refine blk_far ?_ NB130_140.out _; (with_reducible repeat (first | refine blk_drewN ?_ _ | refine blk_drew ?_ | refine blk_alloc ?_ _)); refine blk_far ?_ NB130_140.out _; (with_reducible repeat (first | refine blk_drewN ?_ _ | refine blk_drew ?_ | refine blk_alloc ?_ _)); refine blk_far ?_ NB130_140.out _; (with_reducible repeat (first | refine blk_drewN ?_ _ | refine blk_drew ?_ | refine blk_alloc ?_ _)); refine blk_far ?_ NB130_140.out _; (with_reducible repeat (first | refine blk_drewN ?_ _ | refine blk_drew ?_ | refine blk_alloc ?_ _)); exact BK130.out) hb); have n1_ := Aside0.mk (blk_below (g := gb140) (o := .cells #[.int .i64 t131, .int .i64 t132, .int .i64 t133, .int .i64 t134, .int .i64 t135, .bool t136, .bool t137, .int .i64 t138, .int .u32 t139] 29 (0, 0)) (by (with_reducible repeat (first | refine blk_drewN ?_ _ | refine blk_drew ?_ | refine blk_alloc ?_ _)); refine blk_put (cs := #[.int .i64 t131, .int .i64 t132, .int .i64 t133, .int .i64 t134, .int .i64 t135, .bool t136, .bool t137, .int .i64 t138, .int .u32 0]) ?_ 8 _ rfl; (with_reducible repeat (first | refine blk_drewN ?_ _ | refine blk_drew ?_ | refine blk_alloc ?_ _)); refine blk_put (cs := #[.int .i64 t131, .int .i64 t132, .int .i64 t133, .int .i64 t134, .int .i64 t135, .bool t136, .bool t137, .int .i64 0, .int .u32 0]) ?_ 7 _ rfl; (with_reducible repeat (first | refine blk_drewN ?_ _ | refine blk_drew ?_ | refine blk_alloc ?_ _)); refine blk_put (cs := #[.int .i64 t131, .int .i64 t132, .int .i64 t133, .int .i64 t134, .int .i64 t135, .bool t136, .bool false, .int .i64 0, .int .u32 0]) ?_ 6 _ rfl; (with_reducible repeat (first | refine blk_drewN ?_ _ | refine blk_drew ?_ | refine blk_alloc ?_ _)); refine blk_put (cs := #[.int .i64 t131, .int .i64 t132, .int .i64 t133, .int .i64 t134, .int .i64 t135, .bool false, .bool false, .int .i64 0, .int .u32 0]) ?_ 5 _ rfl; (with_reducible repeat (first | refine blk_drewN ?_ _ | refine blk_drew ?_ | refine blk_alloc ?_ _)); refine blk_put (cs := #[.int .i64 t131, .int .i64 t132, .int .i64 t133, .int .i64 t134, .int .i64 0, .bool false, .bool false, .int .i64 0, .int .u32 0]) ?_ 4 _ rfl; (with_reducible repeat (first | refine blk_drewN ?_ _ | refine blk_drew ?_ | refine blk_alloc ?_ _)); refine blk_put (cs := #[.int .i64 t131, .int .i64 t132, .int .i64 t133, .int .i64 0, .int .i64 0, .bool false, .bool false, .int .i64 0, .int .u32 0]) ?_ 3 _ rfl; (with_reducible repeat (first | refine blk_drewN ?_ _ | refine blk_drew ?_ | refine blk_alloc ?_ _)); refine blk_put (cs := #[.int .i64 t131, .int .i64 t132, .int .i64 0, .int .i64 0, .int .i64 0, .bool false, .bool false, .int .i64 0, .int .u32 0]) ?_ 2 _ rfl; (with_reducible repeat (first | refine blk_drewN ?_ _ | refine blk_drew ?_ | refine blk_alloc ?_ _)); refine blk_put (cs := #[.int .i64 t131, .int .i64 0, .int .i64 0, .int .i64 0, .int .i64 0, .bool false, .bool false, .int .i64 0, .int .u32 0]) ?_ 1 _ rfl; (with_reducible repeat (first | refine blk_drewN ?_ _ | refine blk_drew ?_ | refine blk_alloc ?_ _)); refine blk_put (cs := #[.int .i64 0, .int .i64 0, .int .i64 0, .int .i64 0, .int .i64 0, .bool false, .bool false, .int .i64 0, .int .u32 0]) ?_ 0 _ rfl; (with_reducible repeat (first | refine blk_drewN ?_ _ | refine blk_drew ?_ | refine blk_alloc ?_ _)); exact BK140.out) hb); have n2_ := Aside0.mk (below_step (by repeat (first | (with_reducible first | exact HB.out | apply below_alloc | apply pw_below_drewN | apply below_drew1 | refine below_set ?_ GE130.out | refine below_set ?_ GE140.out) | exact HB.out)) hb); clear BK130; clear BK140; clear HB; have BK130 := n0_; have BK140 := n1_; have HB := n2_; clear n0_ n1_ n2_; (try clear hb); (try clear hb2); (try clear hk); (try clear hi); have hnb19 := NB130_140.out; have hnc19 := NB140_130.out; have hcz20_0 : w18.cell? ⟨gb130, 0, none⟩ = some (.int .i64 t121) := (blk_cell BK130.out 0).trans rfl; have hcz20_1 : w18.cell? ⟨gb130, 1, none⟩ = some (.int .i64 t122) := (blk_cell BK130.out 1).trans rfl; have hcz20_2 : w18.cell? ⟨gb130, 2, none⟩ = some (.int .i64 t123) := (blk_cell BK130.out 2).trans rfl; have hcz20_3 : w18.cell? ⟨gb130, 3, none⟩ = some (.int .i64 t124) := (blk_cell BK130.out 3).trans rfl; have hcz20_4 : w18.cell? ⟨gb130, 4, none⟩ = some (.int .i64 t125) := (blk_cell BK130.out 4).trans rfl; have hcz20_5 : w18.cell? ⟨gb130, 5, none⟩ = some (.bool t126) := (blk_cell BK130.out 5).trans rfl; have hcz20_6 : w18.cell? ⟨gb130, 6, none⟩ = some (.bool t127) := (blk_cell BK130.out 6).trans rfl; have hcz20_7 : w18.cell? ⟨gb130, 7, none⟩ = some (.int .i64 t128) := (blk_cell BK130.out 7).trans rfl; have hcz20_8 : w18.cell? ⟨gb130, 8, none⟩ = some (.int .u32 t129) := (blk_cell BK130.out 8).trans rfl; have hfz20_0 := blk_frozen BK130.out 0; have hfz20_1 := blk_frozen BK130.out 1; have hfz20_2 := blk_frozen BK130.out 2; have hfz20_3 := blk_frozen BK130.out 3; have hfz20_4 := blk_frozen BK130.out 4; have hfz20_5 := blk_frozen BK130.out 5; have hfz20_6 := blk_frozen BK130.out 6; have hfz20_7 := blk_frozen BK130.out 7; have hfz20_8 := blk_frozen BK130.out 8; have hcz21_0 : w18.cell? ⟨gb140, 0, none⟩ = some (.int .i64 t131) := (blk_cell BK140.out 0).trans rfl; have hcz21_1 : w18.cell? ⟨gb140, 1, none⟩ = some (.int .i64 t132) := (blk_cell BK140.out 1).trans rfl; have hcz21_2 : w18.cell? ⟨gb140, 2, none⟩ = some (.int .i64 t133) := (blk_cell BK140.out 2).trans rfl; have hcz21_3 : w18.cell? ⟨gb140, 3, none⟩ = some (.int .i64 t134) := (blk_cell BK140.out 3).trans rfl; have hcz21_4 : w18.cell? ⟨gb140, 4, none⟩ = some (.int .i64 t135) := (blk_cell BK140.out 4).trans rfl; have hcz21_5 : w18.cell? ⟨gb140, 5, none⟩ = some (.bool t136) := (blk_cell BK140.out 5).trans rfl; have hcz21_6 : w18.cell? ⟨gb140, 6, none⟩ = some (.bool t137) := (blk_cell BK140.out 6).trans rfl; have hcz21_7 : w18.cell? ⟨gb140, 7, none⟩ = some (.int .i64 t138) := (blk_cell BK140.out 7).trans rfl; have hcz21_8 : w18.cell? ⟨gb140, 8, none⟩ = some (.int .u32 t139) := (blk_cell BK140.out 8).trans rfl; have hfz21_0 := blk_frozen BK140.out 0; have hfz21_1 := blk_frozen BK140.out 1; have hfz21_2 := blk_frozen BK140.out 2; have hfz21_3 := blk_frozen BK140.out 3; have hfz21_4 := blk_frozen BK140.out 4; have hfz21_5 := blk_frozen BK140.out 5; have hfz21_6 := blk_frozen BK140.out 6; have hfz21_7 := blk_frozen BK140.out 7; have hfz21_8 := blk_frozen BK140.out 8))
            go_meet
            case rel => exact ⟨_, ((t139 != (Go.bits .or .u32 a1 3))), (by first | rfl | (simp; done) | (simp [*]; done)), H', ⟨by first | omega | exact Nat.le_refl _⟩, ⟨by (with_reducible repeat (first | refine blk_drewN ?_ _ | refine blk_drew ?_ | refine blk_alloc ?_ _)); exact BK130.out⟩, ⟨by (with_reducible repeat (first | refine blk_drewN ?_ _ | refine blk_drew ?_ | refine blk_alloc ?_ _)); exact BK140.out⟩, ⟨by repeat (first | (with_reducible first | exact HB.out | apply below_alloc | apply pw_below_drewN | apply below_drew1 | refine below_set ?_ GE130.out | refine below_set ?_ GE140.out) | exact HB.out)⟩⟩
          · rw [if_neg c17] at H
            have c17b0 : (t129 == (Go.bits .or .u32 a0 3)) = false := beq_eq_false_iff_ne.mpr c17
            have c17b1 : (t129 != (Go.bits .or .u32 a0 3)) = true := bne_iff_ne.mpr c17
            exact absurd (hr.out.symm.trans (by cases k with | zero => simp [anvillaw05_DecodeApart.j0] at H | succ kk_ => (simp [anvillaw05_DecodeApart.j0] at H; first | exact H | exact H.symm) : r = false)) (by decide)
        · rw [if_neg c16] at H
          have c16b0 : (t138 == 4) = false := beq_eq_false_iff_ne.mpr c16
          have c16b1 : (t138 != 4) = true := bne_iff_ne.mpr c16
          exact absurd (hr.out.symm.trans (by cases k with | zero => simp [anvillaw05_DecodeApart.j0] at H | succ kk_ => (simp [anvillaw05_DecodeApart.j0] at H; first | exact H | exact H.symm) : r = false)) (by decide)
      · rw [if_neg c15] at H
        have c15b0 : (t128 == 4) = false := beq_eq_false_iff_ne.mpr c15
        have c15b1 : (t128 != 4) = true := bne_iff_ne.mpr c15
        (first | rw [c15b0] | (simp only [i64_w, i32_w]; rw [c15b0]) | skip)
        exact absurd (hr.out.symm.trans (by cases k with | zero => simp [anvillaw05_DecodeApart.j0] at H | succ kk_ => (simp [anvillaw05_DecodeApart.j0] at H; first | exact H | exact H.symm) : r = false)) (by decide)
    · replace c14 := Bool.eq_false_iff.mpr c14
      subst c14
      have H1 : (anvillaw05_DecodeApart.j0 k a0 a1 true t121 t122 t123 t124 t125 t126 t127 t128 t129 t131 t132 t133 t134 t135 t136 t137 t138 t139) = some r := by rw [if_neg (show ¬ (false = true) by decide)] at H; exact H
      clear H
      have H := H1
      clear H1
      exact absurd (hr.out.symm.trans (by cases k with | zero => simp [anvillaw05_DecodeApart.j0] at H | succ kk_ => (simp [anvillaw05_DecodeApart.j0] at H; first | exact H | exact H.symm) : r = false)) (by decide)
  case rest =>
    clear HC5
    try clear c1
    try clear p2
    try clear c6
    try clear c11
    try clear c13
    try clear c14
    try clear c15
    try clear c15b0
    try clear c15b1
    try clear c16
    try clear c16b0
    try clear c16b1
    try clear c17
    try clear c17b0
    try clear c17b1
    try clear c19
    try clear hcz12_0
    try clear hcz12_1
    try clear hcz12_2
    try clear hcz12_3
    try clear hcz12_4
    try clear hcz12_5
    try clear hcz12_6
    try clear hcz12_7
    try clear hcz12_8
    try clear hcz20_0
    try clear hcz20_1
    try clear hcz20_2
    try clear hcz20_3
    try clear hcz20_4
    try clear hcz20_5
    try clear hcz20_6
    try clear hcz20_7
    try clear hcz20_8
    try clear hcz21_0
    try clear hcz21_1
    try clear hcz21_2
    try clear hcz21_3
    try clear hcz21_4
    try clear hcz21_5
    try clear hcz21_6
    try clear hcz21_7
    try clear hcz21_8
    try clear hcz8_0
    try clear hcz8_1
    try clear hcz8_2
    try clear hcz8_3
    try clear hcz8_4
    try clear hcz8_5
    try clear hcz8_6
    try clear hcz8_7
    try clear hcz8_8
    try clear hfz12_0
    try clear hfz12_1
    try clear hfz12_2
    try clear hfz12_3
    try clear hfz12_4
    try clear hfz12_5
    try clear hfz12_6
    try clear hfz12_7
    try clear hfz12_8
    try clear hfz20_0
    try clear hfz20_1
    try clear hfz20_2
    try clear hfz20_3
    try clear hfz20_4
    try clear hfz20_5
    try clear hfz20_6
    try clear hfz20_7
    try clear hfz20_8
    try clear hfz21_0
    try clear hfz21_1
    try clear hfz21_2
    try clear hfz21_3
    try clear hfz21_4
    try clear hfz21_5
    try clear hfz21_6
    try clear hfz21_7
    try clear hfz21_8
    try clear hfz8_0
    try clear hfz8_1
    try clear hfz8_2
    try clear hfz8_3
    try clear hfz8_4
    try clear hfz8_5
    try clear hfz8_6
    try clear hfz8_7
    try clear hfz8_8
    obtain ⟨kq, x38_4, rfl, HA, HJ4, BK130, BK140, HB⟩ := hcut
    cases kq with
    | zero => exact absurd HA.out (by simp [anvillaw05_DecodeApart.j0])
    | succ kj4 =>
      have H := HA.out
      clear HA
      simp only [anvillaw05_DecodeApart.j0] at H
      by_cases c22 : x38_4 = true
      · subst c22
        have H1 : (some false) = some r := by rw [if_pos rfl] at H; exact H
        clear H
        have H := H1
        clear H1
        obtain rfl := Option.some.inj H
        exact absurd hr.out (by decide)
      · replace c22 := Bool.eq_false_iff.mpr c22
        subst c22
        have H1 : (if (Go.bits .or .u32 a0 3) = (Go.bits .or .u32 a1 3) then (some true) else (if t121 = 0 then (some true) else (if t131 = 0 then (some true) else (some (!(t121 == t131) || (!(t122 == t132) || (!(t123 == t133) || (!(t124 == t134) || (!(t125 == t135) || (!(t126 == t136) || (!(t127 == t137) || (!(t128 == t138))))))))))))) = some r := by rw [if_neg (show ¬ (false = true) by decide)] at H; exact H
        clear H
        have H := H1
        clear H1
        by_cases c23 : (Go.bits .or .u32 a0 3) = (Go.bits .or .u32 a1 3)
        · rw [if_pos c23] at H
          have c23b0 : ((Go.bits .or .u32 a0 3) == (Go.bits .or .u32 a1 3)) = true := beq_iff_eq.mpr c23
          have c23b1 : ((Go.bits .or .u32 a0 3) != (Go.bits .or .u32 a1 3)) = false := bne_eq_false_iff_eq.mpr c23
          clear c23
          obtain rfl := Option.some.inj H
          go_wp2
          go_ret
          exact ⟨by first | rfl | (simp [errW_none, errW_some] <;> rfl) | (simp [*, errW_none, errW_some] <;> rfl), by repeat (first | (with_reducible first | exact HB.out | apply below_alloc | apply pw_below_drewN | apply below_drew1 | refine below_set ?_ GE130.out | refine below_set ?_ GE140.out) | exact HB.out)⟩
        · rw [if_neg c23] at H
          have c23b0 : ((Go.bits .or .u32 a0 3) == (Go.bits .or .u32 a1 3)) = false := beq_eq_false_iff_ne.mpr c23
          have c23b1 : ((Go.bits .or .u32 a0 3) != (Go.bits .or .u32 a1 3)) = true := bne_iff_ne.mpr c23
          by_cases c24 : t121 = 0
          · rw [if_pos c24] at H
            have c24b0 : (t121 == 0) = true := beq_iff_eq.mpr c24
            have c24b1 : (t121 != 0) = false := bne_eq_false_iff_eq.mpr c24
            clear c24
            obtain rfl := Option.some.inj H
            have hnb25 := NB130_140.out
            have hnc25 := NB140_130.out
            have hcz26_0 : wc.cell? ⟨gb130, 0, none⟩ = some (.int .i64 t121) := (blk_cell BK130.out 0).trans rfl
            have hcz26_1 : wc.cell? ⟨gb130, 1, none⟩ = some (.int .i64 t122) := (blk_cell BK130.out 1).trans rfl
            have hcz26_2 : wc.cell? ⟨gb130, 2, none⟩ = some (.int .i64 t123) := (blk_cell BK130.out 2).trans rfl
            have hcz26_3 : wc.cell? ⟨gb130, 3, none⟩ = some (.int .i64 t124) := (blk_cell BK130.out 3).trans rfl
            have hcz26_4 : wc.cell? ⟨gb130, 4, none⟩ = some (.int .i64 t125) := (blk_cell BK130.out 4).trans rfl
            have hcz26_5 : wc.cell? ⟨gb130, 5, none⟩ = some (.bool t126) := (blk_cell BK130.out 5).trans rfl
            have hcz26_6 : wc.cell? ⟨gb130, 6, none⟩ = some (.bool t127) := (blk_cell BK130.out 6).trans rfl
            have hcz26_7 : wc.cell? ⟨gb130, 7, none⟩ = some (.int .i64 t128) := (blk_cell BK130.out 7).trans rfl
            have hcz26_8 : wc.cell? ⟨gb130, 8, none⟩ = some (.int .u32 t129) := (blk_cell BK130.out 8).trans rfl
            have hfz26_0 := blk_frozen BK130.out 0
            have hfz26_1 := blk_frozen BK130.out 1
            have hfz26_2 := blk_frozen BK130.out 2
            have hfz26_3 := blk_frozen BK130.out 3
            have hfz26_4 := blk_frozen BK130.out 4
            have hfz26_5 := blk_frozen BK130.out 5
            have hfz26_6 := blk_frozen BK130.out 6
            have hfz26_7 := blk_frozen BK130.out 7
            have hfz26_8 := blk_frozen BK130.out 8
            go_wp2
            go_ret
            exact ⟨by first | rfl | (simp [errW_none, errW_some] <;> rfl) | (simp [*, errW_none, errW_some] <;> rfl), by repeat (first | (with_reducible first | exact HB.out | apply below_alloc | apply pw_below_drewN | apply below_drew1 | refine below_set ?_ GE130.out | refine below_set ?_ GE140.out) | exact HB.out)⟩
          · rw [if_neg c24] at H
            have c24b0 : (t121 == 0) = false := beq_eq_false_iff_ne.mpr c24
            have c24b1 : (t121 != 0) = true := bne_iff_ne.mpr c24
            by_cases c27 : t131 = 0
            · rw [if_pos c27] at H
              have c27b0 : (t131 == 0) = true := beq_iff_eq.mpr c27
              have c27b1 : (t131 != 0) = false := bne_eq_false_iff_eq.mpr c27
              clear c27
              obtain rfl := Option.some.inj H
              have hnb28 := NB130_140.out
              have hnc28 := NB140_130.out
              have hcz29_0 : wc.cell? ⟨gb130, 0, none⟩ = some (.int .i64 t121) := (blk_cell BK130.out 0).trans rfl
              have hcz29_1 : wc.cell? ⟨gb130, 1, none⟩ = some (.int .i64 t122) := (blk_cell BK130.out 1).trans rfl
              have hcz29_2 : wc.cell? ⟨gb130, 2, none⟩ = some (.int .i64 t123) := (blk_cell BK130.out 2).trans rfl
              have hcz29_3 : wc.cell? ⟨gb130, 3, none⟩ = some (.int .i64 t124) := (blk_cell BK130.out 3).trans rfl
              have hcz29_4 : wc.cell? ⟨gb130, 4, none⟩ = some (.int .i64 t125) := (blk_cell BK130.out 4).trans rfl
              have hcz29_5 : wc.cell? ⟨gb130, 5, none⟩ = some (.bool t126) := (blk_cell BK130.out 5).trans rfl
              have hcz29_6 : wc.cell? ⟨gb130, 6, none⟩ = some (.bool t127) := (blk_cell BK130.out 6).trans rfl
              have hcz29_7 : wc.cell? ⟨gb130, 7, none⟩ = some (.int .i64 t128) := (blk_cell BK130.out 7).trans rfl
              have hcz29_8 : wc.cell? ⟨gb130, 8, none⟩ = some (.int .u32 t129) := (blk_cell BK130.out 8).trans rfl
              have hfz29_0 := blk_frozen BK130.out 0
              have hfz29_1 := blk_frozen BK130.out 1
              have hfz29_2 := blk_frozen BK130.out 2
              have hfz29_3 := blk_frozen BK130.out 3
              have hfz29_4 := blk_frozen BK130.out 4
              have hfz29_5 := blk_frozen BK130.out 5
              have hfz29_6 := blk_frozen BK130.out 6
              have hfz29_7 := blk_frozen BK130.out 7
              have hfz29_8 := blk_frozen BK130.out 8
              have hcz30_0 : wc.cell? ⟨gb140, 0, none⟩ = some (.int .i64 t131) := (blk_cell BK140.out 0).trans rfl
              have hcz30_1 : wc.cell? ⟨gb140, 1, none⟩ = some (.int .i64 t132) := (blk_cell BK140.out 1).trans rfl
              have hcz30_2 : wc.cell? ⟨gb140, 2, none⟩ = some (.int .i64 t133) := (blk_cell BK140.out 2).trans rfl
              have hcz30_3 : wc.cell? ⟨gb140, 3, none⟩ = some (.int .i64 t134) := (blk_cell BK140.out 3).trans rfl
              have hcz30_4 : wc.cell? ⟨gb140, 4, none⟩ = some (.int .i64 t135) := (blk_cell BK140.out 4).trans rfl
              have hcz30_5 : wc.cell? ⟨gb140, 5, none⟩ = some (.bool t136) := (blk_cell BK140.out 5).trans rfl
              have hcz30_6 : wc.cell? ⟨gb140, 6, none⟩ = some (.bool t137) := (blk_cell BK140.out 6).trans rfl
              have hcz30_7 : wc.cell? ⟨gb140, 7, none⟩ = some (.int .i64 t138) := (blk_cell BK140.out 7).trans rfl
              have hcz30_8 : wc.cell? ⟨gb140, 8, none⟩ = some (.int .u32 t139) := (blk_cell BK140.out 8).trans rfl
              have hfz30_0 := blk_frozen BK140.out 0
              have hfz30_1 := blk_frozen BK140.out 1
              have hfz30_2 := blk_frozen BK140.out 2
              have hfz30_3 := blk_frozen BK140.out 3
              have hfz30_4 := blk_frozen BK140.out 4
              have hfz30_5 := blk_frozen BK140.out 5
              have hfz30_6 := blk_frozen BK140.out 6
              have hfz30_7 := blk_frozen BK140.out 7
              have hfz30_8 := blk_frozen BK140.out 8
              go_wp2
              go_ret
              exact ⟨by first | rfl | (simp [errW_none, errW_some] <;> rfl) | (simp [*, errW_none, errW_some] <;> rfl), by repeat (first | (with_reducible first | exact HB.out | apply below_alloc | apply pw_below_drewN | apply below_drew1 | refine below_set ?_ GE130.out | refine below_set ?_ GE140.out) | exact HB.out)⟩
            · rw [if_neg c27] at H
              have c27b0 : (t131 == 0) = false := beq_eq_false_iff_ne.mpr c27
              have c27b1 : (t131 != 0) = true := bne_iff_ne.mpr c27
              obtain rfl := Option.some.inj H
              have hnb31 := NB130_140.out
              have hnc31 := NB140_130.out
              have hcz32_0 : wc.cell? ⟨gb130, 0, none⟩ = some (.int .i64 t121) := (blk_cell BK130.out 0).trans rfl
              have hcz32_1 : wc.cell? ⟨gb130, 1, none⟩ = some (.int .i64 t122) := (blk_cell BK130.out 1).trans rfl
              have hcz32_2 : wc.cell? ⟨gb130, 2, none⟩ = some (.int .i64 t123) := (blk_cell BK130.out 2).trans rfl
              have hcz32_3 : wc.cell? ⟨gb130, 3, none⟩ = some (.int .i64 t124) := (blk_cell BK130.out 3).trans rfl
              have hcz32_4 : wc.cell? ⟨gb130, 4, none⟩ = some (.int .i64 t125) := (blk_cell BK130.out 4).trans rfl
              have hcz32_5 : wc.cell? ⟨gb130, 5, none⟩ = some (.bool t126) := (blk_cell BK130.out 5).trans rfl
              have hcz32_6 : wc.cell? ⟨gb130, 6, none⟩ = some (.bool t127) := (blk_cell BK130.out 6).trans rfl
              have hcz32_7 : wc.cell? ⟨gb130, 7, none⟩ = some (.int .i64 t128) := (blk_cell BK130.out 7).trans rfl
              have hcz32_8 : wc.cell? ⟨gb130, 8, none⟩ = some (.int .u32 t129) := (blk_cell BK130.out 8).trans rfl
              have hfz32_0 := blk_frozen BK130.out 0
              have hfz32_1 := blk_frozen BK130.out 1
              have hfz32_2 := blk_frozen BK130.out 2
              have hfz32_3 := blk_frozen BK130.out 3
              have hfz32_4 := blk_frozen BK130.out 4
              have hfz32_5 := blk_frozen BK130.out 5
              have hfz32_6 := blk_frozen BK130.out 6
              have hfz32_7 := blk_frozen BK130.out 7
              have hfz32_8 := blk_frozen BK130.out 8
              have hcz33_0 : wc.cell? ⟨gb140, 0, none⟩ = some (.int .i64 t131) := (blk_cell BK140.out 0).trans rfl
              have hcz33_1 : wc.cell? ⟨gb140, 1, none⟩ = some (.int .i64 t132) := (blk_cell BK140.out 1).trans rfl
              have hcz33_2 : wc.cell? ⟨gb140, 2, none⟩ = some (.int .i64 t133) := (blk_cell BK140.out 2).trans rfl
              have hcz33_3 : wc.cell? ⟨gb140, 3, none⟩ = some (.int .i64 t134) := (blk_cell BK140.out 3).trans rfl
              have hcz33_4 : wc.cell? ⟨gb140, 4, none⟩ = some (.int .i64 t135) := (blk_cell BK140.out 4).trans rfl
              have hcz33_5 : wc.cell? ⟨gb140, 5, none⟩ = some (.bool t136) := (blk_cell BK140.out 5).trans rfl
              have hcz33_6 : wc.cell? ⟨gb140, 6, none⟩ = some (.bool t137) := (blk_cell BK140.out 6).trans rfl
              have hcz33_7 : wc.cell? ⟨gb140, 7, none⟩ = some (.int .i64 t138) := (blk_cell BK140.out 7).trans rfl
              have hcz33_8 : wc.cell? ⟨gb140, 8, none⟩ = some (.int .u32 t139) := (blk_cell BK140.out 8).trans rfl
              have hfz33_0 := blk_frozen BK140.out 0
              have hfz33_1 := blk_frozen BK140.out 1
              have hfz33_2 := blk_frozen BK140.out 2
              have hfz33_3 := blk_frozen BK140.out 3
              have hfz33_4 := blk_frozen BK140.out 4
              have hfz33_5 := blk_frozen BK140.out 5
              have hfz33_6 := blk_frozen BK140.out 6
              have hfz33_7 := blk_frozen BK140.out 7
              have hfz33_8 := blk_frozen BK140.out 8
              go_wp2
              go_ret
              exact ⟨by first | rfl | (simp [errW_none, errW_some] <;> rfl) | (simp [*, errW_none, errW_some] <;> rfl), by repeat (first | (with_reducible first | exact HB.out | apply below_alloc | apply pw_below_drewN | apply below_drew1 | refine below_set ?_ GE130.out | refine below_set ?_ GE140.out) | exact HB.out)⟩

/-- THE ONE PURE STATEMENT of anvillaw05_DecodeApart: yours. -/
def anvillaw05_DecodeApart.Pure : Prop := ∀ (a0 : Int) (a1 : Int), (Lit.int .u32 a0).wf = true → (Lit.int .u32 a1).wf = true → ∃ k, anvillaw05_DecodeApart.f k a0 a1 = some true
theorem anvillaw05_DecodeApart.walk (P : anvillaw05_DecodeApart.Pure) (a0 : Int) (a1 : Int) (w : World) (w0 : (Lit.int .u32 a0).wf = true) (w1 : (Lit.int .u32 a1).wf = true) :
    Calls Try.prog 6 #[.int .u32 a0, .int .u32 a1] w fun e w' => e = .returned (.bool true) ∧ Below w.heap.size w w' := by
  obtain ⟨k, h⟩ := P a0 a1 w0 w1
  refine (anvillaw05_DecodeApart.calls k a0 a1 true ⟨rfl⟩ w h).mono ?_
  rintro e w' ⟨rfl, hd⟩
  exact ⟨rfl, hd⟩

end Go.Proofs.Ytiibhggjlandmaa.PDecodeApart
