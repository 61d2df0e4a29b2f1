-- Written by a program (a turned copy of the kit's print.py) for this claim. Lean checks it.
import Derived.Test.YtiibhggjlandmaaPDecodeShorty0
import Derived.Test.YtiibhggjlandmaaPDecodeShorty1
namespace Go.Proofs.Ytiibhggjlandmaa.PDecodeShort
open Go.RowKit Go.Proofs.YtiibhggjlandmaaW.PrintWords Go.Proofs.YtiibhggjlandmaaW.PrintLast Go.Proofs.YtiibhggjlandmaaW.PrintMore Go.Proofs.Ytiibhggjlandmaa.PB
attribute [local go_sem] max2_int min2_int max_two min_two max_three min_three max_four min_four   -- for this text's walks alone
set_option linter.unusedVariables false
set_option linter.unusedSimpArgs false
theorem wpList_load_row_g {P : Program} {ops : Array Oper} {rest : List Oper} {o : Oper} {a : Act} {w : World} {Q : Exit → Act → World → Prop} (hw : Region.wanted o (yielded ops a.tmps) = true) (ty : TypeId) (x : Operand) (ho : o.op = .load ty x)
    (g : Nat) (hx : a.eval x = .pointer (some ⟨g, 0, none⟩)) (t : TypeId) (cs : Array Value) (fr : Nat × Nat) (d : TypeDesc) (hg : w.heap[g]? = some (.cells cs t fr))
    (hu : P.underlying ty = some d) (hd : (match d with | .struct _ | .array _ _ => true | _ => false) = true) (hi : (P.info? ty).map (·.size) = some cs.size)
    (h : wpList P ops Q rest (a.put o.dst (.agg cs)) w) : wpList P ops Q (o :: rest) a w :=
  wpList_step fun K hK => by rw [if_pos hw]; exact wp_load_row ty x ho g hx t cs fr d hg hu hd hi (hK _ _ h)

attribute [local go_sem high] eqA29
-- given elsewhere: function 9 (decode_Expand)

-- given elsewhere: function 13 (decode_Decode)

/-! ### anvillaw05_first: function 15 -/
def anvillaw05_first.f (k : Nat)  : Option (Bool) := (decode_Decode.f k 4293918867).bind fun bt101 => (if (!(bt101.1 == 22) || (!(bt101.2.1 == 1) || (!(bt101.2.2.1 == 0) || (!(bt101.2.2.2.1 == 0) || (!(bt101.2.2.2.2.1 == (-1)) || (bt101.2.2.2.2.2.1 || (bt101.2.2.2.2.2.2.1 || (!(bt101.2.2.2.2.2.2.2.1 == 4) || (!(bt101.2.2.2.2.2.2.2.2 == 4293918867)))))))))) = true then (some false) else ((decode_Expand.f k 17669).bind fun bt110 => (if bt110.2 = true then (if bt110.1 = 1049875 then ((decode_Decode.f k 17669).bind fun bt112 => (some (bt112.1 == 22 && (bt112.2.1 == 10 && (bt112.2.2.1 == 0 && (bt112.2.2.2.1 == 0 && (bt112.2.2.2.2.1 == 1 && (!bt112.2.2.2.2.2.1 && (!bt112.2.2.2.2.2.2.1 && (bt112.2.2.2.2.2.2.2.1 == 2 && (bt112.2.2.2.2.2.2.2.2 == 17669))))))))))) else (some false)) else (some false))))
theorem anvillaw05_first.mono : ∀ k, LeO (anvillaw05_first.f k ) (anvillaw05_first.f (k + 1) ) := by
  intro  k
  unfold anvillaw05_first.f
  repeat' first
      | (with_reducible exact decode_Decode.mono _ _)
      | (with_reducible exact decode_Expand.mono _ _)
      | (with_reducible exact LeO.refl _)
      | (with_reducible exact LeO.none _)
      | (with_reducible refine LeO.ite ?_ ?_)
      | (with_reducible refine LeO.bind ?_ (fun _ => ?_))
      | exact decode_Decode.mono _ _
      | exact decode_Expand.mono _ _
      | exact LeO.none _
      | refine LeO.ite ?_ ?_
      | refine LeO.bind ?_ (fun _ => ?_)
set_option maxHeartbeats 8000000 in
set_option maxRecDepth 100000 in
theorem anvillaw05_first.calls (k : Nat)  (r : Bool) (w : World) (h : anvillaw05_first.f k  = some r) :
    Calls Try.prog 15 #[] w fun e w' => e = .returned (.bool r) ∧ Below w.heap.size w w' := by
  have hu29 := Try.underlying29
  have HB := Aside0.mk (Below.refl w.heap.size w)
  have H : ((decode_Decode.f k 4293918867).bind fun bt101 => (if (!(bt101.1 == 22) || (!(bt101.2.1 == 1) || (!(bt101.2.2.1 == 0) || (!(bt101.2.2.2.1 == 0) || (!(bt101.2.2.2.2.1 == (-1)) || (bt101.2.2.2.2.2.1 || (bt101.2.2.2.2.2.2.1 || (!(bt101.2.2.2.2.2.2.2.1 == 4) || (!(bt101.2.2.2.2.2.2.2.2 == 4293918867)))))))))) = true then (some false) else ((decode_Expand.f k 17669).bind fun bt110 => (if bt110.2 = true then (if bt110.1 = 1049875 then ((decode_Decode.f k 17669).bind fun bt112 => (some (bt112.1 == 22 && (bt112.2.1 == 10 && (bt112.2.2.1 == 0 && (bt112.2.2.2.1 == 0 && (bt112.2.2.2.2.1 == 1 && (!bt112.2.2.2.2.2.1 && (!bt112.2.2.2.2.2.2.1 && (bt112.2.2.2.2.2.2.2.1 == 2 && (bt112.2.2.2.2.2.2.2.2 == 17669))))))))))) else (some false)) else (some false))))) = some r := h
  clear h
  replace H := Option.bind_eq_some_iff.mp H
  obtain ⟨⟨t101, t102, t103, t104, t105, t106, t107, t108, t109⟩, A10, H⟩ := H
  replace H : (if (!(t101 == 22) || (!(t102 == 1) || (!(t103 == 0) || (!(t104 == 0) || (!(t105 == (-1)) || (t106 || (t107 || (!(t108 == 4) || (!(t109 == 4293918867)))))))))) = true then (some false) else ((decode_Expand.f k 17669).bind fun bt110 => (if bt110.2 = true then (if bt110.1 = 1049875 then ((decode_Decode.f k 17669).bind fun bt112 => (some (bt112.1 == 22 && (bt112.2.1 == 10 && (bt112.2.2.1 == 0 && (bt112.2.2.2.1 == 0 && (bt112.2.2.2.2.1 == 1 && (!bt112.2.2.2.2.2.1 && (!bt112.2.2.2.2.2.2.1 && (bt112.2.2.2.2.2.2.2.1 == 2 && (bt112.2.2.2.2.2.2.2.2 == 17669))))))))))) else (some false)) else (some false)))) = some r := H
  have A1 := Aside0.mk A10
  clear A10
  by_cases c2 : (!(t101 == 22) || (!(t102 == 1) || (!(t103 == 0) || (!(t104 == 0) || (!(t105 == (-1)) || (t106 || (t107 || (!(t108 == 4) || (!(t109 == 4293918867)))))))))) = true
  · rw [if_pos c2] at H
    have c2b0 : (!(t101 == 22) || (!(t102 == 1) || (!(t103 == 0) || (!(t104 == 0) || (!(t105 == (-1)) || (t106 || (t107 || (!(t108 == 4) || (!(t109 == 4293918867)))))))))) = true := c2
    clear c2
    obtain rfl := Option.some.inj H
    go_enter Try.func15, Try.ntmps15
    go_wp2_with (first | ((with_reducible refine gate_callee (f := 13) rfl ?_); refine goesL_ (some 3) rfl rfl Try.func13 (by kernel_rfl) rfl #[.int .u32 4293918867] rfl (by (try simp only [List.map_toArray, List.map_cons, List.map_nil]); first | done | rfl | (simp only [List.length_drop, List.length_take]; rfl)) ?_; (with_reducible refine (decode_Decode.calls k 4293918867 t101 t102 t103 t104 t105 t106 t107 t108 t109 _ A1.out).mono ?_); rintro e w3 ⟨rfl, hb⟩; refine ⟨_, rfl, ?_⟩; have n0_ := Aside0.mk (below_step (by repeat (first | (with_reducible first | exact HB.out | apply below_alloc | apply pw_below_drewN | apply below_drew1) | exact HB.out)) hb); clear HB; have HB := n0_; clear n0_; (try clear hb); (try clear hb2); (try clear hk); (try clear hi)))
    go_ret
    exact ⟨by first | rfl | (simp [errW_none, errW_some] <;> rfl) | (simp [*, errW_none, errW_some] <;> rfl), by repeat (first | (with_reducible first | exact HB.out | apply below_alloc | apply pw_below_drewN | apply below_drew1) | exact HB.out)⟩
  · rw [if_neg c2] at H
    have c2b0 : (!(t101 == 22) || (!(t102 == 1) || (!(t103 == 0) || (!(t104 == 0) || (!(t105 == (-1)) || (t106 || (t107 || (!(t108 == 4) || (!(t109 == 4293918867)))))))))) = false := by simpa using c2
    clear c2
    replace H := Option.bind_eq_some_iff.mp H
    obtain ⟨⟨t110, t111⟩, A40, H⟩ := H
    replace H : (if t111 = true then (if t110 = 1049875 then ((decode_Decode.f k 17669).bind fun bt112 => (some (bt112.1 == 22 && (bt112.2.1 == 10 && (bt112.2.2.1 == 0 && (bt112.2.2.2.1 == 0 && (bt112.2.2.2.2.1 == 1 && (!bt112.2.2.2.2.2.1 && (!bt112.2.2.2.2.2.2.1 && (bt112.2.2.2.2.2.2.2.1 == 2 && (bt112.2.2.2.2.2.2.2.2 == 17669))))))))))) else (some false)) else (some false)) = some r := H
    have A4 := Aside0.mk A40
    clear A40
    by_cases c5 : t111 = true
    · subst c5
      have H1 : (if t110 = 1049875 then ((decode_Decode.f k 17669).bind fun bt112 => (some (bt112.1 == 22 && (bt112.2.1 == 10 && (bt112.2.2.1 == 0 && (bt112.2.2.2.1 == 0 && (bt112.2.2.2.2.1 == 1 && (!bt112.2.2.2.2.2.1 && (!bt112.2.2.2.2.2.2.1 && (bt112.2.2.2.2.2.2.2.1 == 2 && (bt112.2.2.2.2.2.2.2.2 == 17669))))))))))) else (some false)) = some r := by rw [if_pos rfl] at H; exact H
      clear H
      have H := H1
      clear H1
      by_cases c6 : t110 = 1049875
      · rw [if_pos c6] at H
        have c6b0 : (t110 == 1049875) = true := beq_iff_eq.mpr c6
        have c6b1 : (t110 != 1049875) = false := bne_eq_false_iff_eq.mpr c6
        clear c6
        replace H := Option.bind_eq_some_iff.mp H
        obtain ⟨⟨t112, t113, t114, t115, t116, t117, t118, t119, t120⟩, A70, H⟩ := H
        replace H : (some (t112 == 22 && (t113 == 10 && (t114 == 0 && (t115 == 0 && (t116 == 1 && (!t117 && (!t118 && (t119 == 2 && (t120 == 17669)))))))))) = some r := H
        have A7 := Aside0.mk A70
        clear A70
        obtain rfl := Option.some.inj H
        go_enter Try.func15, Try.ntmps15
        go_wp2_with (first | ((with_reducible refine gate_callee (f := 13) rfl ?_); refine goesL_ (some 3) rfl rfl Try.func13 (by kernel_rfl) rfl #[.int .u32 4293918867] rfl (by (try simp only [List.map_toArray, List.map_cons, List.map_nil]); first | done | rfl | (simp only [List.length_drop, List.length_take]; rfl)) ?_; (with_reducible refine (decode_Decode.calls k 4293918867 t101 t102 t103 t104 t105 t106 t107 t108 t109 _ A1.out).mono ?_); rintro e w8 ⟨rfl, hb⟩; refine ⟨_, rfl, ?_⟩; have n0_ := Aside0.mk (below_step (by repeat (first | (with_reducible first | exact HB.out | apply below_alloc | apply pw_below_drewN | apply below_drew1) | exact HB.out)) hb); clear HB; have HB := n0_; clear n0_; (try clear hb); (try clear hb2); (try clear hk); (try clear hi)) | ((with_reducible refine gate_callee (f := 9) rfl ?_); refine goesL_ (some 7) rfl rfl Try.func9 (by kernel_rfl) rfl #[.int .u16 17669] rfl (by (try simp only [List.map_toArray, List.map_cons, List.map_nil]); first | done | rfl | (simp only [List.length_drop, List.length_take]; rfl)) ?_; (with_reducible refine (decode_Expand.calls k 17669 t110 true _ A4.out).mono ?_); rintro e w' ⟨rfl, ⟨nd, rfl⟩⟩; refine ⟨_, rfl, ?_⟩) | (go_at_call 13; (with_reducible refine (decode_Decode.calls k 17669 t112 t113 t114 t115 t116 t117 t118 t119 t120 _ A7.out).mono ?_); rintro e w9 ⟨rfl, hb⟩; have n0_ := Aside0.mk (below_step (by repeat (first | (with_reducible first | exact HB.out | apply below_alloc | apply pw_below_drewN | apply below_drew1) | exact HB.out)) hb); clear HB; have HB := n0_; clear n0_; (try clear hb); (try clear hb2); (try clear hk); (try clear hi)))
        go_ret
        exact ⟨by first | rfl | (simp [errW_none, errW_some] <;> rfl) | (simp [*, errW_none, errW_some] <;> rfl), by repeat (first | (with_reducible first | exact HB.out | apply below_alloc | apply pw_below_drewN | apply below_drew1) | exact HB.out)⟩
      · rw [if_neg c6] at H
        have c6b0 : (t110 == 1049875) = false := beq_eq_false_iff_ne.mpr c6
        have c6b1 : (t110 != 1049875) = true := bne_iff_ne.mpr c6
        obtain rfl := Option.some.inj H
        go_enter Try.func15, Try.ntmps15
        go_wp2_with (first | ((with_reducible refine gate_callee (f := 13) rfl ?_); refine goesL_ (some 3) rfl rfl Try.func13 (by kernel_rfl) rfl #[.int .u32 4293918867] rfl (by (try simp only [List.map_toArray, List.map_cons, List.map_nil]); first | done | rfl | (simp only [List.length_drop, List.length_take]; rfl)) ?_; (with_reducible refine (decode_Decode.calls k 4293918867 t101 t102 t103 t104 t105 t106 t107 t108 t109 _ A1.out).mono ?_); rintro e w10 ⟨rfl, hb⟩; refine ⟨_, rfl, ?_⟩; have n0_ := Aside0.mk (below_step (by repeat (first | (with_reducible first | exact HB.out | apply below_alloc | apply pw_below_drewN | apply below_drew1) | exact HB.out)) hb); clear HB; have HB := n0_; clear n0_; (try clear hb); (try clear hb2); (try clear hk); (try clear hi)) | ((with_reducible refine gate_callee (f := 9) rfl ?_); refine goesL_ (some 7) rfl rfl Try.func9 (by kernel_rfl) rfl #[.int .u16 17669] rfl (by (try simp only [List.map_toArray, List.map_cons, List.map_nil]); first | done | rfl | (simp only [List.length_drop, List.length_take]; rfl)) ?_; (with_reducible refine (decode_Expand.calls k 17669 t110 true _ A4.out).mono ?_); rintro e w' ⟨rfl, ⟨nd, rfl⟩⟩; refine ⟨_, rfl, ?_⟩))
        go_ret
        exact ⟨by first | rfl | (simp [errW_none, errW_some] <;> rfl) | (simp [*, errW_none, errW_some] <;> rfl), by repeat (first | (with_reducible first | exact HB.out | apply below_alloc | apply pw_below_drewN | apply below_drew1) | exact HB.out)⟩
    · replace c5 := Bool.eq_false_iff.mpr c5
      subst c5
      have H1 : (some false) = some r := by rw [if_neg (show ¬ (false = true) by decide)] at H; exact H
      clear H
      have H := H1
      clear H1
      obtain rfl := Option.some.inj H
      go_enter Try.func15, Try.ntmps15
      go_wp2_with (first | ((with_reducible refine gate_callee (f := 13) rfl ?_); refine goesL_ (some 3) rfl rfl Try.func13 (by kernel_rfl) rfl #[.int .u32 4293918867] rfl (by (try simp only [List.map_toArray, List.map_cons, List.map_nil]); first | done | rfl | (simp only [List.length_drop, List.length_take]; rfl)) ?_; (with_reducible refine (decode_Decode.calls k 4293918867 t101 t102 t103 t104 t105 t106 t107 t108 t109 _ A1.out).mono ?_); rintro e w11 ⟨rfl, hb⟩; refine ⟨_, rfl, ?_⟩; have n0_ := Aside0.mk (below_step (by repeat (first | (with_reducible first | exact HB.out | apply below_alloc | apply pw_below_drewN | apply below_drew1) | exact HB.out)) hb); clear HB; have HB := n0_; clear n0_; (try clear hb); (try clear hb2); (try clear hk); (try clear hi)) | ((with_reducible refine gate_callee (f := 9) rfl ?_); refine goesL_ (some 7) rfl rfl Try.func9 (by kernel_rfl) rfl #[.int .u16 17669] rfl (by (try simp only [List.map_toArray, List.map_cons, List.map_nil]); first | done | rfl | (simp only [List.length_drop, List.length_take]; rfl)) ?_; (with_reducible refine (decode_Expand.calls k 17669 t110 false _ A4.out).mono ?_); rintro e w' ⟨rfl, ⟨nd, rfl⟩⟩; refine ⟨_, rfl, ?_⟩))
      go_ret
      exact ⟨by first | rfl | (simp [errW_none, errW_some] <;> rfl) | (simp [*, errW_none, errW_some] <;> rfl), by repeat (first | (with_reducible first | exact HB.out | apply below_alloc | apply pw_below_drewN | apply below_drew1) | exact HB.out)⟩

/-! ### anvillaw05_DecodeShort: function 5 -/
def anvillaw05_DecodeShort.f (k : Nat) (a0 : Int) (a1 : Int) : Option (Bool) := (anvillaw05_first.f k).bind fun t121 => (if t121 = true then (if (Int.tmod a0 4) = 3 then ((decode_Expand.f k a0).bind fun bt122 => (if bt122.1 = 0 then (some (!bt122.2)) else (some false))) else ((decode_Decode.f k (Go.bits .or .u32 ((a1 * 65536) % 4294967296) ((a0) % 4294967296))).bind fun bt124 => ((decode_Expand.f k a0).bind fun bt134 => (if bt134.2 = true then ((decode_Decode.f k bt134.1).bind fun bt136 => (if bt136.2.2.2.2.2.2.2.1 = 4 then (if bt136.2.2.2.2.2.2.2.2 = bt134.1 then (if bt136.1 = 0 then (some false) else (some (bt124.1 == bt136.1 && (bt124.2.1 == bt136.2.1 && (bt124.2.2.1 == bt136.2.2.1 && (bt124.2.2.2.1 == bt136.2.2.2.1 && (bt124.2.2.2.2.1 == bt136.2.2.2.2.1 && (bt124.2.2.2.2.2.1 == bt136.2.2.2.2.2.1 && (bt124.2.2.2.2.2.2.1 == bt136.2.2.2.2.2.2.1 && (bt124.2.2.2.2.2.2.2.1 == 2 && (bt124.2.2.2.2.2.2.2.2 == ((a0) % 4294967296)))))))))))) else (some false)) else (some false))) else (if bt134.1 = 0 then (some (bt124.1 == 0 && (bt124.2.1 == 0 && (bt124.2.2.1 == 0 && (bt124.2.2.2.1 == 0 && (bt124.2.2.2.2.1 == 0 && (!bt124.2.2.2.2.2.1 && (!bt124.2.2.2.2.2.2.1 && (bt124.2.2.2.2.2.2.2.1 == 2 && (bt124.2.2.2.2.2.2.2.2 == ((a0) % 4294967296))))))))))) else (some false)))))) else (some false))
theorem anvillaw05_DecodeShort.mono : ∀ a0 a1 k, LeO (anvillaw05_DecodeShort.f k a0 a1) (anvillaw05_DecodeShort.f (k + 1) a0 a1) := by
  intro a0 a1 k
  unfold anvillaw05_DecodeShort.f
  repeat' first
      | (with_reducible exact anvillaw05_first.mono _)
      | (with_reducible exact decode_Decode.mono _ _)
      | (with_reducible exact decode_Expand.mono _ _)
      | (with_reducible exact LeO.refl _)
      | (with_reducible exact LeO.none _)
      | (with_reducible refine LeO.ite ?_ ?_)
      | (with_reducible refine LeO.bind ?_ (fun _ => ?_))
      | exact anvillaw05_first.mono _
      | exact decode_Decode.mono _ _
      | exact decode_Expand.mono _ _
      | exact LeO.none _
      | refine LeO.ite ?_ ?_
      | refine LeO.bind ?_ (fun _ => ?_)
set_option maxHeartbeats 8000000 in
set_option maxRecDepth 100000 in
theorem anvillaw05_DecodeShort.calls (k : Nat) (a0 : Int) (a1 : Int) (r : Bool) (hr : Aside0 (r = true)) (w : World) (h : anvillaw05_DecodeShort.f k a0 a1 = some r) :
    Calls Try.prog 5 #[.int .u16 a0, .int .u32 a1] w fun e w' => e = .returned (.bool r) ∧ Below w.heap.size w w' := by
  have hu29 := Try.underlying29
  have HB := Aside0.mk (Below.refl w.heap.size w)
  have H : ((anvillaw05_first.f k).bind fun t121 => (if t121 = true then (if (Int.tmod a0 4) = 3 then ((decode_Expand.f k a0).bind fun bt122 => (if bt122.1 = 0 then (some (!bt122.2)) else (some false))) else ((decode_Decode.f k (Go.bits .or .u32 ((a1 * 65536) % 4294967296) ((a0) % 4294967296))).bind fun bt124 => ((decode_Expand.f k a0).bind fun bt134 => (if bt134.2 = true then ((decode_Decode.f k bt134.1).bind fun bt136 => (if bt136.2.2.2.2.2.2.2.1 = 4 then (if bt136.2.2.2.2.2.2.2.2 = bt134.1 then (if bt136.1 = 0 then (some false) else (some (bt124.1 == bt136.1 && (bt124.2.1 == bt136.2.1 && (bt124.2.2.1 == bt136.2.2.1 && (bt124.2.2.2.1 == bt136.2.2.2.1 && (bt124.2.2.2.2.1 == bt136.2.2.2.2.1 && (bt124.2.2.2.2.2.1 == bt136.2.2.2.2.2.1 && (bt124.2.2.2.2.2.2.1 == bt136.2.2.2.2.2.2.1 && (bt124.2.2.2.2.2.2.2.1 == 2 && (bt124.2.2.2.2.2.2.2.2 == ((a0) % 4294967296)))))))))))) else (some false)) else (some false))) else (if bt134.1 = 0 then (some (bt124.1 == 0 && (bt124.2.1 == 0 && (bt124.2.2.1 == 0 && (bt124.2.2.2.1 == 0 && (bt124.2.2.2.2.1 == 0 && (!bt124.2.2.2.2.2.1 && (!bt124.2.2.2.2.2.2.1 && (bt124.2.2.2.2.2.2.2.1 == 2 && (bt124.2.2.2.2.2.2.2.2 == ((a0) % 4294967296))))))))))) else (some false)))))) else (some false))) = some r := h
  clear h
  replace H := Option.bind_eq_some_iff.mp H
  obtain ⟨t121, A30, H⟩ := H
  replace H : (if t121 = true then (if (Int.tmod a0 4) = 3 then ((decode_Expand.f k a0).bind fun bt122 => (if bt122.1 = 0 then (some (!bt122.2)) else (some false))) else ((decode_Decode.f k (Go.bits .or .u32 ((a1 * 65536) % 4294967296) ((a0) % 4294967296))).bind fun bt124 => ((decode_Expand.f k a0).bind fun bt134 => (if bt134.2 = true then ((decode_Decode.f k bt134.1).bind fun bt136 => (if bt136.2.2.2.2.2.2.2.1 = 4 then (if bt136.2.2.2.2.2.2.2.2 = bt134.1 then (if bt136.1 = 0 then (some false) else (some (bt124.1 == bt136.1 && (bt124.2.1 == bt136.2.1 && (bt124.2.2.1 == bt136.2.2.1 && (bt124.2.2.2.1 == bt136.2.2.2.1 && (bt124.2.2.2.2.1 == bt136.2.2.2.2.1 && (bt124.2.2.2.2.2.1 == bt136.2.2.2.2.2.1 && (bt124.2.2.2.2.2.2.1 == bt136.2.2.2.2.2.2.1 && (bt124.2.2.2.2.2.2.2.1 == 2 && (bt124.2.2.2.2.2.2.2.2 == ((a0) % 4294967296)))))))))))) else (some false)) else (some false))) else (if bt134.1 = 0 then (some (bt124.1 == 0 && (bt124.2.1 == 0 && (bt124.2.2.1 == 0 && (bt124.2.2.2.1 == 0 && (bt124.2.2.2.2.1 == 0 && (!bt124.2.2.2.2.2.1 && (!bt124.2.2.2.2.2.2.1 && (bt124.2.2.2.2.2.2.2.1 == 2 && (bt124.2.2.2.2.2.2.2.2 == ((a0) % 4294967296))))))))))) else (some false)))))) else (some false)) = some r := H
  have A3 := Aside0.mk A30
  clear A30
  by_cases c4 : t121 = true
  · subst c4
    have H1 : (if (Int.tmod a0 4) = 3 then ((decode_Expand.f k a0).bind fun bt122 => (if bt122.1 = 0 then (some (!bt122.2)) else (some false))) else ((decode_Decode.f k (Go.bits .or .u32 ((a1 * 65536) % 4294967296) ((a0) % 4294967296))).bind fun bt124 => ((decode_Expand.f k a0).bind fun bt134 => (if bt134.2 = true then ((decode_Decode.f k bt134.1).bind fun bt136 => (if bt136.2.2.2.2.2.2.2.1 = 4 then (if bt136.2.2.2.2.2.2.2.2 = bt134.1 then (if bt136.1 = 0 then (some false) else (some (bt124.1 == bt136.1 && (bt124.2.1 == bt136.2.1 && (bt124.2.2.1 == bt136.2.2.1 && (bt124.2.2.2.1 == bt136.2.2.2.1 && (bt124.2.2.2.2.1 == bt136.2.2.2.2.1 && (bt124.2.2.2.2.2.1 == bt136.2.2.2.2.2.1 && (bt124.2.2.2.2.2.2.1 == bt136.2.2.2.2.2.2.1 && (bt124.2.2.2.2.2.2.2.1 == 2 && (bt124.2.2.2.2.2.2.2.2 == ((a0) % 4294967296)))))))))))) else (some false)) else (some false))) else (if bt134.1 = 0 then (some (bt124.1 == 0 && (bt124.2.1 == 0 && (bt124.2.2.1 == 0 && (bt124.2.2.2.1 == 0 && (bt124.2.2.2.2.1 == 0 && (!bt124.2.2.2.2.2.1 && (!bt124.2.2.2.2.2.2.1 && (bt124.2.2.2.2.2.2.2.1 == 2 && (bt124.2.2.2.2.2.2.2.2 == ((a0) % 4294967296))))))))))) else (some false)))))) = some r := by rw [if_pos rfl] at H; exact H
    clear H
    have H := H1
    clear H1
    by_cases c5 : (Int.tmod a0 4) = 3
    · rw [if_pos c5] at H
      have c5b0 : ((Int.tmod a0 4) == 3) = true := beq_iff_eq.mpr c5
      have c5b1 : ((Int.tmod a0 4) != 3) = false := bne_eq_false_iff_eq.mpr c5
      clear c5
      replace H := Option.bind_eq_some_iff.mp H
      obtain ⟨⟨t122, t123⟩, A60, H⟩ := H
      replace H : (if t122 = 0 then (some (!t123)) else (some false)) = some r := H
      have A6 := Aside0.mk A60
      clear A60
      by_cases c7 : t122 = 0
      · rw [if_pos c7] at H
        have c7b0 : (t122 == 0) = true := beq_iff_eq.mpr c7
        have c7b1 : (t122 != 0) = false := bne_eq_false_iff_eq.mpr c7
        clear c7
        obtain rfl := Option.some.inj H
        go_enter Try.func5, Try.ntmps5
        go_wp2_with (first | ((with_reducible refine gate_callee (f := 15) rfl ?_); refine goesL_ (some 12) rfl rfl Try.func15 (by kernel_rfl) rfl #[] rfl (by (try simp only [List.map_toArray, List.map_cons, List.map_nil]); first | done | rfl | (simp only [List.length_drop, List.length_take]; rfl)) ?_; (with_reducible refine (anvillaw05_first.calls k  true _ A3.out).mono ?_); rintro e w8 ⟨rfl, hb⟩; refine ⟨_, rfl, ?_⟩; have n0_ := Aside0.mk (below_step (by repeat (first | (with_reducible first | exact HB.out | apply below_alloc | apply pw_below_drewN | apply below_drew1) | exact HB.out)) hb); clear HB; have HB := n0_; clear n0_; (try clear hb); (try clear hb2); (try clear hk); (try clear hi)) | ((with_reducible refine gate_callee (f := 9) rfl ?_); refine goesL_ (some 19) rfl rfl Try.func9 (by kernel_rfl) rfl #[.int .u16 a0] rfl (by (try simp only [List.map_toArray, List.map_cons, List.map_nil]); first | done | rfl | (simp only [List.length_drop, List.length_take]; rfl)) ?_; (with_reducible refine (decode_Expand.calls k a0 t122 t123 _ A6.out).mono ?_); rintro e w' ⟨rfl, ⟨nd, rfl⟩⟩; refine ⟨_, rfl, ?_⟩))
        go_ret
        exact ⟨by first | rfl | (simp [errW_none, errW_some] <;> rfl) | (simp [*, errW_none, errW_some] <;> rfl), by repeat (first | (with_reducible first | exact HB.out | apply below_alloc | apply pw_below_drewN | apply below_drew1) | exact HB.out)⟩
      · rw [if_neg c7] at H
        have c7b0 : (t122 == 0) = false := beq_eq_false_iff_ne.mpr c7
        have c7b1 : (t122 != 0) = true := bne_iff_ne.mpr c7
        obtain rfl := Option.some.inj H
        exact absurd hr.out (by decide)
    · rw [if_neg c5] at H
      have c5b0 : ((Int.tmod a0 4) == 3) = false := beq_eq_false_iff_ne.mpr c5
      have c5b1 : ((Int.tmod a0 4) != 3) = true := bne_iff_ne.mpr c5
      replace H := Option.bind_eq_some_iff.mp H
      obtain ⟨⟨t124, t125, t126, t127, t128, t129, t130, t131, t132⟩, A90, H⟩ := H
      replace H : ((decode_Expand.f k a0).bind fun bt134 => (if bt134.2 = true then ((decode_Decode.f k bt134.1).bind fun bt136 => (if bt136.2.2.2.2.2.2.2.1 = 4 then (if bt136.2.2.2.2.2.2.2.2 = bt134.1 then (if bt136.1 = 0 then (some false) else (some (t124 == bt136.1 && (t125 == bt136.2.1 && (t126 == bt136.2.2.1 && (t127 == bt136.2.2.2.1 && (t128 == bt136.2.2.2.2.1 && (t129 == bt136.2.2.2.2.2.1 && (t130 == bt136.2.2.2.2.2.2.1 && (t131 == 2 && (t132 == ((a0) % 4294967296)))))))))))) else (some false)) else (some false))) else (if bt134.1 = 0 then (some (t124 == 0 && (t125 == 0 && (t126 == 0 && (t127 == 0 && (t128 == 0 && (!t129 && (!t130 && (t131 == 2 && (t132 == ((a0) % 4294967296))))))))))) else (some false)))) = some r := H
      have A9 := Aside0.mk A90
      clear A90
      replace H := Option.bind_eq_some_iff.mp H
      obtain ⟨⟨t134, t135⟩, A100, H⟩ := H
      replace H : (if t135 = true then ((decode_Decode.f k t134).bind fun bt136 => (if bt136.2.2.2.2.2.2.2.1 = 4 then (if bt136.2.2.2.2.2.2.2.2 = t134 then (if bt136.1 = 0 then (some false) else (some (t124 == bt136.1 && (t125 == bt136.2.1 && (t126 == bt136.2.2.1 && (t127 == bt136.2.2.2.1 && (t128 == bt136.2.2.2.2.1 && (t129 == bt136.2.2.2.2.2.1 && (t130 == bt136.2.2.2.2.2.2.1 && (t131 == 2 && (t132 == ((a0) % 4294967296)))))))))))) else (some false)) else (some false))) else (if t134 = 0 then (some (t124 == 0 && (t125 == 0 && (t126 == 0 && (t127 == 0 && (t128 == 0 && (!t129 && (!t130 && (t131 == 2 && (t132 == ((a0) % 4294967296))))))))))) else (some false))) = some r := H
      have A10 := Aside0.mk A100
      clear A100
      by_cases c11 : t135 = true
      · subst c11
        have H1 : ((decode_Decode.f k t134).bind fun bt136 => (if bt136.2.2.2.2.2.2.2.1 = 4 then (if bt136.2.2.2.2.2.2.2.2 = t134 then (if bt136.1 = 0 then (some false) else (some (t124 == bt136.1 && (t125 == bt136.2.1 && (t126 == bt136.2.2.1 && (t127 == bt136.2.2.2.1 && (t128 == bt136.2.2.2.2.1 && (t129 == bt136.2.2.2.2.2.1 && (t130 == bt136.2.2.2.2.2.2.1 && (t131 == 2 && (t132 == ((a0) % 4294967296)))))))))))) else (some false)) else (some false))) = some r := by rw [if_pos rfl] at H; exact H
        clear H
        have H := H1
        clear H1
        replace H := Option.bind_eq_some_iff.mp H
        obtain ⟨⟨t136, t137, t138, t139, t140, t141, t142, t143, t144⟩, A120, H⟩ := H
        replace H : (if t143 = 4 then (if t144 = t134 then (if t136 = 0 then (some false) else (some (t124 == t136 && (t125 == t137 && (t126 == t138 && (t127 == t139 && (t128 == t140 && (t129 == t141 && (t130 == t142 && (t131 == 2 && (t132 == ((a0) % 4294967296)))))))))))) else (some false)) else (some false)) = some r := H
        have A12 := Aside0.mk A120
        clear A120
        by_cases c13 : t143 = 4
        · rw [if_pos c13] at H
          have c13b0 : (t143 == 4) = true := beq_iff_eq.mpr c13
          have c13b1 : (t143 != 4) = false := bne_eq_false_iff_eq.mpr c13
          clear c13
          by_cases c14 : t144 = t134
          · rw [if_pos c14] at H
            have c14b0 : (t144 == t134) = true := beq_iff_eq.mpr c14
            have c14b1 : (t144 != t134) = false := bne_eq_false_iff_eq.mpr c14
            clear c14
            by_cases c15 : t136 = 0
            · rw [if_pos c15] at H
              have c15b0 : (t136 == 0) = true := beq_iff_eq.mpr c15
              have c15b1 : (t136 != 0) = false := bne_eq_false_iff_eq.mpr c15
              clear c15
              obtain rfl := Option.some.inj H
              exact absurd hr.out (by decide)
            · rw [if_neg c15] at H
              have c15b0 : (t136 == 0) = false := beq_eq_false_iff_ne.mpr c15
              have c15b1 : (t136 != 0) = true := bne_iff_ne.mpr c15
              obtain rfl := Option.some.inj H
              have hq_ := hr.out
              simp only [Bool.and_eq_true, Bool.not_eq_true'] at hq_
              obtain ⟨q0_, q1_, q2_, q3_, q4_, q5_, q6_, q7_, q8_⟩ := hq_
              go_enter Try.func5, Try.ntmps5
              go_upto_region 14 with (first | ((with_reducible refine gate_callee (f := 15) rfl ?_); refine goesL_ (some 12) rfl rfl Try.func15 (by kernel_rfl) rfl #[] rfl (by (try simp only [List.map_toArray, List.map_cons, List.map_nil]); first | done | rfl | (simp only [List.length_drop, List.length_take]; rfl)) ?_; (with_reducible refine (anvillaw05_first.calls k  true _ A3.out).mono ?_); rintro e w16 ⟨rfl, hb⟩; refine ⟨_, rfl, ?_⟩; have n0_ := Aside0.mk (below_step (by repeat (first | (with_reducible first | exact HB.out | apply below_alloc | apply pw_below_drewN | apply below_drew1) | exact HB.out)) hb); clear HB; have HB := n0_; clear n0_; (try clear hb); (try clear hb2); (try clear hk); (try clear hi)) | ((with_reducible refine gate_callee (f := 13) rfl ?_); refine goesL_ (some 33) rfl rfl Try.func13 (by kernel_rfl) rfl #[.int .u32 (Go.bits .or .u32 ((a1 * 65536) % 4294967296) ((a0) % 4294967296))] rfl (by (try simp only [List.map_toArray, List.map_cons, List.map_nil]); first | done | rfl | (simp only [List.length_drop, List.length_take]; rfl)) ?_; (with_reducible refine (decode_Decode.calls k (Go.bits .or .u32 ((a1 * 65536) % 4294967296) ((a0) % 4294967296)) t124 t125 t126 t127 t128 t129 t130 t131 t132 _ A9.out).mono ?_); rintro e w17 ⟨rfl, hb⟩; refine ⟨_, rfl, ?_⟩; have n0_ := Aside0.mk (below_step (by repeat (first | (with_reducible first | exact HB.out | apply below_alloc | apply pw_below_drewN | apply below_drew1) | exact HB.out)) hb); clear HB; have HB := n0_; clear n0_; (try clear hb); (try clear hb2); (try clear hk); (try clear hi)) | ((with_reducible refine gate_dst (N := 7) rfl ?_); refine box_event ?hg (N := 7) ?hd (cs := #[.int .i64 0, .int .i64 0, .int .i64 0, .int .i64 0, .int .i64 0, .bool false, .bool false, .int .i64 0, .int .u32 0]) (t := 29) ?hr ?_; (case hd => rfl); (case hg => rfl); (case hr => first | (go_simp; done) | (go_simp; rfl)); intro gb133 hg w18 hbox hb; have n0_ := Aside0.mk (below_step (by repeat (first | (with_reducible first | exact HB.out | apply below_alloc | apply pw_below_drewN | apply below_drew1) | exact HB.out)) hb); have n1_ := Aside0.mk (hbox); have n2_ := Aside0.mk ((by rw [hg]; exact (below_size (by repeat (first | (with_reducible first | exact HB.out | apply below_alloc | apply pw_below_drewN | apply below_drew1) | exact HB.out))) : w.heap.size ≤ gb133)); have n3_ := Aside0.mk ((by rw [hg]; exact (below_size (by repeat (first | (with_reducible first | exact HB.out | apply below_alloc | apply pw_below_drewN | apply below_drew1) | exact HB.out))) : w.heap.size ≤ gb133)); clear HB; have HB := n0_; have BK133 := n1_; have GW133 := n2_; have GE133 := n3_; clear n0_ n1_ n2_ n3_; clear hb hbox hg; have hcz19_0 : w18.cell? ⟨gb133, 0, none⟩ = some (.int .i64 0) := (blk_cell BK133.out 0).trans rfl; have hcz19_1 : w18.cell? ⟨gb133, 1, none⟩ = some (.int .i64 0) := (blk_cell BK133.out 1).trans rfl; have hcz19_2 : w18.cell? ⟨gb133, 2, none⟩ = some (.int .i64 0) := (blk_cell BK133.out 2).trans rfl; have hcz19_3 : w18.cell? ⟨gb133, 3, none⟩ = some (.int .i64 0) := (blk_cell BK133.out 3).trans rfl; have hcz19_4 : w18.cell? ⟨gb133, 4, none⟩ = some (.int .i64 0) := (blk_cell BK133.out 4).trans rfl; have hcz19_5 : w18.cell? ⟨gb133, 5, none⟩ = some (.bool false) := (blk_cell BK133.out 5).trans rfl; have hcz19_6 : w18.cell? ⟨gb133, 6, none⟩ = some (.bool false) := (blk_cell BK133.out 6).trans rfl; have hcz19_7 : w18.cell? ⟨gb133, 7, none⟩ = some (.int .i64 0) := (blk_cell BK133.out 7).trans rfl; have hcz19_8 : w18.cell? ⟨gb133, 8, none⟩ = some (.int .u32 0) := (blk_cell BK133.out 8).trans rfl; have hfz19_0 := blk_frozen BK133.out 0; have hfz19_1 := blk_frozen BK133.out 1; have hfz19_2 := blk_frozen BK133.out 2; have hfz19_3 := blk_frozen BK133.out 3; have hfz19_4 := blk_frozen BK133.out 4; have hfz19_5 := blk_frozen BK133.out 5; have hfz19_6 := blk_frozen BK133.out 6; have hfz19_7 := blk_frozen BK133.out 7; have hfz19_8 := blk_frozen BK133.out 8) | ((with_reducible refine gate_callee (f := 9) rfl ?_); refine goesL_ (some 36) rfl rfl Try.func9 (by kernel_rfl) rfl #[.int .u16 a0] rfl (by (try simp only [List.map_toArray, List.map_cons, List.map_nil]); first | done | rfl | (simp only [List.length_drop, List.length_take]; rfl)) ?_; (with_reducible refine (decode_Expand.calls k a0 t134 true _ A10.out).mono ?_); rintro e w' ⟨rfl, ⟨nd, rfl⟩⟩; refine ⟨_, rfl, ?_⟩) | ((with_reducible refine gate_callee (f := 13) rfl ?_); refine goesL_ (some 51) rfl rfl Try.func13 (by kernel_rfl) rfl #[.int .u32 t134] rfl (by (try simp only [List.map_toArray, List.map_cons, List.map_nil]); first | done | rfl | (simp only [List.length_drop, List.length_take]; rfl)) ?_; (with_reducible refine (decode_Decode.calls k t134 t136 t137 t138 t139 t140 t141 t142 t143 t144 _ A12.out).mono ?_); rintro e w20 ⟨rfl, hb⟩; refine ⟨_, rfl, ?_⟩; have n0_ := Aside0.mk (blk_below (g := gb133) (o := .cells #[.int .i64 t124, .int .i64 t125, .int .i64 t126, .int .i64 t127, .int .i64 t128, .bool t129, .bool t130, .int .i64 t131, .int .u32 t132] 29 (0, 0)) (by (with_reducible repeat (first | refine blk_drewN ?_ _ | refine blk_drew ?_ | refine blk_alloc ?_ _)); refine blk_put (cs := #[.int .i64 t124, .int .i64 t125, .int .i64 t126, .int .i64 t127, .int .i64 t128, .bool t129, .bool t130, .int .i64 t131, .int .u32 0]) ?_ 8 _ rfl; (with_reducible repeat (first | refine blk_drewN ?_ _ | refine blk_drew ?_ | refine blk_alloc ?_ _)); refine blk_put (cs := #[.int .i64 t124, .int .i64 t125, .int .i64 t126, .int .i64 t127, .int .i64 t128, .bool t129, .bool t130, .int .i64 0, .int .u32 0]) ?_ 7 _ rfl; (with_reducible repeat (first | refine blk_drewN ?_ _ | refine blk_drew ?_ | refine blk_alloc ?_ _)); refine blk_put (cs := #[.int .i64 t124, .int .i64 t125, .int .i64 t126, .int .i64 t127, .int .i64 t128, .bool t129, .bool false, .int .i64 0, .int .u32 0]) ?_ 6 _ rfl; (with_reducible repeat (first | refine blk_drewN ?_ _ | refine blk_drew ?_ | refine blk_alloc ?_ _)); refine blk_put (cs := #[.int .i64 t124, .int .i64 t125, .int .i64 t126, .int .i64 t127, .int .i64 t128, .bool false, .bool false, .int .i64 0, .int .u32 0]) ?_ 5 _ rfl; (with_reducible repeat (first | refine blk_drewN ?_ _ | refine blk_drew ?_ | refine blk_alloc ?_ _)); refine blk_put (cs := #[.int .i64 t124, .int .i64 t125, .int .i64 t126, .int .i64 t127, .int .i64 0, .bool false, .bool false, .int .i64 0, .int .u32 0]) ?_ 4 _ rfl; (with_reducible repeat (first | refine blk_drewN ?_ _ | refine blk_drew ?_ | refine blk_alloc ?_ _)); refine blk_put (cs := #[.int .i64 t124, .int .i64 t125, .int .i64 t126, .int .i64 0, .int .i64 0, .bool false, .bool false, .int .i64 0, .int .u32 0]) ?_ 3 _ rfl; (with_reducible repeat (first | refine blk_drewN ?_ _ | refine blk_drew ?_ | refine blk_alloc ?_ _)); refine blk_put (cs := #[.int .i64 t124, .int .i64 t125, .int .i64 0, .int .i64 0, .int .i64 0, .bool false, .bool false, .int .i64 0, .int .u32 0]) ?_ 2 _ rfl; (with_reducible repeat (first | refine blk_drewN ?_ _ | refine blk_drew ?_ | refine blk_alloc ?_ _)); refine blk_put (cs := #[.int .i64 t124, .int .i64 0, .int .i64 0, .int .i64 0, .int .i64 0, .bool false, .bool false, .int .i64 0, .int .u32 0]) ?_ 1 _ rfl; (with_reducible repeat (first | refine blk_drewN ?_ _ | refine blk_drew ?_ | refine blk_alloc ?_ _)); refine blk_put (cs := #[.int .i64 0, .int .i64 0, .int .i64 0, .int .i64 0, .int .i64 0, .bool false, .bool false, .int .i64 0, .int .u32 0]) ?_ 0 _ rfl; (with_reducible repeat (first | refine blk_drewN ?_ _ | refine blk_drew ?_ | refine blk_alloc ?_ _)); exact BK133.out) hb); have n1_ := Aside0.mk (below_step (by repeat (first | (with_reducible first | exact HB.out | apply below_alloc | apply pw_below_drewN | apply below_drew1 | refine below_set ?_ GE133.out) | exact HB.out)) hb); clear BK133; clear HB; have BK133 := n0_; have HB := n1_; clear n0_ n1_; (try clear hb); (try clear hb2); (try clear hk); (try clear hi)) | ((with_reducible refine gate_dst (N := 10) rfl ?_); refine box_event ?hg (N := 10) ?hd (cs := #[.int .i64 0, .int .i64 0, .int .i64 0, .int .i64 0, .int .i64 0, .bool false, .bool false, .int .i64 0, .int .u32 0]) (t := 29) ?hr ?_; (case hd => rfl); (case hg => rfl); (case hr => first | (go_simp; done) | (go_simp; rfl)); intro gb145 hg w21 hbox hb; have n0_ := Aside0.mk (blk_below (g := gb133) (o := .cells #[.int .i64 t124, .int .i64 t125, .int .i64 t126, .int .i64 t127, .int .i64 t128, .bool t129, .bool t130, .int .i64 t131, .int .u32 t132] 29 (0, 0)) (by (with_reducible repeat (first | refine blk_drewN ?_ _ | refine blk_drew ?_ | refine blk_alloc ?_ _)); exact BK133.out) hb); have n1_ := Aside0.mk (below_step (by repeat (first | (with_reducible first | exact HB.out | apply below_alloc | apply pw_below_drewN | apply below_drew1 | refine below_set ?_ GE133.out) | exact HB.out)) hb); have n2_ := Aside0.mk (hbox); have n3_ := Aside0.mk ((by rw [hg]; exact (below_size (by repeat (first | (with_reducible first | exact HB.out | apply below_alloc | apply pw_below_drewN | apply below_drew1 | refine below_set ?_ GE133.out) | exact HB.out))) : w.heap.size ≤ gb145)); have n4_ := Aside0.mk ((by rw [hg]; exact (below_size (by repeat (first | (with_reducible first | exact HB.out | apply below_alloc | apply pw_below_drewN | apply below_drew1 | refine below_set ?_ GE133.out) | exact HB.out))) : w.heap.size ≤ gb145)); have n5_ := Aside0.mk ((by rw [hg]; exact Nat.ne_of_lt (blk_lt (g := gb133) (o := .cells #[.int .i64 t124, .int .i64 t125, .int .i64 t126, .int .i64 t127, .int .i64 t128, .bool t129, .bool t130, .int .i64 t131, .int .u32 t132] 29 (0, 0)) (by (with_reducible repeat (first | refine blk_drewN ?_ _ | refine blk_drew ?_ | refine blk_alloc ?_ _)); exact BK133.out)) : gb133 ≠ gb145)); have n6_ := Aside0.mk ((by rw [hg]; exact Nat.ne_of_gt (blk_lt (g := gb133) (o := .cells #[.int .i64 t124, .int .i64 t125, .int .i64 t126, .int .i64 t127, .int .i64 t128, .bool t129, .bool t130, .int .i64 t131, .int .u32 t132] 29 (0, 0)) (by (with_reducible repeat (first | refine blk_drewN ?_ _ | refine blk_drew ?_ | refine blk_alloc ?_ _)); exact BK133.out)) : gb145 ≠ gb133)); clear BK133; clear HB; have BK133 := n0_; have HB := n1_; have BK145 := n2_; have GW145 := n3_; have GE145 := n4_; have NB133_145 := n5_; have NB145_133 := n6_; clear n0_ n1_ n2_ n3_ n4_ n5_ n6_; clear hb hbox hg; have hnb22 := NB145_133.out; have hnc22 := NB133_145.out; have hcz23_0 : w21.cell? ⟨gb145, 0, none⟩ = some (.int .i64 0) := (blk_cell BK145.out 0).trans rfl; have hcz23_1 : w21.cell? ⟨gb145, 1, none⟩ = some (.int .i64 0) := (blk_cell BK145.out 1).trans rfl; have hcz23_2 : w21.cell? ⟨gb145, 2, none⟩ = some (.int .i64 0) := (blk_cell BK145.out 2).trans rfl; have hcz23_3 : w21.cell? ⟨gb145, 3, none⟩ = some (.int .i64 0) := (blk_cell BK145.out 3).trans rfl; have hcz23_4 : w21.cell? ⟨gb145, 4, none⟩ = some (.int .i64 0) := (blk_cell BK145.out 4).trans rfl; have hcz23_5 : w21.cell? ⟨gb145, 5, none⟩ = some (.bool false) := (blk_cell BK145.out 5).trans rfl; have hcz23_6 : w21.cell? ⟨gb145, 6, none⟩ = some (.bool false) := (blk_cell BK145.out 6).trans rfl; have hcz23_7 : w21.cell? ⟨gb145, 7, none⟩ = some (.int .i64 0) := (blk_cell BK145.out 7).trans rfl; have hcz23_8 : w21.cell? ⟨gb145, 8, none⟩ = some (.int .u32 0) := (blk_cell BK145.out 8).trans rfl; have hfz23_0 := blk_frozen BK145.out 0; have hfz23_1 := blk_frozen BK145.out 1; have hfz23_2 := blk_frozen BK145.out 2; have hfz23_3 := blk_frozen BK145.out 3; have hfz23_4 := blk_frozen BK145.out 4; have hfz23_5 := blk_frozen BK145.out 5; have hfz23_6 := blk_frozen BK145.out 6; have hfz23_7 := blk_frozen BK145.out 7; have hfz23_8 := blk_frozen BK145.out 8; have hcz24_0 : w21.cell? ⟨gb133, 0, none⟩ = some (.int .i64 t124) := (blk_cell BK133.out 0).trans rfl; have hcz24_1 : w21.cell? ⟨gb133, 1, none⟩ = some (.int .i64 t125) := (blk_cell BK133.out 1).trans rfl; have hcz24_2 : w21.cell? ⟨gb133, 2, none⟩ = some (.int .i64 t126) := (blk_cell BK133.out 2).trans rfl; have hcz24_3 : w21.cell? ⟨gb133, 3, none⟩ = some (.int .i64 t127) := (blk_cell BK133.out 3).trans rfl; have hcz24_4 : w21.cell? ⟨gb133, 4, none⟩ = some (.int .i64 t128) := (blk_cell BK133.out 4).trans rfl; have hcz24_5 : w21.cell? ⟨gb133, 5, none⟩ = some (.bool t129) := (blk_cell BK133.out 5).trans rfl; have hcz24_6 : w21.cell? ⟨gb133, 6, none⟩ = some (.bool t130) := (blk_cell BK133.out 6).trans rfl; have hcz24_7 : w21.cell? ⟨gb133, 7, none⟩ = some (.int .i64 t131) := (blk_cell BK133.out 7).trans rfl; have hcz24_8 : w21.cell? ⟨gb133, 8, none⟩ = some (.int .u32 t132) := (blk_cell BK133.out 8).trans rfl; have hfz24_0 := blk_frozen BK133.out 0; have hfz24_1 := blk_frozen BK133.out 1; have hfz24_2 := blk_frozen BK133.out 2; have hfz24_3 := blk_frozen BK133.out 3; have hfz24_4 := blk_frozen BK133.out 4; have hfz24_5 := blk_frozen BK133.out 5; have hfz24_6 := blk_frozen BK133.out 6; have hfz24_7 := blk_frozen BK133.out 7; have hfz24_8 := blk_frozen BK133.out 8))
              generalize hW_ : World.setCell _ ⟨gb145, 8, none⟩ _ = w22_
              have f7_ := ((heap_setCell_other _ ⟨gb145, 8, none⟩ gb133 (.int .u32 (a0 % 4294967296)) NB133_145.out).trans ((heap_setCell_other _ ⟨gb145, 7, none⟩ gb133 (.int .i64 2) NB133_145.out).trans ((heap_setCell_other _ ⟨gb145, 8, none⟩ gb133 (.int .u32 t144) NB133_145.out).trans ((heap_setCell_other _ ⟨gb145, 7, none⟩ gb133 (.int .i64 t143) NB133_145.out).trans ((heap_setCell_other _ ⟨gb145, 6, none⟩ gb133 (.bool t142) NB133_145.out).trans ((heap_setCell_other _ ⟨gb145, 5, none⟩ gb133 (.bool t141) NB133_145.out).trans ((heap_setCell_other _ ⟨gb145, 4, none⟩ gb133 (.int .i64 t140) NB133_145.out).trans ((heap_setCell_other _ ⟨gb145, 3, none⟩ gb133 (.int .i64 t139) NB133_145.out).trans ((heap_setCell_other _ ⟨gb145, 2, none⟩ gb133 (.int .i64 t138) NB133_145.out).trans ((heap_setCell_other _ ⟨gb145, 1, none⟩ gb133 (.int .i64 t137) NB133_145.out).trans ((heap_setCell_other _ ⟨gb145, 0, none⟩ gb133 (.int .i64 t136) NB133_145.out).trans BK133.out)))))))))))
              rw [hW_] at f7_
              have f10_ := (heap_setCell_same _ gb145 8 _ 29 (.int .u32 (a0 % 4294967296)) (heap_setCell_same _ gb145 7 _ 29 (.int .i64 2) (heap_setCell_same _ gb145 8 _ 29 (.int .u32 t144) (heap_setCell_same _ gb145 7 _ 29 (.int .i64 t143) (heap_setCell_same _ gb145 6 _ 29 (.bool t142) (heap_setCell_same _ gb145 5 _ 29 (.bool t141) (heap_setCell_same _ gb145 4 _ 29 (.int .i64 t140) (heap_setCell_same _ gb145 3 _ 29 (.int .i64 t139) (heap_setCell_same _ gb145 2 _ 29 (.int .i64 t138) (heap_setCell_same _ gb145 1 _ 29 (.int .i64 t137) (heap_setCell_same _ gb145 0 _ 29 (.int .i64 t136) BK145.out)))))))))))
              rw [hW_] at f10_
              replace f10_ : w22_.heap[gb145]? = some (.cells #[.int .i64 t136, .int .i64 t137, .int .i64 t138, .int .i64 t139, .int .i64 t140, .bool t141, .bool t142, .int .i64 2, .int .u32 (a0 % 4294967296)] 29) := f10_.trans (by kernel_rfl)
              have HB_ : Below w.heap.size w w22_ := by rw [← hW_]; exact below_set (below_set (below_set (below_set (below_set (below_set (below_set (below_set (below_set (below_set (below_set (HB.out) GE145.out) GE145.out) GE145.out) GE145.out) GE145.out) GE145.out) GE145.out) GE145.out) GE145.out) GE145.out) GE145.out
              clear hW_
              go_wp2_with (first | ((with_reducible refine gate_dst (N := 72) rfl ?_); refine wpList_load_row_g rfl 29 _ rfl gb133 rfl 29 #[.int .i64 t124, .int .i64 t125, .int .i64 t126, .int .i64 t127, .int .i64 t128, .bool t129, .bool t130, .int .i64 t131, .int .u32 t132] (0, 0) _ f7_ Try.underlying29 rfl (by kernel_rfl) ?_) | ((with_reducible refine gate_dst (N := 73) rfl ?_); refine wpList_load_row_g rfl 29 _ rfl gb145 rfl 29 #[.int .i64 t136, .int .i64 t137, .int .i64 t138, .int .i64 t139, .int .i64 t140, .bool t141, .bool t142, .int .i64 2, .int .u32 (a0 % 4294967296)] (0, 0) _ f10_ Try.underlying29 rfl (by kernel_rfl) ?_))
              go_ret
              exact ⟨by first | rfl | (simp; done) | (simp [*]; done), HB_⟩
          · rw [if_neg c14] at H
            have c14b0 : (t144 == t134) = false := beq_eq_false_iff_ne.mpr c14
            have c14b1 : (t144 != t134) = true := bne_iff_ne.mpr c14
            obtain rfl := Option.some.inj H
            exact absurd hr.out (by decide)
        · rw [if_neg c13] at H
          have c13b0 : (t143 == 4) = false := beq_eq_false_iff_ne.mpr c13
          have c13b1 : (t143 != 4) = true := bne_iff_ne.mpr c13
          obtain rfl := Option.some.inj H
          exact absurd hr.out (by decide)
      · replace c11 := Bool.eq_false_iff.mpr c11
        subst c11
        have H1 : (if t134 = 0 then (some (t124 == 0 && (t125 == 0 && (t126 == 0 && (t127 == 0 && (t128 == 0 && (!t129 && (!t130 && (t131 == 2 && (t132 == ((a0) % 4294967296))))))))))) else (some false)) = some r := by rw [if_neg (show ¬ (false = true) by decide)] at H; exact H
        clear H
        have H := H1
        clear H1
        by_cases c25 : t134 = 0
        · rw [if_pos c25] at H
          have c25b0 : (t134 == 0) = true := beq_iff_eq.mpr c25
          have c25b1 : (t134 != 0) = false := bne_eq_false_iff_eq.mpr c25
          clear c25
          obtain rfl := Option.some.inj H
          go_enter Try.func5, Try.ntmps5
          go_wp2_with (first | ((with_reducible refine gate_callee (f := 15) rfl ?_); refine goesL_ (some 12) rfl rfl Try.func15 (by kernel_rfl) rfl #[] rfl (by (try simp only [List.map_toArray, List.map_cons, List.map_nil]); first | done | rfl | (simp only [List.length_drop, List.length_take]; rfl)) ?_; (with_reducible refine (anvillaw05_first.calls k  true _ A3.out).mono ?_); rintro e w26 ⟨rfl, hb⟩; refine ⟨_, rfl, ?_⟩; have n0_ := Aside0.mk (below_step (by repeat (first | (with_reducible first | exact HB.out | apply below_alloc | apply pw_below_drewN | apply below_drew1) | exact HB.out)) hb); clear HB; have HB := n0_; clear n0_; (try clear hb); (try clear hb2); (try clear hk); (try clear hi)) | ((with_reducible refine gate_callee (f := 13) rfl ?_); refine goesL_ (some 33) rfl rfl Try.func13 (by kernel_rfl) rfl #[.int .u32 (Go.bits .or .u32 ((a1 * 65536) % 4294967296) ((a0) % 4294967296))] rfl (by (try simp only [List.map_toArray, List.map_cons, List.map_nil]); first | done | rfl | (simp only [List.length_drop, List.length_take]; rfl)) ?_; (with_reducible refine (decode_Decode.calls k (Go.bits .or .u32 ((a1 * 65536) % 4294967296) ((a0) % 4294967296)) t124 t125 t126 t127 t128 t129 t130 t131 t132 _ A9.out).mono ?_); rintro e w27 ⟨rfl, hb⟩; refine ⟨_, rfl, ?_⟩; have n0_ := Aside0.mk (below_step (by repeat (first | (with_reducible first | exact HB.out | apply below_alloc | apply pw_below_drewN | apply below_drew1) | exact HB.out)) hb); clear HB; have HB := n0_; clear n0_; (try clear hb); (try clear hb2); (try clear hk); (try clear hi)) | ((with_reducible refine gate_dst (N := 7) rfl ?_); refine box_event ?hg (N := 7) ?hd (cs := #[.int .i64 0, .int .i64 0, .int .i64 0, .int .i64 0, .int .i64 0, .bool false, .bool false, .int .i64 0, .int .u32 0]) (t := 29) ?hr ?_; (case hd => rfl); (case hg => rfl); (case hr => first | (go_simp; done) | (go_simp; rfl)); intro gb133 hg w28 hbox hb; have n0_ := Aside0.mk (below_step (by repeat (first | (with_reducible first | exact HB.out | apply below_alloc | apply pw_below_drewN | apply below_drew1) | exact HB.out)) hb); have n1_ := Aside0.mk (hbox); have n2_ := Aside0.mk ((by rw [hg]; exact (below_size (by repeat (first | (with_reducible first | exact HB.out | apply below_alloc | apply pw_below_drewN | apply below_drew1) | exact HB.out))) : w.heap.size ≤ gb133)); have n3_ := Aside0.mk ((by rw [hg]; exact (below_size (by repeat (first | (with_reducible first | exact HB.out | apply below_alloc | apply pw_below_drewN | apply below_drew1) | exact HB.out))) : w.heap.size ≤ gb133)); clear HB; have HB := n0_; have BK133 := n1_; have GW133 := n2_; have GE133 := n3_; clear n0_ n1_ n2_ n3_; clear hb hbox hg; have hcz29_0 : w28.cell? ⟨gb133, 0, none⟩ = some (.int .i64 0) := (blk_cell BK133.out 0).trans rfl; have hcz29_1 : w28.cell? ⟨gb133, 1, none⟩ = some (.int .i64 0) := (blk_cell BK133.out 1).trans rfl; have hcz29_2 : w28.cell? ⟨gb133, 2, none⟩ = some (.int .i64 0) := (blk_cell BK133.out 2).trans rfl; have hcz29_3 : w28.cell? ⟨gb133, 3, none⟩ = some (.int .i64 0) := (blk_cell BK133.out 3).trans rfl; have hcz29_4 : w28.cell? ⟨gb133, 4, none⟩ = some (.int .i64 0) := (blk_cell BK133.out 4).trans rfl; have hcz29_5 : w28.cell? ⟨gb133, 5, none⟩ = some (.bool false) := (blk_cell BK133.out 5).trans rfl; have hcz29_6 : w28.cell? ⟨gb133, 6, none⟩ = some (.bool false) := (blk_cell BK133.out 6).trans rfl; have hcz29_7 : w28.cell? ⟨gb133, 7, none⟩ = some (.int .i64 0) := (blk_cell BK133.out 7).trans rfl; have hcz29_8 : w28.cell? ⟨gb133, 8, none⟩ = some (.int .u32 0) := (blk_cell BK133.out 8).trans rfl; have hfz29_0 := blk_frozen BK133.out 0; have hfz29_1 := blk_frozen BK133.out 1; have hfz29_2 := blk_frozen BK133.out 2; have hfz29_3 := blk_frozen BK133.out 3; have hfz29_4 := blk_frozen BK133.out 4; have hfz29_5 := blk_frozen BK133.out 5; have hfz29_6 := blk_frozen BK133.out 6; have hfz29_7 := blk_frozen BK133.out 7; have hfz29_8 := blk_frozen BK133.out 8) | ((with_reducible refine gate_callee (f := 9) rfl ?_); refine goesL_ (some 36) rfl rfl Try.func9 (by kernel_rfl) rfl #[.int .u16 a0] rfl (by (try simp only [List.map_toArray, List.map_cons, List.map_nil]); first | done | rfl | (simp only [List.length_drop, List.length_take]; rfl)) ?_; (with_reducible refine (decode_Expand.calls k a0 t134 false _ A10.out).mono ?_); rintro e w' ⟨rfl, ⟨nd, rfl⟩⟩; refine ⟨_, rfl, ?_⟩))
          go_ret
          exact ⟨by first | rfl | (simp [errW_none, errW_some] <;> rfl) | (simp [*, errW_none, errW_some] <;> rfl), by repeat (first | (with_reducible first | exact HB.out | apply below_alloc | apply pw_below_drewN | apply below_drew1 | refine below_set ?_ GE133.out) | exact HB.out)⟩
        · rw [if_neg c25] at H
          have c25b0 : (t134 == 0) = false := beq_eq_false_iff_ne.mpr c25
          have c25b1 : (t134 != 0) = true := bne_iff_ne.mpr c25
          obtain rfl := Option.some.inj H
          exact absurd hr.out (by decide)
  · replace c4 := Bool.eq_false_iff.mpr c4
    subst c4
    have H1 : (some false) = some r := by rw [if_neg (show ¬ (false = true) by decide)] at H; exact H
    clear H
    have H := H1
    clear H1
    obtain rfl := Option.some.inj H
    exact absurd hr.out (by decide)

/-- THE ONE PURE STATEMENT of anvillaw05_DecodeShort: yours. -/
def anvillaw05_DecodeShort.Pure : Prop := ∀ (a0 : Int) (a1 : Int), (Lit.int .u16 a0).wf = true → (Lit.int .u32 a1).wf = true → ∃ k, anvillaw05_DecodeShort.f k a0 a1 = some true
theorem anvillaw05_DecodeShort.walk (P : anvillaw05_DecodeShort.Pure) (a0 : Int) (a1 : Int) (w : World) (w0 : (Lit.int .u16 a0).wf = true) (w1 : (Lit.int .u32 a1).wf = true) :
    Calls Try.prog 5 #[.int .u16 a0, .int .u32 a1] w fun e w' => e = .returned (.bool true) ∧ Below w.heap.size w w' := by
  obtain ⟨k, h⟩ := P a0 a1 w0 w1
  refine (anvillaw05_DecodeShort.calls k a0 a1 true ⟨rfl⟩ w h).mono ?_
  rintro e w' ⟨rfl, hd⟩
  exact ⟨rfl, hd⟩

end Go.Proofs.Ytiibhggjlandmaa.PDecodeShort
