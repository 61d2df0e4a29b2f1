-- Written by a program (a turned copy of the kit's print.py) for this claim. Lean checks it.
import Derived.Test.YtiibhggjlandmaaPBx0
import Derived.Test.YtiibhggjlandmaaPBx1
import Derived.Test.YtiibhggjlandmaaPBx2
namespace Go.Proofs.Ytiibhggjlandmaa.PB
open Go.RowKit Go.Proofs.YtiibhggjlandmaaW.PrintWords Go.Proofs.YtiibhggjlandmaaW.PrintLast Go.Proofs.YtiibhggjlandmaaW.PrintMore Go.Proofs.Ytiibhggjlandmaa.PE
attribute [local go_sem] max2_int min2_int max_two min_two max_three min_three max_four min_four   -- for this text's walks alone
set_option linter.unusedVariables false
set_option linter.unusedSimpArgs false

/-! ### decode_branch: function 75 -/
def decode_branch.f (k : Nat) (a0 : Int) (a1 : Int) : Option (Int × Bool) := (decode_bits.f k a0 12 12 8).bind fun t232 => ((decode_bits.f k a0 11 10 3).bind fun t233 => ((decode_bits.f k a0 6 5 6).bind fun t234 => ((decode_bits.f k a0 4 3 1).bind fun t235 => ((decode_bits.f k a0 2 2 5).bind fun t236 => ((decode_signed.f (wrap64 (Go.bits .or .u32 (Go.bits .or .u32 (Go.bits .or .u32 (Go.bits .or .u32 t232 t233) t234) t235) t236)) 9).bind fun t237 => ((decode_bits.f k ((t237) % 4294967296) 12 12 31).bind fun t238 => ((decode_bits.f k ((t237) % 4294967296) 10 5 25).bind fun t239 => ((decode_ra.f k a0).bind fun t240 => ((decode_bits.f k ((t237) % 4294967296) 4 1 8).bind fun t241 => ((decode_bits.f k ((t237) % 4294967296) 11 11 7).bind fun t242 => (some (Go.bits .or .u32 (Go.bits .or .u32 (Go.bits .or .u32 (Go.bits .or .u32 (Go.bits .or .u32 (Go.bits .or .u32 t238 t239) ((t240 * 32768) % 4294967296)) ((a1 * 4096) % 4294967296)) t241) t242) 99, true))))))))))))
theorem decode_branch.mono : ∀ a0 a1 k, LeO (decode_branch.f k a0 a1) (decode_branch.f (k + 1) a0 a1) := by
  intro a0 a1 k
  unfold decode_branch.f
  repeat' first
      | (with_reducible exact decode_bits.mono _ _ _ _ _)
      | (with_reducible exact decode_ra.mono _ _)
      | (with_reducible exact LeO.refl _)
      | (with_reducible exact LeO.none _)
      | (with_reducible refine LeO.ite ?_ ?_)
      | (with_reducible refine LeO.bind ?_ (fun _ => ?_))
      | exact decode_bits.mono _ _ _ _ _
      | exact decode_ra.mono _ _
      | exact LeO.none _
      | refine LeO.ite ?_ ?_
      | refine LeO.bind ?_ (fun _ => ?_)
set_option maxHeartbeats 8000000 in
set_option maxRecDepth 100000 in
theorem decode_branch.calls (k : Nat) (a0 : Int) (a1 : Int) (r1 : Int) (r2 : Bool) (w : World) (h : decode_branch.f k a0 a1 = some (r1, r2)) :
    Calls Try.prog 75 #[.int .u32 a0, .int .u32 a1] w fun e w' => e = .returned (.tuple #[.int .u32 r1, .bool r2]) ∧ Drawn0 w w' := by
  have H : ((decode_bits.f k a0 12 12 8).bind fun t232 => ((decode_bits.f k a0 11 10 3).bind fun t233 => ((decode_bits.f k a0 6 5 6).bind fun t234 => ((decode_bits.f k a0 4 3 1).bind fun t235 => ((decode_bits.f k a0 2 2 5).bind fun t236 => ((decode_signed.f (wrap64 (Go.bits .or .u32 (Go.bits .or .u32 (Go.bits .or .u32 (Go.bits .or .u32 t232 t233) t234) t235) t236)) 9).bind fun t237 => ((decode_bits.f k ((t237) % 4294967296) 12 12 31).bind fun t238 => ((decode_bits.f k ((t237) % 4294967296) 10 5 25).bind fun t239 => ((decode_ra.f k a0).bind fun t240 => ((decode_bits.f k ((t237) % 4294967296) 4 1 8).bind fun t241 => ((decode_bits.f k ((t237) % 4294967296) 11 11 7).bind fun t242 => (some (Go.bits .or .u32 (Go.bits .or .u32 (Go.bits .or .u32 (Go.bits .or .u32 (Go.bits .or .u32 (Go.bits .or .u32 t238 t239) ((t240 * 32768) % 4294967296)) ((a1 * 4096) % 4294967296)) t241) t242) 99, true))))))))))))) = some (r1, r2) := h
  clear h
  replace H := Option.bind_eq_some_iff.mp H
  obtain ⟨t232, A30, H⟩ := H
  replace H : ((decode_bits.f k a0 11 10 3).bind fun t233 => ((decode_bits.f k a0 6 5 6).bind fun t234 => ((decode_bits.f k a0 4 3 1).bind fun t235 => ((decode_bits.f k a0 2 2 5).bind fun t236 => ((decode_signed.f (wrap64 (Go.bits .or .u32 (Go.bits .or .u32 (Go.bits .or .u32 (Go.bits .or .u32 t232 t233) t234) t235) t236)) 9).bind fun t237 => ((decode_bits.f k ((t237) % 4294967296) 12 12 31).bind fun t238 => ((decode_bits.f k ((t237) % 4294967296) 10 5 25).bind fun t239 => ((decode_ra.f k a0).bind fun t240 => ((decode_bits.f k ((t237) % 4294967296) 4 1 8).bind fun t241 => ((decode_bits.f k ((t237) % 4294967296) 11 11 7).bind fun t242 => (some (Go.bits .or .u32 (Go.bits .or .u32 (Go.bits .or .u32 (Go.bits .or .u32 (Go.bits .or .u32 (Go.bits .or .u32 t238 t239) ((t240 * 32768) % 4294967296)) ((a1 * 4096) % 4294967296)) t241) t242) 99, true)))))))))))) = some (r1, r2) := H
  have A3 := Aside0.mk A30
  clear A30
  replace H := Option.bind_eq_some_iff.mp H
  obtain ⟨t233, A40, H⟩ := H
  replace H : ((decode_bits.f k a0 6 5 6).bind fun t234 => ((decode_bits.f k a0 4 3 1).bind fun t235 => ((decode_bits.f k a0 2 2 5).bind fun t236 => ((decode_signed.f (wrap64 (Go.bits .or .u32 (Go.bits .or .u32 (Go.bits .or .u32 (Go.bits .or .u32 t232 t233) t234) t235) t236)) 9).bind fun t237 => ((decode_bits.f k ((t237) % 4294967296) 12 12 31).bind fun t238 => ((decode_bits.f k ((t237) % 4294967296) 10 5 25).bind fun t239 => ((decode_ra.f k a0).bind fun t240 => ((decode_bits.f k ((t237) % 4294967296) 4 1 8).bind fun t241 => ((decode_bits.f k ((t237) % 4294967296) 11 11 7).bind fun t242 => (some (Go.bits .or .u32 (Go.bits .or .u32 (Go.bits .or .u32 (Go.bits .or .u32 (Go.bits .or .u32 (Go.bits .or .u32 t238 t239) ((t240 * 32768) % 4294967296)) ((a1 * 4096) % 4294967296)) t241) t242) 99, true))))))))))) = some (r1, r2) := H
  have A4 := Aside0.mk A40
  clear A40
  replace H := Option.bind_eq_some_iff.mp H
  obtain ⟨t234, A50, H⟩ := H
  replace H : ((decode_bits.f k a0 4 3 1).bind fun t235 => ((decode_bits.f k a0 2 2 5).bind fun t236 => ((decode_signed.f (wrap64 (Go.bits .or .u32 (Go.bits .or .u32 (Go.bits .or .u32 (Go.bits .or .u32 t232 t233) t234) t235) t236)) 9).bind fun t237 => ((decode_bits.f k ((t237) % 4294967296) 12 12 31).bind fun t238 => ((decode_bits.f k ((t237) % 4294967296) 10 5 25).bind fun t239 => ((decode_ra.f k a0).bind fun t240 => ((decode_bits.f k ((t237) % 4294967296) 4 1 8).bind fun t241 => ((decode_bits.f k ((t237) % 4294967296) 11 11 7).bind fun t242 => (some (Go.bits .or .u32 (Go.bits .or .u32 (Go.bits .or .u32 (Go.bits .or .u32 (Go.bits .or .u32 (Go.bits .or .u32 t238 t239) ((t240 * 32768) % 4294967296)) ((a1 * 4096) % 4294967296)) t241) t242) 99, true)))))))))) = some (r1, r2) := H
  have A5 := Aside0.mk A50
  clear A50
  replace H := Option.bind_eq_some_iff.mp H
  obtain ⟨t235, A60, H⟩ := H
  replace H : ((decode_bits.f k a0 2 2 5).bind fun t236 => ((decode_signed.f (wrap64 (Go.bits .or .u32 (Go.bits .or .u32 (Go.bits .or .u32 (Go.bits .or .u32 t232 t233) t234) t235) t236)) 9).bind fun t237 => ((decode_bits.f k ((t237) % 4294967296) 12 12 31).bind fun t238 => ((decode_bits.f k ((t237) % 4294967296) 10 5 25).bind fun t239 => ((decode_ra.f k a0).bind fun t240 => ((decode_bits.f k ((t237) % 4294967296) 4 1 8).bind fun t241 => ((decode_bits.f k ((t237) % 4294967296) 11 11 7).bind fun t242 => (some (Go.bits .or .u32 (Go.bits .or .u32 (Go.bits .or .u32 (Go.bits .or .u32 (Go.bits .or .u32 (Go.bits .or .u32 t238 t239) ((t240 * 32768) % 4294967296)) ((a1 * 4096) % 4294967296)) t241) t242) 99, true))))))))) = some (r1, r2) := H
  have A6 := Aside0.mk A60
  clear A60
  replace H := Option.bind_eq_some_iff.mp H
  obtain ⟨t236, A70, H⟩ := H
  replace H : ((decode_signed.f (wrap64 (Go.bits .or .u32 (Go.bits .or .u32 (Go.bits .or .u32 (Go.bits .or .u32 t232 t233) t234) t235) t236)) 9).bind fun t237 => ((decode_bits.f k ((t237) % 4294967296) 12 12 31).bind fun t238 => ((decode_bits.f k ((t237) % 4294967296) 10 5 25).bind fun t239 => ((decode_ra.f k a0).bind fun t240 => ((decode_bits.f k ((t237) % 4294967296) 4 1 8).bind fun t241 => ((decode_bits.f k ((t237) % 4294967296) 11 11 7).bind fun t242 => (some (Go.bits .or .u32 (Go.bits .or .u32 (Go.bits .or .u32 (Go.bits .or .u32 (Go.bits .or .u32 (Go.bits .or .u32 t238 t239) ((t240 * 32768) % 4294967296)) ((a1 * 4096) % 4294967296)) t241) t242) 99, true)))))))) = some (r1, r2) := H
  have A7 := Aside0.mk A70
  clear A70
  replace H := Option.bind_eq_some_iff.mp H
  obtain ⟨t237, A80, H⟩ := H
  replace H : ((decode_bits.f k ((t237) % 4294967296) 12 12 31).bind fun t238 => ((decode_bits.f k ((t237) % 4294967296) 10 5 25).bind fun t239 => ((decode_ra.f k a0).bind fun t240 => ((decode_bits.f k ((t237) % 4294967296) 4 1 8).bind fun t241 => ((decode_bits.f k ((t237) % 4294967296) 11 11 7).bind fun t242 => (some (Go.bits .or .u32 (Go.bits .or .u32 (Go.bits .or .u32 (Go.bits .or .u32 (Go.bits .or .u32 (Go.bits .or .u32 t238 t239) ((t240 * 32768) % 4294967296)) ((a1 * 4096) % 4294967296)) t241) t242) 99, true))))))) = some (r1, r2) := H
  have A8 := Aside0.mk A80
  clear A80
  replace H := Option.bind_eq_some_iff.mp H
  obtain ⟨t238, A90, H⟩ := H
  replace H : ((decode_bits.f k ((t237) % 4294967296) 10 5 25).bind fun t239 => ((decode_ra.f k a0).bind fun t240 => ((decode_bits.f k ((t237) % 4294967296) 4 1 8).bind fun t241 => ((decode_bits.f k ((t237) % 4294967296) 11 11 7).bind fun t242 => (some (Go.bits .or .u32 (Go.bits .or .u32 (Go.bits .or .u32 (Go.bits .or .u32 (Go.bits .or .u32 (Go.bits .or .u32 t238 t239) ((t240 * 32768) % 4294967296)) ((a1 * 4096) % 4294967296)) t241) t242) 99, true)))))) = some (r1, r2) := H
  have A9 := Aside0.mk A90
  clear A90
  replace H := Option.bind_eq_some_iff.mp H
  obtain ⟨t239, A100, H⟩ := H
  replace H : ((decode_ra.f k a0).bind fun t240 => ((decode_bits.f k ((t237) % 4294967296) 4 1 8).bind fun t241 => ((decode_bits.f k ((t237) % 4294967296) 11 11 7).bind fun t242 => (some (Go.bits .or .u32 (Go.bits .or .u32 (Go.bits .or .u32 (Go.bits .or .u32 (Go.bits .or .u32 (Go.bits .or .u32 t238 t239) ((t240 * 32768) % 4294967296)) ((a1 * 4096) % 4294967296)) t241) t242) 99, true))))) = some (r1, r2) := H
  have A10 := Aside0.mk A100
  clear A100
  replace H := Option.bind_eq_some_iff.mp H
  obtain ⟨t240, A110, H⟩ := H
  replace H : ((decode_bits.f k ((t237) % 4294967296) 4 1 8).bind fun t241 => ((decode_bits.f k ((t237) % 4294967296) 11 11 7).bind fun t242 => (some (Go.bits .or .u32 (Go.bits .or .u32 (Go.bits .or .u32 (Go.bits .or .u32 (Go.bits .or .u32 (Go.bits .or .u32 t238 t239) ((t240 * 32768) % 4294967296)) ((a1 * 4096) % 4294967296)) t241) t242) 99, true)))) = some (r1, r2) := H
  have A11 := Aside0.mk A110
  clear A110
  replace H := Option.bind_eq_some_iff.mp H
  obtain ⟨t241, A120, H⟩ := H
  replace H : ((decode_bits.f k ((t237) % 4294967296) 11 11 7).bind fun t242 => (some (Go.bits .or .u32 (Go.bits .or .u32 (Go.bits .or .u32 (Go.bits .or .u32 (Go.bits .or .u32 (Go.bits .or .u32 t238 t239) ((t240 * 32768) % 4294967296)) ((a1 * 4096) % 4294967296)) t241) t242) 99, true))) = some (r1, r2) := H
  have A12 := Aside0.mk A120
  clear A120
  replace H := Option.bind_eq_some_iff.mp H
  obtain ⟨t242, A130, H⟩ := H
  replace H : (some (Go.bits .or .u32 (Go.bits .or .u32 (Go.bits .or .u32 (Go.bits .or .u32 (Go.bits .or .u32 (Go.bits .or .u32 t238 t239) ((t240 * 32768) % 4294967296)) ((a1 * 4096) % 4294967296)) t241) t242) 99, true)) = some (r1, r2) := H
  have A13 := Aside0.mk A130
  clear A130
  simp only [Option.some.injEq, Prod.mk.injEq] at H
  obtain ⟨rfl, rfl⟩ := H
  go_enter Try.func75, Try.ntmps75
  go_wp2_with (first | ((with_reducible refine gate_callee (f := 64) rfl ?_); refine goesL_ (some 9) rfl rfl Try.func64 (by kernel_rfl) rfl #[.int .u32 a0, .int .i64 12, .int .i64 12, .int .i64 8] rfl (by (try simp only [List.map_toArray, List.map_cons, List.map_nil]); first | done | rfl | (simp only [List.length_drop, List.length_take]; rfl)) ?_; (with_reducible refine (decode_bits.calls k a0 12 12 8 t232 _ A3.out).mono ?_); rintro e w' ⟨rfl, ⟨nd, rfl⟩⟩; refine ⟨_, rfl, ?_⟩) | ((with_reducible refine gate_callee (f := 64) rfl ?_); refine goesL_ (some 11) rfl rfl Try.func64 (by kernel_rfl) rfl #[.int .u32 a0, .int .i64 11, .int .i64 10, .int .i64 3] rfl (by (try simp only [List.map_toArray, List.map_cons, List.map_nil]); first | done | rfl | (simp only [List.length_drop, List.length_take]; rfl)) ?_; (with_reducible refine (decode_bits.calls k a0 11 10 3 t233 _ A4.out).mono ?_); rintro e w' ⟨rfl, ⟨nd, rfl⟩⟩; refine ⟨_, rfl, ?_⟩) | ((with_reducible refine gate_callee (f := 64) rfl ?_); refine goesL_ (some 14) rfl rfl Try.func64 (by kernel_rfl) rfl #[.int .u32 a0, .int .i64 6, .int .i64 5, .int .i64 6] rfl (by (try simp only [List.map_toArray, List.map_cons, List.map_nil]); first | done | rfl | (simp only [List.length_drop, List.length_take]; rfl)) ?_; (with_reducible refine (decode_bits.calls k a0 6 5 6 t234 _ A5.out).mono ?_); rintro e w' ⟨rfl, ⟨nd, rfl⟩⟩; refine ⟨_, rfl, ?_⟩) | ((with_reducible refine gate_callee (f := 64) rfl ?_); refine goesL_ (some 17) rfl rfl Try.func64 (by kernel_rfl) rfl #[.int .u32 a0, .int .i64 4, .int .i64 3, .int .i64 1] rfl (by (try simp only [List.map_toArray, List.map_cons, List.map_nil]); first | done | rfl | (simp only [List.length_drop, List.length_take]; rfl)) ?_; (with_reducible refine (decode_bits.calls k a0 4 3 1 t235 _ A6.out).mono ?_); rintro e w' ⟨rfl, ⟨nd, rfl⟩⟩; refine ⟨_, rfl, ?_⟩) | ((with_reducible refine gate_callee (f := 64) rfl ?_); refine goesL_ (some 20) rfl rfl Try.func64 (by kernel_rfl) rfl #[.int .u32 a0, .int .i64 2, .int .i64 2, .int .i64 5] rfl (by (try simp only [List.map_toArray, List.map_cons, List.map_nil]); first | done | rfl | (simp only [List.length_drop, List.length_take]; rfl)) ?_; (with_reducible refine (decode_bits.calls k a0 2 2 5 t236 _ A7.out).mono ?_); rintro e w' ⟨rfl, ⟨nd, rfl⟩⟩; refine ⟨_, rfl, ?_⟩) | ((with_reducible refine gate_callee (f := 61) rfl ?_); refine goesL_ (some 24) rfl rfl Try.func61 (by kernel_rfl) rfl #[.int .i64 (wrap64 (Go.bits .or .u32 (Go.bits .or .u32 (Go.bits .or .u32 (Go.bits .or .u32 t232 t233) t234) t235) t236)), .int .i64 9] rfl (by (try simp only [List.map_toArray, List.map_cons, List.map_nil]); first | done | rfl | (simp only [List.length_drop, List.length_take]; rfl)) ?_; (with_reducible refine (decode_signed.calls (wrap64 (Go.bits .or .u32 (Go.bits .or .u32 (Go.bits .or .u32 (Go.bits .or .u32 t232 t233) t234) t235) t236)) 9 t237 _ A8.out).mono ?_); rintro e w' ⟨rfl, ⟨nd, rfl⟩⟩; refine ⟨_, rfl, ?_⟩) | ((with_reducible refine gate_callee (f := 64) rfl ?_); refine goesL_ (some 27) rfl rfl Try.func64 (by kernel_rfl) rfl #[.int .u32 ((t237) % 4294967296), .int .i64 12, .int .i64 12, .int .i64 31] rfl (by (try simp only [List.map_toArray, List.map_cons, List.map_nil]); first | done | rfl | (simp only [List.length_drop, List.length_take]; rfl)) ?_; (with_reducible refine (decode_bits.calls k ((t237) % 4294967296) 12 12 31 t238 _ A9.out).mono ?_); rintro e w' ⟨rfl, ⟨nd, rfl⟩⟩; refine ⟨_, rfl, ?_⟩) | ((with_reducible refine gate_callee (f := 64) rfl ?_); refine goesL_ (some 29) rfl rfl Try.func64 (by kernel_rfl) rfl #[.int .u32 ((t237) % 4294967296), .int .i64 10, .int .i64 5, .int .i64 25] rfl (by (try simp only [List.map_toArray, List.map_cons, List.map_nil]); first | done | rfl | (simp only [List.length_drop, List.length_take]; rfl)) ?_; (with_reducible refine (decode_bits.calls k ((t237) % 4294967296) 10 5 25 t239 _ A10.out).mono ?_); rintro e w' ⟨rfl, ⟨nd, rfl⟩⟩; refine ⟨_, rfl, ?_⟩) | ((with_reducible refine gate_callee (f := 67) rfl ?_); refine goesL_ (some 32) rfl rfl Try.func67 (by kernel_rfl) rfl #[.int .u32 a0] rfl (by (try simp only [List.map_toArray, List.map_cons, List.map_nil]); first | done | rfl | (simp only [List.length_drop, List.length_take]; rfl)) ?_; (with_reducible refine (decode_ra.calls k a0 t240 _ A11.out).mono ?_); rintro e w' ⟨rfl, ⟨nd, rfl⟩⟩; refine ⟨_, rfl, ?_⟩) | ((with_reducible refine gate_callee (f := 64) rfl ?_); refine goesL_ (some 39) rfl rfl Try.func64 (by kernel_rfl) rfl #[.int .u32 ((t237) % 4294967296), .int .i64 4, .int .i64 1, .int .i64 8] rfl (by (try simp only [List.map_toArray, List.map_cons, List.map_nil]); first | done | rfl | (simp only [List.length_drop, List.length_take]; rfl)) ?_; (with_reducible refine (decode_bits.calls k ((t237) % 4294967296) 4 1 8 t241 _ A12.out).mono ?_); rintro e w' ⟨rfl, ⟨nd, rfl⟩⟩; refine ⟨_, rfl, ?_⟩) | ((with_reducible refine gate_callee (f := 64) rfl ?_); refine goesL_ (some 42) rfl rfl Try.func64 (by kernel_rfl) rfl #[.int .u32 ((t237) % 4294967296), .int .i64 11, .int .i64 11, .int .i64 7] rfl (by (try simp only [List.map_toArray, List.map_cons, List.map_nil]); first | done | rfl | (simp only [List.length_drop, List.length_take]; rfl)) ?_; (with_reducible refine (decode_bits.calls k ((t237) % 4294967296) 11 11 7 t242 _ A13.out).mono ?_); rintro e w' ⟨rfl, ⟨nd, rfl⟩⟩; refine ⟨_, rfl, ?_⟩))
  go_ret2
  exact ⟨by first | rfl | (simp; done) | (simp [*]; done), by repeat (first | exact Drawn0.refl _ | apply Drawn0.step)⟩

/-! ### decode_beqz: function 43 -/
def decode_beqz.f (k : Nat) (a0 : Int) : Option (Int × Bool) := (decode_branch.f k a0 0).bind fun bt243 => (some (bt243.1, bt243.2))
theorem decode_beqz.mono : ∀ a0 k, LeO (decode_beqz.f k a0) (decode_beqz.f (k + 1) a0) := by
  intro a0 k
  unfold decode_beqz.f
  repeat' first
      | (with_reducible exact decode_branch.mono _ _ _)
      | (with_reducible exact LeO.refl _)
      | (with_reducible exact LeO.none _)
      | (with_reducible refine LeO.ite ?_ ?_)
      | (with_reducible refine LeO.bind ?_ (fun _ => ?_))
      | exact decode_branch.mono _ _ _
      | exact LeO.none _
      | refine LeO.ite ?_ ?_
      | refine LeO.bind ?_ (fun _ => ?_)
set_option maxHeartbeats 8000000 in
set_option maxRecDepth 100000 in
theorem decode_beqz.calls (k : Nat) (a0 : Int) (r1 : Int) (r2 : Bool) (w : World) (h : decode_beqz.f k a0 = some (r1, r2)) :
    Calls Try.prog 43 #[.int .u32 a0] w fun e w' => e = .returned (.tuple #[.int .u32 r1, .bool r2]) ∧ Drawn0 w w' := by
  have H : ((decode_branch.f k a0 0).bind fun bt243 => (some (bt243.1, bt243.2))) = some (r1, r2) := h
  clear h
  replace H := Option.bind_eq_some_iff.mp H
  obtain ⟨⟨t243, t244⟩, A20, H⟩ := H
  replace H : (some (t243, t244)) = some (r1, r2) := H
  have A2 := Aside0.mk A20
  clear A20
  simp only [Option.some.injEq, Prod.mk.injEq] at H
  obtain ⟨rfl, rfl⟩ := H
  go_enter Try.func43, Try.ntmps43
  go_wp2_with (first | ((with_reducible refine gate_callee (f := 75) rfl ?_); refine goesL_ (some 5) rfl rfl Try.func75 (by kernel_rfl) rfl #[.int .u32 a0, .int .u32 0] rfl (by (try simp only [List.map_toArray, List.map_cons, List.map_nil]); first | done | rfl | (simp only [List.length_drop, List.length_take]; rfl)) ?_; (with_reducible refine (decode_branch.calls k a0 0 t243 t244 _ A2.out).mono ?_); rintro e w' ⟨rfl, ⟨nd, rfl⟩⟩; refine ⟨_, rfl, ?_⟩))
  go_ret2
  exact ⟨by first | rfl | (simp; done) | (simp [*]; done), by repeat (first | exact Drawn0.refl _ | apply Drawn0.step)⟩

/-! ### decode_bnez: function 44 -/
def decode_bnez.f (k : Nat) (a0 : Int) : Option (Int × Bool) := (decode_branch.f k a0 1).bind fun bt245 => (some (bt245.1, bt245.2))
theorem decode_bnez.mono : ∀ a0 k, LeO (decode_bnez.f k a0) (decode_bnez.f (k + 1) a0) := by
  intro a0 k
  unfold decode_bnez.f
  repeat' first
      | (with_reducible exact decode_branch.mono _ _ _)
      | (with_reducible exact LeO.refl _)
      | (with_reducible exact LeO.none _)
      | (with_reducible refine LeO.ite ?_ ?_)
      | (with_reducible refine LeO.bind ?_ (fun _ => ?_))
      | exact decode_branch.mono _ _ _
      | exact LeO.none _
      | refine LeO.ite ?_ ?_
      | refine LeO.bind ?_ (fun _ => ?_)
set_option maxHeartbeats 8000000 in
set_option maxRecDepth 100000 in
theorem decode_bnez.calls (k : Nat) (a0 : Int) (r1 : Int) (r2 : Bool) (w : World) (h : decode_bnez.f k a0 = some (r1, r2)) :
    Calls Try.prog 44 #[.int .u32 a0] w fun e w' => e = .returned (.tuple #[.int .u32 r1, .bool r2]) ∧ Drawn0 w w' := by
  have H : ((decode_branch.f k a0 1).bind fun bt245 => (some (bt245.1, bt245.2))) = some (r1, r2) := h
  clear h
  replace H := Option.bind_eq_some_iff.mp H
  obtain ⟨⟨t245, t246⟩, A20, H⟩ := H
  replace H : (some (t245, t246)) = some (r1, r2) := H
  have A2 := Aside0.mk A20
  clear A20
  simp only [Option.some.injEq, Prod.mk.injEq] at H
  obtain ⟨rfl, rfl⟩ := H
  go_enter Try.func44, Try.ntmps44
  go_wp2_with (first | ((with_reducible refine gate_callee (f := 75) rfl ?_); refine goesL_ (some 5) rfl rfl Try.func75 (by kernel_rfl) rfl #[.int .u32 a0, .int .u32 1] rfl (by (try simp only [List.map_toArray, List.map_cons, List.map_nil]); first | done | rfl | (simp only [List.length_drop, List.length_take]; rfl)) ?_; (with_reducible refine (decode_branch.calls k a0 1 t245 t246 _ A2.out).mono ?_); rintro e w' ⟨rfl, ⟨nd, rfl⟩⟩; refine ⟨_, rfl, ?_⟩))
  go_ret2
  exact ⟨by first | rfl | (simp; done) | (simp [*]; done), by repeat (first | exact Drawn0.refl _ | apply Drawn0.step)⟩

/-! ### decode_second: function 22 -/
def decode_second.f (k : Nat) (a0 : Int) : Option (Int × Bool) := if (a0 / 8192) = 0 then ((decode_addi.f k a0).bind fun bt247 => (some (bt247.1, bt247.2))) else (if (a0 / 8192) = 1 then ((decode_addiw.f k a0).bind fun bt249 => (some (bt249.1, bt249.2))) else (if (a0 / 8192) = 2 then ((decode_li.f k a0).bind fun bt251 => (some (bt251.1, bt251.2))) else (if (a0 / 8192) = 3 then ((decode_lui.f k a0).bind fun bt253 => (some (bt253.1, bt253.2))) else (if (a0 / 8192) = 4 then ((decode_sums.f k a0).bind fun bt255 => (some (bt255.1, bt255.2))) else (if (a0 / 8192) = 5 then ((decode_j.f k a0).bind fun bt257 => (some (bt257.1, bt257.2))) else (if (a0 / 8192) = 6 then ((decode_beqz.f k a0).bind fun bt259 => (some (bt259.1, bt259.2))) else ((decode_bnez.f k a0).bind fun bt261 => (some (bt261.1, bt261.2)))))))))
theorem decode_second.mono : ∀ a0 k, LeO (decode_second.f k a0) (decode_second.f (k + 1) a0) := by
  intro a0 k
  unfold decode_second.f
  repeat' first
      | (with_reducible exact decode_addi.mono _ _)
      | (with_reducible exact decode_addiw.mono _ _)
      | (with_reducible exact decode_beqz.mono _ _)
      | (with_reducible exact decode_bnez.mono _ _)
      | (with_reducible exact decode_j.mono _ _)
      | (with_reducible exact decode_li.mono _ _)
      | (with_reducible exact decode_lui.mono _ _)
      | (with_reducible exact decode_sums.mono _ _)
      | (with_reducible exact LeO.refl _)
      | (with_reducible exact LeO.none _)
      | (with_reducible refine LeO.ite ?_ ?_)
      | (with_reducible refine LeO.bind ?_ (fun _ => ?_))
      | exact decode_addi.mono _ _
      | exact decode_addiw.mono _ _
      | exact decode_beqz.mono _ _
      | exact decode_bnez.mono _ _
      | exact decode_j.mono _ _
      | exact decode_li.mono _ _
      | exact decode_lui.mono _ _
      | exact decode_sums.mono _ _
      | exact LeO.none _
      | refine LeO.ite ?_ ?_
      | refine LeO.bind ?_ (fun _ => ?_)
set_option maxHeartbeats 8000000 in
set_option maxRecDepth 100000 in
theorem decode_second.calls (k : Nat) (a0 : Int) (r1 : Int) (r2 : Bool) (w : World) (h : decode_second.f k a0 = some (r1, r2)) :
    Calls Try.prog 22 #[.int .u32 a0] w fun e w' => e = .returned (.tuple #[.int .u32 r1, .bool r2]) ∧ Drawn0 w w' := by
  have H : (if (a0 / 8192) = 0 then ((decode_addi.f k a0).bind fun bt247 => (some (bt247.1, bt247.2))) else (if (a0 / 8192) = 1 then ((decode_addiw.f k a0).bind fun bt249 => (some (bt249.1, bt249.2))) else (if (a0 / 8192) = 2 then ((decode_li.f k a0).bind fun bt251 => (some (bt251.1, bt251.2))) else (if (a0 / 8192) = 3 then ((decode_lui.f k a0).bind fun bt253 => (some (bt253.1, bt253.2))) else (if (a0 / 8192) = 4 then ((decode_sums.f k a0).bind fun bt255 => (some (bt255.1, bt255.2))) else (if (a0 / 8192) = 5 then ((decode_j.f k a0).bind fun bt257 => (some (bt257.1, bt257.2))) else (if (a0 / 8192) = 6 then ((decode_beqz.f k a0).bind fun bt259 => (some (bt259.1, bt259.2))) else ((decode_bnez.f k a0).bind fun bt261 => (some (bt261.1, bt261.2)))))))))) = some (r1, r2) := h
  clear h
  by_cases c2 : (a0 / 8192) = 0
  · rw [if_pos c2] at H
    have c2b0 : ((a0 / 8192) == 0) = true := beq_iff_eq.mpr c2
    have c2b1 : ((a0 / 8192) != 0) = false := bne_eq_false_iff_eq.mpr c2
    clear c2
    replace H := Option.bind_eq_some_iff.mp H
    obtain ⟨⟨t247, t248⟩, A30, H⟩ := H
    replace H : (some (t247, t248)) = some (r1, r2) := H
    have A3 := Aside0.mk A30
    clear A30
    simp only [Option.some.injEq, Prod.mk.injEq] at H
    obtain ⟨rfl, rfl⟩ := H
    go_enter Try.func22, Try.ntmps22
    go_wp2_with (first | ((with_reducible refine gate_callee (f := 37) rfl ?_); refine goesL_ (some 9) rfl rfl Try.func37 (by kernel_rfl) rfl #[.int .u32 a0] rfl (by (try simp only [List.map_toArray, List.map_cons, List.map_nil]); first | done | rfl | (simp only [List.length_drop, List.length_take]; rfl)) ?_; (with_reducible refine (decode_addi.calls k a0 t247 t248 _ A3.out).mono ?_); rintro e w' ⟨rfl, ⟨nd, rfl⟩⟩; refine ⟨_, rfl, ?_⟩))
    go_ret2
    exact ⟨by first | rfl | (simp; done) | (simp [*]; done), by repeat (first | exact Drawn0.refl _ | apply Drawn0.step)⟩
  · rw [if_neg c2] at H
    have c2b0 : ((a0 / 8192) == 0) = false := beq_eq_false_iff_ne.mpr c2
    have c2b1 : ((a0 / 8192) != 0) = true := bne_iff_ne.mpr c2
    by_cases c4 : (a0 / 8192) = 1
    · rw [if_pos c4] at H
      have c4b0 : ((a0 / 8192) == 1) = true := beq_iff_eq.mpr c4
      have c4b1 : ((a0 / 8192) != 1) = false := bne_eq_false_iff_eq.mpr c4
      clear c4
      replace H := Option.bind_eq_some_iff.mp H
      obtain ⟨⟨t249, t250⟩, A50, H⟩ := H
      replace H : (some (t249, t250)) = some (r1, r2) := H
      have A5 := Aside0.mk A50
      clear A50
      simp only [Option.some.injEq, Prod.mk.injEq] at H
      obtain ⟨rfl, rfl⟩ := H
      go_enter Try.func22, Try.ntmps22
      go_wp2_with (first | ((with_reducible refine gate_callee (f := 38) rfl ?_); refine goesL_ (some 15) rfl rfl Try.func38 (by kernel_rfl) rfl #[.int .u32 a0] rfl (by (try simp only [List.map_toArray, List.map_cons, List.map_nil]); first | done | rfl | (simp only [List.length_drop, List.length_take]; rfl)) ?_; (with_reducible refine (decode_addiw.calls k a0 t249 t250 _ A5.out).mono ?_); rintro e w' ⟨rfl, ⟨nd, rfl⟩⟩; refine ⟨_, rfl, ?_⟩))
      go_ret2
      exact ⟨by first | rfl | (simp; done) | (simp [*]; done), by repeat (first | exact Drawn0.refl _ | apply Drawn0.step)⟩
    · rw [if_neg c4] at H
      have c4b0 : ((a0 / 8192) == 1) = false := beq_eq_false_iff_ne.mpr c4
      have c4b1 : ((a0 / 8192) != 1) = true := bne_iff_ne.mpr c4
      by_cases c6 : (a0 / 8192) = 2
      · rw [if_pos c6] at H
        have c6b0 : ((a0 / 8192) == 2) = true := beq_iff_eq.mpr c6
        have c6b1 : ((a0 / 8192) != 2) = false := bne_eq_false_iff_eq.mpr c6
        clear c6
        replace H := Option.bind_eq_some_iff.mp H
        obtain ⟨⟨t251, t252⟩, A70, H⟩ := H
        replace H : (some (t251, t252)) = some (r1, r2) := H
        have A7 := Aside0.mk A70
        clear A70
        simp only [Option.some.injEq, Prod.mk.injEq] at H
        obtain ⟨rfl, rfl⟩ := H
        go_enter Try.func22, Try.ntmps22
        go_wp2_with (first | ((with_reducible refine gate_callee (f := 39) rfl ?_); refine goesL_ (some 21) rfl rfl Try.func39 (by kernel_rfl) rfl #[.int .u32 a0] rfl (by (try simp only [List.map_toArray, List.map_cons, List.map_nil]); first | done | rfl | (simp only [List.length_drop, List.length_take]; rfl)) ?_; (with_reducible refine (decode_li.calls k a0 t251 t252 _ A7.out).mono ?_); rintro e w' ⟨rfl, ⟨nd, rfl⟩⟩; refine ⟨_, rfl, ?_⟩))
        go_ret2
        exact ⟨by first | rfl | (simp; done) | (simp [*]; done), by repeat (first | exact Drawn0.refl _ | apply Drawn0.step)⟩
      · rw [if_neg c6] at H
        have c6b0 : ((a0 / 8192) == 2) = false := beq_eq_false_iff_ne.mpr c6
        have c6b1 : ((a0 / 8192) != 2) = true := bne_iff_ne.mpr c6
        by_cases c8 : (a0 / 8192) = 3
        · rw [if_pos c8] at H
          have c8b0 : ((a0 / 8192) == 3) = true := beq_iff_eq.mpr c8
          have c8b1 : ((a0 / 8192) != 3) = false := bne_eq_false_iff_eq.mpr c8
          clear c8
          replace H := Option.bind_eq_some_iff.mp H
          obtain ⟨⟨t253, t254⟩, A90, H⟩ := H
          replace H : (some (t253, t254)) = some (r1, r2) := H
          have A9 := Aside0.mk A90
          clear A90
          simp only [Option.some.injEq, Prod.mk.injEq] at H
          obtain ⟨rfl, rfl⟩ := H
          go_enter Try.func22, Try.ntmps22
          go_wp2_with (first | ((with_reducible refine gate_callee (f := 40) rfl ?_); refine goesL_ (some 27) rfl rfl Try.func40 (by kernel_rfl) rfl #[.int .u32 a0] rfl (by (try simp only [List.map_toArray, List.map_cons, List.map_nil]); first | done | rfl | (simp only [List.length_drop, List.length_take]; rfl)) ?_; (with_reducible refine (decode_lui.calls k a0 t253 t254 _ A9.out).mono ?_); rintro e w' ⟨rfl, ⟨nd, rfl⟩⟩; refine ⟨_, rfl, ?_⟩))
          go_ret2
          exact ⟨by first | rfl | (simp; done) | (simp [*]; done), by repeat (first | exact Drawn0.refl _ | apply Drawn0.step)⟩
        · rw [if_neg c8] at H
          have c8b0 : ((a0 / 8192) == 3) = false := beq_eq_false_iff_ne.mpr c8
          have c8b1 : ((a0 / 8192) != 3) = true := bne_iff_ne.mpr c8
          by_cases c10 : (a0 / 8192) = 4
          · rw [if_pos c10] at H
            have c10b0 : ((a0 / 8192) == 4) = true := beq_iff_eq.mpr c10
            have c10b1 : ((a0 / 8192) != 4) = false := bne_eq_false_iff_eq.mpr c10
            clear c10
            replace H := Option.bind_eq_some_iff.mp H
            obtain ⟨⟨t255, t256⟩, A110, H⟩ := H
            replace H : (some (t255, t256)) = some (r1, r2) := H
            have A11 := Aside0.mk A110
            clear A110
            simp only [Option.some.injEq, Prod.mk.injEq] at H
            obtain ⟨rfl, rfl⟩ := H
            go_enter Try.func22, Try.ntmps22
            go_wp2_with (first | ((with_reducible refine gate_callee (f := 41) rfl ?_); refine goesL_ (some 33) rfl rfl Try.func41 (by kernel_rfl) rfl #[.int .u32 a0] rfl (by (try simp only [List.map_toArray, List.map_cons, List.map_nil]); first | done | rfl | (simp only [List.length_drop, List.length_take]; rfl)) ?_; (with_reducible refine (decode_sums.calls k a0 t255 t256 _ A11.out).mono ?_); rintro e w' ⟨rfl, ⟨nd, rfl⟩⟩; refine ⟨_, rfl, ?_⟩))
            go_ret2
            exact ⟨by first | rfl | (simp; done) | (simp [*]; done), by repeat (first | exact Drawn0.refl _ | apply Drawn0.step)⟩
          · rw [if_neg c10] at H
            have c10b0 : ((a0 / 8192) == 4) = false := beq_eq_false_iff_ne.mpr c10
            have c10b1 : ((a0 / 8192) != 4) = true := bne_iff_ne.mpr c10
            by_cases c12 : (a0 / 8192) = 5
            · rw [if_pos c12] at H
              have c12b0 : ((a0 / 8192) == 5) = true := beq_iff_eq.mpr c12
              have c12b1 : ((a0 / 8192) != 5) = false := bne_eq_false_iff_eq.mpr c12
              clear c12
              replace H := Option.bind_eq_some_iff.mp H
              obtain ⟨⟨t257, t258⟩, A130, H⟩ := H
              replace H : (some (t257, t258)) = some (r1, r2) := H
              have A13 := Aside0.mk A130
              clear A130
              simp only [Option.some.injEq, Prod.mk.injEq] at H
              obtain ⟨rfl, rfl⟩ := H
              go_enter Try.func22, Try.ntmps22
              go_wp2_with (first | ((with_reducible refine gate_callee (f := 42) rfl ?_); refine goesL_ (some 39) rfl rfl Try.func42 (by kernel_rfl) rfl #[.int .u32 a0] rfl (by (try simp only [List.map_toArray, List.map_cons, List.map_nil]); first | done | rfl | (simp only [List.length_drop, List.length_take]; rfl)) ?_; (with_reducible refine (decode_j.calls k a0 t257 t258 _ A13.out).mono ?_); rintro e w' ⟨rfl, ⟨nd, rfl⟩⟩; refine ⟨_, rfl, ?_⟩))
              go_ret2
              exact ⟨by first | rfl | (simp; done) | (simp [*]; done), by repeat (first | exact Drawn0.refl _ | apply Drawn0.step)⟩
            · rw [if_neg c12] at H
              have c12b0 : ((a0 / 8192) == 5) = false := beq_eq_false_iff_ne.mpr c12
              have c12b1 : ((a0 / 8192) != 5) = true := bne_iff_ne.mpr c12
              by_cases c14 : (a0 / 8192) = 6
              · rw [if_pos c14] at H
                have c14b0 : ((a0 / 8192) == 6) = true := beq_iff_eq.mpr c14
                have c14b1 : ((a0 / 8192) != 6) = false := bne_eq_false_iff_eq.mpr c14
                clear c14
                replace H := Option.bind_eq_some_iff.mp H
                obtain ⟨⟨t259, t260⟩, A150, H⟩ := H
                replace H : (some (t259, t260)) = some (r1, r2) := H
                have A15 := Aside0.mk A150
                clear A150
                simp only [Option.some.injEq, Prod.mk.injEq] at H
                obtain ⟨rfl, rfl⟩ := H
                go_enter Try.func22, Try.ntmps22
                go_wp2_with (first | ((with_reducible refine gate_callee (f := 43) rfl ?_); refine goesL_ (some 45) rfl rfl Try.func43 (by kernel_rfl) rfl #[.int .u32 a0] rfl (by (try simp only [List.map_toArray, List.map_cons, List.map_nil]); first | done | rfl | (simp only [List.length_drop, List.length_take]; rfl)) ?_; (with_reducible refine (decode_beqz.calls k a0 t259 t260 _ A15.out).mono ?_); rintro e w' ⟨rfl, ⟨nd, rfl⟩⟩; refine ⟨_, rfl, ?_⟩))
                go_ret2
                exact ⟨by first | rfl | (simp; done) | (simp [*]; done), by repeat (first | exact Drawn0.refl _ | apply Drawn0.step)⟩
              · rw [if_neg c14] at H
                have c14b0 : ((a0 / 8192) == 6) = false := beq_eq_false_iff_ne.mpr c14
                have c14b1 : ((a0 / 8192) != 6) = true := bne_iff_ne.mpr c14
                replace H := Option.bind_eq_some_iff.mp H
                obtain ⟨⟨t261, t262⟩, A160, H⟩ := H
                replace H : (some (t261, t262)) = some (r1, r2) := H
                have A16 := Aside0.mk A160
                clear A160
                simp only [Option.some.injEq, Prod.mk.injEq] at H
                obtain ⟨rfl, rfl⟩ := H
                go_enter Try.func22, Try.ntmps22
                go_wp2_with (first | ((with_reducible refine gate_callee (f := 44) rfl ?_); refine goesL_ (some 49) rfl rfl Try.func44 (by kernel_rfl) rfl #[.int .u32 a0] rfl (by (try simp only [List.map_toArray, List.map_cons, List.map_nil]); first | done | rfl | (simp only [List.length_drop, List.length_take]; rfl)) ?_; (with_reducible refine (decode_bnez.calls k a0 t261 t262 _ A16.out).mono ?_); rintro e w' ⟨rfl, ⟨nd, rfl⟩⟩; refine ⟨_, rfl, ?_⟩))
                go_ret2
                exact ⟨by first | rfl | (simp; done) | (simp [*]; done), by repeat (first | exact Drawn0.refl _ | apply Drawn0.step)⟩

/-! ### decode_slli: function 45 -/
def decode_slli.f (k : Nat) (a0 : Int) : Option (Int × Bool) := (decode_r.f k a0).bind fun t263 => ((decode_r.f k a0).bind fun t264 => ((decode_s6.f k a0).bind fun t265 => ((decode_typeI.f 19 1 t263 t264 t265).bind fun bt266 => (some (bt266.1, bt266.2)))))
theorem decode_slli.mono : ∀ a0 k, LeO (decode_slli.f k a0) (decode_slli.f (k + 1) a0) := by
  intro a0 k
  unfold decode_slli.f
  repeat' first
      | (with_reducible exact decode_r.mono _ _)
      | (with_reducible exact decode_s6.mono _ _)
      | (with_reducible exact LeO.refl _)
      | (with_reducible exact LeO.none _)
      | (with_reducible refine LeO.ite ?_ ?_)
      | (with_reducible refine LeO.bind ?_ (fun _ => ?_))
      | exact decode_r.mono _ _
      | exact decode_s6.mono _ _
      | exact LeO.none _
      | refine LeO.ite ?_ ?_
      | refine LeO.bind ?_ (fun _ => ?_)
set_option maxHeartbeats 8000000 in
set_option maxRecDepth 100000 in
theorem decode_slli.calls (k : Nat) (a0 : Int) (r1 : Int) (r2 : Bool) (w : World) (h : decode_slli.f k a0 = some (r1, r2)) :
    Calls Try.prog 45 #[.int .u32 a0] w fun e w' => e = .returned (.tuple #[.int .u32 r1, .bool r2]) ∧ Drawn0 w w' := by
  have H : ((decode_r.f k a0).bind fun t263 => ((decode_r.f k a0).bind fun t264 => ((decode_s6.f k a0).bind fun t265 => ((decode_typeI.f 19 1 t263 t264 t265).bind fun bt266 => (some (bt266.1, bt266.2)))))) = some (r1, r2) := h
  clear h
  replace H := Option.bind_eq_some_iff.mp H
  obtain ⟨t263, A20, H⟩ := H
  replace H : ((decode_r.f k a0).bind fun t264 => ((decode_s6.f k a0).bind fun t265 => ((decode_typeI.f 19 1 t263 t264 t265).bind fun bt266 => (some (bt266.1, bt266.2))))) = some (r1, r2) := H
  have A2 := Aside0.mk A20
  clear A20
  replace H := Option.bind_eq_some_iff.mp H
  obtain ⟨t264, A30, H⟩ := H
  replace H : ((decode_s6.f k a0).bind fun t265 => ((decode_typeI.f 19 1 t263 t264 t265).bind fun bt266 => (some (bt266.1, bt266.2)))) = some (r1, r2) := H
  have A3 := Aside0.mk A30
  clear A30
  replace H := Option.bind_eq_some_iff.mp H
  obtain ⟨t265, A40, H⟩ := H
  replace H : ((decode_typeI.f 19 1 t263 t264 t265).bind fun bt266 => (some (bt266.1, bt266.2))) = some (r1, r2) := H
  have A4 := Aside0.mk A40
  clear A40
  replace H := Option.bind_eq_some_iff.mp H
  obtain ⟨⟨t266, t267⟩, A50, H⟩ := H
  replace H : (some (t266, t267)) = some (r1, r2) := H
  have A5 := Aside0.mk A50
  clear A50
  simp only [Option.some.injEq, Prod.mk.injEq] at H
  obtain ⟨rfl, rfl⟩ := H
  go_enter Try.func45, Try.ntmps45
  go_wp2_with (first | ((with_reducible refine gate_callee (f := 71) rfl ?_); refine goesL_ (some 5) rfl rfl Try.func71 (by kernel_rfl) rfl #[.int .u32 a0] rfl (by (try simp only [List.map_toArray, List.map_cons, List.map_nil]); first | done | rfl | (simp only [List.length_drop, List.length_take]; rfl)) ?_; (with_reducible refine (decode_r.calls k a0 t263 _ A2.out).mono ?_); rintro e w' ⟨rfl, ⟨nd, rfl⟩⟩; refine ⟨_, rfl, ?_⟩) | ((with_reducible refine gate_callee (f := 71) rfl ?_); refine goesL_ (some 7) rfl rfl Try.func71 (by kernel_rfl) rfl #[.int .u32 a0] rfl (by (try simp only [List.map_toArray, List.map_cons, List.map_nil]); first | done | rfl | (simp only [List.length_drop, List.length_take]; rfl)) ?_; (with_reducible refine (decode_r.calls k a0 t264 _ A3.out).mono ?_); rintro e w' ⟨rfl, ⟨nd, rfl⟩⟩; refine ⟨_, rfl, ?_⟩) | ((with_reducible refine gate_callee (f := 73) rfl ?_); refine goesL_ (some 9) rfl rfl Try.func73 (by kernel_rfl) rfl #[.int .u32 a0] rfl (by (try simp only [List.map_toArray, List.map_cons, List.map_nil]); first | done | rfl | (simp only [List.length_drop, List.length_take]; rfl)) ?_; (with_reducible refine (decode_s6.calls k a0 t265 _ A4.out).mono ?_); rintro e w' ⟨rfl, ⟨nd, rfl⟩⟩; refine ⟨_, rfl, ?_⟩) | ((with_reducible refine gate_callee (f := 65) rfl ?_); refine goesL_ (some 10) rfl rfl Try.func65 (by kernel_rfl) rfl #[.int .u32 19, .int .u32 1, .int .u32 t263, .int .u32 t264, .int .u32 t265] rfl (by (try simp only [List.map_toArray, List.map_cons, List.map_nil]); first | done | rfl | (simp only [List.length_drop, List.length_take]; rfl)) ?_; (with_reducible refine (decode_typeI.calls 19 1 t263 t264 t265 t266 t267 _ A5.out).mono ?_); rintro e w' ⟨rfl, ⟨nd, rfl⟩⟩; refine ⟨_, rfl, ?_⟩))
  go_ret2
  exact ⟨by first | rfl | (simp; done) | (simp [*]; done), by repeat (first | exact Drawn0.refl _ | apply Drawn0.step)⟩

/-! ### decode_lwsp: function 46 -/
def decode_lwsp.f (k : Nat) (a0 : Int) : Option (Int × Bool) := (decode_r.f k a0).bind fun t268 => (if t268 = 0 then ((decode_none.f).bind fun bt269 => (some (bt269.1, bt269.2))) else ((decode_r.f k a0).bind fun t271 => ((decode_bits.f k a0 12 12 5).bind fun t272 => ((decode_bits.f k a0 6 4 2).bind fun t273 => ((decode_bits.f k a0 3 2 6).bind fun t274 => ((decode_typeI.f 3 2 t271 2 (Go.bits .or .u32 (Go.bits .or .u32 t272 t273) t274)).bind fun bt275 => (some (bt275.1, bt275.2))))))))
theorem decode_lwsp.mono : ∀ a0 k, LeO (decode_lwsp.f k a0) (decode_lwsp.f (k + 1) a0) := by
  intro a0 k
  unfold decode_lwsp.f
  repeat' first
      | (with_reducible exact decode_bits.mono _ _ _ _ _)
      | (with_reducible exact decode_r.mono _ _)
      | (with_reducible exact LeO.refl _)
      | (with_reducible exact LeO.none _)
      | (with_reducible refine LeO.ite ?_ ?_)
      | (with_reducible refine LeO.bind ?_ (fun _ => ?_))
      | exact decode_bits.mono _ _ _ _ _
      | exact decode_r.mono _ _
      | exact LeO.none _
      | refine LeO.ite ?_ ?_
      | refine LeO.bind ?_ (fun _ => ?_)
set_option maxHeartbeats 8000000 in
set_option maxRecDepth 100000 in
theorem decode_lwsp.calls (k : Nat) (a0 : Int) (r1 : Int) (r2 : Bool) (w : World) (h : decode_lwsp.f k a0 = some (r1, r2)) :
    Calls Try.prog 46 #[.int .u32 a0] w fun e w' => e = .returned (.tuple #[.int .u32 r1, .bool r2]) ∧ Drawn0 w w' := by
  have H : ((decode_r.f k a0).bind fun t268 => (if t268 = 0 then ((decode_none.f).bind fun bt269 => (some (bt269.1, bt269.2))) else ((decode_r.f k a0).bind fun t271 => ((decode_bits.f k a0 12 12 5).bind fun t272 => ((decode_bits.f k a0 6 4 2).bind fun t273 => ((decode_bits.f k a0 3 2 6).bind fun t274 => ((decode_typeI.f 3 2 t271 2 (Go.bits .or .u32 (Go.bits .or .u32 t272 t273) t274)).bind fun bt275 => (some (bt275.1, bt275.2))))))))) = some (r1, r2) := h
  clear h
  replace H := Option.bind_eq_some_iff.mp H
  obtain ⟨t268, A20, H⟩ := H
  replace H : (if t268 = 0 then ((decode_none.f).bind fun bt269 => (some (bt269.1, bt269.2))) else ((decode_r.f k a0).bind fun t271 => ((decode_bits.f k a0 12 12 5).bind fun t272 => ((decode_bits.f k a0 6 4 2).bind fun t273 => ((decode_bits.f k a0 3 2 6).bind fun t274 => ((decode_typeI.f 3 2 t271 2 (Go.bits .or .u32 (Go.bits .or .u32 t272 t273) t274)).bind fun bt275 => (some (bt275.1, bt275.2)))))))) = some (r1, r2) := H
  have A2 := Aside0.mk A20
  clear A20
  by_cases c3 : t268 = 0
  · rw [if_pos c3] at H
    have c3b0 : (t268 == 0) = true := beq_iff_eq.mpr c3
    have c3b1 : (t268 != 0) = false := bne_eq_false_iff_eq.mpr c3
    clear c3
    replace H := Option.bind_eq_some_iff.mp H
    obtain ⟨⟨t269, t270⟩, A40, H⟩ := H
    replace H : (some (t269, t270)) = some (r1, r2) := H
    have A4 := Aside0.mk A40
    clear A40
    simp only [Option.some.injEq, Prod.mk.injEq] at H
    obtain ⟨rfl, rfl⟩ := H
    go_enter Try.func46, Try.ntmps46
    go_wp2_with (first | ((with_reducible refine gate_callee (f := 71) rfl ?_); refine goesL_ (some 5) rfl rfl Try.func71 (by kernel_rfl) rfl #[.int .u32 a0] rfl (by (try simp only [List.map_toArray, List.map_cons, List.map_nil]); first | done | rfl | (simp only [List.length_drop, List.length_take]; rfl)) ?_; (with_reducible refine (decode_r.calls k a0 t268 _ A2.out).mono ?_); rintro e w' ⟨rfl, ⟨nd, rfl⟩⟩; refine ⟨_, rfl, ?_⟩) | ((with_reducible refine gate_callee (f := 20) rfl ?_); refine goesL_ (some 7) rfl rfl Try.func20 (by kernel_rfl) rfl #[] rfl (by (try simp only [List.map_toArray, List.map_cons, List.map_nil]); first | done | rfl | (simp only [List.length_drop, List.length_take]; rfl)) ?_; (with_reducible refine (decode_none.calls  t269 t270 _ A4.out).mono ?_); rintro e w' ⟨rfl, ⟨nd, rfl⟩⟩; refine ⟨_, rfl, ?_⟩))
    go_ret2
    exact ⟨by first | rfl | (simp; done) | (simp [*]; done), by repeat (first | exact Drawn0.refl _ | apply Drawn0.step)⟩
  · rw [if_neg c3] at H
    have c3b0 : (t268 == 0) = false := beq_eq_false_iff_ne.mpr c3
    have c3b1 : (t268 != 0) = true := bne_iff_ne.mpr c3
    replace H := Option.bind_eq_some_iff.mp H
    obtain ⟨t271, A50, H⟩ := H
    replace H : ((decode_bits.f k a0 12 12 5).bind fun t272 => ((decode_bits.f k a0 6 4 2).bind fun t273 => ((decode_bits.f k a0 3 2 6).bind fun t274 => ((decode_typeI.f 3 2 t271 2 (Go.bits .or .u32 (Go.bits .or .u32 t272 t273) t274)).bind fun bt275 => (some (bt275.1, bt275.2)))))) = some (r1, r2) := H
    have A5 := Aside0.mk A50
    clear A50
    replace H := Option.bind_eq_some_iff.mp H
    obtain ⟨t272, A60, H⟩ := H
    replace H : ((decode_bits.f k a0 6 4 2).bind fun t273 => ((decode_bits.f k a0 3 2 6).bind fun t274 => ((decode_typeI.f 3 2 t271 2 (Go.bits .or .u32 (Go.bits .or .u32 t272 t273) t274)).bind fun bt275 => (some (bt275.1, bt275.2))))) = some (r1, r2) := H
    have A6 := Aside0.mk A60
    clear A60
    replace H := Option.bind_eq_some_iff.mp H
    obtain ⟨t273, A70, H⟩ := H
    replace H : ((decode_bits.f k a0 3 2 6).bind fun t274 => ((decode_typeI.f 3 2 t271 2 (Go.bits .or .u32 (Go.bits .or .u32 t272 t273) t274)).bind fun bt275 => (some (bt275.1, bt275.2)))) = some (r1, r2) := H
    have A7 := Aside0.mk A70
    clear A70
    replace H := Option.bind_eq_some_iff.mp H
    obtain ⟨t274, A80, H⟩ := H
    replace H : ((decode_typeI.f 3 2 t271 2 (Go.bits .or .u32 (Go.bits .or .u32 t272 t273) t274)).bind fun bt275 => (some (bt275.1, bt275.2))) = some (r1, r2) := H
    have A8 := Aside0.mk A80
    clear A80
    replace H := Option.bind_eq_some_iff.mp H
    obtain ⟨⟨t275, t276⟩, A90, H⟩ := H
    replace H : (some (t275, t276)) = some (r1, r2) := H
    have A9 := Aside0.mk A90
    clear A90
    simp only [Option.some.injEq, Prod.mk.injEq] at H
    obtain ⟨rfl, rfl⟩ := H
    go_enter Try.func46, Try.ntmps46
    go_wp2_with (first | ((with_reducible refine gate_callee (f := 71) rfl ?_); refine goesL_ (some 5) rfl rfl Try.func71 (by kernel_rfl) rfl #[.int .u32 a0] rfl (by (try simp only [List.map_toArray, List.map_cons, List.map_nil]); first | done | rfl | (simp only [List.length_drop, List.length_take]; rfl)) ?_; (with_reducible refine (decode_r.calls k a0 t268 _ A2.out).mono ?_); rintro e w' ⟨rfl, ⟨nd, rfl⟩⟩; refine ⟨_, rfl, ?_⟩) | ((with_reducible refine gate_callee (f := 71) rfl ?_); refine goesL_ (some 11) rfl rfl Try.func71 (by kernel_rfl) rfl #[.int .u32 a0] rfl (by (try simp only [List.map_toArray, List.map_cons, List.map_nil]); first | done | rfl | (simp only [List.length_drop, List.length_take]; rfl)) ?_; (with_reducible refine (decode_r.calls k a0 t271 _ A5.out).mono ?_); rintro e w' ⟨rfl, ⟨nd, rfl⟩⟩; refine ⟨_, rfl, ?_⟩) | ((with_reducible refine gate_callee (f := 64) rfl ?_); refine goesL_ (some 13) rfl rfl Try.func64 (by kernel_rfl) rfl #[.int .u32 a0, .int .i64 12, .int .i64 12, .int .i64 5] rfl (by (try simp only [List.map_toArray, List.map_cons, List.map_nil]); first | done | rfl | (simp only [List.length_drop, List.length_take]; rfl)) ?_; (with_reducible refine (decode_bits.calls k a0 12 12 5 t272 _ A6.out).mono ?_); rintro e w' ⟨rfl, ⟨nd, rfl⟩⟩; refine ⟨_, rfl, ?_⟩) | ((with_reducible refine gate_callee (f := 64) rfl ?_); refine goesL_ (some 15) rfl rfl Try.func64 (by kernel_rfl) rfl #[.int .u32 a0, .int .i64 6, .int .i64 4, .int .i64 2] rfl (by (try simp only [List.map_toArray, List.map_cons, List.map_nil]); first | done | rfl | (simp only [List.length_drop, List.length_take]; rfl)) ?_; (with_reducible refine (decode_bits.calls k a0 6 4 2 t273 _ A7.out).mono ?_); rintro e w' ⟨rfl, ⟨nd, rfl⟩⟩; refine ⟨_, rfl, ?_⟩) | ((with_reducible refine gate_callee (f := 64) rfl ?_); refine goesL_ (some 18) rfl rfl Try.func64 (by kernel_rfl) rfl #[.int .u32 a0, .int .i64 3, .int .i64 2, .int .i64 6] rfl (by (try simp only [List.map_toArray, List.map_cons, List.map_nil]); first | done | rfl | (simp only [List.length_drop, List.length_take]; rfl)) ?_; (with_reducible refine (decode_bits.calls k a0 3 2 6 t274 _ A8.out).mono ?_); rintro e w' ⟨rfl, ⟨nd, rfl⟩⟩; refine ⟨_, rfl, ?_⟩) | ((with_reducible refine gate_callee (f := 65) rfl ?_); refine goesL_ (some 20) rfl rfl Try.func65 (by kernel_rfl) rfl #[.int .u32 3, .int .u32 2, .int .u32 t271, .int .u32 2, .int .u32 (Go.bits .or .u32 (Go.bits .or .u32 t272 t273) t274)] rfl (by (try simp only [List.map_toArray, List.map_cons, List.map_nil]); first | done | rfl | (simp only [List.length_drop, List.length_take]; rfl)) ?_; (with_reducible refine (decode_typeI.calls 3 2 t271 2 (Go.bits .or .u32 (Go.bits .or .u32 t272 t273) t274) t275 t276 _ A9.out).mono ?_); rintro e w' ⟨rfl, ⟨nd, rfl⟩⟩; refine ⟨_, rfl, ?_⟩))
    go_ret2
    exact ⟨by first | rfl | (simp; done) | (simp [*]; done), by repeat (first | exact Drawn0.refl _ | apply Drawn0.step)⟩

/-! ### decode_ldsp: function 47 -/
def decode_ldsp.f (k : Nat) (a0 : Int) : Option (Int × Bool) := (decode_r.f k a0).bind fun t277 => (if t277 = 0 then ((decode_none.f).bind fun bt278 => (some (bt278.1, bt278.2))) else ((decode_r.f k a0).bind fun t280 => ((decode_bits.f k a0 12 12 5).bind fun t281 => ((decode_bits.f k a0 6 5 3).bind fun t282 => ((decode_bits.f k a0 4 2 6).bind fun t283 => ((decode_typeI.f 3 3 t280 2 (Go.bits .or .u32 (Go.bits .or .u32 t281 t282) t283)).bind fun bt284 => (some (bt284.1, bt284.2))))))))
theorem decode_ldsp.mono : ∀ a0 k, LeO (decode_ldsp.f k a0) (decode_ldsp.f (k + 1) a0) := by
  intro a0 k
  unfold decode_ldsp.f
  repeat' first
      | (with_reducible exact decode_bits.mono _ _ _ _ _)
      | (with_reducible exact decode_r.mono _ _)
      | (with_reducible exact LeO.refl _)
      | (with_reducible exact LeO.none _)
      | (with_reducible refine LeO.ite ?_ ?_)
      | (with_reducible refine LeO.bind ?_ (fun _ => ?_))
      | exact decode_bits.mono _ _ _ _ _
      | exact decode_r.mono _ _
      | exact LeO.none _
      | refine LeO.ite ?_ ?_
      | refine LeO.bind ?_ (fun _ => ?_)
set_option maxHeartbeats 8000000 in
set_option maxRecDepth 100000 in
theorem decode_ldsp.calls (k : Nat) (a0 : Int) (r1 : Int) (r2 : Bool) (w : World) (h : decode_ldsp.f k a0 = some (r1, r2)) :
    Calls Try.prog 47 #[.int .u32 a0] w fun e w' => e = .returned (.tuple #[.int .u32 r1, .bool r2]) ∧ Drawn0 w w' := by
  have H : ((decode_r.f k a0).bind fun t277 => (if t277 = 0 then ((decode_none.f).bind fun bt278 => (some (bt278.1, bt278.2))) else ((decode_r.f k a0).bind fun t280 => ((decode_bits.f k a0 12 12 5).bind fun t281 => ((decode_bits.f k a0 6 5 3).bind fun t282 => ((decode_bits.f k a0 4 2 6).bind fun t283 => ((decode_typeI.f 3 3 t280 2 (Go.bits .or .u32 (Go.bits .or .u32 t281 t282) t283)).bind fun bt284 => (some (bt284.1, bt284.2))))))))) = some (r1, r2) := h
  clear h
  replace H := Option.bind_eq_some_iff.mp H
  obtain ⟨t277, A20, H⟩ := H
  replace H : (if t277 = 0 then ((decode_none.f).bind fun bt278 => (some (bt278.1, bt278.2))) else ((decode_r.f k a0).bind fun t280 => ((decode_bits.f k a0 12 12 5).bind fun t281 => ((decode_bits.f k a0 6 5 3).bind fun t282 => ((decode_bits.f k a0 4 2 6).bind fun t283 => ((decode_typeI.f 3 3 t280 2 (Go.bits .or .u32 (Go.bits .or .u32 t281 t282) t283)).bind fun bt284 => (some (bt284.1, bt284.2)))))))) = some (r1, r2) := H
  have A2 := Aside0.mk A20
  clear A20
  by_cases c3 : t277 = 0
  · rw [if_pos c3] at H
    have c3b0 : (t277 == 0) = true := beq_iff_eq.mpr c3
    have c3b1 : (t277 != 0) = false := bne_eq_false_iff_eq.mpr c3
    clear c3
    replace H := Option.bind_eq_some_iff.mp H
    obtain ⟨⟨t278, t279⟩, A40, H⟩ := H
    replace H : (some (t278, t279)) = some (r1, r2) := H
    have A4 := Aside0.mk A40
    clear A40
    simp only [Option.some.injEq, Prod.mk.injEq] at H
    obtain ⟨rfl, rfl⟩ := H
    go_enter Try.func47, Try.ntmps47
    go_wp2_with (first | ((with_reducible refine gate_callee (f := 71) rfl ?_); refine goesL_ (some 5) rfl rfl Try.func71 (by kernel_rfl) rfl #[.int .u32 a0] rfl (by (try simp only [List.map_toArray, List.map_cons, List.map_nil]); first | done | rfl | (simp only [List.length_drop, List.length_take]; rfl)) ?_; (with_reducible refine (decode_r.calls k a0 t277 _ A2.out).mono ?_); rintro e w' ⟨rfl, ⟨nd, rfl⟩⟩; refine ⟨_, rfl, ?_⟩) | ((with_reducible refine gate_callee (f := 20) rfl ?_); refine goesL_ (some 7) rfl rfl Try.func20 (by kernel_rfl) rfl #[] rfl (by (try simp only [List.map_toArray, List.map_cons, List.map_nil]); first | done | rfl | (simp only [List.length_drop, List.length_take]; rfl)) ?_; (with_reducible refine (decode_none.calls  t278 t279 _ A4.out).mono ?_); rintro e w' ⟨rfl, ⟨nd, rfl⟩⟩; refine ⟨_, rfl, ?_⟩))
    go_ret2
    exact ⟨by first | rfl | (simp; done) | (simp [*]; done), by repeat (first | exact Drawn0.refl _ | apply Drawn0.step)⟩
  · rw [if_neg c3] at H
    have c3b0 : (t277 == 0) = false := beq_eq_false_iff_ne.mpr c3
    have c3b1 : (t277 != 0) = true := bne_iff_ne.mpr c3
    replace H := Option.bind_eq_some_iff.mp H
    obtain ⟨t280, A50, H⟩ := H
    replace H : ((decode_bits.f k a0 12 12 5).bind fun t281 => ((decode_bits.f k a0 6 5 3).bind fun t282 => ((decode_bits.f k a0 4 2 6).bind fun t283 => ((decode_typeI.f 3 3 t280 2 (Go.bits .or .u32 (Go.bits .or .u32 t281 t282) t283)).bind fun bt284 => (some (bt284.1, bt284.2)))))) = some (r1, r2) := H
    have A5 := Aside0.mk A50
    clear A50
    replace H := Option.bind_eq_some_iff.mp H
    obtain ⟨t281, A60, H⟩ := H
    replace H : ((decode_bits.f k a0 6 5 3).bind fun t282 => ((decode_bits.f k a0 4 2 6).bind fun t283 => ((decode_typeI.f 3 3 t280 2 (Go.bits .or .u32 (Go.bits .or .u32 t281 t282) t283)).bind fun bt284 => (some (bt284.1, bt284.2))))) = some (r1, r2) := H
    have A6 := Aside0.mk A60
    clear A60
    replace H := Option.bind_eq_some_iff.mp H
    obtain ⟨t282, A70, H⟩ := H
    replace H : ((decode_bits.f k a0 4 2 6).bind fun t283 => ((decode_typeI.f 3 3 t280 2 (Go.bits .or .u32 (Go.bits .or .u32 t281 t282) t283)).bind fun bt284 => (some (bt284.1, bt284.2)))) = some (r1, r2) := H
    have A7 := Aside0.mk A70
    clear A70
    replace H := Option.bind_eq_some_iff.mp H
    obtain ⟨t283, A80, H⟩ := H
    replace H : ((decode_typeI.f 3 3 t280 2 (Go.bits .or .u32 (Go.bits .or .u32 t281 t282) t283)).bind fun bt284 => (some (bt284.1, bt284.2))) = some (r1, r2) := H
    have A8 := Aside0.mk A80
    clear A80
    replace H := Option.bind_eq_some_iff.mp H
    obtain ⟨⟨t284, t285⟩, A90, H⟩ := H
    replace H : (some (t284, t285)) = some (r1, r2) := H
    have A9 := Aside0.mk A90
    clear A90
    simp only [Option.some.injEq, Prod.mk.injEq] at H
    obtain ⟨rfl, rfl⟩ := H
    go_enter Try.func47, Try.ntmps47
    go_wp2_with (first | ((with_reducible refine gate_callee (f := 71) rfl ?_); refine goesL_ (some 5) rfl rfl Try.func71 (by kernel_rfl) rfl #[.int .u32 a0] rfl (by (try simp only [List.map_toArray, List.map_cons, List.map_nil]); first | done | rfl | (simp only [List.length_drop, List.length_take]; rfl)) ?_; (with_reducible refine (decode_r.calls k a0 t277 _ A2.out).mono ?_); rintro e w' ⟨rfl, ⟨nd, rfl⟩⟩; refine ⟨_, rfl, ?_⟩) | ((with_reducible refine gate_callee (f := 71) rfl ?_); refine goesL_ (some 11) rfl rfl Try.func71 (by kernel_rfl) rfl #[.int .u32 a0] rfl (by (try simp only [List.map_toArray, List.map_cons, List.map_nil]); first | done | rfl | (simp only [List.length_drop, List.length_take]; rfl)) ?_; (with_reducible refine (decode_r.calls k a0 t280 _ A5.out).mono ?_); rintro e w' ⟨rfl, ⟨nd, rfl⟩⟩; refine ⟨_, rfl, ?_⟩) | ((with_reducible refine gate_callee (f := 64) rfl ?_); refine goesL_ (some 13) rfl rfl Try.func64 (by kernel_rfl) rfl #[.int .u32 a0, .int .i64 12, .int .i64 12, .int .i64 5] rfl (by (try simp only [List.map_toArray, List.map_cons, List.map_nil]); first | done | rfl | (simp only [List.length_drop, List.length_take]; rfl)) ?_; (with_reducible refine (decode_bits.calls k a0 12 12 5 t281 _ A6.out).mono ?_); rintro e w' ⟨rfl, ⟨nd, rfl⟩⟩; refine ⟨_, rfl, ?_⟩) | ((with_reducible refine gate_callee (f := 64) rfl ?_); refine goesL_ (some 15) rfl rfl Try.func64 (by kernel_rfl) rfl #[.int .u32 a0, .int .i64 6, .int .i64 5, .int .i64 3] rfl (by (try simp only [List.map_toArray, List.map_cons, List.map_nil]); first | done | rfl | (simp only [List.length_drop, List.length_take]; rfl)) ?_; (with_reducible refine (decode_bits.calls k a0 6 5 3 t282 _ A7.out).mono ?_); rintro e w' ⟨rfl, ⟨nd, rfl⟩⟩; refine ⟨_, rfl, ?_⟩) | ((with_reducible refine gate_callee (f := 64) rfl ?_); refine goesL_ (some 18) rfl rfl Try.func64 (by kernel_rfl) rfl #[.int .u32 a0, .int .i64 4, .int .i64 2, .int .i64 6] rfl (by (try simp only [List.map_toArray, List.map_cons, List.map_nil]); first | done | rfl | (simp only [List.length_drop, List.length_take]; rfl)) ?_; (with_reducible refine (decode_bits.calls k a0 4 2 6 t283 _ A8.out).mono ?_); rintro e w' ⟨rfl, ⟨nd, rfl⟩⟩; refine ⟨_, rfl, ?_⟩) | ((with_reducible refine gate_callee (f := 65) rfl ?_); refine goesL_ (some 20) rfl rfl Try.func65 (by kernel_rfl) rfl #[.int .u32 3, .int .u32 3, .int .u32 t280, .int .u32 2, .int .u32 (Go.bits .or .u32 (Go.bits .or .u32 t281 t282) t283)] rfl (by (try simp only [List.map_toArray, List.map_cons, List.map_nil]); first | done | rfl | (simp only [List.length_drop, List.length_take]; rfl)) ?_; (with_reducible refine (decode_typeI.calls 3 3 t280 2 (Go.bits .or .u32 (Go.bits .or .u32 t281 t282) t283) t284 t285 _ A9.out).mono ?_); rintro e w' ⟨rfl, ⟨nd, rfl⟩⟩; refine ⟨_, rfl, ?_⟩))
    go_ret2
    exact ⟨by first | rfl | (simp; done) | (simp [*]; done), by repeat (first | exact Drawn0.refl _ | apply Drawn0.step)⟩

-- given elsewhere: function 48 (decode_moves)

/-! ### decode_swsp: function 49 -/
def decode_swsp.f (k : Nat) (a0 : Int) : Option (Int × Bool) := (decode_t.f k a0).bind fun t286 => ((decode_bits.f k a0 12 9 2).bind fun t287 => ((decode_bits.f k a0 8 7 6).bind fun t288 => ((decode_typeS.f 2 2 t286 (Go.bits .or .u32 t287 t288)).bind fun bt289 => (some (bt289.1, bt289.2)))))
theorem decode_swsp.mono : ∀ a0 k, LeO (decode_swsp.f k a0) (decode_swsp.f (k + 1) a0) := by
  intro a0 k
  unfold decode_swsp.f
  repeat' first
      | (with_reducible exact decode_bits.mono _ _ _ _ _)
      | (with_reducible exact decode_t.mono _ _)
      | (with_reducible exact LeO.refl _)
      | (with_reducible exact LeO.none _)
      | (with_reducible refine LeO.ite ?_ ?_)
      | (with_reducible refine LeO.bind ?_ (fun _ => ?_))
      | exact decode_bits.mono _ _ _ _ _
      | exact decode_t.mono _ _
      | exact LeO.none _
      | refine LeO.ite ?_ ?_
      | refine LeO.bind ?_ (fun _ => ?_)
set_option maxHeartbeats 8000000 in
set_option maxRecDepth 100000 in
theorem decode_swsp.calls (k : Nat) (a0 : Int) (r1 : Int) (r2 : Bool) (w : World) (h : decode_swsp.f k a0 = some (r1, r2)) :
    Calls Try.prog 49 #[.int .u32 a0] w fun e w' => e = .returned (.tuple #[.int .u32 r1, .bool r2]) ∧ Drawn0 w w' := by
  have H : ((decode_t.f k a0).bind fun t286 => ((decode_bits.f k a0 12 9 2).bind fun t287 => ((decode_bits.f k a0 8 7 6).bind fun t288 => ((decode_typeS.f 2 2 t286 (Go.bits .or .u32 t287 t288)).bind fun bt289 => (some (bt289.1, bt289.2)))))) = some (r1, r2) := h
  clear h
  replace H := Option.bind_eq_some_iff.mp H
  obtain ⟨t286, A20, H⟩ := H
  replace H : ((decode_bits.f k a0 12 9 2).bind fun t287 => ((decode_bits.f k a0 8 7 6).bind fun t288 => ((decode_typeS.f 2 2 t286 (Go.bits .or .u32 t287 t288)).bind fun bt289 => (some (bt289.1, bt289.2))))) = some (r1, r2) := H
  have A2 := Aside0.mk A20
  clear A20
  replace H := Option.bind_eq_some_iff.mp H
  obtain ⟨t287, A30, H⟩ := H
  replace H : ((decode_bits.f k a0 8 7 6).bind fun t288 => ((decode_typeS.f 2 2 t286 (Go.bits .or .u32 t287 t288)).bind fun bt289 => (some (bt289.1, bt289.2)))) = some (r1, r2) := H
  have A3 := Aside0.mk A30
  clear A30
  replace H := Option.bind_eq_some_iff.mp H
  obtain ⟨t288, A40, H⟩ := H
  replace H : ((decode_typeS.f 2 2 t286 (Go.bits .or .u32 t287 t288)).bind fun bt289 => (some (bt289.1, bt289.2))) = some (r1, r2) := H
  have A4 := Aside0.mk A40
  clear A40
  replace H := Option.bind_eq_some_iff.mp H
  obtain ⟨⟨t289, t290⟩, A50, H⟩ := H
  replace H : (some (t289, t290)) = some (r1, r2) := H
  have A5 := Aside0.mk A50
  clear A50
  simp only [Option.some.injEq, Prod.mk.injEq] at H
  obtain ⟨rfl, rfl⟩ := H
  go_enter Try.func49, Try.ntmps49
  go_wp2_with (first | ((with_reducible refine gate_callee (f := 76) rfl ?_); refine goesL_ (some 5) rfl rfl Try.func76 (by kernel_rfl) rfl #[.int .u32 a0] rfl (by (try simp only [List.map_toArray, List.map_cons, List.map_nil]); first | done | rfl | (simp only [List.length_drop, List.length_take]; rfl)) ?_; (with_reducible refine (decode_t.calls k a0 t286 _ A2.out).mono ?_); rintro e w' ⟨rfl, ⟨nd, rfl⟩⟩; refine ⟨_, rfl, ?_⟩) | ((with_reducible refine gate_callee (f := 64) rfl ?_); refine goesL_ (some 7) rfl rfl Try.func64 (by kernel_rfl) rfl #[.int .u32 a0, .int .i64 12, .int .i64 9, .int .i64 2] rfl (by (try simp only [List.map_toArray, List.map_cons, List.map_nil]); first | done | rfl | (simp only [List.length_drop, List.length_take]; rfl)) ?_; (with_reducible refine (decode_bits.calls k a0 12 9 2 t287 _ A3.out).mono ?_); rintro e w' ⟨rfl, ⟨nd, rfl⟩⟩; refine ⟨_, rfl, ?_⟩) | ((with_reducible refine gate_callee (f := 64) rfl ?_); refine goesL_ (some 9) rfl rfl Try.func64 (by kernel_rfl) rfl #[.int .u32 a0, .int .i64 8, .int .i64 7, .int .i64 6] rfl (by (try simp only [List.map_toArray, List.map_cons, List.map_nil]); first | done | rfl | (simp only [List.length_drop, List.length_take]; rfl)) ?_; (with_reducible refine (decode_bits.calls k a0 8 7 6 t288 _ A4.out).mono ?_); rintro e w' ⟨rfl, ⟨nd, rfl⟩⟩; refine ⟨_, rfl, ?_⟩) | ((with_reducible refine gate_callee (f := 70) rfl ?_); refine goesL_ (some 11) rfl rfl Try.func70 (by kernel_rfl) rfl #[.int .u32 2, .int .u32 2, .int .u32 t286, .int .u32 (Go.bits .or .u32 t287 t288)] rfl (by (try simp only [List.map_toArray, List.map_cons, List.map_nil]); first | done | rfl | (simp only [List.length_drop, List.length_take]; rfl)) ?_; (with_reducible refine (decode_typeS.calls 2 2 t286 (Go.bits .or .u32 t287 t288) t289 t290 _ A5.out).mono ?_); rintro e w' ⟨rfl, ⟨nd, rfl⟩⟩; refine ⟨_, rfl, ?_⟩))
  go_ret2
  exact ⟨by first | rfl | (simp; done) | (simp [*]; done), by repeat (first | exact Drawn0.refl _ | apply Drawn0.step)⟩

/-! ### decode_sdsp: function 50 -/
def decode_sdsp.f (k : Nat) (a0 : Int) : Option (Int × Bool) := (decode_t.f k a0).bind fun t291 => ((decode_bits.f k a0 12 10 3).bind fun t292 => ((decode_bits.f k a0 9 7 6).bind fun t293 => ((decode_typeS.f 3 2 t291 (Go.bits .or .u32 t292 t293)).bind fun bt294 => (some (bt294.1, bt294.2)))))
theorem decode_sdsp.mono : ∀ a0 k, LeO (decode_sdsp.f k a0) (decode_sdsp.f (k + 1) a0) := by
  intro a0 k
  unfold decode_sdsp.f
  repeat' first
      | (with_reducible exact decode_bits.mono _ _ _ _ _)
      | (with_reducible exact decode_t.mono _ _)
      | (with_reducible exact LeO.refl _)
      | (with_reducible exact LeO.none _)
      | (with_reducible refine LeO.ite ?_ ?_)
      | (with_reducible refine LeO.bind ?_ (fun _ => ?_))
      | exact decode_bits.mono _ _ _ _ _
      | exact decode_t.mono _ _
      | exact LeO.none _
      | refine LeO.ite ?_ ?_
      | refine LeO.bind ?_ (fun _ => ?_)
set_option maxHeartbeats 8000000 in
set_option maxRecDepth 100000 in
theorem decode_sdsp.calls (k : Nat) (a0 : Int) (r1 : Int) (r2 : Bool) (w : World) (h : decode_sdsp.f k a0 = some (r1, r2)) :
    Calls Try.prog 50 #[.int .u32 a0] w fun e w' => e = .returned (.tuple #[.int .u32 r1, .bool r2]) ∧ Drawn0 w w' := by
  have H : ((decode_t.f k a0).bind fun t291 => ((decode_bits.f k a0 12 10 3).bind fun t292 => ((decode_bits.f k a0 9 7 6).bind fun t293 => ((decode_typeS.f 3 2 t291 (Go.bits .or .u32 t292 t293)).bind fun bt294 => (some (bt294.1, bt294.2)))))) = some (r1, r2) := h
  clear h
  replace H := Option.bind_eq_some_iff.mp H
  obtain ⟨t291, A20, H⟩ := H
  replace H : ((decode_bits.f k a0 12 10 3).bind fun t292 => ((decode_bits.f k a0 9 7 6).bind fun t293 => ((decode_typeS.f 3 2 t291 (Go.bits .or .u32 t292 t293)).bind fun bt294 => (some (bt294.1, bt294.2))))) = some (r1, r2) := H
  have A2 := Aside0.mk A20
  clear A20
  replace H := Option.bind_eq_some_iff.mp H
  obtain ⟨t292, A30, H⟩ := H
  replace H : ((decode_bits.f k a0 9 7 6).bind fun t293 => ((decode_typeS.f 3 2 t291 (Go.bits .or .u32 t292 t293)).bind fun bt294 => (some (bt294.1, bt294.2)))) = some (r1, r2) := H
  have A3 := Aside0.mk A30
  clear A30
  replace H := Option.bind_eq_some_iff.mp H
  obtain ⟨t293, A40, H⟩ := H
  replace H : ((decode_typeS.f 3 2 t291 (Go.bits .or .u32 t292 t293)).bind fun bt294 => (some (bt294.1, bt294.2))) = some (r1, r2) := H
  have A4 := Aside0.mk A40
  clear A40
  replace H := Option.bind_eq_some_iff.mp H
  obtain ⟨⟨t294, t295⟩, A50, H⟩ := H
  replace H : (some (t294, t295)) = some (r1, r2) := H
  have A5 := Aside0.mk A50
  clear A50
  simp only [Option.some.injEq, Prod.mk.injEq] at H
  obtain ⟨rfl, rfl⟩ := H
  go_enter Try.func50, Try.ntmps50
  go_wp2_with (first | ((with_reducible refine gate_callee (f := 76) rfl ?_); refine goesL_ (some 5) rfl rfl Try.func76 (by kernel_rfl) rfl #[.int .u32 a0] rfl (by (try simp only [List.map_toArray, List.map_cons, List.map_nil]); first | done | rfl | (simp only [List.length_drop, List.length_take]; rfl)) ?_; (with_reducible refine (decode_t.calls k a0 t291 _ A2.out).mono ?_); rintro e w' ⟨rfl, ⟨nd, rfl⟩⟩; refine ⟨_, rfl, ?_⟩) | ((with_reducible refine gate_callee (f := 64) rfl ?_); refine goesL_ (some 7) rfl rfl Try.func64 (by kernel_rfl) rfl #[.int .u32 a0, .int .i64 12, .int .i64 10, .int .i64 3] rfl (by (try simp only [List.map_toArray, List.map_cons, List.map_nil]); first | done | rfl | (simp only [List.length_drop, List.length_take]; rfl)) ?_; (with_reducible refine (decode_bits.calls k a0 12 10 3 t292 _ A3.out).mono ?_); rintro e w' ⟨rfl, ⟨nd, rfl⟩⟩; refine ⟨_, rfl, ?_⟩) | ((with_reducible refine gate_callee (f := 64) rfl ?_); refine goesL_ (some 9) rfl rfl Try.func64 (by kernel_rfl) rfl #[.int .u32 a0, .int .i64 9, .int .i64 7, .int .i64 6] rfl (by (try simp only [List.map_toArray, List.map_cons, List.map_nil]); first | done | rfl | (simp only [List.length_drop, List.length_take]; rfl)) ?_; (with_reducible refine (decode_bits.calls k a0 9 7 6 t293 _ A4.out).mono ?_); rintro e w' ⟨rfl, ⟨nd, rfl⟩⟩; refine ⟨_, rfl, ?_⟩) | ((with_reducible refine gate_callee (f := 70) rfl ?_); refine goesL_ (some 11) rfl rfl Try.func70 (by kernel_rfl) rfl #[.int .u32 3, .int .u32 2, .int .u32 t291, .int .u32 (Go.bits .or .u32 t292 t293)] rfl (by (try simp only [List.map_toArray, List.map_cons, List.map_nil]); first | done | rfl | (simp only [List.length_drop, List.length_take]; rfl)) ?_; (with_reducible refine (decode_typeS.calls 3 2 t291 (Go.bits .or .u32 t292 t293) t294 t295 _ A5.out).mono ?_); rintro e w' ⟨rfl, ⟨nd, rfl⟩⟩; refine ⟨_, rfl, ?_⟩))
  go_ret2
  exact ⟨by first | rfl | (simp; done) | (simp [*]; done), by repeat (first | exact Drawn0.refl _ | apply Drawn0.step)⟩

/-! ### decode_third: function 23 -/
def decode_third.f (k : Nat) (a0 : Int) : Option (Int × Bool) := if (a0 / 8192) = 0 then ((decode_slli.f k a0).bind fun bt296 => (some (bt296.1, bt296.2))) else (if (a0 / 8192) = 2 then ((decode_lwsp.f k a0).bind fun bt298 => (some (bt298.1, bt298.2))) else (if (a0 / 8192) = 3 then ((decode_ldsp.f k a0).bind fun bt300 => (some (bt300.1, bt300.2))) else (if (a0 / 8192) = 4 then ((decode_moves.f k a0).bind fun bt302 => (some (bt302.1, bt302.2))) else (if (a0 / 8192) = 6 then ((decode_swsp.f k a0).bind fun bt304 => (some (bt304.1, bt304.2))) else (if (a0 / 8192) = 7 then ((decode_sdsp.f k a0).bind fun bt306 => (some (bt306.1, bt306.2))) else ((decode_none.f).bind fun bt308 => (some (bt308.1, bt308.2))))))))
theorem decode_third.mono : ∀ a0 k, LeO (decode_third.f k a0) (decode_third.f (k + 1) a0) := by
  intro a0 k
  unfold decode_third.f
  repeat' first
      | (with_reducible exact decode_ldsp.mono _ _)
      | (with_reducible exact decode_lwsp.mono _ _)
      | (with_reducible exact decode_moves.mono _ _)
      | (with_reducible exact decode_sdsp.mono _ _)
      | (with_reducible exact decode_slli.mono _ _)
      | (with_reducible exact decode_swsp.mono _ _)
      | (with_reducible exact LeO.refl _)
      | (with_reducible exact LeO.none _)
      | (with_reducible refine LeO.ite ?_ ?_)
      | (with_reducible refine LeO.bind ?_ (fun _ => ?_))
      | exact decode_ldsp.mono _ _
      | exact decode_lwsp.mono _ _
      | exact decode_moves.mono _ _
      | exact decode_sdsp.mono _ _
      | exact decode_slli.mono _ _
      | exact decode_swsp.mono _ _
      | exact LeO.none _
      | refine LeO.ite ?_ ?_
      | refine LeO.bind ?_ (fun _ => ?_)
set_option maxHeartbeats 8000000 in
set_option maxRecDepth 100000 in
theorem decode_third.calls (k : Nat) (a0 : Int) (r1 : Int) (r2 : Bool) (w : World) (h : decode_third.f k a0 = some (r1, r2)) :
    Calls Try.prog 23 #[.int .u32 a0] w fun e w' => e = .returned (.tuple #[.int .u32 r1, .bool r2]) ∧ Drawn0 w w' := by
  have H : (if (a0 / 8192) = 0 then ((decode_slli.f k a0).bind fun bt296 => (some (bt296.1, bt296.2))) else (if (a0 / 8192) = 2 then ((decode_lwsp.f k a0).bind fun bt298 => (some (bt298.1, bt298.2))) else (if (a0 / 8192) = 3 then ((decode_ldsp.f k a0).bind fun bt300 => (some (bt300.1, bt300.2))) else (if (a0 / 8192) = 4 then ((decode_moves.f k a0).bind fun bt302 => (some (bt302.1, bt302.2))) else (if (a0 / 8192) = 6 then ((decode_swsp.f k a0).bind fun bt304 => (some (bt304.1, bt304.2))) else (if (a0 / 8192) = 7 then ((decode_sdsp.f k a0).bind fun bt306 => (some (bt306.1, bt306.2))) else ((decode_none.f).bind fun bt308 => (some (bt308.1, bt308.2))))))))) = some (r1, r2) := h
  clear h
  by_cases c2 : (a0 / 8192) = 0
  · rw [if_pos c2] at H
    have c2b0 : ((a0 / 8192) == 0) = true := beq_iff_eq.mpr c2
    have c2b1 : ((a0 / 8192) != 0) = false := bne_eq_false_iff_eq.mpr c2
    clear c2
    replace H := Option.bind_eq_some_iff.mp H
    obtain ⟨⟨t296, t297⟩, A30, H⟩ := H
    replace H : (some (t296, t297)) = some (r1, r2) := H
    have A3 := Aside0.mk A30
    clear A30
    simp only [Option.some.injEq, Prod.mk.injEq] at H
    obtain ⟨rfl, rfl⟩ := H
    go_enter Try.func23, Try.ntmps23
    go_wp2_with (first | ((with_reducible refine gate_callee (f := 45) rfl ?_); refine goesL_ (some 9) rfl rfl Try.func45 (by kernel_rfl) rfl #[.int .u32 a0] rfl (by (try simp only [List.map_toArray, List.map_cons, List.map_nil]); first | done | rfl | (simp only [List.length_drop, List.length_take]; rfl)) ?_; (with_reducible refine (decode_slli.calls k a0 t296 t297 _ A3.out).mono ?_); rintro e w' ⟨rfl, ⟨nd, rfl⟩⟩; refine ⟨_, rfl, ?_⟩))
    go_ret2
    exact ⟨by first | rfl | (simp; done) | (simp [*]; done), by repeat (first | exact Drawn0.refl _ | apply Drawn0.step)⟩
  · rw [if_neg c2] at H
    have c2b0 : ((a0 / 8192) == 0) = false := beq_eq_false_iff_ne.mpr c2
    have c2b1 : ((a0 / 8192) != 0) = true := bne_iff_ne.mpr c2
    by_cases c4 : (a0 / 8192) = 2
    · rw [if_pos c4] at H
      have c4b0 : ((a0 / 8192) == 2) = true := beq_iff_eq.mpr c4
      have c4b1 : ((a0 / 8192) != 2) = false := bne_eq_false_iff_eq.mpr c4
      clear c4
      replace H := Option.bind_eq_some_iff.mp H
      obtain ⟨⟨t298, t299⟩, A50, H⟩ := H
      replace H : (some (t298, t299)) = some (r1, r2) := H
      have A5 := Aside0.mk A50
      clear A50
      simp only [Option.some.injEq, Prod.mk.injEq] at H
      obtain ⟨rfl, rfl⟩ := H
      go_enter Try.func23, Try.ntmps23
      go_wp2_with (first | ((with_reducible refine gate_callee (f := 46) rfl ?_); refine goesL_ (some 15) rfl rfl Try.func46 (by kernel_rfl) rfl #[.int .u32 a0] rfl (by (try simp only [List.map_toArray, List.map_cons, List.map_nil]); first | done | rfl | (simp only [List.length_drop, List.length_take]; rfl)) ?_; (with_reducible refine (decode_lwsp.calls k a0 t298 t299 _ A5.out).mono ?_); rintro e w' ⟨rfl, ⟨nd, rfl⟩⟩; refine ⟨_, rfl, ?_⟩))
      go_ret2
      exact ⟨by first | rfl | (simp; done) | (simp [*]; done), by repeat (first | exact Drawn0.refl _ | apply Drawn0.step)⟩
    · rw [if_neg c4] at H
      have c4b0 : ((a0 / 8192) == 2) = false := beq_eq_false_iff_ne.mpr c4
      have c4b1 : ((a0 / 8192) != 2) = true := bne_iff_ne.mpr c4
      by_cases c6 : (a0 / 8192) = 3
      · rw [if_pos c6] at H
        have c6b0 : ((a0 / 8192) == 3) = true := beq_iff_eq.mpr c6
        have c6b1 : ((a0 / 8192) != 3) = false := bne_eq_false_iff_eq.mpr c6
        clear c6
        replace H := Option.bind_eq_some_iff.mp H
        obtain ⟨⟨t300, t301⟩, A70, H⟩ := H
        replace H : (some (t300, t301)) = some (r1, r2) := H
        have A7 := Aside0.mk A70
        clear A70
        simp only [Option.some.injEq, Prod.mk.injEq] at H
        obtain ⟨rfl, rfl⟩ := H
        go_enter Try.func23, Try.ntmps23
        go_wp2_with (first | ((with_reducible refine gate_callee (f := 47) rfl ?_); refine goesL_ (some 21) rfl rfl Try.func47 (by kernel_rfl) rfl #[.int .u32 a0] rfl (by (try simp only [List.map_toArray, List.map_cons, List.map_nil]); first | done | rfl | (simp only [List.length_drop, List.length_take]; rfl)) ?_; (with_reducible refine (decode_ldsp.calls k a0 t300 t301 _ A7.out).mono ?_); rintro e w' ⟨rfl, ⟨nd, rfl⟩⟩; refine ⟨_, rfl, ?_⟩))
        go_ret2
        exact ⟨by first | rfl | (simp; done) | (simp [*]; done), by repeat (first | exact Drawn0.refl _ | apply Drawn0.step)⟩
      · rw [if_neg c6] at H
        have c6b0 : ((a0 / 8192) == 3) = false := beq_eq_false_iff_ne.mpr c6
        have c6b1 : ((a0 / 8192) != 3) = true := bne_iff_ne.mpr c6
        by_cases c8 : (a0 / 8192) = 4
        · rw [if_pos c8] at H
          have c8b0 : ((a0 / 8192) == 4) = true := beq_iff_eq.mpr c8
          have c8b1 : ((a0 / 8192) != 4) = false := bne_eq_false_iff_eq.mpr c8
          clear c8
          replace H := Option.bind_eq_some_iff.mp H
          obtain ⟨⟨t302, t303⟩, A90, H⟩ := H
          replace H : (some (t302, t303)) = some (r1, r2) := H
          have A9 := Aside0.mk A90
          clear A90
          simp only [Option.some.injEq, Prod.mk.injEq] at H
          obtain ⟨rfl, rfl⟩ := H
          go_enter Try.func23, Try.ntmps23
          go_wp2_with (first | ((with_reducible refine gate_callee (f := 48) rfl ?_); refine goesL_ (some 27) rfl rfl Try.func48 (by kernel_rfl) rfl #[.int .u32 a0] rfl (by (try simp only [List.map_toArray, List.map_cons, List.map_nil]); first | done | rfl | (simp only [List.length_drop, List.length_take]; rfl)) ?_; (with_reducible refine (decode_moves.calls k a0 t302 t303 _ A9.out).mono ?_); rintro e w' ⟨rfl, ⟨nd, rfl⟩⟩; refine ⟨_, rfl, ?_⟩))
          go_ret2
          exact ⟨by first | rfl | (simp; done) | (simp [*]; done), by repeat (first | exact Drawn0.refl _ | apply Drawn0.step)⟩
        · rw [if_neg c8] at H
          have c8b0 : ((a0 / 8192) == 4) = false := beq_eq_false_iff_ne.mpr c8
          have c8b1 : ((a0 / 8192) != 4) = true := bne_iff_ne.mpr c8
          by_cases c10 : (a0 / 8192) = 6
          · rw [if_pos c10] at H
            have c10b0 : ((a0 / 8192) == 6) = true := beq_iff_eq.mpr c10
            have c10b1 : ((a0 / 8192) != 6) = false := bne_eq_false_iff_eq.mpr c10
            clear c10
            replace H := Option.bind_eq_some_iff.mp H
            obtain ⟨⟨t304, t305⟩, A110, H⟩ := H
            replace H : (some (t304, t305)) = some (r1, r2) := H
            have A11 := Aside0.mk A110
            clear A110
            simp only [Option.some.injEq, Prod.mk.injEq] at H
            obtain ⟨rfl, rfl⟩ := H
            go_enter Try.func23, Try.ntmps23
            go_wp2_with (first | ((with_reducible refine gate_callee (f := 49) rfl ?_); refine goesL_ (some 33) rfl rfl Try.func49 (by kernel_rfl) rfl #[.int .u32 a0] rfl (by (try simp only [List.map_toArray, List.map_cons, List.map_nil]); first | done | rfl | (simp only [List.length_drop, List.length_take]; rfl)) ?_; (with_reducible refine (decode_swsp.calls k a0 t304 t305 _ A11.out).mono ?_); rintro e w' ⟨rfl, ⟨nd, rfl⟩⟩; refine ⟨_, rfl, ?_⟩))
            go_ret2
            exact ⟨by first | rfl | (simp; done) | (simp [*]; done), by repeat (first | exact Drawn0.refl _ | apply Drawn0.step)⟩
          · rw [if_neg c10] at H
            have c10b0 : ((a0 / 8192) == 6) = false := beq_eq_false_iff_ne.mpr c10
            have c10b1 : ((a0 / 8192) != 6) = true := bne_iff_ne.mpr c10
            by_cases c12 : (a0 / 8192) = 7
            · rw [if_pos c12] at H
              have c12b0 : ((a0 / 8192) == 7) = true := beq_iff_eq.mpr c12
              have c12b1 : ((a0 / 8192) != 7) = false := bne_eq_false_iff_eq.mpr c12
              clear c12
              replace H := Option.bind_eq_some_iff.mp H
              obtain ⟨⟨t306, t307⟩, A130, H⟩ := H
              replace H : (some (t306, t307)) = some (r1, r2) := H
              have A13 := Aside0.mk A130
              clear A130
              simp only [Option.some.injEq, Prod.mk.injEq] at H
              obtain ⟨rfl, rfl⟩ := H
              go_enter Try.func23, Try.ntmps23
              go_wp2_with (first | ((with_reducible refine gate_callee (f := 50) rfl ?_); refine goesL_ (some 39) rfl rfl Try.func50 (by kernel_rfl) rfl #[.int .u32 a0] rfl (by (try simp only [List.map_toArray, List.map_cons, List.map_nil]); first | done | rfl | (simp only [List.length_drop, List.length_take]; rfl)) ?_; (with_reducible refine (decode_sdsp.calls k a0 t306 t307 _ A13.out).mono ?_); rintro e w' ⟨rfl, ⟨nd, rfl⟩⟩; refine ⟨_, rfl, ?_⟩))
              go_ret2
              exact ⟨by first | rfl | (simp; done) | (simp [*]; done), by repeat (first | exact Drawn0.refl _ | apply Drawn0.step)⟩
            · rw [if_neg c12] at H
              have c12b0 : ((a0 / 8192) == 7) = false := beq_eq_false_iff_ne.mpr c12
              have c12b1 : ((a0 / 8192) != 7) = true := bne_iff_ne.mpr c12
              replace H := Option.bind_eq_some_iff.mp H
              obtain ⟨⟨t308, t309⟩, A140, H⟩ := H
              replace H : (some (t308, t309)) = some (r1, r2) := H
              have A14 := Aside0.mk A140
              clear A140
              simp only [Option.some.injEq, Prod.mk.injEq] at H
              obtain ⟨rfl, rfl⟩ := H
              go_enter Try.func23, Try.ntmps23
              go_wp2_with (first | ((with_reducible refine gate_callee (f := 20) rfl ?_); refine goesL_ (some 42) rfl rfl Try.func20 (by kernel_rfl) rfl #[] rfl (by (try simp only [List.map_toArray, List.map_cons, List.map_nil]); first | done | rfl | (simp only [List.length_drop, List.length_take]; rfl)) ?_; (with_reducible refine (decode_none.calls  t308 t309 _ A14.out).mono ?_); rintro e w' ⟨rfl, ⟨nd, rfl⟩⟩; refine ⟨_, rfl, ?_⟩))
              go_ret2
              exact ⟨by first | rfl | (simp; done) | (simp [*]; done), by repeat (first | exact Drawn0.refl _ | apply Drawn0.step)⟩

/-! ### decode_Expand: function 9 -/
def decode_Expand.f (k : Nat) (a0 : Int) : Option (Int × Bool) := if (Go.bits .and .u32 ((a0) % 4294967296) 3) ≥ 3 then ((decode_none.f).bind fun bt310 => (some (bt310.1, bt310.2))) else (if (Go.bits .and .u32 ((a0) % 4294967296) 3) = 0 then ((decode_first.f k ((a0) % 4294967296)).bind fun bt312 => (some (bt312.1, bt312.2))) else (if (Go.bits .and .u32 ((a0) % 4294967296) 3) = 1 then ((decode_second.f k ((a0) % 4294967296)).bind fun bt314 => (some (bt314.1, bt314.2))) else ((decode_third.f k ((a0) % 4294967296)).bind fun bt316 => (some (bt316.1, bt316.2)))))
theorem decode_Expand.mono : ∀ a0 k, LeO (decode_Expand.f k a0) (decode_Expand.f (k + 1) a0) := by
  intro a0 k
  unfold decode_Expand.f
  repeat' first
      | (with_reducible exact decode_first.mono _ _)
      | (with_reducible exact decode_second.mono _ _)
      | (with_reducible exact decode_third.mono _ _)
      | (with_reducible exact LeO.refl _)
      | (with_reducible exact LeO.none _)
      | (with_reducible refine LeO.ite ?_ ?_)
      | (with_reducible refine LeO.bind ?_ (fun _ => ?_))
      | exact decode_first.mono _ _
      | exact decode_second.mono _ _
      | exact decode_third.mono _ _
      | exact LeO.none _
      | refine LeO.ite ?_ ?_
      | refine LeO.bind ?_ (fun _ => ?_)
set_option maxHeartbeats 8000000 in
set_option maxRecDepth 100000 in
theorem decode_Expand.calls (k : Nat) (a0 : Int) (r1 : Int) (r2 : Bool) (w : World) (h : decode_Expand.f k a0 = some (r1, r2)) :
    Calls Try.prog 9 #[.int .u16 a0] w fun e w' => e = .returned (.tuple #[.int .u32 r1, .bool r2]) ∧ Drawn0 w w' := by
  have H : (if (Go.bits .and .u32 ((a0) % 4294967296) 3) ≥ 3 then ((decode_none.f).bind fun bt310 => (some (bt310.1, bt310.2))) else (if (Go.bits .and .u32 ((a0) % 4294967296) 3) = 0 then ((decode_first.f k ((a0) % 4294967296)).bind fun bt312 => (some (bt312.1, bt312.2))) else (if (Go.bits .and .u32 ((a0) % 4294967296) 3) = 1 then ((decode_second.f k ((a0) % 4294967296)).bind fun bt314 => (some (bt314.1, bt314.2))) else ((decode_third.f k ((a0) % 4294967296)).bind fun bt316 => (some (bt316.1, bt316.2)))))) = some (r1, r2) := h
  clear h
  by_cases c2 : (Go.bits .and .u32 ((a0) % 4294967296) 3) ≥ 3
  · rw [if_pos c2] at H
    have c2b0 : decide (3 ≤ (Go.bits .and .u32 ((a0) % 4294967296) 3)) = true := decide_eq_true c2
    clear c2
    replace H := Option.bind_eq_some_iff.mp H
    obtain ⟨⟨t310, t311⟩, A30, H⟩ := H
    replace H : (some (t310, t311)) = some (r1, r2) := H
    have A3 := Aside0.mk A30
    clear A30
    simp only [Option.some.injEq, Prod.mk.injEq] at H
    obtain ⟨rfl, rfl⟩ := H
    go_enter Try.func9, Try.ntmps9
    go_wp2_with (first | ((with_reducible refine gate_callee (f := 20) rfl ?_); refine goesL_ (some 10) rfl rfl Try.func20 (by kernel_rfl) rfl #[] rfl (by (try simp only [List.map_toArray, List.map_cons, List.map_nil]); first | done | rfl | (simp only [List.length_drop, List.length_take]; rfl)) ?_; (with_reducible refine (decode_none.calls  t310 t311 _ A3.out).mono ?_); rintro e w' ⟨rfl, ⟨nd, rfl⟩⟩; refine ⟨_, rfl, ?_⟩))
    go_ret2
    exact ⟨by first | rfl | (simp; done) | (simp [*]; done), by repeat (first | exact Drawn0.refl _ | apply Drawn0.step)⟩
  · rw [if_neg c2] at H
    have c2b0 : decide (3 ≤ (Go.bits .and .u32 ((a0) % 4294967296) 3)) = false := decide_eq_false c2
    clear c2
    by_cases c4 : (Go.bits .and .u32 ((a0) % 4294967296) 3) = 0
    · rw [if_pos c4] at H
      have c4b0 : ((Go.bits .and .u32 ((a0) % 4294967296) 3) == 0) = true := beq_iff_eq.mpr c4
      have c4b1 : ((Go.bits .and .u32 ((a0) % 4294967296) 3) != 0) = false := bne_eq_false_iff_eq.mpr c4
      clear c4
      replace H := Option.bind_eq_some_iff.mp H
      obtain ⟨⟨t312, t313⟩, A50, H⟩ := H
      replace H : (some (t312, t313)) = some (r1, r2) := H
      have A5 := Aside0.mk A50
      clear A50
      simp only [Option.some.injEq, Prod.mk.injEq] at H
      obtain ⟨rfl, rfl⟩ := H
      go_enter Try.func9, Try.ntmps9
      go_wp2_with (first | ((with_reducible refine gate_callee (f := 21) rfl ?_); refine goesL_ (some 18) rfl rfl Try.func21 (by kernel_rfl) rfl #[.int .u32 ((a0) % 4294967296)] rfl (by (try simp only [List.map_toArray, List.map_cons, List.map_nil]); first | done | rfl | (simp only [List.length_drop, List.length_take]; rfl)) ?_; (with_reducible refine (decode_first.calls k ((a0) % 4294967296) t312 t313 _ A5.out).mono ?_); rintro e w' ⟨rfl, ⟨nd, rfl⟩⟩; refine ⟨_, rfl, ?_⟩))
      go_ret2
      exact ⟨by first | rfl | (simp; done) | (simp [*]; done), by repeat (first | exact Drawn0.refl _ | apply Drawn0.step)⟩
    · rw [if_neg c4] at H
      have c4b0 : ((Go.bits .and .u32 ((a0) % 4294967296) 3) == 0) = false := beq_eq_false_iff_ne.mpr c4
      have c4b1 : ((Go.bits .and .u32 ((a0) % 4294967296) 3) != 0) = true := bne_iff_ne.mpr c4
      by_cases c6 : (Go.bits .and .u32 ((a0) % 4294967296) 3) = 1
      · rw [if_pos c6] at H
        have c6b0 : ((Go.bits .and .u32 ((a0) % 4294967296) 3) == 1) = true := beq_iff_eq.mpr c6
        have c6b1 : ((Go.bits .and .u32 ((a0) % 4294967296) 3) != 1) = false := bne_eq_false_iff_eq.mpr c6
        clear c6
        replace H := Option.bind_eq_some_iff.mp H
        obtain ⟨⟨t314, t315⟩, A70, H⟩ := H
        replace H : (some (t314, t315)) = some (r1, r2) := H
        have A7 := Aside0.mk A70
        clear A70
        simp only [Option.some.injEq, Prod.mk.injEq] at H
        obtain ⟨rfl, rfl⟩ := H
        go_enter Try.func9, Try.ntmps9
        go_wp2_with (first | ((with_reducible refine gate_callee (f := 22) rfl ?_); refine goesL_ (some 24) rfl rfl Try.func22 (by kernel_rfl) rfl #[.int .u32 ((a0) % 4294967296)] rfl (by (try simp only [List.map_toArray, List.map_cons, List.map_nil]); first | done | rfl | (simp only [List.length_drop, List.length_take]; rfl)) ?_; (with_reducible refine (decode_second.calls k ((a0) % 4294967296) t314 t315 _ A7.out).mono ?_); rintro e w' ⟨rfl, ⟨nd, rfl⟩⟩; refine ⟨_, rfl, ?_⟩))
        go_ret2
        exact ⟨by first | rfl | (simp; done) | (simp [*]; done), by repeat (first | exact Drawn0.refl _ | apply Drawn0.step)⟩
      · rw [if_neg c6] at H
        have c6b0 : ((Go.bits .and .u32 ((a0) % 4294967296) 3) == 1) = false := beq_eq_false_iff_ne.mpr c6
        have c6b1 : ((Go.bits .and .u32 ((a0) % 4294967296) 3) != 1) = true := bne_iff_ne.mpr c6
        replace H := Option.bind_eq_some_iff.mp H
        obtain ⟨⟨t316, t317⟩, A80, H⟩ := H
        replace H : (some (t316, t317)) = some (r1, r2) := H
        have A8 := Aside0.mk A80
        clear A80
        simp only [Option.some.injEq, Prod.mk.injEq] at H
        obtain ⟨rfl, rfl⟩ := H
        go_enter Try.func9, Try.ntmps9
        go_wp2_with (first | ((with_reducible refine gate_callee (f := 23) rfl ?_); refine goesL_ (some 28) rfl rfl Try.func23 (by kernel_rfl) rfl #[.int .u32 ((a0) % 4294967296)] rfl (by (try simp only [List.map_toArray, List.map_cons, List.map_nil]); first | done | rfl | (simp only [List.length_drop, List.length_take]; rfl)) ?_; (with_reducible refine (decode_third.calls k ((a0) % 4294967296) t316 t317 _ A8.out).mono ?_); rintro e w' ⟨rfl, ⟨nd, rfl⟩⟩; refine ⟨_, rfl, ?_⟩))
        go_ret2
        exact ⟨by first | rfl | (simp; done) | (simp [*]; done), by repeat (first | exact Drawn0.refl _ | apply Drawn0.step)⟩

end Go.Proofs.Ytiibhggjlandmaa.PB
