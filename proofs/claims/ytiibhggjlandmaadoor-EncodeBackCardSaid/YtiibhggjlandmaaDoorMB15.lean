/- Texts of this claim, put together by a program: PBx3, PBx4, PBx, DForms, Scope, DecA, DecB, PureEnc2, PKa, Comp. -/
import Derived.Test.YtiibhggjlandmaaDoorMB14
import Derived.Test.YtiibhggjlandmaaDoorMB0
import Derived.Test.YtiibhggjlandmaaDoorProg
import Derived.KernelRfl
import Derived.WalkKit
import Derived.ScopeJumps
import Derived.WalkMore
import Derived.Laws.CopyOwn
import Derived.Test.YtiibhggjlandmaaDoorMB4
import Derived.Below
import Derived.Deep.Draws
import Derived.Deep.AppendLies
import Derived.Maps.AppendAt
import Derived.OwnWalk
import Derived.Laws.BytesArg
import Derived.Laws.MakeOwn
import Derived.Laws.OwnMore
import Derived.Deep.OwnRows
import Derived.Tactics
import Derived.Lib.ConvBytes
import Derived.Laws.Slices
import Derived.RowKit3
import Derived.Deep.LoopGhost
import Derived.Deep.QuietTactic
import Derived.BigQuiet
import Derived.WideLaws
import Derived.Deep.DeepCutAuto
import Derived.Deep.CutBlock
import Derived.Deep.RegionHeld3
import Derived.Laws.Rows
import Derived.Lib.AppendStr
import Derived.ArgAppend
import Derived.Laws.IdiomCopy
import Derived.OrdersHeld
import Derived.Laws.BitsLemmas
import Derived.RowKit
-- Written by a program (a turned copy of the kit's print.py) for this claim. Lean checks it.
namespace Go.Proofs.YtiibhggjlandmaaDoor.PB
open Go.RowKit Go.Proofs.YtiibhggjlandmaaDoorW.PrintWords Go.Proofs.YtiibhggjlandmaaDoorW.PrintLast Go.Proofs.YtiibhggjlandmaaDoorW.PrintMore Go.Proofs.YtiibhggjlandmaaDoor.PG
attribute [local go_sem] max2_int min2_int max_two min_two max_three min_three max_four min_four   -- for this text's walks alone
set_option linter.unusedVariables false
set_option linter.unusedSimpArgs false

/-! ### decode_branch: function 86 -/
def decode_branch.f (k : Nat) (a0 : Int) (a1 : Int) : Option (Int × Bool) := (decode_bits.f k a0 12 12 8).bind fun t232 => ((decode_bits.f k a0 11 10 3).bind fun t233 => ((decode_bits.f k a0 6 5 6).bind fun t234 => ((decode_bits.f k a0 4 3 1).bind fun t235 => ((decode_bits.f k a0 2 2 5).bind fun t236 => ((decode_signed.f (wrap64 (Go.bits .or .u32 (Go.bits .or .u32 (Go.bits .or .u32 (Go.bits .or .u32 t232 t233) t234) t235) t236)) 9).bind fun t237 => ((decode_bits.f k ((t237) % 4294967296) 12 12 31).bind fun t238 => ((decode_bits.f k ((t237) % 4294967296) 10 5 25).bind fun t239 => ((decode_ra.f k a0).bind fun t240 => ((decode_bits.f k ((t237) % 4294967296) 4 1 8).bind fun t241 => ((decode_bits.f k ((t237) % 4294967296) 11 11 7).bind fun t242 => (some (Go.bits .or .u32 (Go.bits .or .u32 (Go.bits .or .u32 (Go.bits .or .u32 (Go.bits .or .u32 (Go.bits .or .u32 t238 t239) ((t240 * 32768) % 4294967296)) ((a1 * 4096) % 4294967296)) t241) t242) 99, true))))))))))))
theorem decode_branch.mono : ∀ a0 a1 k, LeO (decode_branch.f k a0 a1) (decode_branch.f (k + 1) a0 a1) := by
  intro a0 a1 k
  unfold decode_branch.f
  repeat' first
      | (with_reducible exact decode_bits.mono _ _ _ _ _)
      | (with_reducible exact decode_ra.mono _ _)
      | (with_reducible exact LeO.refl _)
      | (with_reducible exact LeO.none _)
      | (with_reducible refine LeO.ite ?_ ?_)
      | (with_reducible refine LeO.bind ?_ (fun _ => ?_))
      | exact decode_bits.mono _ _ _ _ _
      | exact decode_ra.mono _ _
      | exact LeO.none _
      | refine LeO.ite ?_ ?_
      | refine LeO.bind ?_ (fun _ => ?_)
set_option maxHeartbeats 8000000 in
set_option maxRecDepth 100000 in
theorem decode_branch.calls (k : Nat) (a0 : Int) (a1 : Int) (r1 : Int) (r2 : Bool) (w : World) (h : decode_branch.f k a0 a1 = some (r1, r2)) :
    Calls Tryd.prog 86 #[.int .u32 a0, .int .u32 a1] w fun e w' => e = .returned (.tuple #[.int .u32 r1, .bool r2]) ∧ Drawn0 w w' := by
  have H : ((decode_bits.f k a0 12 12 8).bind fun t232 => ((decode_bits.f k a0 11 10 3).bind fun t233 => ((decode_bits.f k a0 6 5 6).bind fun t234 => ((decode_bits.f k a0 4 3 1).bind fun t235 => ((decode_bits.f k a0 2 2 5).bind fun t236 => ((decode_signed.f (wrap64 (Go.bits .or .u32 (Go.bits .or .u32 (Go.bits .or .u32 (Go.bits .or .u32 t232 t233) t234) t235) t236)) 9).bind fun t237 => ((decode_bits.f k ((t237) % 4294967296) 12 12 31).bind fun t238 => ((decode_bits.f k ((t237) % 4294967296) 10 5 25).bind fun t239 => ((decode_ra.f k a0).bind fun t240 => ((decode_bits.f k ((t237) % 4294967296) 4 1 8).bind fun t241 => ((decode_bits.f k ((t237) % 4294967296) 11 11 7).bind fun t242 => (some (Go.bits .or .u32 (Go.bits .or .u32 (Go.bits .or .u32 (Go.bits .or .u32 (Go.bits .or .u32 (Go.bits .or .u32 t238 t239) ((t240 * 32768) % 4294967296)) ((a1 * 4096) % 4294967296)) t241) t242) 99, true))))))))))))) = some (r1, r2) := h
  clear h
  replace H := Option.bind_eq_some_iff.mp H
  obtain ⟨t232, A30, H⟩ := H
  replace H : ((decode_bits.f k a0 11 10 3).bind fun t233 => ((decode_bits.f k a0 6 5 6).bind fun t234 => ((decode_bits.f k a0 4 3 1).bind fun t235 => ((decode_bits.f k a0 2 2 5).bind fun t236 => ((decode_signed.f (wrap64 (Go.bits .or .u32 (Go.bits .or .u32 (Go.bits .or .u32 (Go.bits .or .u32 t232 t233) t234) t235) t236)) 9).bind fun t237 => ((decode_bits.f k ((t237) % 4294967296) 12 12 31).bind fun t238 => ((decode_bits.f k ((t237) % 4294967296) 10 5 25).bind fun t239 => ((decode_ra.f k a0).bind fun t240 => ((decode_bits.f k ((t237) % 4294967296) 4 1 8).bind fun t241 => ((decode_bits.f k ((t237) % 4294967296) 11 11 7).bind fun t242 => (some (Go.bits .or .u32 (Go.bits .or .u32 (Go.bits .or .u32 (Go.bits .or .u32 (Go.bits .or .u32 (Go.bits .or .u32 t238 t239) ((t240 * 32768) % 4294967296)) ((a1 * 4096) % 4294967296)) t241) t242) 99, true)))))))))))) = some (r1, r2) := H
  have A3 := Aside0.mk A30
  clear A30
  replace H := Option.bind_eq_some_iff.mp H
  obtain ⟨t233, A40, H⟩ := H
  replace H : ((decode_bits.f k a0 6 5 6).bind fun t234 => ((decode_bits.f k a0 4 3 1).bind fun t235 => ((decode_bits.f k a0 2 2 5).bind fun t236 => ((decode_signed.f (wrap64 (Go.bits .or .u32 (Go.bits .or .u32 (Go.bits .or .u32 (Go.bits .or .u32 t232 t233) t234) t235) t236)) 9).bind fun t237 => ((decode_bits.f k ((t237) % 4294967296) 12 12 31).bind fun t238 => ((decode_bits.f k ((t237) % 4294967296) 10 5 25).bind fun t239 => ((decode_ra.f k a0).bind fun t240 => ((decode_bits.f k ((t237) % 4294967296) 4 1 8).bind fun t241 => ((decode_bits.f k ((t237) % 4294967296) 11 11 7).bind fun t242 => (some (Go.bits .or .u32 (Go.bits .or .u32 (Go.bits .or .u32 (Go.bits .or .u32 (Go.bits .or .u32 (Go.bits .or .u32 t238 t239) ((t240 * 32768) % 4294967296)) ((a1 * 4096) % 4294967296)) t241) t242) 99, true))))))))))) = some (r1, r2) := H
  have A4 := Aside0.mk A40
  clear A40
  replace H := Option.bind_eq_some_iff.mp H
  obtain ⟨t234, A50, H⟩ := H
  replace H : ((decode_bits.f k a0 4 3 1).bind fun t235 => ((decode_bits.f k a0 2 2 5).bind fun t236 => ((decode_signed.f (wrap64 (Go.bits .or .u32 (Go.bits .or .u32 (Go.bits .or .u32 (Go.bits .or .u32 t232 t233) t234) t235) t236)) 9).bind fun t237 => ((decode_bits.f k ((t237) % 4294967296) 12 12 31).bind fun t238 => ((decode_bits.f k ((t237) % 4294967296) 10 5 25).bind fun t239 => ((decode_ra.f k a0).bind fun t240 => ((decode_bits.f k ((t237) % 4294967296) 4 1 8).bind fun t241 => ((decode_bits.f k ((t237) % 4294967296) 11 11 7).bind fun t242 => (some (Go.bits .or .u32 (Go.bits .or .u32 (Go.bits .or .u32 (Go.bits .or .u32 (Go.bits .or .u32 (Go.bits .or .u32 t238 t239) ((t240 * 32768) % 4294967296)) ((a1 * 4096) % 4294967296)) t241) t242) 99, true)))))))))) = some (r1, r2) := H
  have A5 := Aside0.mk A50
  clear A50
  replace H := Option.bind_eq_some_iff.mp H
  obtain ⟨t235, A60, H⟩ := H
  replace H : ((decode_bits.f k a0 2 2 5).bind fun t236 => ((decode_signed.f (wrap64 (Go.bits .or .u32 (Go.bits .or .u32 (Go.bits .or .u32 (Go.bits .or .u32 t232 t233) t234) t235) t236)) 9).bind fun t237 => ((decode_bits.f k ((t237) % 4294967296) 12 12 31).bind fun t238 => ((decode_bits.f k ((t237) % 4294967296) 10 5 25).bind fun t239 => ((decode_ra.f k a0).bind fun t240 => ((decode_bits.f k ((t237) % 4294967296) 4 1 8).bind fun t241 => ((decode_bits.f k ((t237) % 4294967296) 11 11 7).bind fun t242 => (some (Go.bits .or .u32 (Go.bits .or .u32 (Go.bits .or .u32 (Go.bits .or .u32 (Go.bits .or .u32 (Go.bits .or .u32 t238 t239) ((t240 * 32768) % 4294967296)) ((a1 * 4096) % 4294967296)) t241) t242) 99, true))))))))) = some (r1, r2) := H
  have A6 := Aside0.mk A60
  clear A60
  replace H := Option.bind_eq_some_iff.mp H
  obtain ⟨t236, A70, H⟩ := H
  replace H : ((decode_signed.f (wrap64 (Go.bits .or .u32 (Go.bits .or .u32 (Go.bits .or .u32 (Go.bits .or .u32 t232 t233) t234) t235) t236)) 9).bind fun t237 => ((decode_bits.f k ((t237) % 4294967296) 12 12 31).bind fun t238 => ((decode_bits.f k ((t237) % 4294967296) 10 5 25).bind fun t239 => ((decode_ra.f k a0).bind fun t240 => ((decode_bits.f k ((t237) % 4294967296) 4 1 8).bind fun t241 => ((decode_bits.f k ((t237) % 4294967296) 11 11 7).bind fun t242 => (some (Go.bits .or .u32 (Go.bits .or .u32 (Go.bits .or .u32 (Go.bits .or .u32 (Go.bits .or .u32 (Go.bits .or .u32 t238 t239) ((t240 * 32768) % 4294967296)) ((a1 * 4096) % 4294967296)) t241) t242) 99, true)))))))) = some (r1, r2) := H
  have A7 := Aside0.mk A70
  clear A70
  replace H := Option.bind_eq_some_iff.mp H
  obtain ⟨t237, A80, H⟩ := H
  replace H : ((decode_bits.f k ((t237) % 4294967296) 12 12 31).bind fun t238 => ((decode_bits.f k ((t237) % 4294967296) 10 5 25).bind fun t239 => ((decode_ra.f k a0).bind fun t240 => ((decode_bits.f k ((t237) % 4294967296) 4 1 8).bind fun t241 => ((decode_bits.f k ((t237) % 4294967296) 11 11 7).bind fun t242 => (some (Go.bits .or .u32 (Go.bits .or .u32 (Go.bits .or .u32 (Go.bits .or .u32 (Go.bits .or .u32 (Go.bits .or .u32 t238 t239) ((t240 * 32768) % 4294967296)) ((a1 * 4096) % 4294967296)) t241) t242) 99, true))))))) = some (r1, r2) := H
  have A8 := Aside0.mk A80
  clear A80
  replace H := Option.bind_eq_some_iff.mp H
  obtain ⟨t238, A90, H⟩ := H
  replace H : ((decode_bits.f k ((t237) % 4294967296) 10 5 25).bind fun t239 => ((decode_ra.f k a0).bind fun t240 => ((decode_bits.f k ((t237) % 4294967296) 4 1 8).bind fun t241 => ((decode_bits.f k ((t237) % 4294967296) 11 11 7).bind fun t242 => (some (Go.bits .or .u32 (Go.bits .or .u32 (Go.bits .or .u32 (Go.bits .or .u32 (Go.bits .or .u32 (Go.bits .or .u32 t238 t239) ((t240 * 32768) % 4294967296)) ((a1 * 4096) % 4294967296)) t241) t242) 99, true)))))) = some (r1, r2) := H
  have A9 := Aside0.mk A90
  clear A90
  replace H := Option.bind_eq_some_iff.mp H
  obtain ⟨t239, A100, H⟩ := H
  replace H : ((decode_ra.f k a0).bind fun t240 => ((decode_bits.f k ((t237) % 4294967296) 4 1 8).bind fun t241 => ((decode_bits.f k ((t237) % 4294967296) 11 11 7).bind fun t242 => (some (Go.bits .or .u32 (Go.bits .or .u32 (Go.bits .or .u32 (Go.bits .or .u32 (Go.bits .or .u32 (Go.bits .or .u32 t238 t239) ((t240 * 32768) % 4294967296)) ((a1 * 4096) % 4294967296)) t241) t242) 99, true))))) = some (r1, r2) := H
  have A10 := Aside0.mk A100
  clear A100
  replace H := Option.bind_eq_some_iff.mp H
  obtain ⟨t240, A110, H⟩ := H
  replace H : ((decode_bits.f k ((t237) % 4294967296) 4 1 8).bind fun t241 => ((decode_bits.f k ((t237) % 4294967296) 11 11 7).bind fun t242 => (some (Go.bits .or .u32 (Go.bits .or .u32 (Go.bits .or .u32 (Go.bits .or .u32 (Go.bits .or .u32 (Go.bits .or .u32 t238 t239) ((t240 * 32768) % 4294967296)) ((a1 * 4096) % 4294967296)) t241) t242) 99, true)))) = some (r1, r2) := H
  have A11 := Aside0.mk A110
  clear A110
  replace H := Option.bind_eq_some_iff.mp H
  obtain ⟨t241, A120, H⟩ := H
  replace H : ((decode_bits.f k ((t237) % 4294967296) 11 11 7).bind fun t242 => (some (Go.bits .or .u32 (Go.bits .or .u32 (Go.bits .or .u32 (Go.bits .or .u32 (Go.bits .or .u32 (Go.bits .or .u32 t238 t239) ((t240 * 32768) % 4294967296)) ((a1 * 4096) % 4294967296)) t241) t242) 99, true))) = some (r1, r2) := H
  have A12 := Aside0.mk A120
  clear A120
  replace H := Option.bind_eq_some_iff.mp H
  obtain ⟨t242, A130, H⟩ := H
  replace H : (some (Go.bits .or .u32 (Go.bits .or .u32 (Go.bits .or .u32 (Go.bits .or .u32 (Go.bits .or .u32 (Go.bits .or .u32 t238 t239) ((t240 * 32768) % 4294967296)) ((a1 * 4096) % 4294967296)) t241) t242) 99, true)) = some (r1, r2) := H
  have A13 := Aside0.mk A130
  clear A130
  simp only [Option.some.injEq, Prod.mk.injEq] at H
  obtain ⟨rfl, rfl⟩ := H
  go_enter Tryd.func86, Tryd.ntmps86
  go_wp2_with (first | ((with_reducible refine gate_callee (f := 75) rfl ?_); refine goesL_ (some 9) rfl rfl Tryd.func75 (by kernel_rfl) rfl #[.int .u32 a0, .int .i64 12, .int .i64 12, .int .i64 8] rfl (by (try simp only [List.map_toArray, List.map_cons, List.map_nil]); first | done | rfl | (simp only [List.length_drop, List.length_take]; rfl)) ?_; (with_reducible refine (decode_bits.calls k a0 12 12 8 t232 _ A3.out).mono ?_); rintro e w' ⟨rfl, ⟨nd, rfl⟩⟩; refine ⟨_, rfl, ?_⟩) | ((with_reducible refine gate_callee (f := 75) rfl ?_); refine goesL_ (some 11) rfl rfl Tryd.func75 (by kernel_rfl) rfl #[.int .u32 a0, .int .i64 11, .int .i64 10, .int .i64 3] rfl (by (try simp only [List.map_toArray, List.map_cons, List.map_nil]); first | done | rfl | (simp only [List.length_drop, List.length_take]; rfl)) ?_; (with_reducible refine (decode_bits.calls k a0 11 10 3 t233 _ A4.out).mono ?_); rintro e w' ⟨rfl, ⟨nd, rfl⟩⟩; refine ⟨_, rfl, ?_⟩) | ((with_reducible refine gate_callee (f := 75) rfl ?_); refine goesL_ (some 14) rfl rfl Tryd.func75 (by kernel_rfl) rfl #[.int .u32 a0, .int .i64 6, .int .i64 5, .int .i64 6] rfl (by (try simp only [List.map_toArray, List.map_cons, List.map_nil]); first | done | rfl | (simp only [List.length_drop, List.length_take]; rfl)) ?_; (with_reducible refine (decode_bits.calls k a0 6 5 6 t234 _ A5.out).mono ?_); rintro e w' ⟨rfl, ⟨nd, rfl⟩⟩; refine ⟨_, rfl, ?_⟩) | ((with_reducible refine gate_callee (f := 75) rfl ?_); refine goesL_ (some 17) rfl rfl Tryd.func75 (by kernel_rfl) rfl #[.int .u32 a0, .int .i64 4, .int .i64 3, .int .i64 1] rfl (by (try simp only [List.map_toArray, List.map_cons, List.map_nil]); first | done | rfl | (simp only [List.length_drop, List.length_take]; rfl)) ?_; (with_reducible refine (decode_bits.calls k a0 4 3 1 t235 _ A6.out).mono ?_); rintro e w' ⟨rfl, ⟨nd, rfl⟩⟩; refine ⟨_, rfl, ?_⟩) | ((with_reducible refine gate_callee (f := 75) rfl ?_); refine goesL_ (some 20) rfl rfl Tryd.func75 (by kernel_rfl) rfl #[.int .u32 a0, .int .i64 2, .int .i64 2, .int .i64 5] rfl (by (try simp only [List.map_toArray, List.map_cons, List.map_nil]); first | done | rfl | (simp only [List.length_drop, List.length_take]; rfl)) ?_; (with_reducible refine (decode_bits.calls k a0 2 2 5 t236 _ A7.out).mono ?_); rintro e w' ⟨rfl, ⟨nd, rfl⟩⟩; refine ⟨_, rfl, ?_⟩) | ((with_reducible refine gate_callee (f := 50) rfl ?_); refine goesL_ (some 24) rfl rfl Tryd.func50 (by kernel_rfl) rfl #[.int .i64 (wrap64 (Go.bits .or .u32 (Go.bits .or .u32 (Go.bits .or .u32 (Go.bits .or .u32 t232 t233) t234) t235) t236)), .int .i64 9] rfl (by (try simp only [List.map_toArray, List.map_cons, List.map_nil]); first | done | rfl | (simp only [List.length_drop, List.length_take]; rfl)) ?_; (with_reducible refine (decode_signed.calls (wrap64 (Go.bits .or .u32 (Go.bits .or .u32 (Go.bits .or .u32 (Go.bits .or .u32 t232 t233) t234) t235) t236)) 9 t237 _ A8.out).mono ?_); rintro e w' ⟨rfl, ⟨nd, rfl⟩⟩; refine ⟨_, rfl, ?_⟩) | ((with_reducible refine gate_callee (f := 75) rfl ?_); refine goesL_ (some 27) rfl rfl Tryd.func75 (by kernel_rfl) rfl #[.int .u32 ((t237) % 4294967296), .int .i64 12, .int .i64 12, .int .i64 31] rfl (by (try simp only [List.map_toArray, List.map_cons, List.map_nil]); first | done | rfl | (simp only [List.length_drop, List.length_take]; rfl)) ?_; (with_reducible refine (decode_bits.calls k ((t237) % 4294967296) 12 12 31 t238 _ A9.out).mono ?_); rintro e w' ⟨rfl, ⟨nd, rfl⟩⟩; refine ⟨_, rfl, ?_⟩) | ((with_reducible refine gate_callee (f := 75) rfl ?_); refine goesL_ (some 29) rfl rfl Tryd.func75 (by kernel_rfl) rfl #[.int .u32 ((t237) % 4294967296), .int .i64 10, .int .i64 5, .int .i64 25] rfl (by (try simp only [List.map_toArray, List.map_cons, List.map_nil]); first | done | rfl | (simp only [List.length_drop, List.length_take]; rfl)) ?_; (with_reducible refine (decode_bits.calls k ((t237) % 4294967296) 10 5 25 t239 _ A10.out).mono ?_); rintro e w' ⟨rfl, ⟨nd, rfl⟩⟩; refine ⟨_, rfl, ?_⟩) | ((with_reducible refine gate_callee (f := 78) rfl ?_); refine goesL_ (some 32) rfl rfl Tryd.func78 (by kernel_rfl) rfl #[.int .u32 a0] rfl (by (try simp only [List.map_toArray, List.map_cons, List.map_nil]); first | done | rfl | (simp only [List.length_drop, List.length_take]; rfl)) ?_; (with_reducible refine (decode_ra.calls k a0 t240 _ A11.out).mono ?_); rintro e w' ⟨rfl, ⟨nd, rfl⟩⟩; refine ⟨_, rfl, ?_⟩) | ((with_reducible refine gate_callee (f := 75) rfl ?_); refine goesL_ (some 39) rfl rfl Tryd.func75 (by kernel_rfl) rfl #[.int .u32 ((t237) % 4294967296), .int .i64 4, .int .i64 1, .int .i64 8] rfl (by (try simp only [List.map_toArray, List.map_cons, List.map_nil]); first | done | rfl | (simp only [List.length_drop, List.length_take]; rfl)) ?_; (with_reducible refine (decode_bits.calls k ((t237) % 4294967296) 4 1 8 t241 _ A12.out).mono ?_); rintro e w' ⟨rfl, ⟨nd, rfl⟩⟩; refine ⟨_, rfl, ?_⟩) | ((with_reducible refine gate_callee (f := 75) rfl ?_); refine goesL_ (some 42) rfl rfl Tryd.func75 (by kernel_rfl) rfl #[.int .u32 ((t237) % 4294967296), .int .i64 11, .int .i64 11, .int .i64 7] rfl (by (try simp only [List.map_toArray, List.map_cons, List.map_nil]); first | done | rfl | (simp only [List.length_drop, List.length_take]; rfl)) ?_; (with_reducible refine (decode_bits.calls k ((t237) % 4294967296) 11 11 7 t242 _ A13.out).mono ?_); rintro e w' ⟨rfl, ⟨nd, rfl⟩⟩; refine ⟨_, rfl, ?_⟩))
  go_ret2
  exact ⟨by first | rfl | (simp; done) | (simp [*]; done), by repeat (first | exact Drawn0.refl _ | apply Drawn0.step)⟩

/-! ### decode_beqz: function 63 -/
def decode_beqz.f (k : Nat) (a0 : Int) : Option (Int × Bool) := (decode_branch.f k a0 0).bind fun bt243 => (some (bt243.1, bt243.2))
theorem decode_beqz.mono : ∀ a0 k, LeO (decode_beqz.f k a0) (decode_beqz.f (k + 1) a0) := by
  intro a0 k
  unfold decode_beqz.f
  repeat' first
      | (with_reducible exact decode_branch.mono _ _ _)
      | (with_reducible exact LeO.refl _)
      | (with_reducible exact LeO.none _)
      | (with_reducible refine LeO.ite ?_ ?_)
      | (with_reducible refine LeO.bind ?_ (fun _ => ?_))
      | exact decode_branch.mono _ _ _
      | exact LeO.none _
      | refine LeO.ite ?_ ?_
      | refine LeO.bind ?_ (fun _ => ?_)
set_option maxHeartbeats 8000000 in
set_option maxRecDepth 100000 in
theorem decode_beqz.calls (k : Nat) (a0 : Int) (r1 : Int) (r2 : Bool) (w : World) (h : decode_beqz.f k a0 = some (r1, r2)) :
    Calls Tryd.prog 63 #[.int .u32 a0] w fun e w' => e = .returned (.tuple #[.int .u32 r1, .bool r2]) ∧ Drawn0 w w' := by
  have H : ((decode_branch.f k a0 0).bind fun bt243 => (some (bt243.1, bt243.2))) = some (r1, r2) := h
  clear h
  replace H := Option.bind_eq_some_iff.mp H
  obtain ⟨⟨t243, t244⟩, A20, H⟩ := H
  replace H : (some (t243, t244)) = some (r1, r2) := H
  have A2 := Aside0.mk A20
  clear A20
  simp only [Option.some.injEq, Prod.mk.injEq] at H
  obtain ⟨rfl, rfl⟩ := H
  go_enter Tryd.func63, Tryd.ntmps63
  go_wp2_with (first | ((with_reducible refine gate_callee (f := 86) rfl ?_); refine goesL_ (some 5) rfl rfl Tryd.func86 (by kernel_rfl) rfl #[.int .u32 a0, .int .u32 0] rfl (by (try simp only [List.map_toArray, List.map_cons, List.map_nil]); first | done | rfl | (simp only [List.length_drop, List.length_take]; rfl)) ?_; (with_reducible refine (decode_branch.calls k a0 0 t243 t244 _ A2.out).mono ?_); rintro e w' ⟨rfl, ⟨nd, rfl⟩⟩; refine ⟨_, rfl, ?_⟩))
  go_ret2
  exact ⟨by first | rfl | (simp; done) | (simp [*]; done), by repeat (first | exact Drawn0.refl _ | apply Drawn0.step)⟩

/-! ### decode_bnez: function 64 -/
def decode_bnez.f (k : Nat) (a0 : Int) : Option (Int × Bool) := (decode_branch.f k a0 1).bind fun bt245 => (some (bt245.1, bt245.2))
theorem decode_bnez.mono : ∀ a0 k, LeO (decode_bnez.f k a0) (decode_bnez.f (k + 1) a0) := by
  intro a0 k
  unfold decode_bnez.f
  repeat' first
      | (with_reducible exact decode_branch.mono _ _ _)
      | (with_reducible exact LeO.refl _)
      | (with_reducible exact LeO.none _)
      | (with_reducible refine LeO.ite ?_ ?_)
      | (with_reducible refine LeO.bind ?_ (fun _ => ?_))
      | exact decode_branch.mono _ _ _
      | exact LeO.none _
      | refine LeO.ite ?_ ?_
      | refine LeO.bind ?_ (fun _ => ?_)
set_option maxHeartbeats 8000000 in
set_option maxRecDepth 100000 in
theorem decode_bnez.calls (k : Nat) (a0 : Int) (r1 : Int) (r2 : Bool) (w : World) (h : decode_bnez.f k a0 = some (r1, r2)) :
    Calls Tryd.prog 64 #[.int .u32 a0] w fun e w' => e = .returned (.tuple #[.int .u32 r1, .bool r2]) ∧ Drawn0 w w' := by
  have H : ((decode_branch.f k a0 1).bind fun bt245 => (some (bt245.1, bt245.2))) = some (r1, r2) := h
  clear h
  replace H := Option.bind_eq_some_iff.mp H
  obtain ⟨⟨t245, t246⟩, A20, H⟩ := H
  replace H : (some (t245, t246)) = some (r1, r2) := H
  have A2 := Aside0.mk A20
  clear A20
  simp only [Option.some.injEq, Prod.mk.injEq] at H
  obtain ⟨rfl, rfl⟩ := H
  go_enter Tryd.func64, Tryd.ntmps64
  go_wp2_with (first | ((with_reducible refine gate_callee (f := 86) rfl ?_); refine goesL_ (some 5) rfl rfl Tryd.func86 (by kernel_rfl) rfl #[.int .u32 a0, .int .u32 1] rfl (by (try simp only [List.map_toArray, List.map_cons, List.map_nil]); first | done | rfl | (simp only [List.length_drop, List.length_take]; rfl)) ?_; (with_reducible refine (decode_branch.calls k a0 1 t245 t246 _ A2.out).mono ?_); rintro e w' ⟨rfl, ⟨nd, rfl⟩⟩; refine ⟨_, rfl, ?_⟩))
  go_ret2
  exact ⟨by first | rfl | (simp; done) | (simp [*]; done), by repeat (first | exact Drawn0.refl _ | apply Drawn0.step)⟩

/-! ### decode_second: function 37 -/
def decode_second.f (k : Nat) (a0 : Int) : Option (Int × Bool) := if (a0 / 8192) = 0 then ((decode_addi.f k a0).bind fun bt247 => (some (bt247.1, bt247.2))) else (if (a0 / 8192) = 1 then ((decode_addiw.f k a0).bind fun bt249 => (some (bt249.1, bt249.2))) else (if (a0 / 8192) = 2 then ((decode_li.f k a0).bind fun bt251 => (some (bt251.1, bt251.2))) else (if (a0 / 8192) = 3 then ((decode_lui.f k a0).bind fun bt253 => (some (bt253.1, bt253.2))) else (if (a0 / 8192) = 4 then ((decode_sums.f k a0).bind fun bt255 => (some (bt255.1, bt255.2))) else (if (a0 / 8192) = 5 then ((decode_j.f k a0).bind fun bt257 => (some (bt257.1, bt257.2))) else (if (a0 / 8192) = 6 then ((decode_beqz.f k a0).bind fun bt259 => (some (bt259.1, bt259.2))) else ((decode_bnez.f k a0).bind fun bt261 => (some (bt261.1, bt261.2)))))))))
theorem decode_second.mono : ∀ a0 k, LeO (decode_second.f k a0) (decode_second.f (k + 1) a0) := by
  intro a0 k
  unfold decode_second.f
  repeat' first
      | (with_reducible exact decode_addi.mono _ _)
      | (with_reducible exact decode_addiw.mono _ _)
      | (with_reducible exact decode_beqz.mono _ _)
      | (with_reducible exact decode_bnez.mono _ _)
      | (with_reducible exact decode_j.mono _ _)
      | (with_reducible exact decode_li.mono _ _)
      | (with_reducible exact decode_lui.mono _ _)
      | (with_reducible exact decode_sums.mono _ _)
      | (with_reducible exact LeO.refl _)
      | (with_reducible exact LeO.none _)
      | (with_reducible refine LeO.ite ?_ ?_)
      | (with_reducible refine LeO.bind ?_ (fun _ => ?_))
      | exact decode_addi.mono _ _
      | exact decode_addiw.mono _ _
      | exact decode_beqz.mono _ _
      | exact decode_bnez.mono _ _
      | exact decode_j.mono _ _
      | exact decode_li.mono _ _
      | exact decode_lui.mono _ _
      | exact decode_sums.mono _ _
      | exact LeO.none _
      | refine LeO.ite ?_ ?_
      | refine LeO.bind ?_ (fun _ => ?_)
set_option maxHeartbeats 8000000 in
set_option maxRecDepth 100000 in
theorem decode_second.calls (k : Nat) (a0 : Int) (r1 : Int) (r2 : Bool) (w : World) (h : decode_second.f k a0 = some (r1, r2)) :
    Calls Tryd.prog 37 #[.int .u32 a0] w fun e w' => e = .returned (.tuple #[.int .u32 r1, .bool r2]) ∧ Drawn0 w w' := by
  have H : (if (a0 / 8192) = 0 then ((decode_addi.f k a0).bind fun bt247 => (some (bt247.1, bt247.2))) else (if (a0 / 8192) = 1 then ((decode_addiw.f k a0).bind fun bt249 => (some (bt249.1, bt249.2))) else (if (a0 / 8192) = 2 then ((decode_li.f k a0).bind fun bt251 => (some (bt251.1, bt251.2))) else (if (a0 / 8192) = 3 then ((decode_lui.f k a0).bind fun bt253 => (some (bt253.1, bt253.2))) else (if (a0 / 8192) = 4 then ((decode_sums.f k a0).bind fun bt255 => (some (bt255.1, bt255.2))) else (if (a0 / 8192) = 5 then ((decode_j.f k a0).bind fun bt257 => (some (bt257.1, bt257.2))) else (if (a0 / 8192) = 6 then ((decode_beqz.f k a0).bind fun bt259 => (some (bt259.1, bt259.2))) else ((decode_bnez.f k a0).bind fun bt261 => (some (bt261.1, bt261.2)))))))))) = some (r1, r2) := h
  clear h
  by_cases c2 : (a0 / 8192) = 0
  · rw [if_pos c2] at H
    have c2b0 : ((a0 / 8192) == 0) = true := beq_iff_eq.mpr c2
    have c2b1 : ((a0 / 8192) != 0) = false := bne_eq_false_iff_eq.mpr c2
    clear c2
    replace H := Option.bind_eq_some_iff.mp H
    obtain ⟨⟨t247, t248⟩, A30, H⟩ := H
    replace H : (some (t247, t248)) = some (r1, r2) := H
    have A3 := Aside0.mk A30
    clear A30
    simp only [Option.some.injEq, Prod.mk.injEq] at H
    obtain ⟨rfl, rfl⟩ := H
    go_enter Tryd.func37, Tryd.ntmps37
    go_wp2_with (first | ((with_reducible refine gate_callee (f := 57) rfl ?_); refine goesL_ (some 9) rfl rfl Tryd.func57 (by kernel_rfl) rfl #[.int .u32 a0] rfl (by (try simp only [List.map_toArray, List.map_cons, List.map_nil]); first | done | rfl | (simp only [List.length_drop, List.length_take]; rfl)) ?_; (with_reducible refine (decode_addi.calls k a0 t247 t248 _ A3.out).mono ?_); rintro e w' ⟨rfl, ⟨nd, rfl⟩⟩; refine ⟨_, rfl, ?_⟩))
    go_ret2
    exact ⟨by first | rfl | (simp; done) | (simp [*]; done), by repeat (first | exact Drawn0.refl _ | apply Drawn0.step)⟩
  · rw [if_neg c2] at H
    have c2b0 : ((a0 / 8192) == 0) = false := beq_eq_false_iff_ne.mpr c2
    have c2b1 : ((a0 / 8192) != 0) = true := bne_iff_ne.mpr c2
    by_cases c4 : (a0 / 8192) = 1
    · rw [if_pos c4] at H
      have c4b0 : ((a0 / 8192) == 1) = true := beq_iff_eq.mpr c4
      have c4b1 : ((a0 / 8192) != 1) = false := bne_eq_false_iff_eq.mpr c4
      clear c4
      replace H := Option.bind_eq_some_iff.mp H
      obtain ⟨⟨t249, t250⟩, A50, H⟩ := H
      replace H : (some (t249, t250)) = some (r1, r2) := H
      have A5 := Aside0.mk A50
      clear A50
      simp only [Option.some.injEq, Prod.mk.injEq] at H
      obtain ⟨rfl, rfl⟩ := H
      go_enter Tryd.func37, Tryd.ntmps37
      go_wp2_with (first | ((with_reducible refine gate_callee (f := 58) rfl ?_); refine goesL_ (some 15) rfl rfl Tryd.func58 (by kernel_rfl) rfl #[.int .u32 a0] rfl (by (try simp only [List.map_toArray, List.map_cons, List.map_nil]); first | done | rfl | (simp only [List.length_drop, List.length_take]; rfl)) ?_; (with_reducible refine (decode_addiw.calls k a0 t249 t250 _ A5.out).mono ?_); rintro e w' ⟨rfl, ⟨nd, rfl⟩⟩; refine ⟨_, rfl, ?_⟩))
      go_ret2
      exact ⟨by first | rfl | (simp; done) | (simp [*]; done), by repeat (first | exact Drawn0.refl _ | apply Drawn0.step)⟩
    · rw [if_neg c4] at H
      have c4b0 : ((a0 / 8192) == 1) = false := beq_eq_false_iff_ne.mpr c4
      have c4b1 : ((a0 / 8192) != 1) = true := bne_iff_ne.mpr c4
      by_cases c6 : (a0 / 8192) = 2
      · rw [if_pos c6] at H
        have c6b0 : ((a0 / 8192) == 2) = true := beq_iff_eq.mpr c6
        have c6b1 : ((a0 / 8192) != 2) = false := bne_eq_false_iff_eq.mpr c6
        clear c6
        replace H := Option.bind_eq_some_iff.mp H
        obtain ⟨⟨t251, t252⟩, A70, H⟩ := H
        replace H : (some (t251, t252)) = some (r1, r2) := H
        have A7 := Aside0.mk A70
        clear A70
        simp only [Option.some.injEq, Prod.mk.injEq] at H
        obtain ⟨rfl, rfl⟩ := H
        go_enter Tryd.func37, Tryd.ntmps37
        go_wp2_with (first | ((with_reducible refine gate_callee (f := 59) rfl ?_); refine goesL_ (some 21) rfl rfl Tryd.func59 (by kernel_rfl) rfl #[.int .u32 a0] rfl (by (try simp only [List.map_toArray, List.map_cons, List.map_nil]); first | done | rfl | (simp only [List.length_drop, List.length_take]; rfl)) ?_; (with_reducible refine (decode_li.calls k a0 t251 t252 _ A7.out).mono ?_); rintro e w' ⟨rfl, ⟨nd, rfl⟩⟩; refine ⟨_, rfl, ?_⟩))
        go_ret2
        exact ⟨by first | rfl | (simp; done) | (simp [*]; done), by repeat (first | exact Drawn0.refl _ | apply Drawn0.step)⟩
      · rw [if_neg c6] at H
        have c6b0 : ((a0 / 8192) == 2) = false := beq_eq_false_iff_ne.mpr c6
        have c6b1 : ((a0 / 8192) != 2) = true := bne_iff_ne.mpr c6
        by_cases c8 : (a0 / 8192) = 3
        · rw [if_pos c8] at H
          have c8b0 : ((a0 / 8192) == 3) = true := beq_iff_eq.mpr c8
          have c8b1 : ((a0 / 8192) != 3) = false := bne_eq_false_iff_eq.mpr c8
          clear c8
          replace H := Option.bind_eq_some_iff.mp H
          obtain ⟨⟨t253, t254⟩, A90, H⟩ := H
          replace H : (some (t253, t254)) = some (r1, r2) := H
          have A9 := Aside0.mk A90
          clear A90
          simp only [Option.some.injEq, Prod.mk.injEq] at H
          obtain ⟨rfl, rfl⟩ := H
          go_enter Tryd.func37, Tryd.ntmps37
          go_wp2_with (first | ((with_reducible refine gate_callee (f := 60) rfl ?_); refine goesL_ (some 27) rfl rfl Tryd.func60 (by kernel_rfl) rfl #[.int .u32 a0] rfl (by (try simp only [List.map_toArray, List.map_cons, List.map_nil]); first | done | rfl | (simp only [List.length_drop, List.length_take]; rfl)) ?_; (with_reducible refine (decode_lui.calls k a0 t253 t254 _ A9.out).mono ?_); rintro e w' ⟨rfl, ⟨nd, rfl⟩⟩; refine ⟨_, rfl, ?_⟩))
          go_ret2
          exact ⟨by first | rfl | (simp; done) | (simp [*]; done), by repeat (first | exact Drawn0.refl _ | apply Drawn0.step)⟩
        · rw [if_neg c8] at H
          have c8b0 : ((a0 / 8192) == 3) = false := beq_eq_false_iff_ne.mpr c8
          have c8b1 : ((a0 / 8192) != 3) = true := bne_iff_ne.mpr c8
          by_cases c10 : (a0 / 8192) = 4
          · rw [if_pos c10] at H
            have c10b0 : ((a0 / 8192) == 4) = true := beq_iff_eq.mpr c10
            have c10b1 : ((a0 / 8192) != 4) = false := bne_eq_false_iff_eq.mpr c10
            clear c10
            replace H := Option.bind_eq_some_iff.mp H
            obtain ⟨⟨t255, t256⟩, A110, H⟩ := H
            replace H : (some (t255, t256)) = some (r1, r2) := H
            have A11 := Aside0.mk A110
            clear A110
            simp only [Option.some.injEq, Prod.mk.injEq] at H
            obtain ⟨rfl, rfl⟩ := H
            go_enter Tryd.func37, Tryd.ntmps37
            go_wp2_with (first | ((with_reducible refine gate_callee (f := 61) rfl ?_); refine goesL_ (some 33) rfl rfl Tryd.func61 (by kernel_rfl) rfl #[.int .u32 a0] rfl (by (try simp only [List.map_toArray, List.map_cons, List.map_nil]); first | done | rfl | (simp only [List.length_drop, List.length_take]; rfl)) ?_; (with_reducible refine (decode_sums.calls k a0 t255 t256 _ A11.out).mono ?_); rintro e w' ⟨rfl, ⟨nd, rfl⟩⟩; refine ⟨_, rfl, ?_⟩))
            go_ret2
            exact ⟨by first | rfl | (simp; done) | (simp [*]; done), by repeat (first | exact Drawn0.refl _ | apply Drawn0.step)⟩
          · rw [if_neg c10] at H
            have c10b0 : ((a0 / 8192) == 4) = false := beq_eq_false_iff_ne.mpr c10
            have c10b1 : ((a0 / 8192) != 4) = true := bne_iff_ne.mpr c10
            by_cases c12 : (a0 / 8192) = 5
            · rw [if_pos c12] at H
              have c12b0 : ((a0 / 8192) == 5) = true := beq_iff_eq.mpr c12
              have c12b1 : ((a0 / 8192) != 5) = false := bne_eq_false_iff_eq.mpr c12
              clear c12
              replace H := Option.bind_eq_some_iff.mp H
              obtain ⟨⟨t257, t258⟩, A130, H⟩ := H
              replace H : (some (t257, t258)) = some (r1, r2) := H
              have A13 := Aside0.mk A130
              clear A130
              simp only [Option.some.injEq, Prod.mk.injEq] at H
              obtain ⟨rfl, rfl⟩ := H
              go_enter Tryd.func37, Tryd.ntmps37
              go_wp2_with (first | ((with_reducible refine gate_callee (f := 62) rfl ?_); refine goesL_ (some 39) rfl rfl Tryd.func62 (by kernel_rfl) rfl #[.int .u32 a0] rfl (by (try simp only [List.map_toArray, List.map_cons, List.map_nil]); first | done | rfl | (simp only [List.length_drop, List.length_take]; rfl)) ?_; (with_reducible refine (decode_j.calls k a0 t257 t258 _ A13.out).mono ?_); rintro e w' ⟨rfl, ⟨nd, rfl⟩⟩; refine ⟨_, rfl, ?_⟩))
              go_ret2
              exact ⟨by first | rfl | (simp; done) | (simp [*]; done), by repeat (first | exact Drawn0.refl _ | apply Drawn0.step)⟩
            · rw [if_neg c12] at H
              have c12b0 : ((a0 / 8192) == 5) = false := beq_eq_false_iff_ne.mpr c12
              have c12b1 : ((a0 / 8192) != 5) = true := bne_iff_ne.mpr c12
              by_cases c14 : (a0 / 8192) = 6
              · rw [if_pos c14] at H
                have c14b0 : ((a0 / 8192) == 6) = true := beq_iff_eq.mpr c14
                have c14b1 : ((a0 / 8192) != 6) = false := bne_eq_false_iff_eq.mpr c14
                clear c14
                replace H := Option.bind_eq_some_iff.mp H
                obtain ⟨⟨t259, t260⟩, A150, H⟩ := H
                replace H : (some (t259, t260)) = some (r1, r2) := H
                have A15 := Aside0.mk A150
                clear A150
                simp only [Option.some.injEq, Prod.mk.injEq] at H
                obtain ⟨rfl, rfl⟩ := H
                go_enter Tryd.func37, Tryd.ntmps37
                go_wp2_with (first | ((with_reducible refine gate_callee (f := 63) rfl ?_); refine goesL_ (some 45) rfl rfl Tryd.func63 (by kernel_rfl) rfl #[.int .u32 a0] rfl (by (try simp only [List.map_toArray, List.map_cons, List.map_nil]); first | done | rfl | (simp only [List.length_drop, List.length_take]; rfl)) ?_; (with_reducible refine (decode_beqz.calls k a0 t259 t260 _ A15.out).mono ?_); rintro e w' ⟨rfl, ⟨nd, rfl⟩⟩; refine ⟨_, rfl, ?_⟩))
                go_ret2
                exact ⟨by first | rfl | (simp; done) | (simp [*]; done), by repeat (first | exact Drawn0.refl _ | apply Drawn0.step)⟩
              · rw [if_neg c14] at H
                have c14b0 : ((a0 / 8192) == 6) = false := beq_eq_false_iff_ne.mpr c14
                have c14b1 : ((a0 / 8192) != 6) = true := bne_iff_ne.mpr c14
                replace H := Option.bind_eq_some_iff.mp H
                obtain ⟨⟨t261, t262⟩, A160, H⟩ := H
                replace H : (some (t261, t262)) = some (r1, r2) := H
                have A16 := Aside0.mk A160
                clear A160
                simp only [Option.some.injEq, Prod.mk.injEq] at H
                obtain ⟨rfl, rfl⟩ := H
                go_enter Tryd.func37, Tryd.ntmps37
                go_wp2_with (first | ((with_reducible refine gate_callee (f := 64) rfl ?_); refine goesL_ (some 49) rfl rfl Tryd.func64 (by kernel_rfl) rfl #[.int .u32 a0] rfl (by (try simp only [List.map_toArray, List.map_cons, List.map_nil]); first | done | rfl | (simp only [List.length_drop, List.length_take]; rfl)) ?_; (with_reducible refine (decode_bnez.calls k a0 t261 t262 _ A16.out).mono ?_); rintro e w' ⟨rfl, ⟨nd, rfl⟩⟩; refine ⟨_, rfl, ?_⟩))
                go_ret2
                exact ⟨by first | rfl | (simp; done) | (simp [*]; done), by repeat (first | exact Drawn0.refl _ | apply Drawn0.step)⟩

/-! ### decode_slli: function 65 -/
def decode_slli.f (k : Nat) (a0 : Int) : Option (Int × Bool) := (decode_r.f k a0).bind fun t263 => ((decode_r.f k a0).bind fun t264 => ((decode_s6.f k a0).bind fun t265 => ((decode_typeI.f 19 1 t263 t264 t265).bind fun bt266 => (some (bt266.1, bt266.2)))))
theorem decode_slli.mono : ∀ a0 k, LeO (decode_slli.f k a0) (decode_slli.f (k + 1) a0) := by
  intro a0 k
  unfold decode_slli.f
  repeat' first
      | (with_reducible exact decode_r.mono _ _)
      | (with_reducible exact decode_s6.mono _ _)
      | (with_reducible exact LeO.refl _)
      | (with_reducible exact LeO.none _)
      | (with_reducible refine LeO.ite ?_ ?_)
      | (with_reducible refine LeO.bind ?_ (fun _ => ?_))
      | exact decode_r.mono _ _
      | exact decode_s6.mono _ _
      | exact LeO.none _
      | refine LeO.ite ?_ ?_
      | refine LeO.bind ?_ (fun _ => ?_)
set_option maxHeartbeats 8000000 in
set_option maxRecDepth 100000 in
theorem decode_slli.calls (k : Nat) (a0 : Int) (r1 : Int) (r2 : Bool) (w : World) (h : decode_slli.f k a0 = some (r1, r2)) :
    Calls Tryd.prog 65 #[.int .u32 a0] w fun e w' => e = .returned (.tuple #[.int .u32 r1, .bool r2]) ∧ Drawn0 w w' := by
  have H : ((decode_r.f k a0).bind fun t263 => ((decode_r.f k a0).bind fun t264 => ((decode_s6.f k a0).bind fun t265 => ((decode_typeI.f 19 1 t263 t264 t265).bind fun bt266 => (some (bt266.1, bt266.2)))))) = some (r1, r2) := h
  clear h
  replace H := Option.bind_eq_some_iff.mp H
  obtain ⟨t263, A20, H⟩ := H
  replace H : ((decode_r.f k a0).bind fun t264 => ((decode_s6.f k a0).bind fun t265 => ((decode_typeI.f 19 1 t263 t264 t265).bind fun bt266 => (some (bt266.1, bt266.2))))) = some (r1, r2) := H
  have A2 := Aside0.mk A20
  clear A20
  replace H := Option.bind_eq_some_iff.mp H
  obtain ⟨t264, A30, H⟩ := H
  replace H : ((decode_s6.f k a0).bind fun t265 => ((decode_typeI.f 19 1 t263 t264 t265).bind fun bt266 => (some (bt266.1, bt266.2)))) = some (r1, r2) := H
  have A3 := Aside0.mk A30
  clear A30
  replace H := Option.bind_eq_some_iff.mp H
  obtain ⟨t265, A40, H⟩ := H
  replace H : ((decode_typeI.f 19 1 t263 t264 t265).bind fun bt266 => (some (bt266.1, bt266.2))) = some (r1, r2) := H
  have A4 := Aside0.mk A40
  clear A40
  replace H := Option.bind_eq_some_iff.mp H
  obtain ⟨⟨t266, t267⟩, A50, H⟩ := H
  replace H : (some (t266, t267)) = some (r1, r2) := H
  have A5 := Aside0.mk A50
  clear A50
  simp only [Option.some.injEq, Prod.mk.injEq] at H
  obtain ⟨rfl, rfl⟩ := H
  go_enter Tryd.func65, Tryd.ntmps65
  go_wp2_with (first | ((with_reducible refine gate_callee (f := 82) rfl ?_); refine goesL_ (some 5) rfl rfl Tryd.func82 (by kernel_rfl) rfl #[.int .u32 a0] rfl (by (try simp only [List.map_toArray, List.map_cons, List.map_nil]); first | done | rfl | (simp only [List.length_drop, List.length_take]; rfl)) ?_; (with_reducible refine (decode_r.calls k a0 t263 _ A2.out).mono ?_); rintro e w' ⟨rfl, ⟨nd, rfl⟩⟩; refine ⟨_, rfl, ?_⟩) | ((with_reducible refine gate_callee (f := 82) rfl ?_); refine goesL_ (some 7) rfl rfl Tryd.func82 (by kernel_rfl) rfl #[.int .u32 a0] rfl (by (try simp only [List.map_toArray, List.map_cons, List.map_nil]); first | done | rfl | (simp only [List.length_drop, List.length_take]; rfl)) ?_; (with_reducible refine (decode_r.calls k a0 t264 _ A3.out).mono ?_); rintro e w' ⟨rfl, ⟨nd, rfl⟩⟩; refine ⟨_, rfl, ?_⟩) | ((with_reducible refine gate_callee (f := 84) rfl ?_); refine goesL_ (some 9) rfl rfl Tryd.func84 (by kernel_rfl) rfl #[.int .u32 a0] rfl (by (try simp only [List.map_toArray, List.map_cons, List.map_nil]); first | done | rfl | (simp only [List.length_drop, List.length_take]; rfl)) ?_; (with_reducible refine (decode_s6.calls k a0 t265 _ A4.out).mono ?_); rintro e w' ⟨rfl, ⟨nd, rfl⟩⟩; refine ⟨_, rfl, ?_⟩) | ((with_reducible refine gate_callee (f := 76) rfl ?_); refine goesL_ (some 10) rfl rfl Tryd.func76 (by kernel_rfl) rfl #[.int .u32 19, .int .u32 1, .int .u32 t263, .int .u32 t264, .int .u32 t265] rfl (by (try simp only [List.map_toArray, List.map_cons, List.map_nil]); first | done | rfl | (simp only [List.length_drop, List.length_take]; rfl)) ?_; (with_reducible refine (decode_typeI.calls 19 1 t263 t264 t265 t266 t267 _ A5.out).mono ?_); rintro e w' ⟨rfl, ⟨nd, rfl⟩⟩; refine ⟨_, rfl, ?_⟩))
  go_ret2
  exact ⟨by first | rfl | (simp; done) | (simp [*]; done), by repeat (first | exact Drawn0.refl _ | apply Drawn0.step)⟩

/-! ### decode_lwsp: function 66 -/
def decode_lwsp.f (k : Nat) (a0 : Int) : Option (Int × Bool) := (decode_r.f k a0).bind fun t268 => (if t268 = 0 then ((decode_none.f).bind fun bt269 => (some (bt269.1, bt269.2))) else ((decode_r.f k a0).bind fun t271 => ((decode_bits.f k a0 12 12 5).bind fun t272 => ((decode_bits.f k a0 6 4 2).bind fun t273 => ((decode_bits.f k a0 3 2 6).bind fun t274 => ((decode_typeI.f 3 2 t271 2 (Go.bits .or .u32 (Go.bits .or .u32 t272 t273) t274)).bind fun bt275 => (some (bt275.1, bt275.2))))))))
theorem decode_lwsp.mono : ∀ a0 k, LeO (decode_lwsp.f k a0) (decode_lwsp.f (k + 1) a0) := by
  intro a0 k
  unfold decode_lwsp.f
  repeat' first
      | (with_reducible exact decode_bits.mono _ _ _ _ _)
      | (with_reducible exact decode_r.mono _ _)
      | (with_reducible exact LeO.refl _)
      | (with_reducible exact LeO.none _)
      | (with_reducible refine LeO.ite ?_ ?_)
      | (with_reducible refine LeO.bind ?_ (fun _ => ?_))
      | exact decode_bits.mono _ _ _ _ _
      | exact decode_r.mono _ _
      | exact LeO.none _
      | refine LeO.ite ?_ ?_
      | refine LeO.bind ?_ (fun _ => ?_)
set_option maxHeartbeats 8000000 in
set_option maxRecDepth 100000 in
theorem decode_lwsp.calls (k : Nat) (a0 : Int) (r1 : Int) (r2 : Bool) (w : World) (h : decode_lwsp.f k a0 = some (r1, r2)) :
    Calls Tryd.prog 66 #[.int .u32 a0] w fun e w' => e = .returned (.tuple #[.int .u32 r1, .bool r2]) ∧ Drawn0 w w' := by
  have H : ((decode_r.f k a0).bind fun t268 => (if t268 = 0 then ((decode_none.f).bind fun bt269 => (some (bt269.1, bt269.2))) else ((decode_r.f k a0).bind fun t271 => ((decode_bits.f k a0 12 12 5).bind fun t272 => ((decode_bits.f k a0 6 4 2).bind fun t273 => ((decode_bits.f k a0 3 2 6).bind fun t274 => ((decode_typeI.f 3 2 t271 2 (Go.bits .or .u32 (Go.bits .or .u32 t272 t273) t274)).bind fun bt275 => (some (bt275.1, bt275.2))))))))) = some (r1, r2) := h
  clear h
  replace H := Option.bind_eq_some_iff.mp H
  obtain ⟨t268, A20, H⟩ := H
  replace H : (if t268 = 0 then ((decode_none.f).bind fun bt269 => (some (bt269.1, bt269.2))) else ((decode_r.f k a0).bind fun t271 => ((decode_bits.f k a0 12 12 5).bind fun t272 => ((decode_bits.f k a0 6 4 2).bind fun t273 => ((decode_bits.f k a0 3 2 6).bind fun t274 => ((decode_typeI.f 3 2 t271 2 (Go.bits .or .u32 (Go.bits .or .u32 t272 t273) t274)).bind fun bt275 => (some (bt275.1, bt275.2)))))))) = some (r1, r2) := H
  have A2 := Aside0.mk A20
  clear A20
  by_cases c3 : t268 = 0
  · rw [if_pos c3] at H
    have c3b0 : (t268 == 0) = true := beq_iff_eq.mpr c3
    have c3b1 : (t268 != 0) = false := bne_eq_false_iff_eq.mpr c3
    clear c3
    replace H := Option.bind_eq_some_iff.mp H
    obtain ⟨⟨t269, t270⟩, A40, H⟩ := H
    replace H : (some (t269, t270)) = some (r1, r2) := H
    have A4 := Aside0.mk A40
    clear A40
    simp only [Option.some.injEq, Prod.mk.injEq] at H
    obtain ⟨rfl, rfl⟩ := H
    go_enter Tryd.func66, Tryd.ntmps66
    go_wp2_with (first | ((with_reducible refine gate_callee (f := 82) rfl ?_); refine goesL_ (some 5) rfl rfl Tryd.func82 (by kernel_rfl) rfl #[.int .u32 a0] rfl (by (try simp only [List.map_toArray, List.map_cons, List.map_nil]); first | done | rfl | (simp only [List.length_drop, List.length_take]; rfl)) ?_; (with_reducible refine (decode_r.calls k a0 t268 _ A2.out).mono ?_); rintro e w' ⟨rfl, ⟨nd, rfl⟩⟩; refine ⟨_, rfl, ?_⟩) | ((with_reducible refine gate_callee (f := 35) rfl ?_); refine goesL_ (some 7) rfl rfl Tryd.func35 (by kernel_rfl) rfl #[] rfl (by (try simp only [List.map_toArray, List.map_cons, List.map_nil]); first | done | rfl | (simp only [List.length_drop, List.length_take]; rfl)) ?_; (with_reducible refine (decode_none.calls  t269 t270 _ A4.out).mono ?_); rintro e w' ⟨rfl, ⟨nd, rfl⟩⟩; refine ⟨_, rfl, ?_⟩))
    go_ret2
    exact ⟨by first | rfl | (simp; done) | (simp [*]; done), by repeat (first | exact Drawn0.refl _ | apply Drawn0.step)⟩
  · rw [if_neg c3] at H
    have c3b0 : (t268 == 0) = false := beq_eq_false_iff_ne.mpr c3
    have c3b1 : (t268 != 0) = true := bne_iff_ne.mpr c3
    replace H := Option.bind_eq_some_iff.mp H
    obtain ⟨t271, A50, H⟩ := H
    replace H : ((decode_bits.f k a0 12 12 5).bind fun t272 => ((decode_bits.f k a0 6 4 2).bind fun t273 => ((decode_bits.f k a0 3 2 6).bind fun t274 => ((decode_typeI.f 3 2 t271 2 (Go.bits .or .u32 (Go.bits .or .u32 t272 t273) t274)).bind fun bt275 => (some (bt275.1, bt275.2)))))) = some (r1, r2) := H
    have A5 := Aside0.mk A50
    clear A50
    replace H := Option.bind_eq_some_iff.mp H
    obtain ⟨t272, A60, H⟩ := H
    replace H : ((decode_bits.f k a0 6 4 2).bind fun t273 => ((decode_bits.f k a0 3 2 6).bind fun t274 => ((decode_typeI.f 3 2 t271 2 (Go.bits .or .u32 (Go.bits .or .u32 t272 t273) t274)).bind fun bt275 => (some (bt275.1, bt275.2))))) = some (r1, r2) := H
    have A6 := Aside0.mk A60
    clear A60
    replace H := Option.bind_eq_some_iff.mp H
    obtain ⟨t273, A70, H⟩ := H
    replace H : ((decode_bits.f k a0 3 2 6).bind fun t274 => ((decode_typeI.f 3 2 t271 2 (Go.bits .or .u32 (Go.bits .or .u32 t272 t273) t274)).bind fun bt275 => (some (bt275.1, bt275.2)))) = some (r1, r2) := H
    have A7 := Aside0.mk A70
    clear A70
    replace H := Option.bind_eq_some_iff.mp H
    obtain ⟨t274, A80, H⟩ := H
    replace H : ((decode_typeI.f 3 2 t271 2 (Go.bits .or .u32 (Go.bits .or .u32 t272 t273) t274)).bind fun bt275 => (some (bt275.1, bt275.2))) = some (r1, r2) := H
    have A8 := Aside0.mk A80
    clear A80
    replace H := Option.bind_eq_some_iff.mp H
    obtain ⟨⟨t275, t276⟩, A90, H⟩ := H
    replace H : (some (t275, t276)) = some (r1, r2) := H
    have A9 := Aside0.mk A90
    clear A90
    simp only [Option.some.injEq, Prod.mk.injEq] at H
    obtain ⟨rfl, rfl⟩ := H
    go_enter Tryd.func66, Tryd.ntmps66
    go_wp2_with (first | ((with_reducible refine gate_callee (f := 82) rfl ?_); refine goesL_ (some 5) rfl rfl Tryd.func82 (by kernel_rfl) rfl #[.int .u32 a0] rfl (by (try simp only [List.map_toArray, List.map_cons, List.map_nil]); first | done | rfl | (simp only [List.length_drop, List.length_take]; rfl)) ?_; (with_reducible refine (decode_r.calls k a0 t268 _ A2.out).mono ?_); rintro e w' ⟨rfl, ⟨nd, rfl⟩⟩; refine ⟨_, rfl, ?_⟩) | ((with_reducible refine gate_callee (f := 82) rfl ?_); refine goesL_ (some 11) rfl rfl Tryd.func82 (by kernel_rfl) rfl #[.int .u32 a0] rfl (by (try simp only [List.map_toArray, List.map_cons, List.map_nil]); first | done | rfl | (simp only [List.length_drop, List.length_take]; rfl)) ?_; (with_reducible refine (decode_r.calls k a0 t271 _ A5.out).mono ?_); rintro e w' ⟨rfl, ⟨nd, rfl⟩⟩; refine ⟨_, rfl, ?_⟩) | ((with_reducible refine gate_callee (f := 75) rfl ?_); refine goesL_ (some 13) rfl rfl Tryd.func75 (by kernel_rfl) rfl #[.int .u32 a0, .int .i64 12, .int .i64 12, .int .i64 5] rfl (by (try simp only [List.map_toArray, List.map_cons, List.map_nil]); first | done | rfl | (simp only [List.length_drop, List.length_take]; rfl)) ?_; (with_reducible refine (decode_bits.calls k a0 12 12 5 t272 _ A6.out).mono ?_); rintro e w' ⟨rfl, ⟨nd, rfl⟩⟩; refine ⟨_, rfl, ?_⟩) | ((with_reducible refine gate_callee (f := 75) rfl ?_); refine goesL_ (some 15) rfl rfl Tryd.func75 (by kernel_rfl) rfl #[.int .u32 a0, .int .i64 6, .int .i64 4, .int .i64 2] rfl (by (try simp only [List.map_toArray, List.map_cons, List.map_nil]); first | done | rfl | (simp only [List.length_drop, List.length_take]; rfl)) ?_; (with_reducible refine (decode_bits.calls k a0 6 4 2 t273 _ A7.out).mono ?_); rintro e w' ⟨rfl, ⟨nd, rfl⟩⟩; refine ⟨_, rfl, ?_⟩) | ((with_reducible refine gate_callee (f := 75) rfl ?_); refine goesL_ (some 18) rfl rfl Tryd.func75 (by kernel_rfl) rfl #[.int .u32 a0, .int .i64 3, .int .i64 2, .int .i64 6] rfl (by (try simp only [List.map_toArray, List.map_cons, List.map_nil]); first | done | rfl | (simp only [List.length_drop, List.length_take]; rfl)) ?_; (with_reducible refine (decode_bits.calls k a0 3 2 6 t274 _ A8.out).mono ?_); rintro e w' ⟨rfl, ⟨nd, rfl⟩⟩; refine ⟨_, rfl, ?_⟩) | ((with_reducible refine gate_callee (f := 76) rfl ?_); refine goesL_ (some 20) rfl rfl Tryd.func76 (by kernel_rfl) rfl #[.int .u32 3, .int .u32 2, .int .u32 t271, .int .u32 2, .int .u32 (Go.bits .or .u32 (Go.bits .or .u32 t272 t273) t274)] rfl (by (try simp only [List.map_toArray, List.map_cons, List.map_nil]); first | done | rfl | (simp only [List.length_drop, List.length_take]; rfl)) ?_; (with_reducible refine (decode_typeI.calls 3 2 t271 2 (Go.bits .or .u32 (Go.bits .or .u32 t272 t273) t274) t275 t276 _ A9.out).mono ?_); rintro e w' ⟨rfl, ⟨nd, rfl⟩⟩; refine ⟨_, rfl, ?_⟩))
    go_ret2
    exact ⟨by first | rfl | (simp; done) | (simp [*]; done), by repeat (first | exact Drawn0.refl _ | apply Drawn0.step)⟩

/-! ### decode_ldsp: function 67 -/
def decode_ldsp.f (k : Nat) (a0 : Int) : Option (Int × Bool) := (decode_r.f k a0).bind fun t277 => (if t277 = 0 then ((decode_none.f).bind fun bt278 => (some (bt278.1, bt278.2))) else ((decode_r.f k a0).bind fun t280 => ((decode_bits.f k a0 12 12 5).bind fun t281 => ((decode_bits.f k a0 6 5 3).bind fun t282 => ((decode_bits.f k a0 4 2 6).bind fun t283 => ((decode_typeI.f 3 3 t280 2 (Go.bits .or .u32 (Go.bits .or .u32 t281 t282) t283)).bind fun bt284 => (some (bt284.1, bt284.2))))))))
theorem decode_ldsp.mono : ∀ a0 k, LeO (decode_ldsp.f k a0) (decode_ldsp.f (k + 1) a0) := by
  intro a0 k
  unfold decode_ldsp.f
  repeat' first
      | (with_reducible exact decode_bits.mono _ _ _ _ _)
      | (with_reducible exact decode_r.mono _ _)
      | (with_reducible exact LeO.refl _)
      | (with_reducible exact LeO.none _)
      | (with_reducible refine LeO.ite ?_ ?_)
      | (with_reducible refine LeO.bind ?_ (fun _ => ?_))
      | exact decode_bits.mono _ _ _ _ _
      | exact decode_r.mono _ _
      | exact LeO.none _
      | refine LeO.ite ?_ ?_
      | refine LeO.bind ?_ (fun _ => ?_)
set_option maxHeartbeats 8000000 in
set_option maxRecDepth 100000 in
theorem decode_ldsp.calls (k : Nat) (a0 : Int) (r1 : Int) (r2 : Bool) (w : World) (h : decode_ldsp.f k a0 = some (r1, r2)) :
    Calls Tryd.prog 67 #[.int .u32 a0] w fun e w' => e = .returned (.tuple #[.int .u32 r1, .bool r2]) ∧ Drawn0 w w' := by
  have H : ((decode_r.f k a0).bind fun t277 => (if t277 = 0 then ((decode_none.f).bind fun bt278 => (some (bt278.1, bt278.2))) else ((decode_r.f k a0).bind fun t280 => ((decode_bits.f k a0 12 12 5).bind fun t281 => ((decode_bits.f k a0 6 5 3).bind fun t282 => ((decode_bits.f k a0 4 2 6).bind fun t283 => ((decode_typeI.f 3 3 t280 2 (Go.bits .or .u32 (Go.bits .or .u32 t281 t282) t283)).bind fun bt284 => (some (bt284.1, bt284.2))))))))) = some (r1, r2) := h
  clear h
  replace H := Option.bind_eq_some_iff.mp H
  obtain ⟨t277, A20, H⟩ := H
  replace H : (if t277 = 0 then ((decode_none.f).bind fun bt278 => (some (bt278.1, bt278.2))) else ((decode_r.f k a0).bind fun t280 => ((decode_bits.f k a0 12 12 5).bind fun t281 => ((decode_bits.f k a0 6 5 3).bind fun t282 => ((decode_bits.f k a0 4 2 6).bind fun t283 => ((decode_typeI.f 3 3 t280 2 (Go.bits .or .u32 (Go.bits .or .u32 t281 t282) t283)).bind fun bt284 => (some (bt284.1, bt284.2)))))))) = some (r1, r2) := H
  have A2 := Aside0.mk A20
  clear A20
  by_cases c3 : t277 = 0
  · rw [if_pos c3] at H
    have c3b0 : (t277 == 0) = true := beq_iff_eq.mpr c3
    have c3b1 : (t277 != 0) = false := bne_eq_false_iff_eq.mpr c3
    clear c3
    replace H := Option.bind_eq_some_iff.mp H
    obtain ⟨⟨t278, t279⟩, A40, H⟩ := H
    replace H : (some (t278, t279)) = some (r1, r2) := H
    have A4 := Aside0.mk A40
    clear A40
    simp only [Option.some.injEq, Prod.mk.injEq] at H
    obtain ⟨rfl, rfl⟩ := H
    go_enter Tryd.func67, Tryd.ntmps67
    go_wp2_with (first | ((with_reducible refine gate_callee (f := 82) rfl ?_); refine goesL_ (some 5) rfl rfl Tryd.func82 (by kernel_rfl) rfl #[.int .u32 a0] rfl (by (try simp only [List.map_toArray, List.map_cons, List.map_nil]); first | done | rfl | (simp only [List.length_drop, List.length_take]; rfl)) ?_; (with_reducible refine (decode_r.calls k a0 t277 _ A2.out).mono ?_); rintro e w' ⟨rfl, ⟨nd, rfl⟩⟩; refine ⟨_, rfl, ?_⟩) | ((with_reducible refine gate_callee (f := 35) rfl ?_); refine goesL_ (some 7) rfl rfl Tryd.func35 (by kernel_rfl) rfl #[] rfl (by (try simp only [List.map_toArray, List.map_cons, List.map_nil]); first | done | rfl | (simp only [List.length_drop, List.length_take]; rfl)) ?_; (with_reducible refine (decode_none.calls  t278 t279 _ A4.out).mono ?_); rintro e w' ⟨rfl, ⟨nd, rfl⟩⟩; refine ⟨_, rfl, ?_⟩))
    go_ret2
    exact ⟨by first | rfl | (simp; done) | (simp [*]; done), by repeat (first | exact Drawn0.refl _ | apply Drawn0.step)⟩
  · rw [if_neg c3] at H
    have c3b0 : (t277 == 0) = false := beq_eq_false_iff_ne.mpr c3
    have c3b1 : (t277 != 0) = true := bne_iff_ne.mpr c3
    replace H := Option.bind_eq_some_iff.mp H
    obtain ⟨t280, A50, H⟩ := H
    replace H : ((decode_bits.f k a0 12 12 5).bind fun t281 => ((decode_bits.f k a0 6 5 3).bind fun t282 => ((decode_bits.f k a0 4 2 6).bind fun t283 => ((decode_typeI.f 3 3 t280 2 (Go.bits .or .u32 (Go.bits .or .u32 t281 t282) t283)).bind fun bt284 => (some (bt284.1, bt284.2)))))) = some (r1, r2) := H
    have A5 := Aside0.mk A50
    clear A50
    replace H := Option.bind_eq_some_iff.mp H
    obtain ⟨t281, A60, H⟩ := H
    replace H : ((decode_bits.f k a0 6 5 3).bind fun t282 => ((decode_bits.f k a0 4 2 6).bind fun t283 => ((decode_typeI.f 3 3 t280 2 (Go.bits .or .u32 (Go.bits .or .u32 t281 t282) t283)).bind fun bt284 => (some (bt284.1, bt284.2))))) = some (r1, r2) := H
    have A6 := Aside0.mk A60
    clear A60
    replace H := Option.bind_eq_some_iff.mp H
    obtain ⟨t282, A70, H⟩ := H
    replace H : ((decode_bits.f k a0 4 2 6).bind fun t283 => ((decode_typeI.f 3 3 t280 2 (Go.bits .or .u32 (Go.bits .or .u32 t281 t282) t283)).bind fun bt284 => (some (bt284.1, bt284.2)))) = some (r1, r2) := H
    have A7 := Aside0.mk A70
    clear A70
    replace H := Option.bind_eq_some_iff.mp H
    obtain ⟨t283, A80, H⟩ := H
    replace H : ((decode_typeI.f 3 3 t280 2 (Go.bits .or .u32 (Go.bits .or .u32 t281 t282) t283)).bind fun bt284 => (some (bt284.1, bt284.2))) = some (r1, r2) := H
    have A8 := Aside0.mk A80
    clear A80
    replace H := Option.bind_eq_some_iff.mp H
    obtain ⟨⟨t284, t285⟩, A90, H⟩ := H
    replace H : (some (t284, t285)) = some (r1, r2) := H
    have A9 := Aside0.mk A90
    clear A90
    simp only [Option.some.injEq, Prod.mk.injEq] at H
    obtain ⟨rfl, rfl⟩ := H
    go_enter Tryd.func67, Tryd.ntmps67
    go_wp2_with (first | ((with_reducible refine gate_callee (f := 82) rfl ?_); refine goesL_ (some 5) rfl rfl Tryd.func82 (by kernel_rfl) rfl #[.int .u32 a0] rfl (by (try simp only [List.map_toArray, List.map_cons, List.map_nil]); first | done | rfl | (simp only [List.length_drop, List.length_take]; rfl)) ?_; (with_reducible refine (decode_r.calls k a0 t277 _ A2.out).mono ?_); rintro e w' ⟨rfl, ⟨nd, rfl⟩⟩; refine ⟨_, rfl, ?_⟩) | ((with_reducible refine gate_callee (f := 82) rfl ?_); refine goesL_ (some 11) rfl rfl Tryd.func82 (by kernel_rfl) rfl #[.int .u32 a0] rfl (by (try simp only [List.map_toArray, List.map_cons, List.map_nil]); first | done | rfl | (simp only [List.length_drop, List.length_take]; rfl)) ?_; (with_reducible refine (decode_r.calls k a0 t280 _ A5.out).mono ?_); rintro e w' ⟨rfl, ⟨nd, rfl⟩⟩; refine ⟨_, rfl, ?_⟩) | ((with_reducible refine gate_callee (f := 75) rfl ?_); refine goesL_ (some 13) rfl rfl Tryd.func75 (by kernel_rfl) rfl #[.int .u32 a0, .int .i64 12, .int .i64 12, .int .i64 5] rfl (by (try simp only [List.map_toArray, List.map_cons, List.map_nil]); first | done | rfl | (simp only [List.length_drop, List.length_take]; rfl)) ?_; (with_reducible refine (decode_bits.calls k a0 12 12 5 t281 _ A6.out).mono ?_); rintro e w' ⟨rfl, ⟨nd, rfl⟩⟩; refine ⟨_, rfl, ?_⟩) | ((with_reducible refine gate_callee (f := 75) rfl ?_); refine goesL_ (some 15) rfl rfl Tryd.func75 (by kernel_rfl) rfl #[.int .u32 a0, .int .i64 6, .int .i64 5, .int .i64 3] rfl (by (try simp only [List.map_toArray, List.map_cons, List.map_nil]); first | done | rfl | (simp only [List.length_drop, List.length_take]; rfl)) ?_; (with_reducible refine (decode_bits.calls k a0 6 5 3 t282 _ A7.out).mono ?_); rintro e w' ⟨rfl, ⟨nd, rfl⟩⟩; refine ⟨_, rfl, ?_⟩) | ((with_reducible refine gate_callee (f := 75) rfl ?_); refine goesL_ (some 18) rfl rfl Tryd.func75 (by kernel_rfl) rfl #[.int .u32 a0, .int .i64 4, .int .i64 2, .int .i64 6] rfl (by (try simp only [List.map_toArray, List.map_cons, List.map_nil]); first | done | rfl | (simp only [List.length_drop, List.length_take]; rfl)) ?_; (with_reducible refine (decode_bits.calls k a0 4 2 6 t283 _ A8.out).mono ?_); rintro e w' ⟨rfl, ⟨nd, rfl⟩⟩; refine ⟨_, rfl, ?_⟩) | ((with_reducible refine gate_callee (f := 76) rfl ?_); refine goesL_ (some 20) rfl rfl Tryd.func76 (by kernel_rfl) rfl #[.int .u32 3, .int .u32 3, .int .u32 t280, .int .u32 2, .int .u32 (Go.bits .or .u32 (Go.bits .or .u32 t281 t282) t283)] rfl (by (try simp only [List.map_toArray, List.map_cons, List.map_nil]); first | done | rfl | (simp only [List.length_drop, List.length_take]; rfl)) ?_; (with_reducible refine (decode_typeI.calls 3 3 t280 2 (Go.bits .or .u32 (Go.bits .or .u32 t281 t282) t283) t284 t285 _ A9.out).mono ?_); rintro e w' ⟨rfl, ⟨nd, rfl⟩⟩; refine ⟨_, rfl, ?_⟩))
    go_ret2
    exact ⟨by first | rfl | (simp; done) | (simp [*]; done), by repeat (first | exact Drawn0.refl _ | apply Drawn0.step)⟩

-- given elsewhere: function 68 (decode_moves)

/-! ### decode_swsp: function 69 -/
def decode_swsp.f (k : Nat) (a0 : Int) : Option (Int × Bool) := (decode_t.f k a0).bind fun t286 => ((decode_bits.f k a0 12 9 2).bind fun t287 => ((decode_bits.f k a0 8 7 6).bind fun t288 => ((decode_typeS.f 2 2 t286 (Go.bits .or .u32 t287 t288)).bind fun bt289 => (some (bt289.1, bt289.2)))))
theorem decode_swsp.mono : ∀ a0 k, LeO (decode_swsp.f k a0) (decode_swsp.f (k + 1) a0) := by
  intro a0 k
  unfold decode_swsp.f
  repeat' first
      | (with_reducible exact decode_bits.mono _ _ _ _ _)
      | (with_reducible exact decode_t.mono _ _)
      | (with_reducible exact LeO.refl _)
      | (with_reducible exact LeO.none _)
      | (with_reducible refine LeO.ite ?_ ?_)
      | (with_reducible refine LeO.bind ?_ (fun _ => ?_))
      | exact decode_bits.mono _ _ _ _ _
      | exact decode_t.mono _ _
      | exact LeO.none _
      | refine LeO.ite ?_ ?_
      | refine LeO.bind ?_ (fun _ => ?_)
set_option maxHeartbeats 8000000 in
set_option maxRecDepth 100000 in
theorem decode_swsp.calls (k : Nat) (a0 : Int) (r1 : Int) (r2 : Bool) (w : World) (h : decode_swsp.f k a0 = some (r1, r2)) :
    Calls Tryd.prog 69 #[.int .u32 a0] w fun e w' => e = .returned (.tuple #[.int .u32 r1, .bool r2]) ∧ Drawn0 w w' := by
  have H : ((decode_t.f k a0).bind fun t286 => ((decode_bits.f k a0 12 9 2).bind fun t287 => ((decode_bits.f k a0 8 7 6).bind fun t288 => ((decode_typeS.f 2 2 t286 (Go.bits .or .u32 t287 t288)).bind fun bt289 => (some (bt289.1, bt289.2)))))) = some (r1, r2) := h
  clear h
  replace H := Option.bind_eq_some_iff.mp H
  obtain ⟨t286, A20, H⟩ := H
  replace H : ((decode_bits.f k a0 12 9 2).bind fun t287 => ((decode_bits.f k a0 8 7 6).bind fun t288 => ((decode_typeS.f 2 2 t286 (Go.bits .or .u32 t287 t288)).bind fun bt289 => (some (bt289.1, bt289.2))))) = some (r1, r2) := H
  have A2 := Aside0.mk A20
  clear A20
  replace H := Option.bind_eq_some_iff.mp H
  obtain ⟨t287, A30, H⟩ := H
  replace H : ((decode_bits.f k a0 8 7 6).bind fun t288 => ((decode_typeS.f 2 2 t286 (Go.bits .or .u32 t287 t288)).bind fun bt289 => (some (bt289.1, bt289.2)))) = some (r1, r2) := H
  have A3 := Aside0.mk A30
  clear A30
  replace H := Option.bind_eq_some_iff.mp H
  obtain ⟨t288, A40, H⟩ := H
  replace H : ((decode_typeS.f 2 2 t286 (Go.bits .or .u32 t287 t288)).bind fun bt289 => (some (bt289.1, bt289.2))) = some (r1, r2) := H
  have A4 := Aside0.mk A40
  clear A40
  replace H := Option.bind_eq_some_iff.mp H
  obtain ⟨⟨t289, t290⟩, A50, H⟩ := H
  replace H : (some (t289, t290)) = some (r1, r2) := H
  have A5 := Aside0.mk A50
  clear A50
  simp only [Option.some.injEq, Prod.mk.injEq] at H
  obtain ⟨rfl, rfl⟩ := H
  go_enter Tryd.func69, Tryd.ntmps69
  go_wp2_with (first | ((with_reducible refine gate_callee (f := 87) rfl ?_); refine goesL_ (some 5) rfl rfl Tryd.func87 (by kernel_rfl) rfl #[.int .u32 a0] rfl (by (try simp only [List.map_toArray, List.map_cons, List.map_nil]); first | done | rfl | (simp only [List.length_drop, List.length_take]; rfl)) ?_; (with_reducible refine (decode_t.calls k a0 t286 _ A2.out).mono ?_); rintro e w' ⟨rfl, ⟨nd, rfl⟩⟩; refine ⟨_, rfl, ?_⟩) | ((with_reducible refine gate_callee (f := 75) rfl ?_); refine goesL_ (some 7) rfl rfl Tryd.func75 (by kernel_rfl) rfl #[.int .u32 a0, .int .i64 12, .int .i64 9, .int .i64 2] rfl (by (try simp only [List.map_toArray, List.map_cons, List.map_nil]); first | done | rfl | (simp only [List.length_drop, List.length_take]; rfl)) ?_; (with_reducible refine (decode_bits.calls k a0 12 9 2 t287 _ A3.out).mono ?_); rintro e w' ⟨rfl, ⟨nd, rfl⟩⟩; refine ⟨_, rfl, ?_⟩) | ((with_reducible refine gate_callee (f := 75) rfl ?_); refine goesL_ (some 9) rfl rfl Tryd.func75 (by kernel_rfl) rfl #[.int .u32 a0, .int .i64 8, .int .i64 7, .int .i64 6] rfl (by (try simp only [List.map_toArray, List.map_cons, List.map_nil]); first | done | rfl | (simp only [List.length_drop, List.length_take]; rfl)) ?_; (with_reducible refine (decode_bits.calls k a0 8 7 6 t288 _ A4.out).mono ?_); rintro e w' ⟨rfl, ⟨nd, rfl⟩⟩; refine ⟨_, rfl, ?_⟩) | ((with_reducible refine gate_callee (f := 81) rfl ?_); refine goesL_ (some 11) rfl rfl Tryd.func81 (by kernel_rfl) rfl #[.int .u32 2, .int .u32 2, .int .u32 t286, .int .u32 (Go.bits .or .u32 t287 t288)] rfl (by (try simp only [List.map_toArray, List.map_cons, List.map_nil]); first | done | rfl | (simp only [List.length_drop, List.length_take]; rfl)) ?_; (with_reducible refine (decode_typeS.calls 2 2 t286 (Go.bits .or .u32 t287 t288) t289 t290 _ A5.out).mono ?_); rintro e w' ⟨rfl, ⟨nd, rfl⟩⟩; refine ⟨_, rfl, ?_⟩))
  go_ret2
  exact ⟨by first | rfl | (simp; done) | (simp [*]; done), by repeat (first | exact Drawn0.refl _ | apply Drawn0.step)⟩

/-! ### decode_sdsp: function 70 -/
def decode_sdsp.f (k : Nat) (a0 : Int) : Option (Int × Bool) := (decode_t.f k a0).bind fun t291 => ((decode_bits.f k a0 12 10 3).bind fun t292 => ((decode_bits.f k a0 9 7 6).bind fun t293 => ((decode_typeS.f 3 2 t291 (Go.bits .or .u32 t292 t293)).bind fun bt294 => (some (bt294.1, bt294.2)))))
theorem decode_sdsp.mono : ∀ a0 k, LeO (decode_sdsp.f k a0) (decode_sdsp.f (k + 1) a0) := by
  intro a0 k
  unfold decode_sdsp.f
  repeat' first
      | (with_reducible exact decode_bits.mono _ _ _ _ _)
      | (with_reducible exact decode_t.mono _ _)
      | (with_reducible exact LeO.refl _)
      | (with_reducible exact LeO.none _)
      | (with_reducible refine LeO.ite ?_ ?_)
      | (with_reducible refine LeO.bind ?_ (fun _ => ?_))
      | exact decode_bits.mono _ _ _ _ _
      | exact decode_t.mono _ _
      | exact LeO.none _
      | refine LeO.ite ?_ ?_
      | refine LeO.bind ?_ (fun _ => ?_)
set_option maxHeartbeats 8000000 in
set_option maxRecDepth 100000 in
theorem decode_sdsp.calls (k : Nat) (a0 : Int) (r1 : Int) (r2 : Bool) (w : World) (h : decode_sdsp.f k a0 = some (r1, r2)) :
    Calls Tryd.prog 70 #[.int .u32 a0] w fun e w' => e = .returned (.tuple #[.int .u32 r1, .bool r2]) ∧ Drawn0 w w' := by
  have H : ((decode_t.f k a0).bind fun t291 => ((decode_bits.f k a0 12 10 3).bind fun t292 => ((decode_bits.f k a0 9 7 6).bind fun t293 => ((decode_typeS.f 3 2 t291 (Go.bits .or .u32 t292 t293)).bind fun bt294 => (some (bt294.1, bt294.2)))))) = some (r1, r2) := h
  clear h
  replace H := Option.bind_eq_some_iff.mp H
  obtain ⟨t291, A20, H⟩ := H
  replace H : ((decode_bits.f k a0 12 10 3).bind fun t292 => ((decode_bits.f k a0 9 7 6).bind fun t293 => ((decode_typeS.f 3 2 t291 (Go.bits .or .u32 t292 t293)).bind fun bt294 => (some (bt294.1, bt294.2))))) = some (r1, r2) := H
  have A2 := Aside0.mk A20
  clear A20
  replace H := Option.bind_eq_some_iff.mp H
  obtain ⟨t292, A30, H⟩ := H
  replace H : ((decode_bits.f k a0 9 7 6).bind fun t293 => ((decode_typeS.f 3 2 t291 (Go.bits .or .u32 t292 t293)).bind fun bt294 => (some (bt294.1, bt294.2)))) = some (r1, r2) := H
  have A3 := Aside0.mk A30
  clear A30
  replace H := Option.bind_eq_some_iff.mp H
  obtain ⟨t293, A40, H⟩ := H
  replace H : ((decode_typeS.f 3 2 t291 (Go.bits .or .u32 t292 t293)).bind fun bt294 => (some (bt294.1, bt294.2))) = some (r1, r2) := H
  have A4 := Aside0.mk A40
  clear A40
  replace H := Option.bind_eq_some_iff.mp H
  obtain ⟨⟨t294, t295⟩, A50, H⟩ := H
  replace H : (some (t294, t295)) = some (r1, r2) := H
  have A5 := Aside0.mk A50
  clear A50
  simp only [Option.some.injEq, Prod.mk.injEq] at H
  obtain ⟨rfl, rfl⟩ := H
  go_enter Tryd.func70, Tryd.ntmps70
  go_wp2_with (first | ((with_reducible refine gate_callee (f := 87) rfl ?_); refine goesL_ (some 5) rfl rfl Tryd.func87 (by kernel_rfl) rfl #[.int .u32 a0] rfl (by (try simp only [List.map_toArray, List.map_cons, List.map_nil]); first | done | rfl | (simp only [List.length_drop, List.length_take]; rfl)) ?_; (with_reducible refine (decode_t.calls k a0 t291 _ A2.out).mono ?_); rintro e w' ⟨rfl, ⟨nd, rfl⟩⟩; refine ⟨_, rfl, ?_⟩) | ((with_reducible refine gate_callee (f := 75) rfl ?_); refine goesL_ (some 7) rfl rfl Tryd.func75 (by kernel_rfl) rfl #[.int .u32 a0, .int .i64 12, .int .i64 10, .int .i64 3] rfl (by (try simp only [List.map_toArray, List.map_cons, List.map_nil]); first | done | rfl | (simp only [List.length_drop, List.length_take]; rfl)) ?_; (with_reducible refine (decode_bits.calls k a0 12 10 3 t292 _ A3.out).mono ?_); rintro e w' ⟨rfl, ⟨nd, rfl⟩⟩; refine ⟨_, rfl, ?_⟩) | ((with_reducible refine gate_callee (f := 75) rfl ?_); refine goesL_ (some 9) rfl rfl Tryd.func75 (by kernel_rfl) rfl #[.int .u32 a0, .int .i64 9, .int .i64 7, .int .i64 6] rfl (by (try simp only [List.map_toArray, List.map_cons, List.map_nil]); first | done | rfl | (simp only [List.length_drop, List.length_take]; rfl)) ?_; (with_reducible refine (decode_bits.calls k a0 9 7 6 t293 _ A4.out).mono ?_); rintro e w' ⟨rfl, ⟨nd, rfl⟩⟩; refine ⟨_, rfl, ?_⟩) | ((with_reducible refine gate_callee (f := 81) rfl ?_); refine goesL_ (some 11) rfl rfl Tryd.func81 (by kernel_rfl) rfl #[.int .u32 3, .int .u32 2, .int .u32 t291, .int .u32 (Go.bits .or .u32 t292 t293)] rfl (by (try simp only [List.map_toArray, List.map_cons, List.map_nil]); first | done | rfl | (simp only [List.length_drop, List.length_take]; rfl)) ?_; (with_reducible refine (decode_typeS.calls 3 2 t291 (Go.bits .or .u32 t292 t293) t294 t295 _ A5.out).mono ?_); rintro e w' ⟨rfl, ⟨nd, rfl⟩⟩; refine ⟨_, rfl, ?_⟩))
  go_ret2
  exact ⟨by first | rfl | (simp; done) | (simp [*]; done), by repeat (first | exact Drawn0.refl _ | apply Drawn0.step)⟩

/-! ### decode_third: function 38 -/
def decode_third.f (k : Nat) (a0 : Int) : Option (Int × Bool) := if (a0 / 8192) = 0 then ((decode_slli.f k a0).bind fun bt296 => (some (bt296.1, bt296.2))) else (if (a0 / 8192) = 2 then ((decode_lwsp.f k a0).bind fun bt298 => (some (bt298.1, bt298.2))) else (if (a0 / 8192) = 3 then ((decode_ldsp.f k a0).bind fun bt300 => (some (bt300.1, bt300.2))) else (if (a0 / 8192) = 4 then ((decode_moves.f k a0).bind fun bt302 => (some (bt302.1, bt302.2))) else (if (a0 / 8192) = 6 then ((decode_swsp.f k a0).bind fun bt304 => (some (bt304.1, bt304.2))) else (if (a0 / 8192) = 7 then ((decode_sdsp.f k a0).bind fun bt306 => (some (bt306.1, bt306.2))) else ((decode_none.f).bind fun bt308 => (some (bt308.1, bt308.2))))))))
theorem decode_third.mono : ∀ a0 k, LeO (decode_third.f k a0) (decode_third.f (k + 1) a0) := by
  intro a0 k
  unfold decode_third.f
  repeat' first
      | (with_reducible exact decode_ldsp.mono _ _)
      | (with_reducible exact decode_lwsp.mono _ _)
      | (with_reducible exact decode_moves.mono _ _)
      | (with_reducible exact decode_sdsp.mono _ _)
      | (with_reducible exact decode_slli.mono _ _)
      | (with_reducible exact decode_swsp.mono _ _)
      | (with_reducible exact LeO.refl _)
      | (with_reducible exact LeO.none _)
      | (with_reducible refine LeO.ite ?_ ?_)
      | (with_reducible refine LeO.bind ?_ (fun _ => ?_))
      | exact decode_ldsp.mono _ _
      | exact decode_lwsp.mono _ _
      | exact decode_moves.mono _ _
      | exact decode_sdsp.mono _ _
      | exact decode_slli.mono _ _
      | exact decode_swsp.mono _ _
      | exact LeO.none _
      | refine LeO.ite ?_ ?_
      | refine LeO.bind ?_ (fun _ => ?_)
set_option maxHeartbeats 8000000 in
set_option maxRecDepth 100000 in
theorem decode_third.calls (k : Nat) (a0 : Int) (r1 : Int) (r2 : Bool) (w : World) (h : decode_third.f k a0 = some (r1, r2)) :
    Calls Tryd.prog 38 #[.int .u32 a0] w fun e w' => e = .returned (.tuple #[.int .u32 r1, .bool r2]) ∧ Drawn0 w w' := by
  have H : (if (a0 / 8192) = 0 then ((decode_slli.f k a0).bind fun bt296 => (some (bt296.1, bt296.2))) else (if (a0 / 8192) = 2 then ((decode_lwsp.f k a0).bind fun bt298 => (some (bt298.1, bt298.2))) else (if (a0 / 8192) = 3 then ((decode_ldsp.f k a0).bind fun bt300 => (some (bt300.1, bt300.2))) else (if (a0 / 8192) = 4 then ((decode_moves.f k a0).bind fun bt302 => (some (bt302.1, bt302.2))) else (if (a0 / 8192) = 6 then ((decode_swsp.f k a0).bind fun bt304 => (some (bt304.1, bt304.2))) else (if (a0 / 8192) = 7 then ((decode_sdsp.f k a0).bind fun bt306 => (some (bt306.1, bt306.2))) else ((decode_none.f).bind fun bt308 => (some (bt308.1, bt308.2))))))))) = some (r1, r2) := h
  clear h
  by_cases c2 : (a0 / 8192) = 0
  · rw [if_pos c2] at H
    have c2b0 : ((a0 / 8192) == 0) = true := beq_iff_eq.mpr c2
    have c2b1 : ((a0 / 8192) != 0) = false := bne_eq_false_iff_eq.mpr c2
    clear c2
    replace H := Option.bind_eq_some_iff.mp H
    obtain ⟨⟨t296, t297⟩, A30, H⟩ := H
    replace H : (some (t296, t297)) = some (r1, r2) := H
    have A3 := Aside0.mk A30
    clear A30
    simp only [Option.some.injEq, Prod.mk.injEq] at H
    obtain ⟨rfl, rfl⟩ := H
    go_enter Tryd.func38, Tryd.ntmps38
    go_wp2_with (first | ((with_reducible refine gate_callee (f := 65) rfl ?_); refine goesL_ (some 9) rfl rfl Tryd.func65 (by kernel_rfl) rfl #[.int .u32 a0] rfl (by (try simp only [List.map_toArray, List.map_cons, List.map_nil]); first | done | rfl | (simp only [List.length_drop, List.length_take]; rfl)) ?_; (with_reducible refine (decode_slli.calls k a0 t296 t297 _ A3.out).mono ?_); rintro e w' ⟨rfl, ⟨nd, rfl⟩⟩; refine ⟨_, rfl, ?_⟩))
    go_ret2
    exact ⟨by first | rfl | (simp; done) | (simp [*]; done), by repeat (first | exact Drawn0.refl _ | apply Drawn0.step)⟩
  · rw [if_neg c2] at H
    have c2b0 : ((a0 / 8192) == 0) = false := beq_eq_false_iff_ne.mpr c2
    have c2b1 : ((a0 / 8192) != 0) = true := bne_iff_ne.mpr c2
    by_cases c4 : (a0 / 8192) = 2
    · rw [if_pos c4] at H
      have c4b0 : ((a0 / 8192) == 2) = true := beq_iff_eq.mpr c4
      have c4b1 : ((a0 / 8192) != 2) = false := bne_eq_false_iff_eq.mpr c4
      clear c4
      replace H := Option.bind_eq_some_iff.mp H
      obtain ⟨⟨t298, t299⟩, A50, H⟩ := H
      replace H : (some (t298, t299)) = some (r1, r2) := H
      have A5 := Aside0.mk A50
      clear A50
      simp only [Option.some.injEq, Prod.mk.injEq] at H
      obtain ⟨rfl, rfl⟩ := H
      go_enter Tryd.func38, Tryd.ntmps38
      go_wp2_with (first | ((with_reducible refine gate_callee (f := 66) rfl ?_); refine goesL_ (some 15) rfl rfl Tryd.func66 (by kernel_rfl) rfl #[.int .u32 a0] rfl (by (try simp only [List.map_toArray, List.map_cons, List.map_nil]); first | done | rfl | (simp only [List.length_drop, List.length_take]; rfl)) ?_; (with_reducible refine (decode_lwsp.calls k a0 t298 t299 _ A5.out).mono ?_); rintro e w' ⟨rfl, ⟨nd, rfl⟩⟩; refine ⟨_, rfl, ?_⟩))
      go_ret2
      exact ⟨by first | rfl | (simp; done) | (simp [*]; done), by repeat (first | exact Drawn0.refl _ | apply Drawn0.step)⟩
    · rw [if_neg c4] at H
      have c4b0 : ((a0 / 8192) == 2) = false := beq_eq_false_iff_ne.mpr c4
      have c4b1 : ((a0 / 8192) != 2) = true := bne_iff_ne.mpr c4
      by_cases c6 : (a0 / 8192) = 3
      · rw [if_pos c6] at H
        have c6b0 : ((a0 / 8192) == 3) = true := beq_iff_eq.mpr c6
        have c6b1 : ((a0 / 8192) != 3) = false := bne_eq_false_iff_eq.mpr c6
        clear c6
        replace H := Option.bind_eq_some_iff.mp H
        obtain ⟨⟨t300, t301⟩, A70, H⟩ := H
        replace H : (some (t300, t301)) = some (r1, r2) := H
        have A7 := Aside0.mk A70
        clear A70
        simp only [Option.some.injEq, Prod.mk.injEq] at H
        obtain ⟨rfl, rfl⟩ := H
        go_enter Tryd.func38, Tryd.ntmps38
        go_wp2_with (first | ((with_reducible refine gate_callee (f := 67) rfl ?_); refine goesL_ (some 21) rfl rfl Tryd.func67 (by kernel_rfl) rfl #[.int .u32 a0] rfl (by (try simp only [List.map_toArray, List.map_cons, List.map_nil]); first | done | rfl | (simp only [List.length_drop, List.length_take]; rfl)) ?_; (with_reducible refine (decode_ldsp.calls k a0 t300 t301 _ A7.out).mono ?_); rintro e w' ⟨rfl, ⟨nd, rfl⟩⟩; refine ⟨_, rfl, ?_⟩))
        go_ret2
        exact ⟨by first | rfl | (simp; done) | (simp [*]; done), by repeat (first | exact Drawn0.refl _ | apply Drawn0.step)⟩
      · rw [if_neg c6] at H
        have c6b0 : ((a0 / 8192) == 3) = false := beq_eq_false_iff_ne.mpr c6
        have c6b1 : ((a0 / 8192) != 3) = true := bne_iff_ne.mpr c6
        by_cases c8 : (a0 / 8192) = 4
        · rw [if_pos c8] at H
          have c8b0 : ((a0 / 8192) == 4) = true := beq_iff_eq.mpr c8
          have c8b1 : ((a0 / 8192) != 4) = false := bne_eq_false_iff_eq.mpr c8
          clear c8
          replace H := Option.bind_eq_some_iff.mp H
          obtain ⟨⟨t302, t303⟩, A90, H⟩ := H
          replace H : (some (t302, t303)) = some (r1, r2) := H
          have A9 := Aside0.mk A90
          clear A90
          simp only [Option.some.injEq, Prod.mk.injEq] at H
          obtain ⟨rfl, rfl⟩ := H
          go_enter Tryd.func38, Tryd.ntmps38
          go_wp2_with (first | ((with_reducible refine gate_callee (f := 68) rfl ?_); refine goesL_ (some 27) rfl rfl Tryd.func68 (by kernel_rfl) rfl #[.int .u32 a0] rfl (by (try simp only [List.map_toArray, List.map_cons, List.map_nil]); first | done | rfl | (simp only [List.length_drop, List.length_take]; rfl)) ?_; (with_reducible refine (decode_moves.calls k a0 t302 t303 _ A9.out).mono ?_); rintro e w' ⟨rfl, ⟨nd, rfl⟩⟩; refine ⟨_, rfl, ?_⟩))
          go_ret2
          exact ⟨by first | rfl | (simp; done) | (simp [*]; done), by repeat (first | exact Drawn0.refl _ | apply Drawn0.step)⟩
        · rw [if_neg c8] at H
          have c8b0 : ((a0 / 8192) == 4) = false := beq_eq_false_iff_ne.mpr c8
          have c8b1 : ((a0 / 8192) != 4) = true := bne_iff_ne.mpr c8
          by_cases c10 : (a0 / 8192) = 6
          · rw [if_pos c10] at H
            have c10b0 : ((a0 / 8192) == 6) = true := beq_iff_eq.mpr c10
            have c10b1 : ((a0 / 8192) != 6) = false := bne_eq_false_iff_eq.mpr c10
            clear c10
            replace H := Option.bind_eq_some_iff.mp H
            obtain ⟨⟨t304, t305⟩, A110, H⟩ := H
            replace H : (some (t304, t305)) = some (r1, r2) := H
            have A11 := Aside0.mk A110
            clear A110
            simp only [Option.some.injEq, Prod.mk.injEq] at H
            obtain ⟨rfl, rfl⟩ := H
            go_enter Tryd.func38, Tryd.ntmps38
            go_wp2_with (first | ((with_reducible refine gate_callee (f := 69) rfl ?_); refine goesL_ (some 33) rfl rfl Tryd.func69 (by kernel_rfl) rfl #[.int .u32 a0] rfl (by (try simp only [List.map_toArray, List.map_cons, List.map_nil]); first | done | rfl | (simp only [List.length_drop, List.length_take]; rfl)) ?_; (with_reducible refine (decode_swsp.calls k a0 t304 t305 _ A11.out).mono ?_); rintro e w' ⟨rfl, ⟨nd, rfl⟩⟩; refine ⟨_, rfl, ?_⟩))
            go_ret2
            exact ⟨by first | rfl | (simp; done) | (simp [*]; done), by repeat (first | exact Drawn0.refl _ | apply Drawn0.step)⟩
          · rw [if_neg c10] at H
            have c10b0 : ((a0 / 8192) == 6) = false := beq_eq_false_iff_ne.mpr c10
            have c10b1 : ((a0 / 8192) != 6) = true := bne_iff_ne.mpr c10
            by_cases c12 : (a0 / 8192) = 7
            · rw [if_pos c12] at H
              have c12b0 : ((a0 / 8192) == 7) = true := beq_iff_eq.mpr c12
              have c12b1 : ((a0 / 8192) != 7) = false := bne_eq_false_iff_eq.mpr c12
              clear c12
              replace H := Option.bind_eq_some_iff.mp H
              obtain ⟨⟨t306, t307⟩, A130, H⟩ := H
              replace H : (some (t306, t307)) = some (r1, r2) := H
              have A13 := Aside0.mk A130
              clear A130
              simp only [Option.some.injEq, Prod.mk.injEq] at H
              obtain ⟨rfl, rfl⟩ := H
              go_enter Tryd.func38, Tryd.ntmps38
              go_wp2_with (first | ((with_reducible refine gate_callee (f := 70) rfl ?_); refine goesL_ (some 39) rfl rfl Tryd.func70 (by kernel_rfl) rfl #[.int .u32 a0] rfl (by (try simp only [List.map_toArray, List.map_cons, List.map_nil]); first | done | rfl | (simp only [List.length_drop, List.length_take]; rfl)) ?_; (with_reducible refine (decode_sdsp.calls k a0 t306 t307 _ A13.out).mono ?_); rintro e w' ⟨rfl, ⟨nd, rfl⟩⟩; refine ⟨_, rfl, ?_⟩))
              go_ret2
              exact ⟨by first | rfl | (simp; done) | (simp [*]; done), by repeat (first | exact Drawn0.refl _ | apply Drawn0.step)⟩
            · rw [if_neg c12] at H
              have c12b0 : ((a0 / 8192) == 7) = false := beq_eq_false_iff_ne.mpr c12
              have c12b1 : ((a0 / 8192) != 7) = true := bne_iff_ne.mpr c12
              replace H := Option.bind_eq_some_iff.mp H
              obtain ⟨⟨t308, t309⟩, A140, H⟩ := H
              replace H : (some (t308, t309)) = some (r1, r2) := H
              have A14 := Aside0.mk A140
              clear A140
              simp only [Option.some.injEq, Prod.mk.injEq] at H
              obtain ⟨rfl, rfl⟩ := H
              go_enter Tryd.func38, Tryd.ntmps38
              go_wp2_with (first | ((with_reducible refine gate_callee (f := 35) rfl ?_); refine goesL_ (some 42) rfl rfl Tryd.func35 (by kernel_rfl) rfl #[] rfl (by (try simp only [List.map_toArray, List.map_cons, List.map_nil]); first | done | rfl | (simp only [List.length_drop, List.length_take]; rfl)) ?_; (with_reducible refine (decode_none.calls  t308 t309 _ A14.out).mono ?_); rintro e w' ⟨rfl, ⟨nd, rfl⟩⟩; refine ⟨_, rfl, ?_⟩))
              go_ret2
              exact ⟨by first | rfl | (simp; done) | (simp [*]; done), by repeat (first | exact Drawn0.refl _ | apply Drawn0.step)⟩

/-! ### decode_Expand: function 19 -/
def decode_Expand.f (k : Nat) (a0 : Int) : Option (Int × Bool) := if (Go.bits .and .u32 ((a0) % 4294967296) 3) ≥ 3 then ((decode_none.f).bind fun bt310 => (some (bt310.1, bt310.2))) else (if (Go.bits .and .u32 ((a0) % 4294967296) 3) = 0 then ((decode_first.f k ((a0) % 4294967296)).bind fun bt312 => (some (bt312.1, bt312.2))) else (if (Go.bits .and .u32 ((a0) % 4294967296) 3) = 1 then ((decode_second.f k ((a0) % 4294967296)).bind fun bt314 => (some (bt314.1, bt314.2))) else ((decode_third.f k ((a0) % 4294967296)).bind fun bt316 => (some (bt316.1, bt316.2)))))
theorem decode_Expand.mono : ∀ a0 k, LeO (decode_Expand.f k a0) (decode_Expand.f (k + 1) a0) := by
  intro a0 k
  unfold decode_Expand.f
  repeat' first
      | (with_reducible exact decode_first.mono _ _)
      | (with_reducible exact decode_second.mono _ _)
      | (with_reducible exact decode_third.mono _ _)
      | (with_reducible exact LeO.refl _)
      | (with_reducible exact LeO.none _)
      | (with_reducible refine LeO.ite ?_ ?_)
      | (with_reducible refine LeO.bind ?_ (fun _ => ?_))
      | exact decode_first.mono _ _
      | exact decode_second.mono _ _
      | exact decode_third.mono _ _
      | exact LeO.none _
      | refine LeO.ite ?_ ?_
      | refine LeO.bind ?_ (fun _ => ?_)
set_option maxHeartbeats 8000000 in
set_option maxRecDepth 100000 in
theorem decode_Expand.calls (k : Nat) (a0 : Int) (r1 : Int) (r2 : Bool) (w : World) (h : decode_Expand.f k a0 = some (r1, r2)) :
    Calls Tryd.prog 19 #[.int .u16 a0] w fun e w' => e = .returned (.tuple #[.int .u32 r1, .bool r2]) ∧ Drawn0 w w' := by
  have H : (if (Go.bits .and .u32 ((a0) % 4294967296) 3) ≥ 3 then ((decode_none.f).bind fun bt310 => (some (bt310.1, bt310.2))) else (if (Go.bits .and .u32 ((a0) % 4294967296) 3) = 0 then ((decode_first.f k ((a0) % 4294967296)).bind fun bt312 => (some (bt312.1, bt312.2))) else (if (Go.bits .and .u32 ((a0) % 4294967296) 3) = 1 then ((decode_second.f k ((a0) % 4294967296)).bind fun bt314 => (some (bt314.1, bt314.2))) else ((decode_third.f k ((a0) % 4294967296)).bind fun bt316 => (some (bt316.1, bt316.2)))))) = some (r1, r2) := h
  clear h
  by_cases c2 : (Go.bits .and .u32 ((a0) % 4294967296) 3) ≥ 3
  · rw [if_pos c2] at H
    have c2b0 : decide (3 ≤ (Go.bits .and .u32 ((a0) % 4294967296) 3)) = true := decide_eq_true c2
    clear c2
    replace H := Option.bind_eq_some_iff.mp H
    obtain ⟨⟨t310, t311⟩, A30, H⟩ := H
    replace H : (some (t310, t311)) = some (r1, r2) := H
    have A3 := Aside0.mk A30
    clear A30
    simp only [Option.some.injEq, Prod.mk.injEq] at H
    obtain ⟨rfl, rfl⟩ := H
    go_enter Tryd.func19, Tryd.ntmps19
    go_wp2_with (first | ((with_reducible refine gate_callee (f := 35) rfl ?_); refine goesL_ (some 10) rfl rfl Tryd.func35 (by kernel_rfl) rfl #[] rfl (by (try simp only [List.map_toArray, List.map_cons, List.map_nil]); first | done | rfl | (simp only [List.length_drop, List.length_take]; rfl)) ?_; (with_reducible refine (decode_none.calls  t310 t311 _ A3.out).mono ?_); rintro e w' ⟨rfl, ⟨nd, rfl⟩⟩; refine ⟨_, rfl, ?_⟩))
    go_ret2
    exact ⟨by first | rfl | (simp; done) | (simp [*]; done), by repeat (first | exact Drawn0.refl _ | apply Drawn0.step)⟩
  · rw [if_neg c2] at H
    have c2b0 : decide (3 ≤ (Go.bits .and .u32 ((a0) % 4294967296) 3)) = false := decide_eq_false c2
    clear c2
    by_cases c4 : (Go.bits .and .u32 ((a0) % 4294967296) 3) = 0
    · rw [if_pos c4] at H
      have c4b0 : ((Go.bits .and .u32 ((a0) % 4294967296) 3) == 0) = true := beq_iff_eq.mpr c4
      have c4b1 : ((Go.bits .and .u32 ((a0) % 4294967296) 3) != 0) = false := bne_eq_false_iff_eq.mpr c4
      clear c4
      replace H := Option.bind_eq_some_iff.mp H
      obtain ⟨⟨t312, t313⟩, A50, H⟩ := H
      replace H : (some (t312, t313)) = some (r1, r2) := H
      have A5 := Aside0.mk A50
      clear A50
      simp only [Option.some.injEq, Prod.mk.injEq] at H
      obtain ⟨rfl, rfl⟩ := H
      go_enter Tryd.func19, Tryd.ntmps19
      go_wp2_with (first | ((with_reducible refine gate_callee (f := 36) rfl ?_); refine goesL_ (some 18) rfl rfl Tryd.func36 (by kernel_rfl) rfl #[.int .u32 ((a0) % 4294967296)] rfl (by (try simp only [List.map_toArray, List.map_cons, List.map_nil]); first | done | rfl | (simp only [List.length_drop, List.length_take]; rfl)) ?_; (with_reducible refine (decode_first.calls k ((a0) % 4294967296) t312 t313 _ A5.out).mono ?_); rintro e w' ⟨rfl, ⟨nd, rfl⟩⟩; refine ⟨_, rfl, ?_⟩))
      go_ret2
      exact ⟨by first | rfl | (simp; done) | (simp [*]; done), by repeat (first | exact Drawn0.refl _ | apply Drawn0.step)⟩
    · rw [if_neg c4] at H
      have c4b0 : ((Go.bits .and .u32 ((a0) % 4294967296) 3) == 0) = false := beq_eq_false_iff_ne.mpr c4
      have c4b1 : ((Go.bits .and .u32 ((a0) % 4294967296) 3) != 0) = true := bne_iff_ne.mpr c4
      by_cases c6 : (Go.bits .and .u32 ((a0) % 4294967296) 3) = 1
      · rw [if_pos c6] at H
        have c6b0 : ((Go.bits .and .u32 ((a0) % 4294967296) 3) == 1) = true := beq_iff_eq.mpr c6
        have c6b1 : ((Go.bits .and .u32 ((a0) % 4294967296) 3) != 1) = false := bne_eq_false_iff_eq.mpr c6
        clear c6
        replace H := Option.bind_eq_some_iff.mp H
        obtain ⟨⟨t314, t315⟩, A70, H⟩ := H
        replace H : (some (t314, t315)) = some (r1, r2) := H
        have A7 := Aside0.mk A70
        clear A70
        simp only [Option.some.injEq, Prod.mk.injEq] at H
        obtain ⟨rfl, rfl⟩ := H
        go_enter Tryd.func19, Tryd.ntmps19
        go_wp2_with (first | ((with_reducible refine gate_callee (f := 37) rfl ?_); refine goesL_ (some 24) rfl rfl Tryd.func37 (by kernel_rfl) rfl #[.int .u32 ((a0) % 4294967296)] rfl (by (try simp only [List.map_toArray, List.map_cons, List.map_nil]); first | done | rfl | (simp only [List.length_drop, List.length_take]; rfl)) ?_; (with_reducible refine (decode_second.calls k ((a0) % 4294967296) t314 t315 _ A7.out).mono ?_); rintro e w' ⟨rfl, ⟨nd, rfl⟩⟩; refine ⟨_, rfl, ?_⟩))
        go_ret2
        exact ⟨by first | rfl | (simp; done) | (simp [*]; done), by repeat (first | exact Drawn0.refl _ | apply Drawn0.step)⟩
      · rw [if_neg c6] at H
        have c6b0 : ((Go.bits .and .u32 ((a0) % 4294967296) 3) == 1) = false := beq_eq_false_iff_ne.mpr c6
        have c6b1 : ((Go.bits .and .u32 ((a0) % 4294967296) 3) != 1) = true := bne_iff_ne.mpr c6
        replace H := Option.bind_eq_some_iff.mp H
        obtain ⟨⟨t316, t317⟩, A80, H⟩ := H
        replace H : (some (t316, t317)) = some (r1, r2) := H
        have A8 := Aside0.mk A80
        clear A80
        simp only [Option.some.injEq, Prod.mk.injEq] at H
        obtain ⟨rfl, rfl⟩ := H
        go_enter Tryd.func19, Tryd.ntmps19
        go_wp2_with (first | ((with_reducible refine gate_callee (f := 38) rfl ?_); refine goesL_ (some 28) rfl rfl Tryd.func38 (by kernel_rfl) rfl #[.int .u32 ((a0) % 4294967296)] rfl (by (try simp only [List.map_toArray, List.map_cons, List.map_nil]); first | done | rfl | (simp only [List.length_drop, List.length_take]; rfl)) ?_; (with_reducible refine (decode_third.calls k ((a0) % 4294967296) t316 t317 _ A8.out).mono ?_); rintro e w' ⟨rfl, ⟨nd, rfl⟩⟩; refine ⟨_, rfl, ?_⟩))
        go_ret2
        exact ⟨by first | rfl | (simp; done) | (simp [*]; done), by repeat (first | exact Drawn0.refl _ | apply Drawn0.step)⟩

end Go.Proofs.YtiibhggjlandmaaDoor.PB
-- Written by a program (a turned copy of the kit's print.py) for this claim. Lean checks it.
namespace Go.Proofs.YtiibhggjlandmaaDoor.PB
open Go.RowKit Go.Proofs.YtiibhggjlandmaaDoorW.PrintWords Go.Proofs.YtiibhggjlandmaaDoorW.PrintLast Go.Proofs.YtiibhggjlandmaaDoorW.PrintMore Go.Proofs.YtiibhggjlandmaaDoor.PG
attribute [local go_sem] max2_int min2_int max_two min_two max_three min_three max_four min_four   -- for this text's walks alone
set_option linter.unusedVariables false
set_option linter.unusedSimpArgs false

/-! ### decode_part: function 51 -/
def decode_part.f (k : Nat) (a0 : Int) (a1 : Int) (a2 : Int) (a3 : Int) : Option (Int) := (decode_field.f k a0 a1 a2).bind fun t318 => (if 0 ≤ a3 then (some (shl .i64 t318 a3)) else (none))
theorem decode_part.mono : ∀ a0 a1 a2 a3 k, LeO (decode_part.f k a0 a1 a2 a3) (decode_part.f (k + 1) a0 a1 a2 a3) := by
  intro a0 a1 a2 a3 k
  unfold decode_part.f
  repeat' first
      | (with_reducible exact decode_field.mono _ _ _ _)
      | (with_reducible exact LeO.refl _)
      | (with_reducible exact LeO.none _)
      | (with_reducible refine LeO.ite ?_ ?_)
      | (with_reducible refine LeO.bind ?_ (fun _ => ?_))
      | exact decode_field.mono _ _ _ _
      | exact LeO.none _
      | refine LeO.ite ?_ ?_
      | refine LeO.bind ?_ (fun _ => ?_)
set_option maxHeartbeats 8000000 in
set_option maxRecDepth 100000 in
theorem decode_part.calls (k : Nat) (a0 : Int) (a1 : Int) (a2 : Int) (a3 : Int) (r : Int) (w : World) (h : decode_part.f k a0 a1 a2 a3 = some r) :
    Calls Tryd.prog 51 #[.int .u32 a0, .int .i64 a1, .int .i64 a2, .int .i64 a3] w fun e w' => e = .returned (.int .i64 r) ∧ Drawn0 w w' := by
  have H : ((decode_field.f k a0 a1 a2).bind fun t318 => (if 0 ≤ a3 then (some (shl .i64 t318 a3)) else (none))) = some r := h
  clear h
  replace H := Option.bind_eq_some_iff.mp H
  obtain ⟨t318, A50, H⟩ := H
  replace H : (if 0 ≤ a3 then (some (shl .i64 t318 a3)) else (none)) = some r := H
  have A5 := Aside0.mk A50
  clear A50
  by_cases c6 : 0 ≤ a3
  · rw [if_pos c6] at H
    have c6b0 := eq_true c6
    have c6b1 : decide (0 ≤ a3) = true := decide_eq_true c6
    clear c6
    obtain ⟨ji7, hji7⟩ : ∃ j_ : Int, (shl .i64 t318 a3) = j_ := ⟨_, rfl⟩
    replace H : (some ji7) = some r := by first | (rw [hji7] at H; exact H) | (simp only [hji7] at H ⊢; exact H)
    (try rw [hji7] at A5)
    have hji7_ : (IntKind.i64.wrap (t318 * 2 ^ min a3.toNat 64)) = ji7 := hji7
    have hji7z : a3 ≤ 64 → (IntKind.i64.wrap (t318 * 2 ^ a3.toNat)) = ji7 := shl_small hji7
    have hji7y : (wrap64 (t318 * 2 ^ min a3.toNat 64)) = ji7 := (i64_w _).symm.trans hji7_
    have hji7x : a3 ≤ 64 → (wrap64 (t318 * 2 ^ a3.toNat)) = ji7 := fun h_ => (i64_w _).symm.trans (hji7z h_)
    obtain rfl := Option.some.inj H
    go_enter Tryd.func51, Tryd.ntmps51
    go_wp2_with (first | ((with_reducible refine gate_callee (f := 49) rfl ?_); refine goesL_ (some 12) rfl rfl Tryd.func49 (by kernel_rfl) rfl #[.int .u32 a0, .int .i64 a1, .int .i64 a2] rfl (by (try simp only [List.map_toArray, List.map_cons, List.map_nil]); first | done | rfl | (simp only [List.length_drop, List.length_take]; rfl)) ?_; (with_reducible refine (decode_field.calls k a0 a1 a2 t318 _ A5.out).mono ?_); rintro e w' ⟨rfl, ⟨nd, rfl⟩⟩; refine ⟨_, rfl, ?_⟩))
    go_ret
    exact ⟨by first | rfl | (simp; done) | (simp only [← hji7] <;> (first | rfl | simp)) | (simp [*]; done), by repeat (first | exact Drawn0.refl _ | apply Drawn0.step)⟩
  · rw [if_neg c6] at H
    exact absurd H (by simp)

/-- A state of type 24 at block g of W; what its slices lead to came in by w0. -/
def IsS24 (w0 W : World) (g : Nat) (f0 : Int) (f1 : Int) (f2 : Int) (f3 : Int) (f4 : Int) (f5 : Bool) (f6 : Bool) (f7 : Int) (f8 : Int) : Prop := W.heap[g]? = some (.cells #[.int .i64 f0, .int .i64 f1, .int .i64 f2, .int .i64 f3, .int .i64 f4, .bool f5, .bool f6, .int .i64 f7, .int .u32 f8] 24 (0, 0)) ∧ w0.heap.size ≤ g
theorem IsS24.grown {w0 W : World} {g : Nat} {f0 : Int} {f1 : Int} {f2 : Int} {f3 : Int} {f4 : Int} {f5 : Bool} {f6 : Bool} {f7 : Int} {f8 : Int} {W1 : World} {row : Option Nat} (h : IsS24 w0 W g f0 f1 f2 f3 f4 f5 f6 f7 f8) (hw : W.grownBy W1 row) (hne : some g ≠ row) : IsS24 w0 W1 g f0 f1 f2 f3 f4 f5 f6 f7 f8 := by
  obtain ⟨hb, hg⟩ := h
  exact ⟨blk_grown hb hw hne, hg⟩
theorem IsS24.kept {w0 W : World} {g : Nat} {f0 : Int} {f1 : Int} {f2 : Int} {f3 : Int} {f4 : Int} {f5 : Bool} {f6 : Bool} {f7 : Int} {f8 : Int} {W1 : World} {S : Nat → Prop} (h : IsS24 w0 W g f0 f1 f2 f3 f4 f5 f6 f7 f8) (hk : Kept W W1 S) (hne : ¬ S g) : IsS24 w0 W1 g f0 f1 f2 f3 f4 f5 f6 f7 f8 := by
  obtain ⟨hb, hg⟩ := h
  exact ⟨blk_kept hb hk hne, hg⟩
theorem IsS24.below {w0 W : World} {g : Nat} {f0 : Int} {f1 : Int} {f2 : Int} {f3 : Int} {f4 : Int} {f5 : Bool} {f6 : Bool} {f7 : Int} {f8 : Int} {W1 : World} (h : IsS24 w0 W g f0 f1 f2 f3 f4 f5 f6 f7 f8) (hw : Below W.heap.size W W1) : IsS24 w0 W1 g f0 f1 f2 f3 f4 f5 f6 f7 f8 := h.grown (grown_of_below hw none) (by simp)
theorem IsS24.alloc {w0 W : World} {g : Nat} {f0 : Int} {f1 : Int} {f2 : Int} {f3 : Int} {f4 : Int} {f5 : Bool} {f6 : Bool} {f7 : Int} {f8 : Int} (h : IsS24 w0 W g f0 f1 f2 f3 f4 f5 f6 f7 f8) (o : Obj) : IsS24 w0 (W.alloc o) g f0 f1 f2 f3 f4 f5 f6 f7 f8 := h.below (below_alloc (Below.refl _ _) o)
theorem IsS24.drewN {w0 W : World} {g : Nat} {f0 : Int} {f1 : Int} {f2 : Int} {f3 : Int} {f4 : Int} {f5 : Bool} {f6 : Bool} {f7 : Int} {f8 : Int} (h : IsS24 w0 W g f0 f1 f2 f3 f4 f5 f6 f7 f8) (m : Nat) : IsS24 w0 (W.drewN m) g f0 f1 f2 f3 f4 f5 f6 f7 f8 := h
theorem IsS24.drew {w0 W : World} {g : Nat} {f0 : Int} {f1 : Int} {f2 : Int} {f3 : Int} {f4 : Int} {f5 : Bool} {f6 : Bool} {f7 : Int} {f8 : Int} (h : IsS24 w0 W g f0 f1 f2 f3 f4 f5 f6 f7 f8) : IsS24 w0 W.drew g f0 f1 f2 f3 f4 f5 f6 f7 f8 := h
theorem IsS24.at_ {w0 W : World} {g : Nat} {f0 : Int} {f1 : Int} {f2 : Int} {f3 : Int} {f4 : Int} {f5 : Bool} {f6 : Bool} {f7 : Int} {f8 : Int} {w' : World} {m : Nat} (hq : W.drewN m = w') (h : IsS24 w0 W g f0 f1 f2 f3 f4 f5 f6 f7 f8) : IsS24 w0 w' g f0 f1 f2 f3 f4 f5 f6 f7 f8 := by subst hq; exact IsS24.drewN h m
theorem IsS24.apart {w0 W : World} {g : Nat} {f0 : Int} {f1 : Int} {f2 : Int} {f3 : Int} {f4 : Int} {f5 : Bool} {f6 : Bool} {f7 : Int} {f8 : Int} {α : Type} {d : Kd α} {e : Nat} {base : Nat} {ok : Nat → Prop} {v : Value} {xs : List α} (h : IsS24 w0 W g f0 f1 f2 f3 f4 f5 f6 f7 f8) (ho : d.R e W base ok v xs) (ht : ∀ q, q ∈ e :: d.E → q ≠ 24) : d.R e W base (fun k => ok k ∧ k ≠ g) v xs := by
  obtain ⟨hb, hg⟩ := h
  exact Kd.R_types ho hb ht
theorem IsS24.own_ne {w0 W : World} {g : Nat} {f0 : Int} {f1 : Int} {f2 : Int} {f3 : Int} {f4 : Int} {f5 : Bool} {f6 : Bool} {f7 : Int} {f8 : Int} {α : Type} {d : Kd α} {e : Nat} {base : Nat} {ok : Nat → Prop} {v : Value} {xs : List α} (h : IsS24 w0 W g f0 f1 f2 f3 f4 f5 f6 f7 f8) (ho : d.R e W base ok v xs) (ht : e ≠ 24) : some g ≠ v.ownBlock := by
  obtain ⟨hb, hg⟩ := h
  exact Kd.R_ne ho hb ht
theorem IsS24.ge {w0 W : World} {g : Nat} {f0 : Int} {f1 : Int} {f2 : Int} {f3 : Int} {f4 : Int} {f5 : Bool} {f6 : Bool} {f7 : Int} {f8 : Int} (h : IsS24 w0 W g f0 f1 f2 f3 f4 f5 f6 f7 f8) : w0.heap.size ≤ g := by
  obtain ⟨hb, hg⟩ := h
  exact hg
theorem cellS24_0 {W : World} {g : Nat} {f0 : Int} {f1 : Int} {f2 : Int} {f3 : Int} {f4 : Int} {f5 : Bool} {f6 : Bool} {f7 : Int} {f8 : Int} (h : W.heap[g]? = some (.cells #[.int .i64 f0, .int .i64 f1, .int .i64 f2, .int .i64 f3, .int .i64 f4, .bool f5, .bool f6, .int .i64 f7, .int .u32 f8] 24 (0, 0))) : W.cell? ⟨g, 0, none⟩ = some (.int .i64 f0) := (blk_cell h 0).trans rfl
theorem IsS24.set_0 {w0 W : World} {g : Nat} {f0 : Int} {f1 : Int} {f2 : Int} {f3 : Int} {f4 : Int} {f5 : Bool} {f6 : Bool} {f7 : Int} {f8 : Int} (h : IsS24 w0 W g f0 f1 f2 f3 f4 f5 f6 f7 f8) (x : Int) : IsS24 w0 (W.setCell ⟨g, 0, none⟩ (.int .i64 x)) g x f1 f2 f3 f4 f5 f6 f7 f8 := by
  obtain ⟨hb, hg⟩ := h
  exact ⟨by simpa using blk_set hb 0 (.int .i64 x), hg⟩
theorem cellS24_1 {W : World} {g : Nat} {f0 : Int} {f1 : Int} {f2 : Int} {f3 : Int} {f4 : Int} {f5 : Bool} {f6 : Bool} {f7 : Int} {f8 : Int} (h : W.heap[g]? = some (.cells #[.int .i64 f0, .int .i64 f1, .int .i64 f2, .int .i64 f3, .int .i64 f4, .bool f5, .bool f6, .int .i64 f7, .int .u32 f8] 24 (0, 0))) : W.cell? ⟨g, 1, none⟩ = some (.int .i64 f1) := (blk_cell h 1).trans rfl
theorem IsS24.set_1 {w0 W : World} {g : Nat} {f0 : Int} {f1 : Int} {f2 : Int} {f3 : Int} {f4 : Int} {f5 : Bool} {f6 : Bool} {f7 : Int} {f8 : Int} (h : IsS24 w0 W g f0 f1 f2 f3 f4 f5 f6 f7 f8) (x : Int) : IsS24 w0 (W.setCell ⟨g, 1, none⟩ (.int .i64 x)) g f0 x f2 f3 f4 f5 f6 f7 f8 := by
  obtain ⟨hb, hg⟩ := h
  exact ⟨by simpa using blk_set hb 1 (.int .i64 x), hg⟩
theorem cellS24_2 {W : World} {g : Nat} {f0 : Int} {f1 : Int} {f2 : Int} {f3 : Int} {f4 : Int} {f5 : Bool} {f6 : Bool} {f7 : Int} {f8 : Int} (h : W.heap[g]? = some (.cells #[.int .i64 f0, .int .i64 f1, .int .i64 f2, .int .i64 f3, .int .i64 f4, .bool f5, .bool f6, .int .i64 f7, .int .u32 f8] 24 (0, 0))) : W.cell? ⟨g, 2, none⟩ = some (.int .i64 f2) := (blk_cell h 2).trans rfl
theorem IsS24.set_2 {w0 W : World} {g : Nat} {f0 : Int} {f1 : Int} {f2 : Int} {f3 : Int} {f4 : Int} {f5 : Bool} {f6 : Bool} {f7 : Int} {f8 : Int} (h : IsS24 w0 W g f0 f1 f2 f3 f4 f5 f6 f7 f8) (x : Int) : IsS24 w0 (W.setCell ⟨g, 2, none⟩ (.int .i64 x)) g f0 f1 x f3 f4 f5 f6 f7 f8 := by
  obtain ⟨hb, hg⟩ := h
  exact ⟨by simpa using blk_set hb 2 (.int .i64 x), hg⟩
theorem cellS24_3 {W : World} {g : Nat} {f0 : Int} {f1 : Int} {f2 : Int} {f3 : Int} {f4 : Int} {f5 : Bool} {f6 : Bool} {f7 : Int} {f8 : Int} (h : W.heap[g]? = some (.cells #[.int .i64 f0, .int .i64 f1, .int .i64 f2, .int .i64 f3, .int .i64 f4, .bool f5, .bool f6, .int .i64 f7, .int .u32 f8] 24 (0, 0))) : W.cell? ⟨g, 3, none⟩ = some (.int .i64 f3) := (blk_cell h 3).trans rfl
theorem IsS24.set_3 {w0 W : World} {g : Nat} {f0 : Int} {f1 : Int} {f2 : Int} {f3 : Int} {f4 : Int} {f5 : Bool} {f6 : Bool} {f7 : Int} {f8 : Int} (h : IsS24 w0 W g f0 f1 f2 f3 f4 f5 f6 f7 f8) (x : Int) : IsS24 w0 (W.setCell ⟨g, 3, none⟩ (.int .i64 x)) g f0 f1 f2 x f4 f5 f6 f7 f8 := by
  obtain ⟨hb, hg⟩ := h
  exact ⟨by simpa using blk_set hb 3 (.int .i64 x), hg⟩
theorem cellS24_4 {W : World} {g : Nat} {f0 : Int} {f1 : Int} {f2 : Int} {f3 : Int} {f4 : Int} {f5 : Bool} {f6 : Bool} {f7 : Int} {f8 : Int} (h : W.heap[g]? = some (.cells #[.int .i64 f0, .int .i64 f1, .int .i64 f2, .int .i64 f3, .int .i64 f4, .bool f5, .bool f6, .int .i64 f7, .int .u32 f8] 24 (0, 0))) : W.cell? ⟨g, 4, none⟩ = some (.int .i64 f4) := (blk_cell h 4).trans rfl
theorem IsS24.set_4 {w0 W : World} {g : Nat} {f0 : Int} {f1 : Int} {f2 : Int} {f3 : Int} {f4 : Int} {f5 : Bool} {f6 : Bool} {f7 : Int} {f8 : Int} (h : IsS24 w0 W g f0 f1 f2 f3 f4 f5 f6 f7 f8) (x : Int) : IsS24 w0 (W.setCell ⟨g, 4, none⟩ (.int .i64 x)) g f0 f1 f2 f3 x f5 f6 f7 f8 := by
  obtain ⟨hb, hg⟩ := h
  exact ⟨by simpa using blk_set hb 4 (.int .i64 x), hg⟩
theorem cellS24_5 {W : World} {g : Nat} {f0 : Int} {f1 : Int} {f2 : Int} {f3 : Int} {f4 : Int} {f5 : Bool} {f6 : Bool} {f7 : Int} {f8 : Int} (h : W.heap[g]? = some (.cells #[.int .i64 f0, .int .i64 f1, .int .i64 f2, .int .i64 f3, .int .i64 f4, .bool f5, .bool f6, .int .i64 f7, .int .u32 f8] 24 (0, 0))) : W.cell? ⟨g, 5, none⟩ = some (.bool f5) := (blk_cell h 5).trans rfl
theorem IsS24.set_5 {w0 W : World} {g : Nat} {f0 : Int} {f1 : Int} {f2 : Int} {f3 : Int} {f4 : Int} {f5 : Bool} {f6 : Bool} {f7 : Int} {f8 : Int} (h : IsS24 w0 W g f0 f1 f2 f3 f4 f5 f6 f7 f8) (x : Bool) : IsS24 w0 (W.setCell ⟨g, 5, none⟩ (.bool x)) g f0 f1 f2 f3 f4 x f6 f7 f8 := by
  obtain ⟨hb, hg⟩ := h
  exact ⟨by simpa using blk_set hb 5 (.bool x), hg⟩
theorem cellS24_6 {W : World} {g : Nat} {f0 : Int} {f1 : Int} {f2 : Int} {f3 : Int} {f4 : Int} {f5 : Bool} {f6 : Bool} {f7 : Int} {f8 : Int} (h : W.heap[g]? = some (.cells #[.int .i64 f0, .int .i64 f1, .int .i64 f2, .int .i64 f3, .int .i64 f4, .bool f5, .bool f6, .int .i64 f7, .int .u32 f8] 24 (0, 0))) : W.cell? ⟨g, 6, none⟩ = some (.bool f6) := (blk_cell h 6).trans rfl
theorem IsS24.set_6 {w0 W : World} {g : Nat} {f0 : Int} {f1 : Int} {f2 : Int} {f3 : Int} {f4 : Int} {f5 : Bool} {f6 : Bool} {f7 : Int} {f8 : Int} (h : IsS24 w0 W g f0 f1 f2 f3 f4 f5 f6 f7 f8) (x : Bool) : IsS24 w0 (W.setCell ⟨g, 6, none⟩ (.bool x)) g f0 f1 f2 f3 f4 f5 x f7 f8 := by
  obtain ⟨hb, hg⟩ := h
  exact ⟨by simpa using blk_set hb 6 (.bool x), hg⟩
theorem cellS24_7 {W : World} {g : Nat} {f0 : Int} {f1 : Int} {f2 : Int} {f3 : Int} {f4 : Int} {f5 : Bool} {f6 : Bool} {f7 : Int} {f8 : Int} (h : W.heap[g]? = some (.cells #[.int .i64 f0, .int .i64 f1, .int .i64 f2, .int .i64 f3, .int .i64 f4, .bool f5, .bool f6, .int .i64 f7, .int .u32 f8] 24 (0, 0))) : W.cell? ⟨g, 7, none⟩ = some (.int .i64 f7) := (blk_cell h 7).trans rfl
theorem IsS24.set_7 {w0 W : World} {g : Nat} {f0 : Int} {f1 : Int} {f2 : Int} {f3 : Int} {f4 : Int} {f5 : Bool} {f6 : Bool} {f7 : Int} {f8 : Int} (h : IsS24 w0 W g f0 f1 f2 f3 f4 f5 f6 f7 f8) (x : Int) : IsS24 w0 (W.setCell ⟨g, 7, none⟩ (.int .i64 x)) g f0 f1 f2 f3 f4 f5 f6 x f8 := by
  obtain ⟨hb, hg⟩ := h
  exact ⟨by simpa using blk_set hb 7 (.int .i64 x), hg⟩
theorem cellS24_8 {W : World} {g : Nat} {f0 : Int} {f1 : Int} {f2 : Int} {f3 : Int} {f4 : Int} {f5 : Bool} {f6 : Bool} {f7 : Int} {f8 : Int} (h : W.heap[g]? = some (.cells #[.int .i64 f0, .int .i64 f1, .int .i64 f2, .int .i64 f3, .int .i64 f4, .bool f5, .bool f6, .int .i64 f7, .int .u32 f8] 24 (0, 0))) : W.cell? ⟨g, 8, none⟩ = some (.int .u32 f8) := (blk_cell h 8).trans rfl
theorem IsS24.set_8 {w0 W : World} {g : Nat} {f0 : Int} {f1 : Int} {f2 : Int} {f3 : Int} {f4 : Int} {f5 : Bool} {f6 : Bool} {f7 : Int} {f8 : Int} (h : IsS24 w0 W g f0 f1 f2 f3 f4 f5 f6 f7 f8) (x : Int) : IsS24 w0 (W.setCell ⟨g, 8, none⟩ (.int .u32 x)) g f0 f1 f2 f3 f4 f5 f6 f7 x := by
  obtain ⟨hb, hg⟩ := h
  exact ⟨by simpa using blk_set hb 8 (.int .u32 x), hg⟩
/-! ### decode_fill: function 34 -/
def decode_fill.f (k : Nat) (s0_0 : Int) (s0_1 : Int) (s0_2 : Int) (s0_3 : Int) (s0_4 : Int) (s0_5 : Bool) (s0_6 : Bool) (s0_7 : Int) (s0_8 : Int) (a1 : Int) (a2 : Int) : Option (Int × Int × Int × Int × Int × Bool × Bool × Int × Int) := (decode_field.f k a1 11 7).bind fun t319 => ((decode_field.f k a1 19 15).bind fun t320 => ((decode_field.f k a1 24 20).bind fun t321 => (if a2 = 0 then ((decode_part.f k a1 31 12 12).bind fun t322 => ((decode_signed.f t322 32).bind fun t323 => (some (s0_0, t319, s0_2, s0_3, t323, s0_5, s0_6, s0_7, s0_8)))) else (if a2 = 1 then ((decode_part.f k a1 31 31 20).bind fun t324 => ((decode_part.f k a1 19 12 12).bind fun t325 => ((decode_part.f k a1 20 20 11).bind fun t326 => ((decode_part.f k a1 30 21 1).bind fun t327 => ((decode_signed.f (Go.bits .or .i64 (Go.bits .or .i64 (Go.bits .or .i64 t324 t325) t326) t327) 21).bind fun t328 => (some (s0_0, t319, s0_2, s0_3, t328, s0_5, s0_6, s0_7, s0_8))))))) else (if a2 = 2 then ((decode_field.f k a1 31 20).bind fun t329 => ((decode_signed.f t329 12).bind fun t330 => (some (s0_0, t319, t320, s0_3, t330, s0_5, s0_6, s0_7, s0_8)))) else (if a2 = 3 then ((decode_part.f k a1 31 31 12).bind fun t331 => ((decode_part.f k a1 7 7 11).bind fun t332 => ((decode_part.f k a1 30 25 5).bind fun t333 => ((decode_part.f k a1 11 8 1).bind fun t334 => ((decode_signed.f (Go.bits .or .i64 (Go.bits .or .i64 (Go.bits .or .i64 t331 t332) t333) t334) 13).bind fun t335 => (some (s0_0, s0_1, t320, t321, t335, s0_5, s0_6, s0_7, s0_8))))))) else (if a2 = 4 then ((decode_part.f k a1 31 25 5).bind fun t336 => ((decode_field.f k a1 11 7).bind fun t337 => ((decode_signed.f (Go.bits .or .i64 t336 t337) 12).bind fun t338 => (some (s0_0, s0_1, t320, t321, t338, s0_5, s0_6, s0_7, s0_8))))) else (if a2 = 5 then ((decode_field.f k a1 25 20).bind fun t339 => (some (s0_0, t319, t320, s0_3, t339, s0_5, s0_6, s0_7, s0_8))) else (if a2 = 6 then (some (s0_0, t319, t320, s0_3, t321, s0_5, s0_6, s0_7, s0_8)) else (if a2 = 7 then (some (s0_0, t319, t320, t321, s0_4, s0_5, s0_6, s0_7, s0_8)) else (if a2 = 8 then ((decode_field.f k a1 31 20).bind fun t340 => (some (s0_0, t319, t320, s0_3, t340, s0_5, s0_6, s0_7, s0_8))) else (if a2 = 10 then ((decode_field.f k a1 26 26).bind fun t341 => ((decode_field.f k a1 25 25).bind fun t342 => (some (s0_0, t319, t320, t321, s0_4, (t341 == 1), (t342 == 1), s0_7, s0_8)))) else (some (s0_0, s0_1, s0_2, s0_3, s0_4, s0_5, s0_6, s0_7, s0_8))))))))))))))
theorem decode_fill.mono : ∀ a0 a1 a2 a3 a4 a5 a6 a7 a8 a9 a10 k, LeO (decode_fill.f k a0 a1 a2 a3 a4 a5 a6 a7 a8 a9 a10) (decode_fill.f (k + 1) a0 a1 a2 a3 a4 a5 a6 a7 a8 a9 a10) := by
  intro a0 a1 a2 a3 a4 a5 a6 a7 a8 a9 a10 k
  unfold decode_fill.f
  repeat' first
      | (with_reducible exact decode_field.mono _ _ _ _)
      | (with_reducible exact decode_part.mono _ _ _ _ _)
      | (with_reducible exact LeO.refl _)
      | (with_reducible exact LeO.none _)
      | (with_reducible refine LeO.ite ?_ ?_)
      | (with_reducible refine LeO.bind ?_ (fun _ => ?_))
      | exact decode_field.mono _ _ _ _
      | exact decode_part.mono _ _ _ _ _
      | exact LeO.none _
      | refine LeO.ite ?_ ?_
      | refine LeO.bind ?_ (fun _ => ?_)
set_option maxHeartbeats 8000000 in
set_option maxRecDepth 100000 in
theorem decode_fill.calls (k : Nat) (g : Nat) (s0_0 : Int) (s0_1 : Int) (s0_2 : Int) (s0_3 : Int) (s0_4 : Int) (s0_5 : Bool) (s0_6 : Bool) (s0_7 : Int) (s0_8 : Int) (a1 : Int) (a2 : Int) (r1 : Int) (r2 : Int) (r3 : Int) (r4 : Int) (r5 : Int) (r6 : Bool) (r7 : Bool) (r8 : Int) (r9 : Int) (w0 w : World) (hI : IsS24 w0 w g s0_0 s0_1 s0_2 s0_3 s0_4 s0_5 s0_6 s0_7 s0_8) (hB : Below w0.heap.size w0 w) (h : decode_fill.f k s0_0 s0_1 s0_2 s0_3 s0_4 s0_5 s0_6 s0_7 s0_8 a1 a2 = some (r1, r2, r3, r4, r5, r6, r7, r8, r9)) :
    Calls Tryd.prog 34 #[.pointer (some ⟨g, 0, none⟩), .int .u32 a1, .int .i64 a2] w fun e w' => e = .returned (.tuple #[]) ∧ IsS24 w0 w' g r1 r2 r3 r4 r5 r6 r7 r8 r9 ∧ Below w0.heap.size w0 w' ∧ KeepBut w w' g none := by
  have HI0 := Aside0.mk hI
  have HK := Aside0.mk (KeepBut.refl w g none)
  have HL := Aside0.mk hB.size
  clear hI
  have HW0 := Aside0.mk hB.size
  have HB := Aside0.mk hB
  clear hB
  have H : ((decode_field.f k a1 11 7).bind fun t319 => ((decode_field.f k a1 19 15).bind fun t320 => ((decode_field.f k a1 24 20).bind fun t321 => (if a2 = 0 then ((decode_part.f k a1 31 12 12).bind fun t322 => ((decode_signed.f t322 32).bind fun t323 => (some (s0_0, t319, s0_2, s0_3, t323, s0_5, s0_6, s0_7, s0_8)))) else (if a2 = 1 then ((decode_part.f k a1 31 31 20).bind fun t324 => ((decode_part.f k a1 19 12 12).bind fun t325 => ((decode_part.f k a1 20 20 11).bind fun t326 => ((decode_part.f k a1 30 21 1).bind fun t327 => ((decode_signed.f (Go.bits .or .i64 (Go.bits .or .i64 (Go.bits .or .i64 t324 t325) t326) t327) 21).bind fun t328 => (some (s0_0, t319, s0_2, s0_3, t328, s0_5, s0_6, s0_7, s0_8))))))) else (if a2 = 2 then ((decode_field.f k a1 31 20).bind fun t329 => ((decode_signed.f t329 12).bind fun t330 => (some (s0_0, t319, t320, s0_3, t330, s0_5, s0_6, s0_7, s0_8)))) else (if a2 = 3 then ((decode_part.f k a1 31 31 12).bind fun t331 => ((decode_part.f k a1 7 7 11).bind fun t332 => ((decode_part.f k a1 30 25 5).bind fun t333 => ((decode_part.f k a1 11 8 1).bind fun t334 => ((decode_signed.f (Go.bits .or .i64 (Go.bits .or .i64 (Go.bits .or .i64 t331 t332) t333) t334) 13).bind fun t335 => (some (s0_0, s0_1, t320, t321, t335, s0_5, s0_6, s0_7, s0_8))))))) else (if a2 = 4 then ((decode_part.f k a1 31 25 5).bind fun t336 => ((decode_field.f k a1 11 7).bind fun t337 => ((decode_signed.f (Go.bits .or .i64 t336 t337) 12).bind fun t338 => (some (s0_0, s0_1, t320, t321, t338, s0_5, s0_6, s0_7, s0_8))))) else (if a2 = 5 then ((decode_field.f k a1 25 20).bind fun t339 => (some (s0_0, t319, t320, s0_3, t339, s0_5, s0_6, s0_7, s0_8))) else (if a2 = 6 then (some (s0_0, t319, t320, s0_3, t321, s0_5, s0_6, s0_7, s0_8)) else (if a2 = 7 then (some (s0_0, t319, t320, t321, s0_4, s0_5, s0_6, s0_7, s0_8)) else (if a2 = 8 then ((decode_field.f k a1 31 20).bind fun t340 => (some (s0_0, t319, t320, s0_3, t340, s0_5, s0_6, s0_7, s0_8))) else (if a2 = 10 then ((decode_field.f k a1 26 26).bind fun t341 => ((decode_field.f k a1 25 25).bind fun t342 => (some (s0_0, t319, t320, t321, s0_4, (t341 == 1), (t342 == 1), s0_7, s0_8)))) else (some (s0_0, s0_1, s0_2, s0_3, s0_4, s0_5, s0_6, s0_7, s0_8))))))))))))))) = some (r1, r2, r3, r4, r5, r6, r7, r8, r9) := h
  clear h
  replace H := Option.bind_eq_some_iff.mp H
  obtain ⟨t319, A40, H⟩ := H
  replace H : ((decode_field.f k a1 19 15).bind fun t320 => ((decode_field.f k a1 24 20).bind fun t321 => (if a2 = 0 then ((decode_part.f k a1 31 12 12).bind fun t322 => ((decode_signed.f t322 32).bind fun t323 => (some (s0_0, t319, s0_2, s0_3, t323, s0_5, s0_6, s0_7, s0_8)))) else (if a2 = 1 then ((decode_part.f k a1 31 31 20).bind fun t324 => ((decode_part.f k a1 19 12 12).bind fun t325 => ((decode_part.f k a1 20 20 11).bind fun t326 => ((decode_part.f k a1 30 21 1).bind fun t327 => ((decode_signed.f (Go.bits .or .i64 (Go.bits .or .i64 (Go.bits .or .i64 t324 t325) t326) t327) 21).bind fun t328 => (some (s0_0, t319, s0_2, s0_3, t328, s0_5, s0_6, s0_7, s0_8))))))) else (if a2 = 2 then ((decode_field.f k a1 31 20).bind fun t329 => ((decode_signed.f t329 12).bind fun t330 => (some (s0_0, t319, t320, s0_3, t330, s0_5, s0_6, s0_7, s0_8)))) else (if a2 = 3 then ((decode_part.f k a1 31 31 12).bind fun t331 => ((decode_part.f k a1 7 7 11).bind fun t332 => ((decode_part.f k a1 30 25 5).bind fun t333 => ((decode_part.f k a1 11 8 1).bind fun t334 => ((decode_signed.f (Go.bits .or .i64 (Go.bits .or .i64 (Go.bits .or .i64 t331 t332) t333) t334) 13).bind fun t335 => (some (s0_0, s0_1, t320, t321, t335, s0_5, s0_6, s0_7, s0_8))))))) else (if a2 = 4 then ((decode_part.f k a1 31 25 5).bind fun t336 => ((decode_field.f k a1 11 7).bind fun t337 => ((decode_signed.f (Go.bits .or .i64 t336 t337) 12).bind fun t338 => (some (s0_0, s0_1, t320, t321, t338, s0_5, s0_6, s0_7, s0_8))))) else (if a2 = 5 then ((decode_field.f k a1 25 20).bind fun t339 => (some (s0_0, t319, t320, s0_3, t339, s0_5, s0_6, s0_7, s0_8))) else (if a2 = 6 then (some (s0_0, t319, t320, s0_3, t321, s0_5, s0_6, s0_7, s0_8)) else (if a2 = 7 then (some (s0_0, t319, t320, t321, s0_4, s0_5, s0_6, s0_7, s0_8)) else (if a2 = 8 then ((decode_field.f k a1 31 20).bind fun t340 => (some (s0_0, t319, t320, s0_3, t340, s0_5, s0_6, s0_7, s0_8))) else (if a2 = 10 then ((decode_field.f k a1 26 26).bind fun t341 => ((decode_field.f k a1 25 25).bind fun t342 => (some (s0_0, t319, t320, t321, s0_4, (t341 == 1), (t342 == 1), s0_7, s0_8)))) else (some (s0_0, s0_1, s0_2, s0_3, s0_4, s0_5, s0_6, s0_7, s0_8)))))))))))))) = some (r1, r2, r3, r4, r5, r6, r7, r8, r9) := H
  have A4 := Aside0.mk A40
  clear A40
  replace H := Option.bind_eq_some_iff.mp H
  obtain ⟨t320, A50, H⟩ := H
  replace H : ((decode_field.f k a1 24 20).bind fun t321 => (if a2 = 0 then ((decode_part.f k a1 31 12 12).bind fun t322 => ((decode_signed.f t322 32).bind fun t323 => (some (s0_0, t319, s0_2, s0_3, t323, s0_5, s0_6, s0_7, s0_8)))) else (if a2 = 1 then ((decode_part.f k a1 31 31 20).bind fun t324 => ((decode_part.f k a1 19 12 12).bind fun t325 => ((decode_part.f k a1 20 20 11).bind fun t326 => ((decode_part.f k a1 30 21 1).bind fun t327 => ((decode_signed.f (Go.bits .or .i64 (Go.bits .or .i64 (Go.bits .or .i64 t324 t325) t326) t327) 21).bind fun t328 => (some (s0_0, t319, s0_2, s0_3, t328, s0_5, s0_6, s0_7, s0_8))))))) else (if a2 = 2 then ((decode_field.f k a1 31 20).bind fun t329 => ((decode_signed.f t329 12).bind fun t330 => (some (s0_0, t319, t320, s0_3, t330, s0_5, s0_6, s0_7, s0_8)))) else (if a2 = 3 then ((decode_part.f k a1 31 31 12).bind fun t331 => ((decode_part.f k a1 7 7 11).bind fun t332 => ((decode_part.f k a1 30 25 5).bind fun t333 => ((decode_part.f k a1 11 8 1).bind fun t334 => ((decode_signed.f (Go.bits .or .i64 (Go.bits .or .i64 (Go.bits .or .i64 t331 t332) t333) t334) 13).bind fun t335 => (some (s0_0, s0_1, t320, t321, t335, s0_5, s0_6, s0_7, s0_8))))))) else (if a2 = 4 then ((decode_part.f k a1 31 25 5).bind fun t336 => ((decode_field.f k a1 11 7).bind fun t337 => ((decode_signed.f (Go.bits .or .i64 t336 t337) 12).bind fun t338 => (some (s0_0, s0_1, t320, t321, t338, s0_5, s0_6, s0_7, s0_8))))) else (if a2 = 5 then ((decode_field.f k a1 25 20).bind fun t339 => (some (s0_0, t319, t320, s0_3, t339, s0_5, s0_6, s0_7, s0_8))) else (if a2 = 6 then (some (s0_0, t319, t320, s0_3, t321, s0_5, s0_6, s0_7, s0_8)) else (if a2 = 7 then (some (s0_0, t319, t320, t321, s0_4, s0_5, s0_6, s0_7, s0_8)) else (if a2 = 8 then ((decode_field.f k a1 31 20).bind fun t340 => (some (s0_0, t319, t320, s0_3, t340, s0_5, s0_6, s0_7, s0_8))) else (if a2 = 10 then ((decode_field.f k a1 26 26).bind fun t341 => ((decode_field.f k a1 25 25).bind fun t342 => (some (s0_0, t319, t320, t321, s0_4, (t341 == 1), (t342 == 1), s0_7, s0_8)))) else (some (s0_0, s0_1, s0_2, s0_3, s0_4, s0_5, s0_6, s0_7, s0_8))))))))))))) = some (r1, r2, r3, r4, r5, r6, r7, r8, r9) := H
  have A5 := Aside0.mk A50
  clear A50
  replace H := Option.bind_eq_some_iff.mp H
  obtain ⟨t321, A60, H⟩ := H
  replace H : (if a2 = 0 then ((decode_part.f k a1 31 12 12).bind fun t322 => ((decode_signed.f t322 32).bind fun t323 => (some (s0_0, t319, s0_2, s0_3, t323, s0_5, s0_6, s0_7, s0_8)))) else (if a2 = 1 then ((decode_part.f k a1 31 31 20).bind fun t324 => ((decode_part.f k a1 19 12 12).bind fun t325 => ((decode_part.f k a1 20 20 11).bind fun t326 => ((decode_part.f k a1 30 21 1).bind fun t327 => ((decode_signed.f (Go.bits .or .i64 (Go.bits .or .i64 (Go.bits .or .i64 t324 t325) t326) t327) 21).bind fun t328 => (some (s0_0, t319, s0_2, s0_3, t328, s0_5, s0_6, s0_7, s0_8))))))) else (if a2 = 2 then ((decode_field.f k a1 31 20).bind fun t329 => ((decode_signed.f t329 12).bind fun t330 => (some (s0_0, t319, t320, s0_3, t330, s0_5, s0_6, s0_7, s0_8)))) else (if a2 = 3 then ((decode_part.f k a1 31 31 12).bind fun t331 => ((decode_part.f k a1 7 7 11).bind fun t332 => ((decode_part.f k a1 30 25 5).bind fun t333 => ((decode_part.f k a1 11 8 1).bind fun t334 => ((decode_signed.f (Go.bits .or .i64 (Go.bits .or .i64 (Go.bits .or .i64 t331 t332) t333) t334) 13).bind fun t335 => (some (s0_0, s0_1, t320, t321, t335, s0_5, s0_6, s0_7, s0_8))))))) else (if a2 = 4 then ((decode_part.f k a1 31 25 5).bind fun t336 => ((decode_field.f k a1 11 7).bind fun t337 => ((decode_signed.f (Go.bits .or .i64 t336 t337) 12).bind fun t338 => (some (s0_0, s0_1, t320, t321, t338, s0_5, s0_6, s0_7, s0_8))))) else (if a2 = 5 then ((decode_field.f k a1 25 20).bind fun t339 => (some (s0_0, t319, t320, s0_3, t339, s0_5, s0_6, s0_7, s0_8))) else (if a2 = 6 then (some (s0_0, t319, t320, s0_3, t321, s0_5, s0_6, s0_7, s0_8)) else (if a2 = 7 then (some (s0_0, t319, t320, t321, s0_4, s0_5, s0_6, s0_7, s0_8)) else (if a2 = 8 then ((decode_field.f k a1 31 20).bind fun t340 => (some (s0_0, t319, t320, s0_3, t340, s0_5, s0_6, s0_7, s0_8))) else (if a2 = 10 then ((decode_field.f k a1 26 26).bind fun t341 => ((decode_field.f k a1 25 25).bind fun t342 => (some (s0_0, t319, t320, t321, s0_4, (t341 == 1), (t342 == 1), s0_7, s0_8)))) else (some (s0_0, s0_1, s0_2, s0_3, s0_4, s0_5, s0_6, s0_7, s0_8)))))))))))) = some (r1, r2, r3, r4, r5, r6, r7, r8, r9) := H
  have A6 := Aside0.mk A60
  clear A60
  by_cases c7 : a2 = 0
  · rw [if_pos c7] at H
    have c7b0 : (a2 == 0) = true := beq_iff_eq.mpr c7
    have c7b1 : (a2 != 0) = false := bne_eq_false_iff_eq.mpr c7
    clear c7
    replace H := Option.bind_eq_some_iff.mp H
    obtain ⟨t322, A80, H⟩ := H
    replace H : ((decode_signed.f t322 32).bind fun t323 => (some (s0_0, t319, s0_2, s0_3, t323, s0_5, s0_6, s0_7, s0_8))) = some (r1, r2, r3, r4, r5, r6, r7, r8, r9) := H
    have A8 := Aside0.mk A80
    clear A80
    replace H := Option.bind_eq_some_iff.mp H
    obtain ⟨t323, A90, H⟩ := H
    replace H : (some (s0_0, t319, s0_2, s0_3, t323, s0_5, s0_6, s0_7, s0_8)) = some (r1, r2, r3, r4, r5, r6, r7, r8, r9) := H
    have A9 := Aside0.mk A90
    clear A90
    simp only [Option.some.injEq, Prod.mk.injEq] at H
    obtain ⟨rfl, rfl, rfl, rfl, rfl, rfl, rfl, rfl, rfl⟩ := H
    go_enter Tryd.func34, Tryd.ntmps34
    go_wp2_with (first | ((with_reducible refine gate_callee (f := 49) rfl ?_); refine goesL_ (some 10) rfl rfl Tryd.func49 (by kernel_rfl) rfl #[.int .u32 a1, .int .i64 11, .int .i64 7] rfl (by (try simp only [List.map_toArray, List.map_cons, List.map_nil]); first | done | rfl | (simp only [List.length_drop, List.length_take]; rfl)) ?_; (with_reducible refine (decode_field.calls k a1 11 7 t319 _ A4.out).mono ?_); rintro e w' ⟨rfl, ⟨nd, rfl⟩⟩; refine ⟨_, rfl, ?_⟩) | ((with_reducible refine gate_callee (f := 49) rfl ?_); refine goesL_ (some 12) rfl rfl Tryd.func49 (by kernel_rfl) rfl #[.int .u32 a1, .int .i64 19, .int .i64 15] rfl (by (try simp only [List.map_toArray, List.map_cons, List.map_nil]); first | done | rfl | (simp only [List.length_drop, List.length_take]; rfl)) ?_; (with_reducible refine (decode_field.calls k a1 19 15 t320 _ A5.out).mono ?_); rintro e w' ⟨rfl, ⟨nd, rfl⟩⟩; refine ⟨_, rfl, ?_⟩) | ((with_reducible refine gate_callee (f := 49) rfl ?_); refine goesL_ (some 14) rfl rfl Tryd.func49 (by kernel_rfl) rfl #[.int .u32 a1, .int .i64 24, .int .i64 20] rfl (by (try simp only [List.map_toArray, List.map_cons, List.map_nil]); first | done | rfl | (simp only [List.length_drop, List.length_take]; rfl)) ?_; (with_reducible refine (decode_field.calls k a1 24 20 t321 _ A6.out).mono ?_); rintro e w' ⟨rfl, ⟨nd, rfl⟩⟩; refine ⟨_, rfl, ?_⟩) | ((with_reducible refine gate_callee (f := 51) rfl ?_); refine goesL_ (some 22) rfl rfl Tryd.func51 (by kernel_rfl) rfl #[.int .u32 a1, .int .i64 31, .int .i64 12, .int .i64 12] rfl (by (try simp only [List.map_toArray, List.map_cons, List.map_nil]); first | done | rfl | (simp only [List.length_drop, List.length_take]; rfl)) ?_; (with_reducible refine (decode_part.calls k a1 31 12 12 t322 _ A8.out).mono ?_); rintro e w' ⟨rfl, ⟨nd, rfl⟩⟩; refine ⟨_, rfl, ?_⟩) | ((with_reducible refine gate_callee (f := 50) rfl ?_); refine goesL_ (some 23) rfl rfl Tryd.func50 (by kernel_rfl) rfl #[.int .i64 t322, .int .i64 32] rfl (by (try simp only [List.map_toArray, List.map_cons, List.map_nil]); first | done | rfl | (simp only [List.length_drop, List.length_take]; rfl)) ?_; (with_reducible refine (decode_signed.calls t322 32 t323 _ A9.out).mono ?_); rintro e w' ⟨rfl, ⟨nd, rfl⟩⟩; refine ⟨_, rfl, ?_⟩; obtain ⟨HGz10, hgz10⟩ := HI0.out; have hcz10_0 := cellS24_0 HGz10; have hcz10_1 := cellS24_1 HGz10; have hcz10_2 := cellS24_2 HGz10; have hcz10_3 := cellS24_3 HGz10; have hcz10_4 := cellS24_4 HGz10; have hcz10_5 := cellS24_5 HGz10; have hcz10_6 := cellS24_6 HGz10; have hcz10_7 := cellS24_7 HGz10; have hcz10_8 := cellS24_8 HGz10; have hfz10_0 := blk_frozen HGz10 0; have hfz10_1 := blk_frozen HGz10 1; have hfz10_2 := blk_frozen HGz10 2; have hfz10_3 := blk_frozen HGz10 3; have hfz10_4 := blk_frozen HGz10 4; have hfz10_5 := blk_frozen HGz10 5; have hfz10_6 := blk_frozen HGz10 6; have hfz10_7 := blk_frozen HGz10 7; have hfz10_8 := blk_frozen HGz10 8; clear HGz10 hgz10))
    first | go_end0 | ((try simp only [Exit.inBlock, Exit.then]); refine bodyPost_ret (results_none rfl _ _ _) rfl ?_)
    exact ⟨by first | rfl | (simp [errW_none, errW_some] <;> rfl) | (simp [*, errW_none, errW_some] <;> rfl), by repeat (first | (with_reducible first | exact HI0.out | apply IsS24.alloc | apply IsS24.drewN | apply IsS24.drew | apply IsS24.set_0 | apply IsS24.set_1 | apply IsS24.set_2 | apply IsS24.set_3 | apply IsS24.set_4 | apply IsS24.set_5 | apply IsS24.set_6 | apply IsS24.set_7 | apply IsS24.set_8) | exact HI0.out), by repeat (first | (with_reducible first | exact HB.out | apply below_alloc | apply pw_below_drewN | apply below_drew1 | refine below_set ?_ (IsS24.ge HI0.out)) | exact HB.out), by repeat (first | (with_reducible first | exact HK.out | apply KeepBut.set_ | apply keep_drewN | apply keep_drew | apply keep_alloc) | exact HK.out)⟩
  · rw [if_neg c7] at H
    have c7b0 : (a2 == 0) = false := beq_eq_false_iff_ne.mpr c7
    have c7b1 : (a2 != 0) = true := bne_iff_ne.mpr c7
    by_cases c11 : a2 = 1
    · rw [if_pos c11] at H
      have c11b0 : (a2 == 1) = true := beq_iff_eq.mpr c11
      have c11b1 : (a2 != 1) = false := bne_eq_false_iff_eq.mpr c11
      clear c11
      replace H := Option.bind_eq_some_iff.mp H
      obtain ⟨t324, A120, H⟩ := H
      replace H : ((decode_part.f k a1 19 12 12).bind fun t325 => ((decode_part.f k a1 20 20 11).bind fun t326 => ((decode_part.f k a1 30 21 1).bind fun t327 => ((decode_signed.f (Go.bits .or .i64 (Go.bits .or .i64 (Go.bits .or .i64 t324 t325) t326) t327) 21).bind fun t328 => (some (s0_0, t319, s0_2, s0_3, t328, s0_5, s0_6, s0_7, s0_8)))))) = some (r1, r2, r3, r4, r5, r6, r7, r8, r9) := H
      have A12 := Aside0.mk A120
      clear A120
      replace H := Option.bind_eq_some_iff.mp H
      obtain ⟨t325, A130, H⟩ := H
      replace H : ((decode_part.f k a1 20 20 11).bind fun t326 => ((decode_part.f k a1 30 21 1).bind fun t327 => ((decode_signed.f (Go.bits .or .i64 (Go.bits .or .i64 (Go.bits .or .i64 t324 t325) t326) t327) 21).bind fun t328 => (some (s0_0, t319, s0_2, s0_3, t328, s0_5, s0_6, s0_7, s0_8))))) = some (r1, r2, r3, r4, r5, r6, r7, r8, r9) := H
      have A13 := Aside0.mk A130
      clear A130
      replace H := Option.bind_eq_some_iff.mp H
      obtain ⟨t326, A140, H⟩ := H
      replace H : ((decode_part.f k a1 30 21 1).bind fun t327 => ((decode_signed.f (Go.bits .or .i64 (Go.bits .or .i64 (Go.bits .or .i64 t324 t325) t326) t327) 21).bind fun t328 => (some (s0_0, t319, s0_2, s0_3, t328, s0_5, s0_6, s0_7, s0_8)))) = some (r1, r2, r3, r4, r5, r6, r7, r8, r9) := H
      have A14 := Aside0.mk A140
      clear A140
      replace H := Option.bind_eq_some_iff.mp H
      obtain ⟨t327, A150, H⟩ := H
      replace H : ((decode_signed.f (Go.bits .or .i64 (Go.bits .or .i64 (Go.bits .or .i64 t324 t325) t326) t327) 21).bind fun t328 => (some (s0_0, t319, s0_2, s0_3, t328, s0_5, s0_6, s0_7, s0_8))) = some (r1, r2, r3, r4, r5, r6, r7, r8, r9) := H
      have A15 := Aside0.mk A150
      clear A150
      replace H := Option.bind_eq_some_iff.mp H
      obtain ⟨t328, A160, H⟩ := H
      replace H : (some (s0_0, t319, s0_2, s0_3, t328, s0_5, s0_6, s0_7, s0_8)) = some (r1, r2, r3, r4, r5, r6, r7, r8, r9) := H
      have A16 := Aside0.mk A160
      clear A160
      simp only [Option.some.injEq, Prod.mk.injEq] at H
      obtain ⟨rfl, rfl, rfl, rfl, rfl, rfl, rfl, rfl, rfl⟩ := H
      go_enter Tryd.func34, Tryd.ntmps34
      go_wp2_with (first | ((with_reducible refine gate_callee (f := 49) rfl ?_); refine goesL_ (some 10) rfl rfl Tryd.func49 (by kernel_rfl) rfl #[.int .u32 a1, .int .i64 11, .int .i64 7] rfl (by (try simp only [List.map_toArray, List.map_cons, List.map_nil]); first | done | rfl | (simp only [List.length_drop, List.length_take]; rfl)) ?_; (with_reducible refine (decode_field.calls k a1 11 7 t319 _ A4.out).mono ?_); rintro e w' ⟨rfl, ⟨nd, rfl⟩⟩; refine ⟨_, rfl, ?_⟩) | ((with_reducible refine gate_callee (f := 49) rfl ?_); refine goesL_ (some 12) rfl rfl Tryd.func49 (by kernel_rfl) rfl #[.int .u32 a1, .int .i64 19, .int .i64 15] rfl (by (try simp only [List.map_toArray, List.map_cons, List.map_nil]); first | done | rfl | (simp only [List.length_drop, List.length_take]; rfl)) ?_; (with_reducible refine (decode_field.calls k a1 19 15 t320 _ A5.out).mono ?_); rintro e w' ⟨rfl, ⟨nd, rfl⟩⟩; refine ⟨_, rfl, ?_⟩) | ((with_reducible refine gate_callee (f := 49) rfl ?_); refine goesL_ (some 14) rfl rfl Tryd.func49 (by kernel_rfl) rfl #[.int .u32 a1, .int .i64 24, .int .i64 20] rfl (by (try simp only [List.map_toArray, List.map_cons, List.map_nil]); first | done | rfl | (simp only [List.length_drop, List.length_take]; rfl)) ?_; (with_reducible refine (decode_field.calls k a1 24 20 t321 _ A6.out).mono ?_); rintro e w' ⟨rfl, ⟨nd, rfl⟩⟩; refine ⟨_, rfl, ?_⟩) | ((with_reducible refine gate_callee (f := 51) rfl ?_); refine goesL_ (some 34) rfl rfl Tryd.func51 (by kernel_rfl) rfl #[.int .u32 a1, .int .i64 31, .int .i64 31, .int .i64 20] rfl (by (try simp only [List.map_toArray, List.map_cons, List.map_nil]); first | done | rfl | (simp only [List.length_drop, List.length_take]; rfl)) ?_; (with_reducible refine (decode_part.calls k a1 31 31 20 t324 _ A12.out).mono ?_); rintro e w' ⟨rfl, ⟨nd, rfl⟩⟩; refine ⟨_, rfl, ?_⟩) | ((with_reducible refine gate_callee (f := 51) rfl ?_); refine goesL_ (some 36) rfl rfl Tryd.func51 (by kernel_rfl) rfl #[.int .u32 a1, .int .i64 19, .int .i64 12, .int .i64 12] rfl (by (try simp only [List.map_toArray, List.map_cons, List.map_nil]); first | done | rfl | (simp only [List.length_drop, List.length_take]; rfl)) ?_; (with_reducible refine (decode_part.calls k a1 19 12 12 t325 _ A13.out).mono ?_); rintro e w' ⟨rfl, ⟨nd, rfl⟩⟩; refine ⟨_, rfl, ?_⟩) | ((with_reducible refine gate_callee (f := 51) rfl ?_); refine goesL_ (some 39) rfl rfl Tryd.func51 (by kernel_rfl) rfl #[.int .u32 a1, .int .i64 20, .int .i64 20, .int .i64 11] rfl (by (try simp only [List.map_toArray, List.map_cons, List.map_nil]); first | done | rfl | (simp only [List.length_drop, List.length_take]; rfl)) ?_; (with_reducible refine (decode_part.calls k a1 20 20 11 t326 _ A14.out).mono ?_); rintro e w' ⟨rfl, ⟨nd, rfl⟩⟩; refine ⟨_, rfl, ?_⟩) | ((with_reducible refine gate_callee (f := 51) rfl ?_); refine goesL_ (some 42) rfl rfl Tryd.func51 (by kernel_rfl) rfl #[.int .u32 a1, .int .i64 30, .int .i64 21, .int .i64 1] rfl (by (try simp only [List.map_toArray, List.map_cons, List.map_nil]); first | done | rfl | (simp only [List.length_drop, List.length_take]; rfl)) ?_; (with_reducible refine (decode_part.calls k a1 30 21 1 t327 _ A15.out).mono ?_); rintro e w' ⟨rfl, ⟨nd, rfl⟩⟩; refine ⟨_, rfl, ?_⟩) | ((with_reducible refine gate_callee (f := 50) rfl ?_); refine goesL_ (some 44) rfl rfl Tryd.func50 (by kernel_rfl) rfl #[.int .i64 (Go.bits .or .i64 (Go.bits .or .i64 (Go.bits .or .i64 t324 t325) t326) t327), .int .i64 21] rfl (by (try simp only [List.map_toArray, List.map_cons, List.map_nil]); first | done | rfl | (simp only [List.length_drop, List.length_take]; rfl)) ?_; (with_reducible refine (decode_signed.calls (Go.bits .or .i64 (Go.bits .or .i64 (Go.bits .or .i64 t324 t325) t326) t327) 21 t328 _ A16.out).mono ?_); rintro e w' ⟨rfl, ⟨nd, rfl⟩⟩; refine ⟨_, rfl, ?_⟩; obtain ⟨HGz17, hgz17⟩ := HI0.out; have hcz17_0 := cellS24_0 HGz17; have hcz17_1 := cellS24_1 HGz17; have hcz17_2 := cellS24_2 HGz17; have hcz17_3 := cellS24_3 HGz17; have hcz17_4 := cellS24_4 HGz17; have hcz17_5 := cellS24_5 HGz17; have hcz17_6 := cellS24_6 HGz17; have hcz17_7 := cellS24_7 HGz17; have hcz17_8 := cellS24_8 HGz17; have hfz17_0 := blk_frozen HGz17 0; have hfz17_1 := blk_frozen HGz17 1; have hfz17_2 := blk_frozen HGz17 2; have hfz17_3 := blk_frozen HGz17 3; have hfz17_4 := blk_frozen HGz17 4; have hfz17_5 := blk_frozen HGz17 5; have hfz17_6 := blk_frozen HGz17 6; have hfz17_7 := blk_frozen HGz17 7; have hfz17_8 := blk_frozen HGz17 8; clear HGz17 hgz17))
      first | go_end0 | ((try simp only [Exit.inBlock, Exit.then]); refine bodyPost_ret (results_none rfl _ _ _) rfl ?_)
      exact ⟨by first | rfl | (simp [errW_none, errW_some] <;> rfl) | (simp [*, errW_none, errW_some] <;> rfl), by repeat (first | (with_reducible first | exact HI0.out | apply IsS24.alloc | apply IsS24.drewN | apply IsS24.drew | apply IsS24.set_0 | apply IsS24.set_1 | apply IsS24.set_2 | apply IsS24.set_3 | apply IsS24.set_4 | apply IsS24.set_5 | apply IsS24.set_6 | apply IsS24.set_7 | apply IsS24.set_8) | exact HI0.out), by repeat (first | (with_reducible first | exact HB.out | apply below_alloc | apply pw_below_drewN | apply below_drew1 | refine below_set ?_ (IsS24.ge HI0.out)) | exact HB.out), by repeat (first | (with_reducible first | exact HK.out | apply KeepBut.set_ | apply keep_drewN | apply keep_drew | apply keep_alloc) | exact HK.out)⟩
    · rw [if_neg c11] at H
      have c11b0 : (a2 == 1) = false := beq_eq_false_iff_ne.mpr c11
      have c11b1 : (a2 != 1) = true := bne_iff_ne.mpr c11
      by_cases c18 : a2 = 2
      · rw [if_pos c18] at H
        have c18b0 : (a2 == 2) = true := beq_iff_eq.mpr c18
        have c18b1 : (a2 != 2) = false := bne_eq_false_iff_eq.mpr c18
        clear c18
        replace H := Option.bind_eq_some_iff.mp H
        obtain ⟨t329, A190, H⟩ := H
        replace H : ((decode_signed.f t329 12).bind fun t330 => (some (s0_0, t319, t320, s0_3, t330, s0_5, s0_6, s0_7, s0_8))) = some (r1, r2, r3, r4, r5, r6, r7, r8, r9) := H
        have A19 := Aside0.mk A190
        clear A190
        replace H := Option.bind_eq_some_iff.mp H
        obtain ⟨t330, A200, H⟩ := H
        replace H : (some (s0_0, t319, t320, s0_3, t330, s0_5, s0_6, s0_7, s0_8)) = some (r1, r2, r3, r4, r5, r6, r7, r8, r9) := H
        have A20 := Aside0.mk A200
        clear A200
        simp only [Option.some.injEq, Prod.mk.injEq] at H
        obtain ⟨rfl, rfl, rfl, rfl, rfl, rfl, rfl, rfl, rfl⟩ := H
        go_enter Tryd.func34, Tryd.ntmps34
        go_wp2_with (first | ((with_reducible refine gate_callee (f := 49) rfl ?_); refine goesL_ (some 10) rfl rfl Tryd.func49 (by kernel_rfl) rfl #[.int .u32 a1, .int .i64 11, .int .i64 7] rfl (by (try simp only [List.map_toArray, List.map_cons, List.map_nil]); first | done | rfl | (simp only [List.length_drop, List.length_take]; rfl)) ?_; (with_reducible refine (decode_field.calls k a1 11 7 t319 _ A4.out).mono ?_); rintro e w' ⟨rfl, ⟨nd, rfl⟩⟩; refine ⟨_, rfl, ?_⟩) | ((with_reducible refine gate_callee (f := 49) rfl ?_); refine goesL_ (some 12) rfl rfl Tryd.func49 (by kernel_rfl) rfl #[.int .u32 a1, .int .i64 19, .int .i64 15] rfl (by (try simp only [List.map_toArray, List.map_cons, List.map_nil]); first | done | rfl | (simp only [List.length_drop, List.length_take]; rfl)) ?_; (with_reducible refine (decode_field.calls k a1 19 15 t320 _ A5.out).mono ?_); rintro e w' ⟨rfl, ⟨nd, rfl⟩⟩; refine ⟨_, rfl, ?_⟩) | ((with_reducible refine gate_callee (f := 49) rfl ?_); refine goesL_ (some 14) rfl rfl Tryd.func49 (by kernel_rfl) rfl #[.int .u32 a1, .int .i64 24, .int .i64 20] rfl (by (try simp only [List.map_toArray, List.map_cons, List.map_nil]); first | done | rfl | (simp only [List.length_drop, List.length_take]; rfl)) ?_; (with_reducible refine (decode_field.calls k a1 24 20 t321 _ A6.out).mono ?_); rintro e w' ⟨rfl, ⟨nd, rfl⟩⟩; refine ⟨_, rfl, ?_⟩) | ((with_reducible refine gate_callee (f := 49) rfl ?_); refine goesL_ (some 57) rfl rfl Tryd.func49 (by kernel_rfl) rfl #[.int .u32 a1, .int .i64 31, .int .i64 20] rfl (by (try simp only [List.map_toArray, List.map_cons, List.map_nil]); first | done | rfl | (simp only [List.length_drop, List.length_take]; rfl)) ?_; (with_reducible refine (decode_field.calls k a1 31 20 t329 _ A19.out).mono ?_); rintro e w' ⟨rfl, ⟨nd, rfl⟩⟩; refine ⟨_, rfl, ?_⟩) | ((with_reducible refine gate_callee (f := 50) rfl ?_); refine goesL_ (some 58) rfl rfl Tryd.func50 (by kernel_rfl) rfl #[.int .i64 t329, .int .i64 12] rfl (by (try simp only [List.map_toArray, List.map_cons, List.map_nil]); first | done | rfl | (simp only [List.length_drop, List.length_take]; rfl)) ?_; (with_reducible refine (decode_signed.calls t329 12 t330 _ A20.out).mono ?_); rintro e w' ⟨rfl, ⟨nd, rfl⟩⟩; refine ⟨_, rfl, ?_⟩; obtain ⟨HGz21, hgz21⟩ := HI0.out; have hcz21_0 := cellS24_0 HGz21; have hcz21_1 := cellS24_1 HGz21; have hcz21_2 := cellS24_2 HGz21; have hcz21_3 := cellS24_3 HGz21; have hcz21_4 := cellS24_4 HGz21; have hcz21_5 := cellS24_5 HGz21; have hcz21_6 := cellS24_6 HGz21; have hcz21_7 := cellS24_7 HGz21; have hcz21_8 := cellS24_8 HGz21; have hfz21_0 := blk_frozen HGz21 0; have hfz21_1 := blk_frozen HGz21 1; have hfz21_2 := blk_frozen HGz21 2; have hfz21_3 := blk_frozen HGz21 3; have hfz21_4 := blk_frozen HGz21 4; have hfz21_5 := blk_frozen HGz21 5; have hfz21_6 := blk_frozen HGz21 6; have hfz21_7 := blk_frozen HGz21 7; have hfz21_8 := blk_frozen HGz21 8; clear HGz21 hgz21))
        first | go_end0 | ((try simp only [Exit.inBlock, Exit.then]); refine bodyPost_ret (results_none rfl _ _ _) rfl ?_)
        exact ⟨by first | rfl | (simp [errW_none, errW_some] <;> rfl) | (simp [*, errW_none, errW_some] <;> rfl), by repeat (first | (with_reducible first | exact HI0.out | apply IsS24.alloc | apply IsS24.drewN | apply IsS24.drew | apply IsS24.set_0 | apply IsS24.set_1 | apply IsS24.set_2 | apply IsS24.set_3 | apply IsS24.set_4 | apply IsS24.set_5 | apply IsS24.set_6 | apply IsS24.set_7 | apply IsS24.set_8) | exact HI0.out), by repeat (first | (with_reducible first | exact HB.out | apply below_alloc | apply pw_below_drewN | apply below_drew1 | refine below_set ?_ (IsS24.ge HI0.out)) | exact HB.out), by repeat (first | (with_reducible first | exact HK.out | apply KeepBut.set_ | apply keep_drewN | apply keep_drew | apply keep_alloc) | exact HK.out)⟩
      · rw [if_neg c18] at H
        have c18b0 : (a2 == 2) = false := beq_eq_false_iff_ne.mpr c18
        have c18b1 : (a2 != 2) = true := bne_iff_ne.mpr c18
        by_cases c22 : a2 = 3
        · rw [if_pos c22] at H
          have c22b0 : (a2 == 3) = true := beq_iff_eq.mpr c22
          have c22b1 : (a2 != 3) = false := bne_eq_false_iff_eq.mpr c22
          clear c22
          replace H := Option.bind_eq_some_iff.mp H
          obtain ⟨t331, A230, H⟩ := H
          replace H : ((decode_part.f k a1 7 7 11).bind fun t332 => ((decode_part.f k a1 30 25 5).bind fun t333 => ((decode_part.f k a1 11 8 1).bind fun t334 => ((decode_signed.f (Go.bits .or .i64 (Go.bits .or .i64 (Go.bits .or .i64 t331 t332) t333) t334) 13).bind fun t335 => (some (s0_0, s0_1, t320, t321, t335, s0_5, s0_6, s0_7, s0_8)))))) = some (r1, r2, r3, r4, r5, r6, r7, r8, r9) := H
          have A23 := Aside0.mk A230
          clear A230
          replace H := Option.bind_eq_some_iff.mp H
          obtain ⟨t332, A240, H⟩ := H
          replace H : ((decode_part.f k a1 30 25 5).bind fun t333 => ((decode_part.f k a1 11 8 1).bind fun t334 => ((decode_signed.f (Go.bits .or .i64 (Go.bits .or .i64 (Go.bits .or .i64 t331 t332) t333) t334) 13).bind fun t335 => (some (s0_0, s0_1, t320, t321, t335, s0_5, s0_6, s0_7, s0_8))))) = some (r1, r2, r3, r4, r5, r6, r7, r8, r9) := H
          have A24 := Aside0.mk A240
          clear A240
          replace H := Option.bind_eq_some_iff.mp H
          obtain ⟨t333, A250, H⟩ := H
          replace H : ((decode_part.f k a1 11 8 1).bind fun t334 => ((decode_signed.f (Go.bits .or .i64 (Go.bits .or .i64 (Go.bits .or .i64 t331 t332) t333) t334) 13).bind fun t335 => (some (s0_0, s0_1, t320, t321, t335, s0_5, s0_6, s0_7, s0_8)))) = some (r1, r2, r3, r4, r5, r6, r7, r8, r9) := H
          have A25 := Aside0.mk A250
          clear A250
          replace H := Option.bind_eq_some_iff.mp H
          obtain ⟨t334, A260, H⟩ := H
          replace H : ((decode_signed.f (Go.bits .or .i64 (Go.bits .or .i64 (Go.bits .or .i64 t331 t332) t333) t334) 13).bind fun t335 => (some (s0_0, s0_1, t320, t321, t335, s0_5, s0_6, s0_7, s0_8))) = some (r1, r2, r3, r4, r5, r6, r7, r8, r9) := H
          have A26 := Aside0.mk A260
          clear A260
          replace H := Option.bind_eq_some_iff.mp H
          obtain ⟨t335, A270, H⟩ := H
          replace H : (some (s0_0, s0_1, t320, t321, t335, s0_5, s0_6, s0_7, s0_8)) = some (r1, r2, r3, r4, r5, r6, r7, r8, r9) := H
          have A27 := Aside0.mk A270
          clear A270
          simp only [Option.some.injEq, Prod.mk.injEq] at H
          obtain ⟨rfl, rfl, rfl, rfl, rfl, rfl, rfl, rfl, rfl⟩ := H
          go_enter Tryd.func34, Tryd.ntmps34
          go_wp2_with (first | ((with_reducible refine gate_callee (f := 49) rfl ?_); refine goesL_ (some 10) rfl rfl Tryd.func49 (by kernel_rfl) rfl #[.int .u32 a1, .int .i64 11, .int .i64 7] rfl (by (try simp only [List.map_toArray, List.map_cons, List.map_nil]); first | done | rfl | (simp only [List.length_drop, List.length_take]; rfl)) ?_; (with_reducible refine (decode_field.calls k a1 11 7 t319 _ A4.out).mono ?_); rintro e w' ⟨rfl, ⟨nd, rfl⟩⟩; refine ⟨_, rfl, ?_⟩) | ((with_reducible refine gate_callee (f := 49) rfl ?_); refine goesL_ (some 12) rfl rfl Tryd.func49 (by kernel_rfl) rfl #[.int .u32 a1, .int .i64 19, .int .i64 15] rfl (by (try simp only [List.map_toArray, List.map_cons, List.map_nil]); first | done | rfl | (simp only [List.length_drop, List.length_take]; rfl)) ?_; (with_reducible refine (decode_field.calls k a1 19 15 t320 _ A5.out).mono ?_); rintro e w' ⟨rfl, ⟨nd, rfl⟩⟩; refine ⟨_, rfl, ?_⟩) | ((with_reducible refine gate_callee (f := 49) rfl ?_); refine goesL_ (some 14) rfl rfl Tryd.func49 (by kernel_rfl) rfl #[.int .u32 a1, .int .i64 24, .int .i64 20] rfl (by (try simp only [List.map_toArray, List.map_cons, List.map_nil]); first | done | rfl | (simp only [List.length_drop, List.length_take]; rfl)) ?_; (with_reducible refine (decode_field.calls k a1 24 20 t321 _ A6.out).mono ?_); rintro e w' ⟨rfl, ⟨nd, rfl⟩⟩; refine ⟨_, rfl, ?_⟩) | ((with_reducible refine gate_callee (f := 51) rfl ?_); refine goesL_ (some 73) rfl rfl Tryd.func51 (by kernel_rfl) rfl #[.int .u32 a1, .int .i64 31, .int .i64 31, .int .i64 12] rfl (by (try simp only [List.map_toArray, List.map_cons, List.map_nil]); first | done | rfl | (simp only [List.length_drop, List.length_take]; rfl)) ?_; (with_reducible refine (decode_part.calls k a1 31 31 12 t331 _ A23.out).mono ?_); rintro e w' ⟨rfl, ⟨nd, rfl⟩⟩; refine ⟨_, rfl, ?_⟩) | ((with_reducible refine gate_callee (f := 51) rfl ?_); refine goesL_ (some 75) rfl rfl Tryd.func51 (by kernel_rfl) rfl #[.int .u32 a1, .int .i64 7, .int .i64 7, .int .i64 11] rfl (by (try simp only [List.map_toArray, List.map_cons, List.map_nil]); first | done | rfl | (simp only [List.length_drop, List.length_take]; rfl)) ?_; (with_reducible refine (decode_part.calls k a1 7 7 11 t332 _ A24.out).mono ?_); rintro e w' ⟨rfl, ⟨nd, rfl⟩⟩; refine ⟨_, rfl, ?_⟩) | ((with_reducible refine gate_callee (f := 51) rfl ?_); refine goesL_ (some 78) rfl rfl Tryd.func51 (by kernel_rfl) rfl #[.int .u32 a1, .int .i64 30, .int .i64 25, .int .i64 5] rfl (by (try simp only [List.map_toArray, List.map_cons, List.map_nil]); first | done | rfl | (simp only [List.length_drop, List.length_take]; rfl)) ?_; (with_reducible refine (decode_part.calls k a1 30 25 5 t333 _ A25.out).mono ?_); rintro e w' ⟨rfl, ⟨nd, rfl⟩⟩; refine ⟨_, rfl, ?_⟩) | ((with_reducible refine gate_callee (f := 51) rfl ?_); refine goesL_ (some 81) rfl rfl Tryd.func51 (by kernel_rfl) rfl #[.int .u32 a1, .int .i64 11, .int .i64 8, .int .i64 1] rfl (by (try simp only [List.map_toArray, List.map_cons, List.map_nil]); first | done | rfl | (simp only [List.length_drop, List.length_take]; rfl)) ?_; (with_reducible refine (decode_part.calls k a1 11 8 1 t334 _ A26.out).mono ?_); rintro e w' ⟨rfl, ⟨nd, rfl⟩⟩; refine ⟨_, rfl, ?_⟩) | ((with_reducible refine gate_callee (f := 50) rfl ?_); refine goesL_ (some 83) rfl rfl Tryd.func50 (by kernel_rfl) rfl #[.int .i64 (Go.bits .or .i64 (Go.bits .or .i64 (Go.bits .or .i64 t331 t332) t333) t334), .int .i64 13] rfl (by (try simp only [List.map_toArray, List.map_cons, List.map_nil]); first | done | rfl | (simp only [List.length_drop, List.length_take]; rfl)) ?_; (with_reducible refine (decode_signed.calls (Go.bits .or .i64 (Go.bits .or .i64 (Go.bits .or .i64 t331 t332) t333) t334) 13 t335 _ A27.out).mono ?_); rintro e w' ⟨rfl, ⟨nd, rfl⟩⟩; refine ⟨_, rfl, ?_⟩; obtain ⟨HGz28, hgz28⟩ := HI0.out; have hcz28_0 := cellS24_0 HGz28; have hcz28_1 := cellS24_1 HGz28; have hcz28_2 := cellS24_2 HGz28; have hcz28_3 := cellS24_3 HGz28; have hcz28_4 := cellS24_4 HGz28; have hcz28_5 := cellS24_5 HGz28; have hcz28_6 := cellS24_6 HGz28; have hcz28_7 := cellS24_7 HGz28; have hcz28_8 := cellS24_8 HGz28; have hfz28_0 := blk_frozen HGz28 0; have hfz28_1 := blk_frozen HGz28 1; have hfz28_2 := blk_frozen HGz28 2; have hfz28_3 := blk_frozen HGz28 3; have hfz28_4 := blk_frozen HGz28 4; have hfz28_5 := blk_frozen HGz28 5; have hfz28_6 := blk_frozen HGz28 6; have hfz28_7 := blk_frozen HGz28 7; have hfz28_8 := blk_frozen HGz28 8; clear HGz28 hgz28))
          first | go_end0 | ((try simp only [Exit.inBlock, Exit.then]); refine bodyPost_ret (results_none rfl _ _ _) rfl ?_)
          exact ⟨by first | rfl | (simp [errW_none, errW_some] <;> rfl) | (simp [*, errW_none, errW_some] <;> rfl), by repeat (first | (with_reducible first | exact HI0.out | apply IsS24.alloc | apply IsS24.drewN | apply IsS24.drew | apply IsS24.set_0 | apply IsS24.set_1 | apply IsS24.set_2 | apply IsS24.set_3 | apply IsS24.set_4 | apply IsS24.set_5 | apply IsS24.set_6 | apply IsS24.set_7 | apply IsS24.set_8) | exact HI0.out), by repeat (first | (with_reducible first | exact HB.out | apply below_alloc | apply pw_below_drewN | apply below_drew1 | refine below_set ?_ (IsS24.ge HI0.out)) | exact HB.out), by repeat (first | (with_reducible first | exact HK.out | apply KeepBut.set_ | apply keep_drewN | apply keep_drew | apply keep_alloc) | exact HK.out)⟩
        · rw [if_neg c22] at H
          have c22b0 : (a2 == 3) = false := beq_eq_false_iff_ne.mpr c22
          have c22b1 : (a2 != 3) = true := bne_iff_ne.mpr c22
          by_cases c29 : a2 = 4
          · rw [if_pos c29] at H
            have c29b0 : (a2 == 4) = true := beq_iff_eq.mpr c29
            have c29b1 : (a2 != 4) = false := bne_eq_false_iff_eq.mpr c29
            clear c29
            replace H := Option.bind_eq_some_iff.mp H
            obtain ⟨t336, A300, H⟩ := H
            replace H : ((decode_field.f k a1 11 7).bind fun t337 => ((decode_signed.f (Go.bits .or .i64 t336 t337) 12).bind fun t338 => (some (s0_0, s0_1, t320, t321, t338, s0_5, s0_6, s0_7, s0_8)))) = some (r1, r2, r3, r4, r5, r6, r7, r8, r9) := H
            have A30 := Aside0.mk A300
            clear A300
            replace H := Option.bind_eq_some_iff.mp H
            obtain ⟨t337, A310, H⟩ := H
            replace H : ((decode_signed.f (Go.bits .or .i64 t336 t337) 12).bind fun t338 => (some (s0_0, s0_1, t320, t321, t338, s0_5, s0_6, s0_7, s0_8))) = some (r1, r2, r3, r4, r5, r6, r7, r8, r9) := H
            have A31 := Aside0.mk A310
            clear A310
            replace H := Option.bind_eq_some_iff.mp H
            obtain ⟨t338, A320, H⟩ := H
            replace H : (some (s0_0, s0_1, t320, t321, t338, s0_5, s0_6, s0_7, s0_8)) = some (r1, r2, r3, r4, r5, r6, r7, r8, r9) := H
            have A32 := Aside0.mk A320
            clear A320
            simp only [Option.some.injEq, Prod.mk.injEq] at H
            obtain ⟨rfl, rfl, rfl, rfl, rfl, rfl, rfl, rfl, rfl⟩ := H
            go_enter Tryd.func34, Tryd.ntmps34
            go_wp2_with (first | ((with_reducible refine gate_callee (f := 49) rfl ?_); refine goesL_ (some 10) rfl rfl Tryd.func49 (by kernel_rfl) rfl #[.int .u32 a1, .int .i64 11, .int .i64 7] rfl (by (try simp only [List.map_toArray, List.map_cons, List.map_nil]); first | done | rfl | (simp only [List.length_drop, List.length_take]; rfl)) ?_; (with_reducible refine (decode_field.calls k a1 11 7 t319 _ A4.out).mono ?_); rintro e w' ⟨rfl, ⟨nd, rfl⟩⟩; refine ⟨_, rfl, ?_⟩) | ((with_reducible refine gate_callee (f := 49) rfl ?_); refine goesL_ (some 12) rfl rfl Tryd.func49 (by kernel_rfl) rfl #[.int .u32 a1, .int .i64 19, .int .i64 15] rfl (by (try simp only [List.map_toArray, List.map_cons, List.map_nil]); first | done | rfl | (simp only [List.length_drop, List.length_take]; rfl)) ?_; (with_reducible refine (decode_field.calls k a1 19 15 t320 _ A5.out).mono ?_); rintro e w' ⟨rfl, ⟨nd, rfl⟩⟩; refine ⟨_, rfl, ?_⟩) | ((with_reducible refine gate_callee (f := 49) rfl ?_); refine goesL_ (some 14) rfl rfl Tryd.func49 (by kernel_rfl) rfl #[.int .u32 a1, .int .i64 24, .int .i64 20] rfl (by (try simp only [List.map_toArray, List.map_cons, List.map_nil]); first | done | rfl | (simp only [List.length_drop, List.length_take]; rfl)) ?_; (with_reducible refine (decode_field.calls k a1 24 20 t321 _ A6.out).mono ?_); rintro e w' ⟨rfl, ⟨nd, rfl⟩⟩; refine ⟨_, rfl, ?_⟩) | ((with_reducible refine gate_callee (f := 51) rfl ?_); refine goesL_ (some 98) rfl rfl Tryd.func51 (by kernel_rfl) rfl #[.int .u32 a1, .int .i64 31, .int .i64 25, .int .i64 5] rfl (by (try simp only [List.map_toArray, List.map_cons, List.map_nil]); first | done | rfl | (simp only [List.length_drop, List.length_take]; rfl)) ?_; (with_reducible refine (decode_part.calls k a1 31 25 5 t336 _ A30.out).mono ?_); rintro e w' ⟨rfl, ⟨nd, rfl⟩⟩; refine ⟨_, rfl, ?_⟩) | ((with_reducible refine gate_callee (f := 49) rfl ?_); refine goesL_ (some 100) rfl rfl Tryd.func49 (by kernel_rfl) rfl #[.int .u32 a1, .int .i64 11, .int .i64 7] rfl (by (try simp only [List.map_toArray, List.map_cons, List.map_nil]); first | done | rfl | (simp only [List.length_drop, List.length_take]; rfl)) ?_; (with_reducible refine (decode_field.calls k a1 11 7 t337 _ A31.out).mono ?_); rintro e w' ⟨rfl, ⟨nd, rfl⟩⟩; refine ⟨_, rfl, ?_⟩) | ((with_reducible refine gate_callee (f := 50) rfl ?_); refine goesL_ (some 102) rfl rfl Tryd.func50 (by kernel_rfl) rfl #[.int .i64 (Go.bits .or .i64 t336 t337), .int .i64 12] rfl (by (try simp only [List.map_toArray, List.map_cons, List.map_nil]); first | done | rfl | (simp only [List.length_drop, List.length_take]; rfl)) ?_; (with_reducible refine (decode_signed.calls (Go.bits .or .i64 t336 t337) 12 t338 _ A32.out).mono ?_); rintro e w' ⟨rfl, ⟨nd, rfl⟩⟩; refine ⟨_, rfl, ?_⟩; obtain ⟨HGz33, hgz33⟩ := HI0.out; have hcz33_0 := cellS24_0 HGz33; have hcz33_1 := cellS24_1 HGz33; have hcz33_2 := cellS24_2 HGz33; have hcz33_3 := cellS24_3 HGz33; have hcz33_4 := cellS24_4 HGz33; have hcz33_5 := cellS24_5 HGz33; have hcz33_6 := cellS24_6 HGz33; have hcz33_7 := cellS24_7 HGz33; have hcz33_8 := cellS24_8 HGz33; have hfz33_0 := blk_frozen HGz33 0; have hfz33_1 := blk_frozen HGz33 1; have hfz33_2 := blk_frozen HGz33 2; have hfz33_3 := blk_frozen HGz33 3; have hfz33_4 := blk_frozen HGz33 4; have hfz33_5 := blk_frozen HGz33 5; have hfz33_6 := blk_frozen HGz33 6; have hfz33_7 := blk_frozen HGz33 7; have hfz33_8 := blk_frozen HGz33 8; clear HGz33 hgz33))
            first | go_end0 | ((try simp only [Exit.inBlock, Exit.then]); refine bodyPost_ret (results_none rfl _ _ _) rfl ?_)
            exact ⟨by first | rfl | (simp [errW_none, errW_some] <;> rfl) | (simp [*, errW_none, errW_some] <;> rfl), by repeat (first | (with_reducible first | exact HI0.out | apply IsS24.alloc | apply IsS24.drewN | apply IsS24.drew | apply IsS24.set_0 | apply IsS24.set_1 | apply IsS24.set_2 | apply IsS24.set_3 | apply IsS24.set_4 | apply IsS24.set_5 | apply IsS24.set_6 | apply IsS24.set_7 | apply IsS24.set_8) | exact HI0.out), by repeat (first | (with_reducible first | exact HB.out | apply below_alloc | apply pw_below_drewN | apply below_drew1 | refine below_set ?_ (IsS24.ge HI0.out)) | exact HB.out), by repeat (first | (with_reducible first | exact HK.out | apply KeepBut.set_ | apply keep_drewN | apply keep_drew | apply keep_alloc) | exact HK.out)⟩
          · rw [if_neg c29] at H
            have c29b0 : (a2 == 4) = false := beq_eq_false_iff_ne.mpr c29
            have c29b1 : (a2 != 4) = true := bne_iff_ne.mpr c29
            by_cases c34 : a2 = 5
            · rw [if_pos c34] at H
              have c34b0 : (a2 == 5) = true := beq_iff_eq.mpr c34
              have c34b1 : (a2 != 5) = false := bne_eq_false_iff_eq.mpr c34
              clear c34
              replace H := Option.bind_eq_some_iff.mp H
              obtain ⟨t339, A350, H⟩ := H
              replace H : (some (s0_0, t319, t320, s0_3, t339, s0_5, s0_6, s0_7, s0_8)) = some (r1, r2, r3, r4, r5, r6, r7, r8, r9) := H
              have A35 := Aside0.mk A350
              clear A350
              simp only [Option.some.injEq, Prod.mk.injEq] at H
              obtain ⟨rfl, rfl, rfl, rfl, rfl, rfl, rfl, rfl, rfl⟩ := H
              go_enter Tryd.func34, Tryd.ntmps34
              go_wp2_with (first | ((with_reducible refine gate_callee (f := 49) rfl ?_); refine goesL_ (some 10) rfl rfl Tryd.func49 (by kernel_rfl) rfl #[.int .u32 a1, .int .i64 11, .int .i64 7] rfl (by (try simp only [List.map_toArray, List.map_cons, List.map_nil]); first | done | rfl | (simp only [List.length_drop, List.length_take]; rfl)) ?_; (with_reducible refine (decode_field.calls k a1 11 7 t319 _ A4.out).mono ?_); rintro e w' ⟨rfl, ⟨nd, rfl⟩⟩; refine ⟨_, rfl, ?_⟩) | ((with_reducible refine gate_callee (f := 49) rfl ?_); refine goesL_ (some 12) rfl rfl Tryd.func49 (by kernel_rfl) rfl #[.int .u32 a1, .int .i64 19, .int .i64 15] rfl (by (try simp only [List.map_toArray, List.map_cons, List.map_nil]); first | done | rfl | (simp only [List.length_drop, List.length_take]; rfl)) ?_; (with_reducible refine (decode_field.calls k a1 19 15 t320 _ A5.out).mono ?_); rintro e w' ⟨rfl, ⟨nd, rfl⟩⟩; refine ⟨_, rfl, ?_⟩) | ((with_reducible refine gate_callee (f := 49) rfl ?_); refine goesL_ (some 14) rfl rfl Tryd.func49 (by kernel_rfl) rfl #[.int .u32 a1, .int .i64 24, .int .i64 20] rfl (by (try simp only [List.map_toArray, List.map_cons, List.map_nil]); first | done | rfl | (simp only [List.length_drop, List.length_take]; rfl)) ?_; (with_reducible refine (decode_field.calls k a1 24 20 t321 _ A6.out).mono ?_); rintro e w' ⟨rfl, ⟨nd, rfl⟩⟩; refine ⟨_, rfl, ?_⟩) | ((with_reducible refine gate_callee (f := 49) rfl ?_); refine goesL_ (some 117) rfl rfl Tryd.func49 (by kernel_rfl) rfl #[.int .u32 a1, .int .i64 25, .int .i64 20] rfl (by (try simp only [List.map_toArray, List.map_cons, List.map_nil]); first | done | rfl | (simp only [List.length_drop, List.length_take]; rfl)) ?_; (with_reducible refine (decode_field.calls k a1 25 20 t339 _ A35.out).mono ?_); rintro e w' ⟨rfl, ⟨nd, rfl⟩⟩; refine ⟨_, rfl, ?_⟩; obtain ⟨HGz36, hgz36⟩ := HI0.out; have hcz36_0 := cellS24_0 HGz36; have hcz36_1 := cellS24_1 HGz36; have hcz36_2 := cellS24_2 HGz36; have hcz36_3 := cellS24_3 HGz36; have hcz36_4 := cellS24_4 HGz36; have hcz36_5 := cellS24_5 HGz36; have hcz36_6 := cellS24_6 HGz36; have hcz36_7 := cellS24_7 HGz36; have hcz36_8 := cellS24_8 HGz36; have hfz36_0 := blk_frozen HGz36 0; have hfz36_1 := blk_frozen HGz36 1; have hfz36_2 := blk_frozen HGz36 2; have hfz36_3 := blk_frozen HGz36 3; have hfz36_4 := blk_frozen HGz36 4; have hfz36_5 := blk_frozen HGz36 5; have hfz36_6 := blk_frozen HGz36 6; have hfz36_7 := blk_frozen HGz36 7; have hfz36_8 := blk_frozen HGz36 8; clear HGz36 hgz36))
              first | go_end0 | ((try simp only [Exit.inBlock, Exit.then]); refine bodyPost_ret (results_none rfl _ _ _) rfl ?_)
              exact ⟨by first | rfl | (simp [errW_none, errW_some] <;> rfl) | (simp [*, errW_none, errW_some] <;> rfl), by repeat (first | (with_reducible first | exact HI0.out | apply IsS24.alloc | apply IsS24.drewN | apply IsS24.drew | apply IsS24.set_0 | apply IsS24.set_1 | apply IsS24.set_2 | apply IsS24.set_3 | apply IsS24.set_4 | apply IsS24.set_5 | apply IsS24.set_6 | apply IsS24.set_7 | apply IsS24.set_8) | exact HI0.out), by repeat (first | (with_reducible first | exact HB.out | apply below_alloc | apply pw_below_drewN | apply below_drew1 | refine below_set ?_ (IsS24.ge HI0.out)) | exact HB.out), by repeat (first | (with_reducible first | exact HK.out | apply KeepBut.set_ | apply keep_drewN | apply keep_drew | apply keep_alloc) | exact HK.out)⟩
            · rw [if_neg c34] at H
              have c34b0 : (a2 == 5) = false := beq_eq_false_iff_ne.mpr c34
              have c34b1 : (a2 != 5) = true := bne_iff_ne.mpr c34
              by_cases c37 : a2 = 6
              · rw [if_pos c37] at H
                have c37b0 : (a2 == 6) = true := beq_iff_eq.mpr c37
                have c37b1 : (a2 != 6) = false := bne_eq_false_iff_eq.mpr c37
                clear c37
                simp only [Option.some.injEq, Prod.mk.injEq] at H
                obtain ⟨rfl, rfl, rfl, rfl, rfl, rfl, rfl, rfl, rfl⟩ := H
                go_enter Tryd.func34, Tryd.ntmps34
                go_wp2_with (first | ((with_reducible refine gate_callee (f := 49) rfl ?_); refine goesL_ (some 10) rfl rfl Tryd.func49 (by kernel_rfl) rfl #[.int .u32 a1, .int .i64 11, .int .i64 7] rfl (by (try simp only [List.map_toArray, List.map_cons, List.map_nil]); first | done | rfl | (simp only [List.length_drop, List.length_take]; rfl)) ?_; (with_reducible refine (decode_field.calls k a1 11 7 t319 _ A4.out).mono ?_); rintro e w' ⟨rfl, ⟨nd, rfl⟩⟩; refine ⟨_, rfl, ?_⟩) | ((with_reducible refine gate_callee (f := 49) rfl ?_); refine goesL_ (some 12) rfl rfl Tryd.func49 (by kernel_rfl) rfl #[.int .u32 a1, .int .i64 19, .int .i64 15] rfl (by (try simp only [List.map_toArray, List.map_cons, List.map_nil]); first | done | rfl | (simp only [List.length_drop, List.length_take]; rfl)) ?_; (with_reducible refine (decode_field.calls k a1 19 15 t320 _ A5.out).mono ?_); rintro e w' ⟨rfl, ⟨nd, rfl⟩⟩; refine ⟨_, rfl, ?_⟩) | ((with_reducible refine gate_callee (f := 49) rfl ?_); refine goesL_ (some 14) rfl rfl Tryd.func49 (by kernel_rfl) rfl #[.int .u32 a1, .int .i64 24, .int .i64 20] rfl (by (try simp only [List.map_toArray, List.map_cons, List.map_nil]); first | done | rfl | (simp only [List.length_drop, List.length_take]; rfl)) ?_; (with_reducible refine (decode_field.calls k a1 24 20 t321 _ A6.out).mono ?_); rintro e w' ⟨rfl, ⟨nd, rfl⟩⟩; refine ⟨_, rfl, ?_⟩; obtain ⟨HGz38, hgz38⟩ := HI0.out; have hcz38_0 := cellS24_0 HGz38; have hcz38_1 := cellS24_1 HGz38; have hcz38_2 := cellS24_2 HGz38; have hcz38_3 := cellS24_3 HGz38; have hcz38_4 := cellS24_4 HGz38; have hcz38_5 := cellS24_5 HGz38; have hcz38_6 := cellS24_6 HGz38; have hcz38_7 := cellS24_7 HGz38; have hcz38_8 := cellS24_8 HGz38; have hfz38_0 := blk_frozen HGz38 0; have hfz38_1 := blk_frozen HGz38 1; have hfz38_2 := blk_frozen HGz38 2; have hfz38_3 := blk_frozen HGz38 3; have hfz38_4 := blk_frozen HGz38 4; have hfz38_5 := blk_frozen HGz38 5; have hfz38_6 := blk_frozen HGz38 6; have hfz38_7 := blk_frozen HGz38 7; have hfz38_8 := blk_frozen HGz38 8; clear HGz38 hgz38))
                first | go_end0 | ((try simp only [Exit.inBlock, Exit.then]); refine bodyPost_ret (results_none rfl _ _ _) rfl ?_)
                exact ⟨by first | rfl | (simp [errW_none, errW_some] <;> rfl) | (simp [*, errW_none, errW_some] <;> rfl), by repeat (first | (with_reducible first | exact HI0.out | apply IsS24.alloc | apply IsS24.drewN | apply IsS24.drew | apply IsS24.set_0 | apply IsS24.set_1 | apply IsS24.set_2 | apply IsS24.set_3 | apply IsS24.set_4 | apply IsS24.set_5 | apply IsS24.set_6 | apply IsS24.set_7 | apply IsS24.set_8) | exact HI0.out), by repeat (first | (with_reducible first | exact HB.out | apply below_alloc | apply pw_below_drewN | apply below_drew1 | refine below_set ?_ (IsS24.ge HI0.out)) | exact HB.out), by repeat (first | (with_reducible first | exact HK.out | apply KeepBut.set_ | apply keep_drewN | apply keep_drew | apply keep_alloc) | exact HK.out)⟩
              · rw [if_neg c37] at H
                have c37b0 : (a2 == 6) = false := beq_eq_false_iff_ne.mpr c37
                have c37b1 : (a2 != 6) = true := bne_iff_ne.mpr c37
                by_cases c39 : a2 = 7
                · rw [if_pos c39] at H
                  have c39b0 : (a2 == 7) = true := beq_iff_eq.mpr c39
                  have c39b1 : (a2 != 7) = false := bne_eq_false_iff_eq.mpr c39
                  clear c39
                  simp only [Option.some.injEq, Prod.mk.injEq] at H
                  obtain ⟨rfl, rfl, rfl, rfl, rfl, rfl, rfl, rfl, rfl⟩ := H
                  go_enter Tryd.func34, Tryd.ntmps34
                  go_wp2_with (first | ((with_reducible refine gate_callee (f := 49) rfl ?_); refine goesL_ (some 10) rfl rfl Tryd.func49 (by kernel_rfl) rfl #[.int .u32 a1, .int .i64 11, .int .i64 7] rfl (by (try simp only [List.map_toArray, List.map_cons, List.map_nil]); first | done | rfl | (simp only [List.length_drop, List.length_take]; rfl)) ?_; (with_reducible refine (decode_field.calls k a1 11 7 t319 _ A4.out).mono ?_); rintro e w' ⟨rfl, ⟨nd, rfl⟩⟩; refine ⟨_, rfl, ?_⟩) | ((with_reducible refine gate_callee (f := 49) rfl ?_); refine goesL_ (some 12) rfl rfl Tryd.func49 (by kernel_rfl) rfl #[.int .u32 a1, .int .i64 19, .int .i64 15] rfl (by (try simp only [List.map_toArray, List.map_cons, List.map_nil]); first | done | rfl | (simp only [List.length_drop, List.length_take]; rfl)) ?_; (with_reducible refine (decode_field.calls k a1 19 15 t320 _ A5.out).mono ?_); rintro e w' ⟨rfl, ⟨nd, rfl⟩⟩; refine ⟨_, rfl, ?_⟩) | ((with_reducible refine gate_callee (f := 49) rfl ?_); refine goesL_ (some 14) rfl rfl Tryd.func49 (by kernel_rfl) rfl #[.int .u32 a1, .int .i64 24, .int .i64 20] rfl (by (try simp only [List.map_toArray, List.map_cons, List.map_nil]); first | done | rfl | (simp only [List.length_drop, List.length_take]; rfl)) ?_; (with_reducible refine (decode_field.calls k a1 24 20 t321 _ A6.out).mono ?_); rintro e w' ⟨rfl, ⟨nd, rfl⟩⟩; refine ⟨_, rfl, ?_⟩; obtain ⟨HGz40, hgz40⟩ := HI0.out; have hcz40_0 := cellS24_0 HGz40; have hcz40_1 := cellS24_1 HGz40; have hcz40_2 := cellS24_2 HGz40; have hcz40_3 := cellS24_3 HGz40; have hcz40_4 := cellS24_4 HGz40; have hcz40_5 := cellS24_5 HGz40; have hcz40_6 := cellS24_6 HGz40; have hcz40_7 := cellS24_7 HGz40; have hcz40_8 := cellS24_8 HGz40; have hfz40_0 := blk_frozen HGz40 0; have hfz40_1 := blk_frozen HGz40 1; have hfz40_2 := blk_frozen HGz40 2; have hfz40_3 := blk_frozen HGz40 3; have hfz40_4 := blk_frozen HGz40 4; have hfz40_5 := blk_frozen HGz40 5; have hfz40_6 := blk_frozen HGz40 6; have hfz40_7 := blk_frozen HGz40 7; have hfz40_8 := blk_frozen HGz40 8; clear HGz40 hgz40))
                  first | go_end0 | ((try simp only [Exit.inBlock, Exit.then]); refine bodyPost_ret (results_none rfl _ _ _) rfl ?_)
                  exact ⟨by first | rfl | (simp [errW_none, errW_some] <;> rfl) | (simp [*, errW_none, errW_some] <;> rfl), by repeat (first | (with_reducible first | exact HI0.out | apply IsS24.alloc | apply IsS24.drewN | apply IsS24.drew | apply IsS24.set_0 | apply IsS24.set_1 | apply IsS24.set_2 | apply IsS24.set_3 | apply IsS24.set_4 | apply IsS24.set_5 | apply IsS24.set_6 | apply IsS24.set_7 | apply IsS24.set_8) | exact HI0.out), by repeat (first | (with_reducible first | exact HB.out | apply below_alloc | apply pw_below_drewN | apply below_drew1 | refine below_set ?_ (IsS24.ge HI0.out)) | exact HB.out), by repeat (first | (with_reducible first | exact HK.out | apply KeepBut.set_ | apply keep_drewN | apply keep_drew | apply keep_alloc) | exact HK.out)⟩
                · rw [if_neg c39] at H
                  have c39b0 : (a2 == 7) = false := beq_eq_false_iff_ne.mpr c39
                  have c39b1 : (a2 != 7) = true := bne_iff_ne.mpr c39
                  by_cases c41 : a2 = 8
                  · rw [if_pos c41] at H
                    have c41b0 : (a2 == 8) = true := beq_iff_eq.mpr c41
                    have c41b1 : (a2 != 8) = false := bne_eq_false_iff_eq.mpr c41
                    clear c41
                    replace H := Option.bind_eq_some_iff.mp H
                    obtain ⟨t340, A420, H⟩ := H
                    replace H : (some (s0_0, t319, t320, s0_3, t340, s0_5, s0_6, s0_7, s0_8)) = some (r1, r2, r3, r4, r5, r6, r7, r8, r9) := H
                    have A42 := Aside0.mk A420
                    clear A420
                    simp only [Option.some.injEq, Prod.mk.injEq] at H
                    obtain ⟨rfl, rfl, rfl, rfl, rfl, rfl, rfl, rfl, rfl⟩ := H
                    go_enter Tryd.func34, Tryd.ntmps34
                    go_wp2_with (first | ((with_reducible refine gate_callee (f := 49) rfl ?_); refine goesL_ (some 10) rfl rfl Tryd.func49 (by kernel_rfl) rfl #[.int .u32 a1, .int .i64 11, .int .i64 7] rfl (by (try simp only [List.map_toArray, List.map_cons, List.map_nil]); first | done | rfl | (simp only [List.length_drop, List.length_take]; rfl)) ?_; (with_reducible refine (decode_field.calls k a1 11 7 t319 _ A4.out).mono ?_); rintro e w' ⟨rfl, ⟨nd, rfl⟩⟩; refine ⟨_, rfl, ?_⟩) | ((with_reducible refine gate_callee (f := 49) rfl ?_); refine goesL_ (some 12) rfl rfl Tryd.func49 (by kernel_rfl) rfl #[.int .u32 a1, .int .i64 19, .int .i64 15] rfl (by (try simp only [List.map_toArray, List.map_cons, List.map_nil]); first | done | rfl | (simp only [List.length_drop, List.length_take]; rfl)) ?_; (with_reducible refine (decode_field.calls k a1 19 15 t320 _ A5.out).mono ?_); rintro e w' ⟨rfl, ⟨nd, rfl⟩⟩; refine ⟨_, rfl, ?_⟩) | ((with_reducible refine gate_callee (f := 49) rfl ?_); refine goesL_ (some 14) rfl rfl Tryd.func49 (by kernel_rfl) rfl #[.int .u32 a1, .int .i64 24, .int .i64 20] rfl (by (try simp only [List.map_toArray, List.map_cons, List.map_nil]); first | done | rfl | (simp only [List.length_drop, List.length_take]; rfl)) ?_; (with_reducible refine (decode_field.calls k a1 24 20 t321 _ A6.out).mono ?_); rintro e w' ⟨rfl, ⟨nd, rfl⟩⟩; refine ⟨_, rfl, ?_⟩) | ((with_reducible refine gate_callee (f := 49) rfl ?_); refine goesL_ (some 160) rfl rfl Tryd.func49 (by kernel_rfl) rfl #[.int .u32 a1, .int .i64 31, .int .i64 20] rfl (by (try simp only [List.map_toArray, List.map_cons, List.map_nil]); first | done | rfl | (simp only [List.length_drop, List.length_take]; rfl)) ?_; (with_reducible refine (decode_field.calls k a1 31 20 t340 _ A42.out).mono ?_); rintro e w' ⟨rfl, ⟨nd, rfl⟩⟩; refine ⟨_, rfl, ?_⟩; obtain ⟨HGz43, hgz43⟩ := HI0.out; have hcz43_0 := cellS24_0 HGz43; have hcz43_1 := cellS24_1 HGz43; have hcz43_2 := cellS24_2 HGz43; have hcz43_3 := cellS24_3 HGz43; have hcz43_4 := cellS24_4 HGz43; have hcz43_5 := cellS24_5 HGz43; have hcz43_6 := cellS24_6 HGz43; have hcz43_7 := cellS24_7 HGz43; have hcz43_8 := cellS24_8 HGz43; have hfz43_0 := blk_frozen HGz43 0; have hfz43_1 := blk_frozen HGz43 1; have hfz43_2 := blk_frozen HGz43 2; have hfz43_3 := blk_frozen HGz43 3; have hfz43_4 := blk_frozen HGz43 4; have hfz43_5 := blk_frozen HGz43 5; have hfz43_6 := blk_frozen HGz43 6; have hfz43_7 := blk_frozen HGz43 7; have hfz43_8 := blk_frozen HGz43 8; clear HGz43 hgz43))
                    first | go_end0 | ((try simp only [Exit.inBlock, Exit.then]); refine bodyPost_ret (results_none rfl _ _ _) rfl ?_)
                    exact ⟨by first | rfl | (simp [errW_none, errW_some] <;> rfl) | (simp [*, errW_none, errW_some] <;> rfl), by repeat (first | (with_reducible first | exact HI0.out | apply IsS24.alloc | apply IsS24.drewN | apply IsS24.drew | apply IsS24.set_0 | apply IsS24.set_1 | apply IsS24.set_2 | apply IsS24.set_3 | apply IsS24.set_4 | apply IsS24.set_5 | apply IsS24.set_6 | apply IsS24.set_7 | apply IsS24.set_8) | exact HI0.out), by repeat (first | (with_reducible first | exact HB.out | apply below_alloc | apply pw_below_drewN | apply below_drew1 | refine below_set ?_ (IsS24.ge HI0.out)) | exact HB.out), by repeat (first | (with_reducible first | exact HK.out | apply KeepBut.set_ | apply keep_drewN | apply keep_drew | apply keep_alloc) | exact HK.out)⟩
                  · rw [if_neg c41] at H
                    have c41b0 : (a2 == 8) = false := beq_eq_false_iff_ne.mpr c41
                    have c41b1 : (a2 != 8) = true := bne_iff_ne.mpr c41
                    by_cases c44 : a2 = 10
                    · rw [if_pos c44] at H
                      have c44b0 : (a2 == 10) = true := beq_iff_eq.mpr c44
                      have c44b1 : (a2 != 10) = false := bne_eq_false_iff_eq.mpr c44
                      clear c44
                      replace H := Option.bind_eq_some_iff.mp H
                      obtain ⟨t341, A450, H⟩ := H
                      replace H : ((decode_field.f k a1 25 25).bind fun t342 => (some (s0_0, t319, t320, t321, s0_4, (t341 == 1), (t342 == 1), s0_7, s0_8))) = some (r1, r2, r3, r4, r5, r6, r7, r8, r9) := H
                      have A45 := Aside0.mk A450
                      clear A450
                      replace H := Option.bind_eq_some_iff.mp H
                      obtain ⟨t342, A460, H⟩ := H
                      replace H : (some (s0_0, t319, t320, t321, s0_4, (t341 == 1), (t342 == 1), s0_7, s0_8)) = some (r1, r2, r3, r4, r5, r6, r7, r8, r9) := H
                      have A46 := Aside0.mk A460
                      clear A460
                      simp only [Option.some.injEq, Prod.mk.injEq] at H
                      obtain ⟨rfl, rfl, rfl, rfl, rfl, rfl, rfl, rfl, rfl⟩ := H
                      go_enter Tryd.func34, Tryd.ntmps34
                      go_wp2_with (first | ((with_reducible refine gate_callee (f := 49) rfl ?_); refine goesL_ (some 10) rfl rfl Tryd.func49 (by kernel_rfl) rfl #[.int .u32 a1, .int .i64 11, .int .i64 7] rfl (by (try simp only [List.map_toArray, List.map_cons, List.map_nil]); first | done | rfl | (simp only [List.length_drop, List.length_take]; rfl)) ?_; (with_reducible refine (decode_field.calls k a1 11 7 t319 _ A4.out).mono ?_); rintro e w' ⟨rfl, ⟨nd, rfl⟩⟩; refine ⟨_, rfl, ?_⟩) | ((with_reducible refine gate_callee (f := 49) rfl ?_); refine goesL_ (some 12) rfl rfl Tryd.func49 (by kernel_rfl) rfl #[.int .u32 a1, .int .i64 19, .int .i64 15] rfl (by (try simp only [List.map_toArray, List.map_cons, List.map_nil]); first | done | rfl | (simp only [List.length_drop, List.length_take]; rfl)) ?_; (with_reducible refine (decode_field.calls k a1 19 15 t320 _ A5.out).mono ?_); rintro e w' ⟨rfl, ⟨nd, rfl⟩⟩; refine ⟨_, rfl, ?_⟩) | ((with_reducible refine gate_callee (f := 49) rfl ?_); refine goesL_ (some 14) rfl rfl Tryd.func49 (by kernel_rfl) rfl #[.int .u32 a1, .int .i64 24, .int .i64 20] rfl (by (try simp only [List.map_toArray, List.map_cons, List.map_nil]); first | done | rfl | (simp only [List.length_drop, List.length_take]; rfl)) ?_; (with_reducible refine (decode_field.calls k a1 24 20 t321 _ A6.out).mono ?_); rintro e w' ⟨rfl, ⟨nd, rfl⟩⟩; refine ⟨_, rfl, ?_⟩; obtain ⟨HGz47, hgz47⟩ := HI0.out; have hcz47_0 := cellS24_0 HGz47; have hcz47_1 := cellS24_1 HGz47; have hcz47_2 := cellS24_2 HGz47; have hcz47_3 := cellS24_3 HGz47; have hcz47_4 := cellS24_4 HGz47; have hcz47_5 := cellS24_5 HGz47; have hcz47_6 := cellS24_6 HGz47; have hcz47_7 := cellS24_7 HGz47; have hcz47_8 := cellS24_8 HGz47; have hfz47_0 := blk_frozen HGz47 0; have hfz47_1 := blk_frozen HGz47 1; have hfz47_2 := blk_frozen HGz47 2; have hfz47_3 := blk_frozen HGz47 3; have hfz47_4 := blk_frozen HGz47 4; have hfz47_5 := blk_frozen HGz47 5; have hfz47_6 := blk_frozen HGz47 6; have hfz47_7 := blk_frozen HGz47 7; have hfz47_8 := blk_frozen HGz47 8; clear HGz47 hgz47) | ((with_reducible refine gate_callee (f := 49) rfl ?_); refine goesL_ (some 184) rfl rfl Tryd.func49 (by kernel_rfl) rfl #[.int .u32 a1, .int .i64 26, .int .i64 26] rfl (by (try simp only [List.map_toArray, List.map_cons, List.map_nil]); first | done | rfl | (simp only [List.length_drop, List.length_take]; rfl)) ?_; (with_reducible refine (decode_field.calls k a1 26 26 t341 _ A45.out).mono ?_); rintro e w' ⟨rfl, ⟨nd, rfl⟩⟩; refine ⟨_, rfl, ?_⟩) | ((with_reducible refine gate_callee (f := 49) rfl ?_); refine goesL_ (some 187) rfl rfl Tryd.func49 (by kernel_rfl) rfl #[.int .u32 a1, .int .i64 25, .int .i64 25] rfl (by (try simp only [List.map_toArray, List.map_cons, List.map_nil]); first | done | rfl | (simp only [List.length_drop, List.length_take]; rfl)) ?_; (with_reducible refine (decode_field.calls k a1 25 25 t342 _ A46.out).mono ?_); rintro e w' ⟨rfl, ⟨nd, rfl⟩⟩; refine ⟨_, rfl, ?_⟩))
                      first | go_end0 | ((try simp only [Exit.inBlock, Exit.then]); refine bodyPost_ret (results_none rfl _ _ _) rfl ?_)
                      exact ⟨by first | rfl | (simp [errW_none, errW_some] <;> rfl) | (simp [*, errW_none, errW_some] <;> rfl), by repeat (first | (with_reducible first | exact HI0.out | apply IsS24.alloc | apply IsS24.drewN | apply IsS24.drew | apply IsS24.set_0 | apply IsS24.set_1 | apply IsS24.set_2 | apply IsS24.set_3 | apply IsS24.set_4 | apply IsS24.set_5 | apply IsS24.set_6 | apply IsS24.set_7 | apply IsS24.set_8) | exact HI0.out), by repeat (first | (with_reducible first | exact HB.out | apply below_alloc | apply pw_below_drewN | apply below_drew1 | refine below_set ?_ (IsS24.ge HI0.out)) | exact HB.out), by repeat (first | (with_reducible first | exact HK.out | apply KeepBut.set_ | apply keep_drewN | apply keep_drew | apply keep_alloc) | exact HK.out)⟩
                    · rw [if_neg c44] at H
                      have c44b0 : (a2 == 10) = false := beq_eq_false_iff_ne.mpr c44
                      have c44b1 : (a2 != 10) = true := bne_iff_ne.mpr c44
                      simp only [Option.some.injEq, Prod.mk.injEq] at H
                      obtain ⟨rfl, rfl, rfl, rfl, rfl, rfl, rfl, rfl, rfl⟩ := H
                      go_enter Tryd.func34, Tryd.ntmps34
                      go_wp2_with (first | ((with_reducible refine gate_callee (f := 49) rfl ?_); refine goesL_ (some 10) rfl rfl Tryd.func49 (by kernel_rfl) rfl #[.int .u32 a1, .int .i64 11, .int .i64 7] rfl (by (try simp only [List.map_toArray, List.map_cons, List.map_nil]); first | done | rfl | (simp only [List.length_drop, List.length_take]; rfl)) ?_; (with_reducible refine (decode_field.calls k a1 11 7 t319 _ A4.out).mono ?_); rintro e w' ⟨rfl, ⟨nd, rfl⟩⟩; refine ⟨_, rfl, ?_⟩) | ((with_reducible refine gate_callee (f := 49) rfl ?_); refine goesL_ (some 12) rfl rfl Tryd.func49 (by kernel_rfl) rfl #[.int .u32 a1, .int .i64 19, .int .i64 15] rfl (by (try simp only [List.map_toArray, List.map_cons, List.map_nil]); first | done | rfl | (simp only [List.length_drop, List.length_take]; rfl)) ?_; (with_reducible refine (decode_field.calls k a1 19 15 t320 _ A5.out).mono ?_); rintro e w' ⟨rfl, ⟨nd, rfl⟩⟩; refine ⟨_, rfl, ?_⟩) | ((with_reducible refine gate_callee (f := 49) rfl ?_); refine goesL_ (some 14) rfl rfl Tryd.func49 (by kernel_rfl) rfl #[.int .u32 a1, .int .i64 24, .int .i64 20] rfl (by (try simp only [List.map_toArray, List.map_cons, List.map_nil]); first | done | rfl | (simp only [List.length_drop, List.length_take]; rfl)) ?_; (with_reducible refine (decode_field.calls k a1 24 20 t321 _ A6.out).mono ?_); rintro e w' ⟨rfl, ⟨nd, rfl⟩⟩; refine ⟨_, rfl, ?_⟩))
                      first | go_end0 | ((try simp only [Exit.inBlock, Exit.then]); refine bodyPost_ret (results_none rfl _ _ _) rfl ?_)
                      exact ⟨by first | rfl | (simp [errW_none, errW_some] <;> rfl) | (simp [*, errW_none, errW_some] <;> rfl), by repeat (first | (with_reducible first | exact HI0.out | apply IsS24.alloc | apply IsS24.drewN | apply IsS24.drew | apply IsS24.set_0 | apply IsS24.set_1 | apply IsS24.set_2 | apply IsS24.set_3 | apply IsS24.set_4 | apply IsS24.set_5 | apply IsS24.set_6 | apply IsS24.set_7 | apply IsS24.set_8) | exact HI0.out), by repeat (first | (with_reducible first | exact HB.out | apply below_alloc | apply pw_below_drewN | apply below_drew1 | refine below_set ?_ (IsS24.ge HI0.out)) | exact HB.out), by repeat (first | (with_reducible first | exact HK.out | apply KeepBut.set_ | apply keep_drewN | apply keep_drew | apply keep_alloc) | exact HK.out)⟩

end Go.Proofs.YtiibhggjlandmaaDoor.PB
-- Written by a program (a turned copy of the kit's print.py) for this claim. Lean checks it.
namespace Go.Proofs.YtiibhggjlandmaaDoor.PB
open Go.RowKit Go.Proofs.YtiibhggjlandmaaDoorW.PrintWords Go.Proofs.YtiibhggjlandmaaDoorW.PrintLast Go.Proofs.YtiibhggjlandmaaDoorW.PrintMore
attribute [local go_sem] max2_int min2_int max_two min_two max_three min_three max_four min_four   -- for this text's walks alone
set_option linter.unusedVariables false
set_option linter.unusedSimpArgs false

end Go.Proofs.YtiibhggjlandmaaDoor.PB
/- decode.forms: the row of forms that it makes, by running its one region. No condition. -/
namespace Go.Proofs.YtiibhggjlandmaaDoor.PD
open Go.RowKit Go.Proofs.YtiibhggjlandmaaDoorW.PrintWords Go.Proofs.YtiibhggjlandmaaDoorW.PrintMore
set_option linter.unusedVariables false
section
variable {P : Program} {ops : Array Oper} {Q : Exit → Act → World → Prop}
/-- A row of operations that bear no guard and give values: run outright. -/
def runAll (P : Program) : List Oper → Act → World → Option (Act × World)
  | [], a, w => some (a, w)
  | o :: r, a, w => match o.guard, (execOp a.eval o).run P w with
    | .none, .ok (.value v) w' => runAll P r (a.put o.dst v) w'
    | _, _ => none
theorem runAll_wp : ∀ (l : List Oper) (a : Act) (w : World) (x : Act × World), runAll P l a w = some x → Q .normal x.1 x.2 → wpList P ops Q l a w
  | [], a, w, x, h, hq => by
    simp only [runAll, Option.some.injEq] at h; subst h; exact hq
  | o :: r, a, w, x, h, hq => by
    unfold runAll at h
    split at h
    · next hg hr => exact Kd.event_run hg hr (runAll_wp r _ _ x h hq)
    · exact absurd h (by simp)
theorem wp_region_run {id : Nat} {a : Act} {w : World} (x : Act × World) (h : runAll P ops.toList a w = some x) (hq : Q .normal x.1 x.2) : (Code.region id ops false).wp P Q a w :=
  wp_region_list (runAll_wp _ _ _ x h hq)
end
structure Frm where
  op : Int
  mask : Int
  code : Int
  shape : Int
def formsL : List Frm := [⟨1, 127, 55, 0⟩, ⟨2, 127, 23, 0⟩, ⟨3, 127, 111, 1⟩, ⟨4, 28799, 103, 2⟩, ⟨5, 28799, 99, 3⟩, ⟨6, 28799, 4195, 3⟩, ⟨7, 28799, 16483, 3⟩, ⟨8, 28799, 20579, 3⟩, ⟨9, 28799, 24675, 3⟩, ⟨10, 28799, 28771, 3⟩, ⟨11, 28799, 3, 2⟩, ⟨12, 28799, 4099, 2⟩, ⟨13, 28799, 8195, 2⟩, ⟨14, 28799, 12291, 2⟩, ⟨15, 28799, 16387, 2⟩, ⟨16, 28799, 20483, 2⟩, ⟨17, 28799, 24579, 2⟩, ⟨18, 28799, 35, 4⟩, ⟨19, 28799, 4131, 4⟩, ⟨20, 28799, 8227, 4⟩, ⟨21, 28799, 12323, 4⟩, ⟨22, 28799, 19, 2⟩, ⟨23, 28799, 8211, 2⟩, ⟨24, 28799, 12307, 2⟩, ⟨25, 28799, 16403, 2⟩, ⟨26, 28799, 24595, 2⟩, ⟨27, 28799, 28691, 2⟩, ⟨28, 4227887231, 4115, 5⟩, ⟨29, 4227887231, 20499, 5⟩, ⟨30, 4227887231, 1073762323, 5⟩, ⟨31, 28799, 27, 2⟩, ⟨32, 4261441663, 4123, 6⟩, ⟨33, 4261441663, 20507, 6⟩, ⟨34, 4261441663, 1073762331, 6⟩, ⟨35, 4261441663, 51, 7⟩, ⟨36, 4261441663, 1073741875, 7⟩, ⟨37, 4261441663, 4147, 7⟩, ⟨38, 4261441663, 8243, 7⟩, ⟨39, 4261441663, 12339, 7⟩, ⟨40, 4261441663, 16435, 7⟩, ⟨41, 4261441663, 20531, 7⟩, ⟨42, 4261441663, 1073762355, 7⟩, ⟨43, 4261441663, 24627, 7⟩, ⟨44, 4261441663, 28723, 7⟩, ⟨45, 4261441663, 59, 7⟩, ⟨46, 4261441663, 1073741883, 7⟩, ⟨47, 4261441663, 4155, 7⟩, ⟨48, 4261441663, 20539, 7⟩, ⟨49, 4261441663, 1073762363, 7⟩, ⟨50, 28799, 15, 8⟩, ⟨51, 28799, 4111, 8⟩, ⟨52, 4294967295, 115, 9⟩, ⟨53, 4294967295, 1048691, 9⟩, ⟨54, 4294967295, 807403635, 9⟩, ⟨55, 4294967295, 273678451, 9⟩, ⟨56, 28799, 4211, 8⟩, ⟨57, 28799, 8307, 8⟩, ⟨58, 28799, 12403, 8⟩, ⟨59, 28799, 20595, 8⟩, ⟨60, 28799, 24691, 8⟩, ⟨61, 28799, 28787, 8⟩, ⟨62, 4261441663, 33554483, 7⟩, ⟨63, 4261441663, 33558579, 7⟩, ⟨64, 4261441663, 33562675, 7⟩, ⟨65, 4261441663, 33566771, 7⟩, ⟨66, 4261441663, 33570867, 7⟩, ⟨67, 4261441663, 33574963, 7⟩, ⟨68, 4261441663, 33579059, 7⟩, ⟨69, 4261441663, 33583155, 7⟩, ⟨70, 4261441663, 33554491, 7⟩, ⟨71, 4261441663, 33570875, 7⟩, ⟨72, 4261441663, 33574971, 7⟩, ⟨73, 4261441663, 33579067, 7⟩, ⟨74, 4261441663, 33583163, 7⟩, ⟨75, 4193284223, 268443695, 10⟩, ⟨76, 4160778367, 402661423, 10⟩, ⟨77, 4160778367, 134225967, 10⟩, ⟨78, 4160778367, 8239, 10⟩, ⟨79, 4160778367, 536879151, 10⟩, ⟨80, 4160778367, 1610620975, 10⟩, ⟨81, 4160778367, 1073750063, 10⟩, ⟨82, 4160778367, 2147491887, 10⟩, ⟨83, 4160778367, 2684362799, 10⟩, ⟨84, 4160778367, 3221233711, 10⟩, ⟨85, 4160778367, 3758104623, 10⟩, ⟨86, 4193284223, 268447791, 10⟩, ⟨87, 4160778367, 402665519, 10⟩, ⟨88, 4160778367, 134230063, 10⟩, ⟨89, 4160778367, 12335, 10⟩, ⟨90, 4160778367, 536883247, 10⟩, ⟨91, 4160778367, 1610625071, 10⟩, ⟨92, 4160778367, 1073754159, 10⟩, ⟨93, 4160778367, 2147495983, 10⟩, ⟨94, 4160778367, 2684366895, 10⟩, ⟨95, 4160778367, 3221237807, 10⟩, ⟨96, 4160778367, 3758108719, 10⟩]
def Frm.cells (f : Frm) : List Value := [.int .i64 f.op, .int .u32 f.mask, .int .u32 f.code, .int .i64 f.shape]
def formCells : Array Value := (formsL.flatMap Frm.cells).toArray
def formsV (w : World) : Value := .slice (some ⟨w.heap.size, 0, none⟩) 96 96
def formsA0 : Act := { tmps := (Value.slice none 0 0 :: List.replicate 97 undef).toArray, defers := [] }
def formsA (w : World) : Act := { tmps := (formsV w :: (formsL.map fun f : Frm => Value.agg f.cells.toArray) ++ [formsV w]).toArray, defers := [] }
set_option maxHeartbeats 8000000 in
set_option maxRecDepth 1000000 in
theorem forms_calls (w : World) : Calls Tryd.prog 33 #[] w fun e w' => e = .returned (formsV w) ∧ w' = w.alloc (.cells formCells 85) := by
  go_enter Tryd.func33, Tryd.ntmps33
  refine wp_seq (wp_region_run (formsA0, w) (by kernel_rfl) ?_)
  refine wp_seq (wp_region_run (formsA w, w.alloc (.cells formCells 85)) (by kernel_rfl) ?_)
  refine wp_ret ?_
  have e : (formsA w).tmps.getD 0 undef = formsV w := by kernel_rfl
  have h1 := results_tmp (fn := Tryd.f33) (t := 0) rfl (formsA w).tmps Tryd.prog (w.alloc (.cells formCells 85))
  rw [e] at h1
  exact bodyPost_ret h1 rfl ⟨rfl, rfl⟩
end Go.Proofs.YtiibhggjlandmaaDoor.PD
/- A scope with forward jumps. Laws of the walk, no program. -/
namespace Go.Proofs.YtiibhggjlandmaaDoor
open Go
variable {P : Program} {a : Act} {w : World} {Q : Exit → Act → World → Prop}
/-- A scope with forward jumps to one label: behind a jump the rest is walked on, without another jump. -/
theorem wp_scope_goto {c rest : Code} (l : Nat) (hf : findLabel c l = some rest) (h : c.wp P (Exit.jump l (fun a w => rest.wp P (Exit.noGoto Q) a w) Q) a w) : (Code.scope c).wp P Q a w := by
  refine wp_scope_jumps l _ (fun _ _ => 0) hf h ?_
  intro a w hJ b k cs
  obtain ⟨e, a₁, w₁, hq, harr⟩ := hJ b k cs
  refine ⟨e, a₁, w₁, ?_, harr⟩
  cases e <;> first | exact hq | exact hq.elim
theorem wp_goto_jump {rest : Code} (l : Nat) (h : rest.wp P (Exit.noGoto Q) a w) : (Code.goto l).wp P (Exit.jump l (fun a w => rest.wp P (Exit.noGoto Q) a w) Q) a w := wp_goto ⟨rfl, h⟩
theorem goto_step {rest : Code} {l : Nat} {Q1 : Exit → Act → World → Prop} (e : Q (.goto l) a w = (l = l ∧ rest.wp P (Exit.noGoto Q1) a w)) (h : rest.wp P (Exit.noGoto Q1) a w) : (Code.goto l).wp P Q a w := wp_goto (e.mpr ⟨rfl, h⟩)
theorem jump_normal {J : Act → World → Prop} (l : Nat) : Exit.jump l J Q .normal a w = Q .normal a w := rfl
theorem jump_ret {J : Act → World → Prop} (l : Nat) : Exit.jump l J Q .ret a w = Q .ret a w := rfl
end Go.Proofs.YtiibhggjlandmaaDoor
/- Helpers of decode.Decode's contract: the search of a form, as a plain function; the cells of the row of forms. No condition. -/
namespace Go.Proofs.YtiibhggjlandmaaDoor.PB
open Go.RowKit Go.Proofs.YtiibhggjlandmaaDoorW.PrintWords Go.Proofs.YtiibhggjlandmaaDoorW.PrintLast Go.Proofs.YtiibhggjlandmaaDoorW.PrintMore Go.Proofs.YtiibhggjlandmaaDoor.PG Go.Proofs.YtiibhggjlandmaaDoor.PD
set_option linter.unusedVariables false
set_option linter.unusedSimpArgs false
def findF (long : Int) : List Frm → Option Frm
  | [] => none
  | f :: r => if Go.bits .and .u32 long f.mask = f.code then some f else findF long r
def decode_dec (k : Nat) (long len raw : Int) : Option (Int × Int × Int × Int × Int × Bool × Bool × Int × Int) := match findF long formsL with
  | none => some (0, 0, 0, 0, 0, false, false, len, raw)
  | some f => decode_fill.f k f.op 0 0 0 0 false false len raw long f.shape
def decode_Decode.f (k : Nat) (a0 : Int) : Option (Int × Int × Int × Int × Int × Bool × Bool × Int × Int) :=
  if Go.bits .and .u32 a0 3 = 3 then decode_dec k a0 4 a0
  else (decode_Expand.f k (IntKind.u16.wrap a0)).bind fun e => if e.2 = true then decode_dec k e.1 2 (Go.bits .and .u32 a0 65535) else some (0, 0, 0, 0, 0, false, false, 2, Go.bits .and .u32 a0 65535)
theorem decode_dec.mono (long len raw : Int) (k : Nat) : LeO (decode_dec k long len raw) (decode_dec (k + 1) long len raw) := by
  unfold decode_dec
  split
  · exact LeO.refl _
  · exact decode_fill.mono _ _ _ _ _ _ _ _ _ _ _ _
theorem decode_Decode.mono : ∀ a0 k, LeO (decode_Decode.f k a0) (decode_Decode.f (k + 1) a0) := by
  intro a0 k
  unfold decode_Decode.f
  refine LeO.ite (decode_dec.mono _ _ _ _) ?_
  refine LeO.bind (decode_Expand.mono _ _) (fun e => ?_)
  exact LeO.ite (decode_dec.mono _ _ _ _) (LeO.refl _)
theorem flat_get : ∀ (l : List Frm) (i j : Nat) (f : Frm), l[i]? = some f → j < 4 → (l.flatMap Frm.cells)[i * 4 + j]? = f.cells[j]?
  | [], i, j, f, h, hj => by simp at h
  | g :: l, 0, j, f, h, hj => by
    simp only [List.getElem?_cons_zero, Option.some.injEq] at h; subst h
    rw [List.flatMap_cons, Nat.zero_mul, Nat.zero_add, List.getElem?_append_left (by simpa [Frm.cells] using hj)]
  | g :: l, i + 1, j, f, h, hj => by
    rw [List.getElem?_cons_succ] at h
    rw [List.flatMap_cons, List.getElem?_append_right (by simp only [Frm.cells, List.length_cons, List.length_nil]; omega)]
    rw [← flat_get l i j f h hj]
    congr 1
    simp only [Frm.cells, List.length_cons, List.length_nil]; omega
theorem form_cell (w : World) (g i : Nat) (f : Frm) (hg : w.heap[g]? = some (.cells formCells 85)) (hf : formsL[i]? = some f) (j : Nat) (v : Value) (hj : f.cells[j]? = some v) : w.cell? ((⟨g, i * 4, none⟩ : Addr).add j) = some v := by
  have hadd : (⟨g, i * 4, none⟩ : Addr).add j = ⟨g, i * 4 + j, none⟩ := by unfold Addr.add; split <;> simp_all
  have hlt : j < 4 := by
    have := (List.getElem?_eq_some_iff.mp hj).1
    simpa [Frm.cells] using this
  rw [hadd, cell_of_row w g _ formCells 85 (0, 0) hg, formCells, List.getElem?_toArray, flat_get formsL i j f hf hlt, hj]
section
variable {P : Program}
theorem run_loadVar_cells (w : World) (ty : TypeId) (a : Addr) (cs : List Value) (d : TypeDesc) (h : ∀ j v, cs[j]? = some v → w.cell? (a.add j) = some v)
    (hu : P.underlying ty = some d) (hd : (match d with | .struct _ | .array _ _ => true | _ => false) = true) (hi : (P.info? ty).map (·.size) = some cs.length) :
    (loadVar ty a).run P w = .ok (.agg cs.toArray) w := by
  have hl := run_loadCells_list (P := P) w a cs h
  cases hq : P.info? ty with
  | none => simp [hq] at hi
  | some i =>
    have hs : i.size = cs.length := by simpa [hq] using hi
    have hagg : (isAgg ty).run P w = .ok true w := by
      unfold isAgg
      rw [Sem.run_bind, run_underlying hu w]
      cases d <;> simp_all
    simp [loadVar, Sem.run_bind, hagg, sizeOf, typeInfo, hq, hs, hl]
theorem wpList_load_cells {ops : Array Oper} {rest : List Oper} {o : Oper} {a : Act} {w : World} {Q : Exit → Act → World → Prop} (hgd : o.guard = none) (ty : TypeId) (x : Operand) (ho : o.op = .load ty x)
    (ad : Addr) (hx : a.eval x = .pointer (some ad)) (cs : List Value) (d : TypeDesc) (hc : ∀ j v, cs[j]? = some v → w.cell? (ad.add j) = some v)
    (hu : P.underlying ty = some d) (hd : (match d with | .struct _ | .array _ _ => true | _ => false) = true) (hi : (P.info? ty).map (·.size) = some cs.length)
    (h : wpList P ops Q rest (a.put o.dst (.agg cs.toArray)) w) : wpList P ops Q (o :: rest) a w := by
  refine wpList_plain hgd fun K hK => ?_
  unfold Oper.wp execOp
  simp only [ho, hx, Instr.loadAt, Instr.sureAddr, Sem.run_bind, Sem.run_pure, Result.andThen_ok, run_loadVar_cells w ty ad cs d hc hu hd hi]
  exact hK _ _ h
end
end Go.Proofs.YtiibhggjlandmaaDoor.PB
/- decode.Decode: what it hands back, by Length, Expand, the row of forms, fill. No condition but that the answer is told. -/
namespace Go.Proofs.YtiibhggjlandmaaDoor.PB
open Go.RowKit Go.Proofs.YtiibhggjlandmaaDoorW.PrintWords Go.Proofs.YtiibhggjlandmaaDoorW.PrintLast Go.Proofs.YtiibhggjlandmaaDoorW.PrintMore Go.Proofs.YtiibhggjlandmaaDoor.PG Go.Proofs.YtiibhggjlandmaaDoor.PD
set_option linter.unusedVariables false
set_option linter.unusedSimpArgs false
def in0 : Array Value := #[.int .i64 0, .int .i64 0, .int .i64 0, .int .i64 0, .int .i64 0, .bool false, .bool false, .int .i64 0, .int .u32 0]
def inC (len raw : Int) : Array Value := #[.int .i64 0, .int .i64 0, .int .i64 0, .int .i64 0, .int .i64 0, .bool false, .bool false, .int .i64 len, .int .u32 raw]
theorem inC_one (len raw : Int) : (inC len raw).all (·.oneCell') = true := by simp [inC, Value.oneCell']
/-- What stands in memory at the loop's head. -/
def Inv (w : World) (len raw : Int) (W : World) : Prop := W.heap[w.heap.size]? = some (.cells in0 24) ∧ W.heap[w.heap.size + 1]? = some (.cells (inC len raw) 24) ∧ W.heap[w.heap.size + 2]? = some (.cells formCells 85) ∧ Below w.heap.size w W
theorem forms_calls2 (n : Nat) (W : World) (h : W.heap.size = n) : Calls Tryd.prog 33 #[] W fun e w' => e = .returned (.slice (some ⟨n, 0, none⟩) 96 96) ∧ w' = W.alloc (.cells formCells 85) := by
  subst h; exact forms_calls W
theorem inv_alloc {w W : World} {len raw : Int} (h : Inv w len raw W) (o : Obj) : Inv w len raw (W.alloc o) := by
  obtain ⟨h0, h1, h2, hb⟩ := h
  have e : ∀ i x, W.heap[i]? = some x → (W.alloc o).heap[i]? = some x := fun i x hx => by
    obtain ⟨hlt, _⟩ := Array.getElem?_eq_some_iff.mp hx
    rw [Below.heap_alloc W o i hlt]; exact hx
  exact ⟨e _ _ h0, e _ _ h1, e _ _ h2, below_alloc hb o⟩
theorem inv_cell {w W : World} {len raw : Int} (h : Inv w len raw W) : W.cell? ⟨w.heap.size + 1, 0, none⟩ = some (.int .i64 0) := by
  rw [cell_of_row W _ 0 _ 24 (0, 0) h.2.1]; rfl
theorem inv_frozen {w W : World} {len raw : Int} (h : Inv w len raw W) : W.frozen? ⟨w.heap.size + 1, 0, none⟩ = false := frozen_of_row W _ 0 _ 24 h.2.1
theorem inv_set {w W : World} {len raw : Int} (h : Inv w len raw W) (op : Int) : IsS24 w (W.setCell ⟨w.heap.size + 1, 0, none⟩ (.int .i64 op)) (w.heap.size + 1) op 0 0 0 0 false false len raw ∧ Below w.heap.size w (W.setCell ⟨w.heap.size + 1, 0, none⟩ (.int .i64 op)) ∧ (W.setCell ⟨w.heap.size + 1, 0, none⟩ (.int .i64 op)).heap[w.heap.size]? = some (.cells in0 24) := by
  obtain ⟨h0, h1, h2, hb⟩ := h
  refine ⟨⟨?_, by omega⟩, below_set hb (by omega), ?_⟩
  · rw [heap_setCell_same W _ 0 _ 24 _ h1]; rfl
  · rw [heap_setCell_other W _ _ _ (show w.heap.size ≠ w.heap.size + 1 by omega)]; exact h0
theorem fill_g0 {w W W' : World} (hk : KeepBut W W' (w.heap.size + 1) none) (h : W.heap[w.heap.size]? = some (.cells in0 24)) : W'.heap[w.heap.size]? = some (.cells in0 24) := by
  obtain ⟨hlt, _⟩ := Array.getElem?_eq_some_iff.mp h
  rw [hk.2 _ hlt (by omega) (by simp)]; exact h
/-- What stands in memory ahead of the row of forms. -/
def St (w : World) (len raw : Int) (W : World) : Prop := W.heap[w.heap.size]? = some (.cells in0 24) ∧ W.heap[w.heap.size + 1]? = some (.cells (inC len raw) 24) ∧ W.heap.size = w.heap.size + 2 ∧ Below w.heap.size w W
theorem st_start (w : World) (len raw : Int) : St w len raw ((w.alloc (.cells in0 24)).alloc (.cells (inC len raw) 24)) :=
  ⟨heap_alloc2_old _ _ _, heap_alloc2_new _ _ _, by simp, below_alloc (below_alloc (Below.refl _ _) _) _⟩
theorem st_drewN {w W : World} {len raw : Int} (h : St w len raw W) (n : Nat) : St w len raw (W.drewN n) := ⟨h.1, h.2.1, h.2.2.1, pw_below_drewN h.2.2.2 n⟩
theorem st_inv {w W : World} {len raw : Int} (h : St w len raw W) : Inv w len raw (W.alloc (.cells formCells 85)) := by
  refine ⟨?_, ?_, ?_, below_alloc h.2.2.2 _⟩
  · rw [Below.heap_alloc W _ _ (by rw [h.2.2.1]; omega)]; exact h.1
  · rw [Below.heap_alloc W _ _ (by rw [h.2.2.1]; omega)]; exact h.2.1
  · have := heap_alloc_new W (.cells formCells 85); rwa [h.2.2.1] at this
theorem st_set {w W : World} {len raw : Int} (h : St w len raw W) (len2 raw2 : Int) : St w len2 raw2 ((W.setCell ⟨w.heap.size + 1, 7, none⟩ (.int .i64 len2)).setCell ⟨w.heap.size + 1, 8, none⟩ (.int .u32 raw2)) := by
  have e1 := heap_setCell_same W _ 7 _ 24 (.int .i64 len2) h.2.1
  have e2 := heap_setCell_same _ _ 8 _ 24 (.int .u32 raw2) e1
  refine ⟨?_, ?_, ?_, below_set (below_set h.2.2.2 (by omega)) (by omega)⟩
  · rw [heap_setCell_other _ _ _ _ (show w.heap.size ≠ w.heap.size + 1 by omega), heap_setCell_other _ _ _ _ (show w.heap.size ≠ w.heap.size + 1 by omega)]; exact h.1
  · rw [e2]; rfl
  · rw [← h.2.2.1]; simp [World.setCell]
theorem st4 (w : World) (a0 : Int) (nd : Nat) : St w 4 a0 (((w.alloc (.cells in0 24)).alloc (.cells (inC 4 a0) 24)).drewN nd) := st_drewN (st_start w 4 a0) nd
theorem st2 (w : World) (a0 raw : Int) (nd nd2 : Nat) : St w 2 raw ((((((w.alloc (.cells in0 24)).alloc (.cells (inC 4 a0) 24)).drewN nd).setCell ⟨w.heap.size + 1, 7, none⟩ (.int .i64 2)).setCell ⟨w.heap.size + 1, 8, none⟩ (.int .u32 raw)).drewN nd2) := st_drewN (st_set (st4 w a0 nd) 2 raw) nd2
set_option maxHeartbeats 8000000 in
set_option maxRecDepth 100000 in
theorem decode_Decode.calls4 (k : Nat) (a0 : Int) (r1 : Int) (r2 : Int) (r3 : Int) (r4 : Int) (r5 : Int) (r6 : Bool) (r7 : Bool) (r8 : Int) (r9 : Int) (w : World) (hL : decode_Length.f a0 = some 4) (hD : decode_dec k a0 4 a0 = some (r1, r2, r3, r4, r5, r6, r7, r8, r9)) :
    Calls Tryd.prog 17 #[.int .u32 a0] w fun e w' => e = .returned (.agg #[.int .i64 r1, .int .i64 r2, .int .i64 r3, .int .i64 r4, .int .i64 r5, .bool r6, .bool r7, .int .i64 r8, .int .u32 r9]) ∧ Below w.heap.size w w' := by
  go_enter Tryd.func17, Tryd.ntmps17
  go_wp2_with (first | (refine wp_scope_goto 0 rfl ?_) | (refine goto_step rfl ?_) | (apply wp_label) | (go_at_call 21; refine (decode_Length.calls a0 4 _ hL).mono ?_; rintro e w' ⟨rfl, ⟨nd, rfl⟩⟩) | (go_at_call 33; refine (forms_calls2 (w.heap.size + 2) _ (by simp)).mono ?_; rintro e w' ⟨rfl, rfl⟩))
  generalize hW0 : World.alloc _ (Obj.cells formCells 85) = W0
  have hInv : Inv w 4 a0 W0 := by
    subst hW0; exact st_inv (st4 w a0 _)
  clear hW0
  go_loopg [30] 97 (fun kq v30 W => ∃ i : Nat, v30 = .int .i64 i ∧ Aside0 (i ≤ 96 ∧ kq + i = 97) ∧ Aside0 (findF a0 (formsL.drop i) = findF a0 formsL) ∧ Aside0 (Inv w 4 a0 W))
  case atStart => exact ⟨0, rfl, ⟨by omega⟩, ⟨by rw [List.drop_zero]⟩, ⟨hInv⟩⟩
  case round =>
    clear hInv
    obtain ⟨i, rfl, ⟨hi⟩, ⟨hfd⟩, ⟨hInv⟩⟩ := hrel
    by_cases hlt : i < 96
    · obtain ⟨f, hf⟩ : ∃ f, formsL[i]? = some f := ⟨_, List.getElem?_eq_getElem (show i < formsL.length from hlt)⟩
      have hdrop : formsL.drop i = f :: formsL.drop (i + 1) := by
        rw [List.drop_eq_getElem_cons (show i < formsL.length from hlt)]
        rw [List.getElem?_eq_getElem (show i < formsL.length from hlt), Option.some.injEq] at hf
        rw [hf]
      rw [hdrop] at hfd
      have hb0 : decide ((i : Int) < 96) = true := decide_eq_true (by omega)
      have hb1 : (0 ≤ (i : Int) ∧ (i : Int) < ((96 : Nat) : Int)) := ⟨by omega, by omega⟩
      have hcell := form_cell _ _ i f hInv.2.2.1 hf
      by_cases hm : Go.bits .and .u32 a0 f.mask = f.code
      · have hmb : (Go.bits .and .u32 a0 f.mask == f.code) = true := beq_iff_eq.mpr hm
        have hff : findF a0 formsL = some f := by rw [← hfd, findF, if_pos hm]
        have hfill : decode_fill.f k f.op 0 0 0 0 false false 4 a0 a0 f.shape = some (r1, r2, r3, r4, r5, r6, r7, r8, r9) := by
          unfold decode_dec at hD; rw [hff] at hD; exact hD
        have hin := inv_alloc hInv (.cells #[.int .i64 f.op, .int .u32 f.mask, .int .u32 f.code, .int .i64 f.shape] 85)
        have hc0 := inv_cell hin
        have hz0 := inv_frozen hin
        go_wp2_with (first | ((with_reducible refine gate_dst (N := 33) rfl ?_); refine wpList_load_cells rfl 85 _ rfl ⟨w.heap.size + 2, i * 4, none⟩ rfl [.int .i64 f.op, .int .u32 f.mask, .int .u32 f.code, .int .i64 f.shape] _ hcell Tryd.underlying85 rfl (by kernel_rfl) ?_) | (go_at_call 34; obtain ⟨hI, hB, hG⟩ := inv_set hin f.op; refine (decode_fill.calls k (w.heap.size + 1) f.op 0 0 0 0 false false 4 a0 a0 f.shape r1 r2 r3 r4 r5 r6 r7 r8 r9 w _ hI hB hfill).mono ?_; rintro e w' ⟨rfl, hI2, hB2, hK2⟩; replace hG := fill_g0 hK2 hG) | ((with_reducible refine gate_dst (N := 48) rfl ?_); refine wpList_load_row rfl 24 _ rfl (w.heap.size + 1) rfl 24 #[.int .i64 r1, .int .i64 r2, .int .i64 r3, .int .i64 r4, .int .i64 r5, .bool r6, .bool r7, .int .i64 r8, .int .u32 r9] (0, 0) _ hI2.1 Tryd.underlying24 rfl (by kernel_rfl) ?_) | ((with_reducible refine gate_store (t := 24) (p := 2) (v := .tmp 48) rfl ?_); refine wpList_store_row rfl 24 _ _ rfl w.heap.size #[.int .i64 r1, .int .i64 r2, .int .i64 r3, .int .i64 r4, .int .i64 r5, .bool r6, .bool r7, .int .i64 r8, .int .u32 r9] rfl rfl 24 in0 hG (by kernel_rfl) rfl (by simp [Value.oneCell']) ?_))
        (try simp only [jump_ret, Exit.inBlock, Exit.then])
        refine bodyPost_ret (results_cell_row rfl _ _ w.heap.size 24 #[.int .i64 r1, .int .i64 r2, .int .i64 r3, .int .i64 r4, .int .i64 r5, .bool r6, .bool r7, .int .i64 r8, .int .u32 r9] (0, 0) _ rfl (setRow_heap _ _ _ _ _ _ hG) Tryd.underlying24 rfl (by kernel_rfl)) rfl ?_
        exact ⟨rfl, below_setRow hB2 (Nat.le_refl _) _⟩
      · have hmb : (Go.bits .and .u32 a0 f.mask == f.code) = false := beq_eq_false_iff_ne.mpr hm
        go_wp2_with (first | ((with_reducible refine gate_dst (N := 33) rfl ?_); refine wpList_load_cells rfl 85 _ rfl ⟨w.heap.size + 2, i * 4, none⟩ rfl [.int .i64 f.op, .int .u32 f.mask, .int .u32 f.code, .int .i64 f.shape] _ hcell Tryd.underlying85 rfl (by kernel_rfl) ?_))
        go_roundg (96 - i)
        case measure => omega
        case rel =>
          refine ⟨i + 1, rfl, ⟨by omega⟩, ⟨?_⟩, ⟨inv_alloc hInv _⟩⟩
          rw [← hfd, findF, if_neg hm]
    · have hi96 : i = 96 := by omega
      subst hi96
      have hff : findF a0 formsL = none := by rw [← hfd]; rfl
      unfold decode_dec at hD
      rw [hff] at hD
      simp only [Option.some.injEq, Prod.mk.injEq] at hD
      obtain ⟨rfl, rfl, rfl, rfl, rfl, rfl, rfl, rfl, rfl⟩ := hD
      go_wp2_with (first | (apply wp_label) | ((with_reducible refine gate_dst (N := 50) rfl ?_); refine wpList_load_row rfl 24 _ rfl (w.heap.size + 1) rfl 24 (inC 4 a0) (0, 0) _ hInv.2.1 Tryd.underlying24 rfl (by kernel_rfl) ?_) | ((with_reducible refine gate_store (t := 24) (p := 2) (v := .tmp 50) rfl ?_); refine wpList_store_row rfl 24 _ _ rfl w.heap.size (inC 4 a0) rfl rfl 24 in0 hInv.1 (by kernel_rfl) rfl (inC_one _ _) ?_))
      (try simp only [jump_ret, Exit.inBlock, Exit.then])
      refine bodyPost_ret (results_cell_row rfl _ _ w.heap.size 24 (inC 4 a0) (0, 0) _ rfl (setRow_heap _ _ _ _ _ _ hInv.1) Tryd.underlying24 rfl (by kernel_rfl)) rfl ?_
      exact ⟨rfl, below_setRow hInv.2.2.2 (Nat.le_refl _) _⟩
set_option maxHeartbeats 8000000 in
set_option maxRecDepth 100000 in
theorem decode_Decode.calls2 (k : Nat) (a0 e1 : Int) (r1 : Int) (r2 : Int) (r3 : Int) (r4 : Int) (r5 : Int) (r6 : Bool) (r7 : Bool) (r8 : Int) (r9 : Int) (w : World) (hL : decode_Length.f a0 = some 2) (hE : decode_Expand.f k (IntKind.u16.wrap a0) = some (e1, true)) (hD : decode_dec k e1 2 (Go.bits .and .u32 a0 65535) = some (r1, r2, r3, r4, r5, r6, r7, r8, r9)) :
    Calls Tryd.prog 17 #[.int .u32 a0] w fun e w' => e = .returned (.agg #[.int .i64 r1, .int .i64 r2, .int .i64 r3, .int .i64 r4, .int .i64 r5, .bool r6, .bool r7, .int .i64 r8, .int .u32 r9]) ∧ Below w.heap.size w w' := by
  go_enter Tryd.func17, Tryd.ntmps17
  go_wp2_with (first | (refine wp_scope_goto 0 rfl ?_) | (refine goto_step rfl ?_) | (apply wp_label) | (go_at_call 21; refine (decode_Length.calls a0 2 _ hL).mono ?_; rintro e w' ⟨rfl, ⟨nd, rfl⟩⟩) | (go_at_call 19; refine (decode_Expand.calls k (IntKind.u16.wrap a0) e1 true _ hE).mono ?_; rintro e w' ⟨rfl, ⟨nd2, rfl⟩⟩) | (go_at_call 33; refine (forms_calls2 (w.heap.size + 2) _ (by simp)).mono ?_; rintro e w' ⟨rfl, rfl⟩))
  generalize hW0 : World.alloc _ (Obj.cells formCells 85) = W0
  have hInv : Inv w 2 (Go.bits .and .u32 a0 65535) W0 := by
    subst hW0; exact st_inv (st2 w a0 _ _ _)
  clear hW0
  go_loopg [30] 97 (fun kq v30 W => ∃ i : Nat, v30 = .int .i64 i ∧ Aside0 (i ≤ 96 ∧ kq + i = 97) ∧ Aside0 (findF e1 (formsL.drop i) = findF e1 formsL) ∧ Aside0 (Inv w 2 (Go.bits .and .u32 a0 65535) W))
  case atStart => exact ⟨0, rfl, ⟨by omega⟩, ⟨by rw [List.drop_zero]⟩, ⟨hInv⟩⟩
  case round =>
    clear hInv
    obtain ⟨i, rfl, ⟨hi⟩, ⟨hfd⟩, ⟨hInv⟩⟩ := hrel
    by_cases hlt : i < 96
    · obtain ⟨f, hf⟩ : ∃ f, formsL[i]? = some f := ⟨_, List.getElem?_eq_getElem (show i < formsL.length from hlt)⟩
      have hdrop : formsL.drop i = f :: formsL.drop (i + 1) := by
        rw [List.drop_eq_getElem_cons (show i < formsL.length from hlt)]
        rw [List.getElem?_eq_getElem (show i < formsL.length from hlt), Option.some.injEq] at hf
        rw [hf]
      rw [hdrop] at hfd
      have hb0 : decide ((i : Int) < 96) = true := decide_eq_true (by omega)
      have hb1 : (0 ≤ (i : Int) ∧ (i : Int) < ((96 : Nat) : Int)) := ⟨by omega, by omega⟩
      have hcell := form_cell _ _ i f hInv.2.2.1 hf
      by_cases hm : Go.bits .and .u32 e1 f.mask = f.code
      · have hmb : (Go.bits .and .u32 e1 f.mask == f.code) = true := beq_iff_eq.mpr hm
        have hff : findF e1 formsL = some f := by rw [← hfd, findF, if_pos hm]
        have hfill : decode_fill.f k f.op 0 0 0 0 false false 2 (Go.bits .and .u32 a0 65535) e1 f.shape = some (r1, r2, r3, r4, r5, r6, r7, r8, r9) := by
          unfold decode_dec at hD; rw [hff] at hD; exact hD
        have hin := inv_alloc hInv (.cells #[.int .i64 f.op, .int .u32 f.mask, .int .u32 f.code, .int .i64 f.shape] 85)
        have hc0 := inv_cell hin
        have hz0 := inv_frozen hin
        go_wp2_with (first | ((with_reducible refine gate_dst (N := 33) rfl ?_); refine wpList_load_cells rfl 85 _ rfl ⟨w.heap.size + 2, i * 4, none⟩ rfl [.int .i64 f.op, .int .u32 f.mask, .int .u32 f.code, .int .i64 f.shape] _ hcell Tryd.underlying85 rfl (by kernel_rfl) ?_) | (go_at_call 34; obtain ⟨hI, hB, hG⟩ := inv_set hin f.op; refine (decode_fill.calls k (w.heap.size + 1) f.op 0 0 0 0 false false 2 (Go.bits .and .u32 a0 65535) e1 f.shape r1 r2 r3 r4 r5 r6 r7 r8 r9 w _ hI hB hfill).mono ?_; rintro e w' ⟨rfl, hI2, hB2, hK2⟩; replace hG := fill_g0 hK2 hG) | ((with_reducible refine gate_dst (N := 48) rfl ?_); refine wpList_load_row rfl 24 _ rfl (w.heap.size + 1) rfl 24 #[.int .i64 r1, .int .i64 r2, .int .i64 r3, .int .i64 r4, .int .i64 r5, .bool r6, .bool r7, .int .i64 r8, .int .u32 r9] (0, 0) _ hI2.1 Tryd.underlying24 rfl (by kernel_rfl) ?_) | ((with_reducible refine gate_store (t := 24) (p := 2) (v := .tmp 48) rfl ?_); refine wpList_store_row rfl 24 _ _ rfl w.heap.size #[.int .i64 r1, .int .i64 r2, .int .i64 r3, .int .i64 r4, .int .i64 r5, .bool r6, .bool r7, .int .i64 r8, .int .u32 r9] rfl rfl 24 in0 hG (by kernel_rfl) rfl (by simp [Value.oneCell']) ?_))
        (try simp only [jump_ret, Exit.inBlock, Exit.then])
        refine bodyPost_ret (results_cell_row rfl _ _ w.heap.size 24 #[.int .i64 r1, .int .i64 r2, .int .i64 r3, .int .i64 r4, .int .i64 r5, .bool r6, .bool r7, .int .i64 r8, .int .u32 r9] (0, 0) _ rfl (setRow_heap _ _ _ _ _ _ hG) Tryd.underlying24 rfl (by kernel_rfl)) rfl ?_
        exact ⟨rfl, below_setRow hB2 (Nat.le_refl _) _⟩
      · have hmb : (Go.bits .and .u32 e1 f.mask == f.code) = false := beq_eq_false_iff_ne.mpr hm
        go_wp2_with (first | ((with_reducible refine gate_dst (N := 33) rfl ?_); refine wpList_load_cells rfl 85 _ rfl ⟨w.heap.size + 2, i * 4, none⟩ rfl [.int .i64 f.op, .int .u32 f.mask, .int .u32 f.code, .int .i64 f.shape] _ hcell Tryd.underlying85 rfl (by kernel_rfl) ?_))
        go_roundg (96 - i)
        case measure => omega
        case rel =>
          refine ⟨i + 1, rfl, ⟨by omega⟩, ⟨?_⟩, ⟨inv_alloc hInv _⟩⟩
          rw [← hfd, findF, if_neg hm]
    · have hi96 : i = 96 := by omega
      subst hi96
      have hff : findF e1 formsL = none := by rw [← hfd]; rfl
      unfold decode_dec at hD
      rw [hff] at hD
      simp only [Option.some.injEq, Prod.mk.injEq] at hD
      obtain ⟨rfl, rfl, rfl, rfl, rfl, rfl, rfl, rfl, rfl⟩ := hD
      go_wp2_with (first | (apply wp_label) | ((with_reducible refine gate_dst (N := 50) rfl ?_); refine wpList_load_row rfl 24 _ rfl (w.heap.size + 1) rfl 24 (inC 2 (Go.bits .and .u32 a0 65535)) (0, 0) _ hInv.2.1 Tryd.underlying24 rfl (by kernel_rfl) ?_) | ((with_reducible refine gate_store (t := 24) (p := 2) (v := .tmp 50) rfl ?_); refine wpList_store_row rfl 24 _ _ rfl w.heap.size (inC 2 (Go.bits .and .u32 a0 65535)) rfl rfl 24 in0 hInv.1 (by kernel_rfl) rfl (inC_one _ _) ?_))
      (try simp only [jump_ret, Exit.inBlock, Exit.then])
      refine bodyPost_ret (results_cell_row rfl _ _ w.heap.size 24 (inC 2 (Go.bits .and .u32 a0 65535)) (0, 0) _ rfl (setRow_heap _ _ _ _ _ _ hInv.1) Tryd.underlying24 rfl (by kernel_rfl)) rfl ?_
      exact ⟨rfl, below_setRow hInv.2.2.2 (Nat.le_refl _) _⟩
set_option maxHeartbeats 8000000 in
set_option maxRecDepth 100000 in
theorem decode_Decode.calls0 (k : Nat) (a0 e1 : Int) (w : World) (hL : decode_Length.f a0 = some 2) (hE : decode_Expand.f k (IntKind.u16.wrap a0) = some (e1, false)) :
    Calls Tryd.prog 17 #[.int .u32 a0] w fun e w' => e = .returned (.agg (inC 2 (Go.bits .and .u32 a0 65535))) ∧ Below w.heap.size w w' := by
  go_enter Tryd.func17, Tryd.ntmps17
  go_wp2_with (first | (refine wp_scope_goto 0 rfl ?_) | (refine goto_step rfl ?_) | (apply wp_label) | (go_at_call 21; refine (decode_Length.calls a0 2 _ hL).mono ?_; rintro e w' ⟨rfl, ⟨nd, rfl⟩⟩) | (go_at_call 19; refine (decode_Expand.calls k (IntKind.u16.wrap a0) e1 false _ hE).mono ?_; rintro e w' ⟨rfl, ⟨nd2, rfl⟩⟩) | (go_at_call 33; refine (forms_calls2 (w.heap.size + 2) _ (by simp)).mono ?_; rintro e w' ⟨rfl, rfl⟩) | ((with_reducible refine gate_dst (N := 50) rfl ?_); refine wpList_load_row rfl 24 _ rfl (w.heap.size + 1) rfl 24 (inC 2 (Go.bits .and .u32 a0 65535)) (0, 0) _ (st2 w a0 _ nd nd2).2.1 Tryd.underlying24 rfl (by kernel_rfl) ?_) | ((with_reducible refine gate_store (t := 24) (p := 2) (v := .tmp 50) rfl ?_); refine wpList_store_row rfl 24 _ _ rfl w.heap.size (inC 2 (Go.bits .and .u32 a0 65535)) rfl rfl 24 in0 (st2 w a0 _ nd nd2).1 (by kernel_rfl) rfl (inC_one _ _) ?_))
  (try simp only [jump_ret, Exit.noGoto_ret])
  refine bodyPost_ret (results_cell_row rfl _ _ w.heap.size 24 (inC 2 (Go.bits .and .u32 a0 65535)) (0, 0) _ rfl (setRow_heap _ _ _ _ _ _ (st2 w a0 _ nd nd2).1) Tryd.underlying24 rfl (by kernel_rfl)) rfl ?_
  exact ⟨rfl, below_setRow (st2 w a0 _ nd nd2).2.2.2 (Nat.le_refl _) _⟩
theorem decode_Decode.calls (k : Nat) (a0 : Int) (r1 : Int) (r2 : Int) (r3 : Int) (r4 : Int) (r5 : Int) (r6 : Bool) (r7 : Bool) (r8 : Int) (r9 : Int) (w : World) (h : decode_Decode.f k a0 = some (r1, r2, r3, r4, r5, r6, r7, r8, r9)) :
    Calls Tryd.prog 17 #[.int .u32 a0] w fun e w' => e = .returned (.agg #[.int .i64 r1, .int .i64 r2, .int .i64 r3, .int .i64 r4, .int .i64 r5, .bool r6, .bool r7, .int .i64 r8, .int .u32 r9]) ∧ Below w.heap.size w w' := by
  unfold decode_Decode.f at h
  by_cases c : Go.bits .and .u32 a0 3 = 3
  · rw [if_pos c] at h
    exact decode_Decode.calls4 k a0 r1 r2 r3 r4 r5 r6 r7 r8 r9 w (by rw [decode_Length.f, if_pos c]) h
  · rw [if_neg c] at h
    have hL : decode_Length.f a0 = some 2 := by rw [decode_Length.f, if_neg c]
    obtain ⟨⟨e1, e2⟩, hE, h⟩ := Option.bind_eq_some_iff.mp h
    cases e2 with
    | true => exact decode_Decode.calls2 k a0 e1 r1 r2 r3 r4 r5 r6 r7 r8 r9 w hL hE (by simpa using h)
    | false =>
      simp only [Bool.false_eq_true, if_false, Option.some.injEq, Prod.mk.injEq] at h
      obtain ⟨rfl, rfl, rfl, rfl, rfl, rfl, rfl, rfl, rfl⟩ := h
      exact decode_Decode.calls0 k a0 e1 w hL hE
end Go.Proofs.YtiibhggjlandmaaDoor.PB
/- encode.Encode: what it answers where Check is content. Plain facts over the printed functions. No condition. -/
namespace Go.Proofs.YtiibhggjlandmaaDoor.Enc
open Go.RowKit Go.Proofs.YtiibhggjlandmaaDoorW.PrintWords Go.Proofs.YtiibhggjlandmaaDoor.PF Go.Proofs.YtiibhggjlandmaaDoor.PL
set_option linter.unusedVariables false
set_option linter.unusedSimpArgs false
/-- What a form's bits are, by its shape. -/
def formN (n B : Nat) : Bool :=
  (n == 9 || (B / 128 % 32 == 0 && B / 32768 % 1024 == 0)) && ((n != 0 && n != 1) || B / 4096 == 0) && ((n != 2 && n != 8 && n != 3 && n != 4) || B / 33554432 == 0) &&
  ((n != 6 && n != 7) || (B / 33554432 == 0 || B / 33554432 == 32)) && ((n != 10 && n != 11) || B / 33554432 % 4 == 0) && B % 4 == 3
def formB (op : Int) : Bool :=
  match encode_formOf.f op with
  | some (n, b, true) => decide (0 ≤ n) && decide (n < 12) && decide (0 ≤ b) && decide (b < 4294967296) && formN n.toNat b.toNat && decide (1 ≤ op) && decide (op ≤ 96)
  | some (_, _, false) => true
  | none => false
set_option maxRecDepth 100000 in
theorem forms_in : ∀ i : Fin 97, formB (i.val : Int) = true := by decide +kernel
theorem findT_none (x : Int) : ∀ l : List (Int × Int × Int), (∀ e ∈ l, e.1 ≠ x) → findT x l = none
  | [], _ => rfl
  | (o, s, b) :: r, h => by
    rw [findT, if_neg (fun e => h _ (List.mem_cons_self ..) e.symm)]
    exact findT_none x r fun e he => h e (List.mem_cons_of_mem _ he)
set_option maxRecDepth 100000 in
theorem formT_in : ∀ e ∈ formT, 1 ≤ e.1 ∧ e.1 ≤ 96 := by decide +kernel
theorem formOf_out (op : Int) (h : ¬ (0 ≤ op ∧ op ≤ 96)) : encode_formOf.f op = some (0, 0, false) := by
  have e1 : findT op formT = none := findT_none op formT fun e he => by have := formT_in e he; omega
  unfold encode_formOf.f
  rw [if_neg (by omega), if_neg (by omega), e1]
  rfl
theorem forms_all (op : Int) : formB op = true := by
  by_cases h : 0 ≤ op ∧ op ≤ 96
  · have := forms_in ⟨op.toNat, by omega⟩
    rwa [show ((op.toNat : Nat) : Int) = op by omega] at this
  · unfold formB; rw [formOf_out op h]
/-- The immediates that a shape may have. -/
def immOk (n : Nat) (v : Int) : Prop :=
  if n = 0 then -2147483648 ≤ v ∧ v < 2147483648 ∧ v % 4096 = 0 else if n = 1 then -1048576 ≤ v ∧ v < 1048576 ∧ v % 2 = 0 else if n = 2 ∨ n = 4 then -2048 ≤ v ∧ v < 2048
  else if n = 3 then -4096 ≤ v ∧ v < 4096 ∧ v % 2 = 0 else if n = 6 then 0 ≤ v ∧ v < 64 else if n = 7 then 0 ≤ v ∧ v < 32 else if n = 8 then 0 ≤ v ∧ v < 4096 else v = 0
structure Val (n B rd rs1 rs2 : Nat) (v : Int) (aq rl : Bool) : Prop where
  n12 : n < 12
  b32 : B < 4294967296
  form : formN n B = true
  d : rd < 32
  s1 : rs1 < 32
  s2 : rs2 < 32
  hd : n = 3 ∨ n = 4 ∨ n = 9 → rd = 0
  h1 : n = 0 ∨ n = 1 ∨ n = 9 → rs1 = 0
  h2 : n = 3 ∨ n = 4 ∨ n = 5 ∨ n = 10 ∨ rs2 = 0
  imm : immOk n v
  o : n = 10 ∨ n = 11 ∨ (aq = false ∧ rl = false)
theorem tm (v m : Int) (h : Int.tmod v m = 0) : v % m = 0 := by
  have : m ∣ v := Int.dvd_iff_tmod_eq_zero.mpr h
  exact Int.emod_eq_zero_of_dvd this
theorem reach_imm (n : Nat) (hn : n < 9) (h5 : n ≠ 5) (v : Int) (h : chkR v (findR (n : Int) reachT) = some 0) : immOk n v := by
  have e : n = 0 ∨ n = 1 ∨ n = 2 ∨ n = 3 ∨ n = 4 ∨ n = 6 ∨ n = 7 ∨ n = 8 := by omega
  have k : ∀ lo hi st : Int, st ≠ 0 → chkR v (some (lo, hi, st)) = some 0 → lo ≤ v ∧ v ≤ hi ∧ v % st = 0 := by
    intro lo hi st hst hx
    simp only [chkR, if_neg hst] at hx
    by_cases c : v < lo ∨ v > hi
    · rw [if_pos c] at hx; exact absurd hx (by decide)
    · rw [if_neg c] at hx
      by_cases c2 : Int.tmod v st = 0
      · exact ⟨by omega, by omega, tm v st c2⟩
      · rw [if_neg c2] at hx; exact absurd hx (by decide)
  rcases e with rfl | rfl | rfl | rfl | rfl | rfl | rfl | rfl
  · have := k (-2147483648) 2147479552 4096 (by decide) h; simp only [immOk]; simp; omega
  · have := k (-1048576) 1048574 2 (by decide) h; simp only [immOk]; simp; omega
  · have := k (-2048) 2047 1 (by decide) h; simp only [immOk]; simp; omega
  · have := k (-4096) 4094 2 (by decide) h; simp only [immOk]; simp; omega
  · have := k (-2048) 2047 1 (by decide) h; simp only [immOk]; simp; omega
  · have := k 0 63 1 (by decide) h; simp only [immOk]; simp; omega
  · have := k 0 31 1 (by decide) h; simp only [immOk]; simp; omega
  · have := k 0 4095 1 (by decide) h; simp only [immOk]; simp; omega
theorem nb {r : Int} (h : ¬ bad r) : ∃ R : Nat, r = R ∧ R < 32 := ⟨r.toNat, by unfold bad at h; omega, by unfold bad at h; omega⟩
theorem zr (b : Bool) (R : Nat) (h : (!b) = false ∨ ((R : Int) != 0) = false) (hb : b = false) : R = 0 := by
  subst hb
  rcases h with h | h
  · exact absurd h (by decide)
  · have : (R : Int) = 0 := by simpa using h
    omega
theorem zv (b : Bool) (v : Int) (h : (!b) = false ∨ (v != 0) = false) (hb : b = false) : v = 0 := by
  subst hb
  rcases h with h | h
  · exact absurd h (by decide)
  · simpa using h
theorem zo (b aq rl : Bool) (h : (!b) = false ∨ (aq = false ∧ rl = false)) (hb : b = false) : aq = false ∧ rl = false := by
  subst hb
  rcases h with h | h
  · exact absurd h (by decide)
  · exact h
/-- What Check's content says. -/
theorem val_of (op rd rs1 rs2 v : Int) (aq rl : Bool) (len raw : Int) (h : encode_Check.f op rd rs1 rs2 v aq rl len raw = some 0) :
    ∃ n B RD R1 R2 : Nat, encode_formOf.f op = some ((n : Int), (B : Int), true) ∧ rd = RD ∧ rs1 = R1 ∧ rs2 = R2 ∧ Val n B RD R1 R2 v aq rl := by
  have hp := forms_all op
  unfold formB at hp
  unfold encode_Check.f at h
  obtain ⟨⟨n, b, t⟩, hz, hq⟩ := Option.bind_eq_some_iff.mp h
  clear h
  rw [hz] at hp
  cases t with
  | false => simp at hq
  | true =>
    simp only [Bool.and_eq_true, decide_eq_true_eq] at hp
    obtain ⟨⟨⟨⟨⟨⟨p1, p2⟩, p3⟩, p4⟩, p5⟩, _⟩, _⟩ := hp
    obtain ⟨m, rfl⟩ : ∃ m : Nat, n = (m : Int) := ⟨n.toNat, by omega⟩
    obtain ⟨B, rfl⟩ : ∃ B : Nat, b = (B : Int) := ⟨b.toNat, by omega⟩
    simp only [Int.toNat_natCast] at p5 hq
    simp only [if_true, if_neg (show ¬ ((m : Int) < 0) by omega)] at hq
    obtain ⟨hh, hH, h⟩ := Option.bind_eq_some_iff.mp hq
    clear hq
    by_cases c1 : bad rd ∨ bad rs1 ∨ bad rs2
    · rw [if_pos c1] at h; exact absurd h (by decide)
    rw [if_neg c1] at h
    by_cases c2 : bad2 hh rd rs1 rs2 v aq rl = true
    · rw [if_pos c2] at h; exact absurd h (by decide)
    rw [if_neg c2] at h
    obtain ⟨RD, rfl, d1⟩ := nb (fun x => c1 (.inl x))
    obtain ⟨R1, rfl, d2⟩ := nb (fun x => c1 (.inr (.inl x)))
    obtain ⟨R2, rfl, d3⟩ := nb (fun x => c1 (.inr (.inr x)))
    refine ⟨m, B, RD, R1, R2, hz, rfl, rfl, rfl, ?_⟩
    have hm : m < 12 := by omega
    clear c1 p1 p2 hz
    have hi : (m < 9 ∧ m ≠ 5) → immOk m v := fun hx => reach_imm m hx.1 hx.2 v h
    clear h
    have c3 : bad2 hh (RD : Int) (R1 : Int) (R2 : Int) v aq rl = false := by simpa using c2
    clear c2
    unfold bad2 at c3
    simp only [Bool.or_eq_false_iff, Bool.and_eq_false_iff] at c3
    obtain ⟨⟨⟨⟨a1, a2⟩, a3⟩, a4⟩, a5⟩ := c3
    have e : m = 0 ∨ m = 1 ∨ m = 2 ∨ m = 3 ∨ m = 4 ∨ m = 5 ∨ m = 6 ∨ m = 7 ∨ m = 8 ∨ m = 9 ∨ m = 10 ∨ m = 11 := by omega
    rcases e with rfl | rfl | rfl | rfl | rfl | rfl | rfl | rfl | rfl | rfl | rfl | rfl <;>
      (obtain rfl := Option.some.inj hH; clear hH
       refine ⟨by omega, by omega, p5, d1, d2, d3, ?_, ?_, ?_, ?_, ?_⟩
       · intro hx; first | (exfalso; clear a1 a2 a3 a4 a5 hi; omega) | exact zr _ RD a1 rfl
       · intro hx; first | (exfalso; clear a1 a2 a3 a4 a5 hi; omega) | exact zr _ R1 a2 rfl
       · first | exact .inr (.inr (.inr (.inr (zr _ R2 a3 rfl)))) | (clear a1 a2 a3 a4 a5 hi; omega)
       · first | exact hi (by decide) | exact (show v = 0 from zv _ v a4 rfl)
       · first | exact .inl rfl | exact .inr (.inl rfl) | exact .inr (.inr (zo _ aq rl a5 rfl)))
/-- The word, by shape. -/
def encT (n B rd rs1 rs2 : Nat) (v : Int) (aq rl : Bool) : Nat :=
  if n = 4 then W6 (fi v 32 128) rs2 rs1 (B / 4096 % 8) (fi v 1 32) (B % 128)
  else if n = 3 then W6 (fi v 4096 2 * 64 + fi v 32 64) rs2 rs1 (B / 4096 % 8) (fi v 2 16 * 2 + fi v 2048 2) (B % 128)
  else if n = 0 then W6 (fi v 33554432 128) (fi v 1048576 32) (fi v 32768 32) (fi v 4096 8) rd (B % 128)
  else if n = 1 then W6 (fi v 1048576 2 * 64 + fi v 32 64) (fi v 2 16 * 2 + fi v 2048 2) (fi v 32768 32) (fi v 4096 8) rd (B % 128)
  else if n = 2 ∨ n = 8 then W6 (fi v 32 128) (fi v 1 32) rs1 (B / 4096 % 8) rd (B % 128)
  else if n = 6 then W6 (B / 33554432 + fi v 32 2) (fi v 1 32) rs1 (B / 4096 % 8) rd (B % 128)
  else if n = 7 then W6 (B / 33554432) (fi v 1 32) rs1 (B / 4096 % 8) rd (B % 128)
  else if n = 9 then B
  else W6 (B / 33554432 + (if aq = true then 2 else 0) + (if rl = true then 1 else 0)) rs2 rs1 (B / 4096 % 8) rd (B % 128)
theorem regs_w (r1 r2 : Nat) (h1 : r1 < 32) (h2 : r2 < 32) : ((((r1 : Int) % 4294967296) * 32768) % 4294967296 = (W6 0 0 r1 0 0 0 : Nat)) ∧ ((((r2 : Int) % 4294967296) * 1048576) % 4294967296 = (W6 0 r2 0 0 0 0 : Nat)) ∧ ((((r2 : Int) % 4294967296) * 128) % 4294967296 = (W6 0 0 0 0 r2 0 : Nat)) := by
  unfold W6; refine ⟨by omega, by omega, by omega⟩
theorem W6_of (B : Nat) : B = W6 (B / 33554432) (B / 1048576 % 32) (B / 32768 % 32) (B / 4096 % 8) (B / 128 % 32) (B % 128) := by unfold W6; omega
/-- Opcode and f3, and both registers. -/
theorem base_w (B r1 r2 : Nat) (hB : B < 4294967296) (h1 : r1 < 32) (h2 : r2 < 32) (hz : B / 128 % 32 = 0 ∧ B / 32768 % 1024 = 0) :
    Go.bits .or .u32 (Go.bits .or .u32 (B : Int) ((((r1 : Int) % 4294967296) * 32768) % 4294967296)) ((((r2 : Int) % 4294967296) * 1048576) % 4294967296) = (W6 (B / 33554432) r2 r1 (B / 4096 % 8) 0 (B % 128) : Nat) := by
  have e : (B : Int) = (W6 (B / 33554432) 0 0 (B / 4096 % 8) 0 (B % 128) : Nat) := by congr 1; unfold W6; omega
  rw [(regs_w r1 r2 h1 h2).1, (regs_w r1 r2 h1 h2).2.1]
  conv => lhs; arg 3; arg 3; rw [e]
  rw [or_w _ _ _ _ _ _ _ _ _ _ _ _ (by omega) (by decide) (by decide) (by omega) (by decide) (by omega) (by decide) (by decide) h1 (by decide) (by decide) (by decide)]
  simp only [Nat.zero_or, Nat.or_zero]
  rw [or_w _ _ _ _ _ _ _ _ _ _ _ _ (by omega) (by decide) h1 (by omega) (by decide) (by omega) (by decide) h2 (by decide) (by decide) (by decide) (by decide)]
  simp only [Nat.zero_or, Nat.or_zero]
theorem base_d (t y x f c rd : Nat) (h0 : t < 128) (h1 : y < 32) (h2 : x < 32) (h3 : f < 8) (h5 : c < 128) (h : rd < 32) : Go.bits .or .u32 (W6 t y x f 0 c : Nat) ((((rd : Int) % 4294967296) * 128) % 4294967296) = (W6 t y x f rd c : Nat) := by
  rw [(regs_w rd rd h h).2.2, or_w _ _ _ _ _ _ _ _ _ _ _ _ h0 h1 h2 h3 (by decide) h5 (by decide) (by decide) (by decide) (by decide) h (by decide)]
  simp only [Nat.zero_or, Nat.or_zero]
theorem or_32 : ∀ i : Fin 2, 32 ||| i.val = 32 + i.val := by decide
theorem orT : ∀ a : Fin 32, ∀ i : Fin 4, (a.val * 4) ||| i.val = a.val * 4 + i.val := by decide
theorem or_t4 (t i : Nat) (ht : t < 128) (h4 : t % 4 = 0) (hi : i < 4) : t ||| i = t + i := by
  have := orT ⟨t / 4, by omega⟩ ⟨i, hi⟩
  simp only at this
  rwa [show t / 4 * 4 = t by omega] at this
theorem or_s (t i : Nat) (ht : t = 0 ∨ t = 32) (hi : i < 2) : t ||| i = t + i := by
  rcases ht with rfl | rfl
  · simp
  · exact or_32 ⟨i, hi⟩
theorem aqw : (67108864 : Int) = (W6 2 0 0 0 0 0 : Nat) ∧ (33554432 : Int) = (W6 1 0 0 0 0 0 : Nat) := by decide +kernel
theorem enc_ok (k : Nat) (hk : 12 ≤ k) (op rd rs1 rs2 v : Int) (aq rl : Bool) (len raw : Int) (h : encode_Check.f op rd rs1 rs2 v aq rl len raw = some 0) :
    ∃ n B RD R1 R2 : Nat, encode_formOf.f op = some ((n : Int), (B : Int), true) ∧ rd = RD ∧ rs1 = R1 ∧ rs2 = R2 ∧ Val n B RD R1 R2 v aq rl ∧
      encode_Encode.f k op rd rs1 rs2 v aq rl len raw = some (((encT n B RD R1 R2 v aq rl : Nat) : Int), 0) := by
  obtain ⟨n, B, RD, R1, R2, hz, rfl, rfl, rfl, hv⟩ := val_of op rd rs1 rs2 v aq rl len raw h
  refine ⟨n, B, RD, R1, R2, hz, rfl, rfl, rfl, hv, ?_⟩
  obtain ⟨k, rfl⟩ : ∃ j, k = j + 2 := ⟨k - 2, by omega⟩
  unfold encode_Encode.f
  rw [h, Option.bind_some, if_pos rfl, hz, Option.bind_some]
  dsimp only
  obtain ⟨n12, b32, hf, d, s1, s2, hd, h1, h2, hi, o⟩ := hv
  clear h hz
  have e : n = 0 ∨ n = 1 ∨ n = 2 ∨ n = 3 ∨ n = 4 ∨ n = 5 ∨ n = 6 ∨ n = 7 ∨ n = 8 ∨ n = 9 ∨ n = 10 ∨ n = 11 := by omega
  have bt : B / 33554432 < 128 := by omega
  have bf : B / 4096 % 8 < 8 := by omega
  have bc : B % 128 < 128 := by omega
  have f32 := fb v 32 128 128 rfl (by decide); have f1 := fb v 1 32 32 rfl (by decide)
  rcases e with rfl | rfl | rfl | rfl | rfl | rfl | rfl | rfl | rfl | rfl | rfl | rfl <;> simp [formN] at hf
  · obtain rfl := h1 (.inl rfl)
    obtain rfl : R2 = 0 := by omega
    rw [if_neg (by decide), if_neg (by decide), if_pos (by decide), base_w B 0 0 b32 (by decide) (by decide) (by omega), base_d _ _ _ _ _ RD bt (by decide) (by decide) bf bc d]
    have g1 := fb v 33554432 128 128 rfl (by decide); have g2 := fb v 1048576 32 32 rfl (by decide); have g3 := fb v 32768 32 32 rfl (by decide); have g4 := fb v 4096 8 8 rfl (by decide)
    have ev : v % 4294967296 = (W6 (fi v 33554432 128) (fi v 1048576 32) (fi v 32768 32) (fi v 4096 8) 0 0 : Nat) := by
      simp only [immOk, if_true] at hi
      unfold W6 fi; omega
    rw [ev, or_w _ _ _ _ _ _ _ _ _ _ _ _ bt (by decide) (by decide) bf d bc g1 g2 g3 g4 (by decide) (by decide)]
    rw [show B / 33554432 = 0 by omega, show B / 4096 % 8 = 0 by omega]
    simp only [Nat.zero_or, Nat.or_zero]; rfl
  · obtain rfl := h1 (.inr (.inl rfl))
    obtain rfl : R2 = 0 := by omega
    rw [if_neg (by decide), if_neg (by decide), if_neg (by decide), if_pos (by decide), sc_J v (k + 2) (by omega), Option.bind_some, base_w B 0 0 b32 (by decide) (by decide) (by omega), base_d _ _ _ _ _ RD bt (by decide) (by decide) bf bc d]
    have g1 := fb v 1048576 2 2 rfl (by decide); have g2 := fb v 32 64 64 rfl (by decide); have g3 := fb v 2 16 16 rfl (by decide); have g4 := fb v 2048 2 2 rfl (by decide)
    have g5 := fb v 32768 32 32 rfl (by decide); have g6 := fb v 4096 8 8 rfl (by decide)
    rw [or_w _ _ _ _ _ _ _ _ _ _ _ _ bt (by decide) (by decide) bf d bc (by omega) (by omega) g5 g6 (by decide) (by decide)]
    rw [show B / 33554432 = 0 by omega, show B / 4096 % 8 = 0 by omega]
    simp only [Nat.zero_or, Nat.or_zero]; rfl
  · obtain rfl : R2 = 0 := by omega
    rw [if_neg (by decide), if_neg (by decide), if_neg (by decide), if_neg (by decide), if_pos (by decide), base_w B R1 0 b32 s1 (by decide) (by omega), base_d _ _ _ _ _ RD bt (by decide) s1 bf bc d]
    rw [encode_Encode.j0, if_pos (by decide)]
    rw [sc_I v (k + 1) (by omega), Option.bind_some, or_w _ _ _ _ _ _ _ _ _ _ _ _ bt (by decide) s1 bf d bc f32 f1 (by decide) (by decide) (by decide) (by decide), show B / 33554432 = 0 by omega]
    simp only [Nat.zero_or, Nat.or_zero]; rfl
  · obtain rfl := hd (.inl rfl)
    rw [if_neg (by decide), if_pos (by decide), sc_B v (k + 2) (by omega), Option.bind_some, base_w B R1 R2 b32 s1 s2 (by omega)]
    have g1 := fb v 4096 2 2 rfl (by decide); have g2 := fb v 32 64 64 rfl (by decide); have g3 := fb v 2 16 16 rfl (by decide); have g4 := fb v 2048 2 2 rfl (by decide)
    rw [or_w _ _ _ _ _ _ _ _ _ _ _ _ bt s2 s1 bf (by decide) bc (by omega) (by decide) (by decide) (by decide) (by omega) (by decide), show B / 33554432 = 0 by omega]
    simp only [Nat.zero_or, Nat.or_zero]; rfl
  · obtain rfl := hd (.inr (.inl rfl))
    rw [if_pos (by decide), sc_S v (k + 2) (by omega), Option.bind_some, base_w B R1 R2 b32 s1 s2 (by omega)]
    rw [or_w _ _ _ _ _ _ _ _ _ _ _ _ bt s2 s1 bf (by decide) bc f32 (by decide) (by decide) (by decide) f1 (by decide), show B / 33554432 = 0 by omega]
    simp only [Nat.zero_or, Nat.or_zero]; rfl
  · obtain ⟨rfl, rfl⟩ : aq = false ∧ rl = false := by rcases o with o | o | o; exact absurd o (by decide); exact absurd o (by decide); exact o
    rw [if_neg (by decide), if_neg (by decide), if_neg (by decide), if_neg (by decide), if_neg (by decide), if_neg (by decide), if_neg (by decide), base_w B R1 R2 b32 s1 s2 (by omega), base_d _ _ _ _ _ RD bt s2 s1 bf bc d]
    simp [encode_Encode.j0, encode_Encode.j1, encT]
  · obtain rfl : R2 = 0 := by omega
    rw [if_neg (by decide), if_neg (by decide), if_neg (by decide), if_neg (by decide), if_neg (by decide), if_neg (by decide), if_pos (by decide), base_w B R1 0 b32 s1 (by decide) (by omega), base_d _ _ _ _ _ RD bt (by decide) s1 bf bc d]
    rw [encode_Encode.j0, if_pos (by decide)]
    have e32 : fi v 32 128 = fi v 32 2 := by simp only [immOk] at hi; simp at hi; unfold fi; omega
    have g1 := fb v 32 2 2 rfl (by decide)
    rw [sc_I v (k + 1) (by omega), Option.bind_some, or_w _ _ _ _ _ _ _ _ _ _ _ _ bt (by decide) s1 bf d bc f32 f1 (by decide) (by decide) (by decide) (by decide), e32, or_s _ _ (by omega) g1]
    simp only [Nat.zero_or, Nat.or_zero]; rfl
  · obtain rfl : R2 = 0 := by omega
    rw [if_neg (by decide), if_neg (by decide), if_neg (by decide), if_neg (by decide), if_neg (by decide), if_neg (by decide), if_neg (by decide), base_w B R1 0 b32 s1 (by decide) (by omega), base_d _ _ _ _ _ RD bt (by decide) s1 bf bc d]
    rw [encode_Encode.j0, if_pos (by decide)]
    have e32 : fi v 32 128 = 0 := by simp only [immOk] at hi; simp at hi; unfold fi; omega
    rw [sc_I v (k + 1) (by omega), Option.bind_some, or_w _ _ _ _ _ _ _ _ _ _ _ _ bt (by decide) s1 bf d bc f32 f1 (by decide) (by decide) (by decide) (by decide), e32]
    simp only [Nat.zero_or, Nat.or_zero]; rfl
  · obtain rfl : R2 = 0 := by omega
    rw [if_neg (by decide), if_neg (by decide), if_neg (by decide), if_neg (by decide), if_neg (by decide), if_pos (by decide), base_w B R1 0 b32 s1 (by decide) (by omega), base_d _ _ _ _ _ RD bt (by decide) s1 bf bc d]
    rw [encode_Encode.j0, if_pos (by decide)]
    rw [sc_I v (k + 1) (by omega), Option.bind_some, or_w _ _ _ _ _ _ _ _ _ _ _ _ bt (by decide) s1 bf d bc f32 f1 (by decide) (by decide) (by decide) (by decide), show B / 33554432 = 0 by omega]
    simp only [Nat.zero_or, Nat.or_zero]; rfl
  · obtain rfl := hd (.inr (.inr rfl))
    obtain rfl := h1 (.inr (.inr rfl))
    obtain rfl : R2 = 0 := by omega
    have zz : (((((0 : Nat) : Int)) % 4294967296 * 32768) % 4294967296) = ((0 : Nat) : Int) := rfl
    have zy : (((((0 : Nat) : Int)) % 4294967296 * 1048576) % 4294967296) = ((0 : Nat) : Int) := rfl
    have zx : (((((0 : Nat) : Int)) % 4294967296 * 128) % 4294967296) = ((0 : Nat) : Int) := rfl
    obtain ⟨rfl, rfl⟩ : aq = false ∧ rl = false := by rcases o with o | o | o; exact absurd o (by decide); exact absurd o (by decide); exact o
    rw [if_neg (by decide), if_neg (by decide), if_neg (by decide), if_neg (by decide), if_neg (by decide), if_neg (by decide), if_neg (by decide), zz, zy, zx, or32 B 0 b32 (by decide), Nat.or_zero, or32 B 0 b32 (by decide), Nat.or_zero, or32 B 0 b32 (by decide), Nat.or_zero]
    simp [encode_Encode.j0, encode_Encode.j1, encT]
  · rw [if_neg (by decide), if_neg (by decide), if_neg (by decide), if_neg (by decide), if_neg (by decide), if_neg (by decide), if_neg (by decide), base_w B R1 R2 b32 s1 s2 (by omega), base_d _ _ _ _ _ RD bt s2 s1 bf bc d]
    simp only [encode_Encode.j0, encode_Encode.j1]
    rw [if_neg (by decide), if_pos (by decide), if_pos (by decide)]
    have o2 : ∀ t : Nat, t < 128 → t % 4 = 0 → Go.bits .or .u32 (W6 t R2 R1 (B / 4096 % 8) RD (B % 128) : Nat) 67108864 = (W6 (t + 2) R2 R1 (B / 4096 % 8) RD (B % 128) : Nat) := by
      intro t h0 h4
      rw [aqw.1, or_w _ _ _ _ _ _ _ _ _ _ _ _ h0 s2 s1 bf d bc (by decide) (by decide) (by decide) (by decide) (by decide) (by decide), or_t4 t 2 h0 h4 (by decide)]
      simp only [Nat.or_zero]
    have o1 : ∀ t : Nat, t < 126 → t % 4 = 0 → Go.bits .or .u32 (W6 t R2 R1 (B / 4096 % 8) RD (B % 128) : Nat) 33554432 = (W6 (t + 1) R2 R1 (B / 4096 % 8) RD (B % 128) : Nat) := by
      intro t h0 h4
      rw [aqw.2, or_w _ _ _ _ _ _ _ _ _ _ _ _ (by omega) s2 s1 bf d bc (by decide) (by decide) (by decide) (by decide) (by decide) (by decide), or_t4 t 1 (by omega) h4 (by decide)]
      simp only [Nat.or_zero]
    have o3 : ∀ t : Nat, t < 126 → t % 4 = 0 → Go.bits .or .u32 (W6 (t + 2) R2 R1 (B / 4096 % 8) RD (B % 128) : Nat) 33554432 = (W6 (t + 2 + 1) R2 R1 (B / 4096 % 8) RD (B % 128) : Nat) := by
      intro t h0 h4
      rw [aqw.2, or_w _ _ _ _ _ _ _ _ _ _ _ _ (by omega) s2 s1 bf d bc (by decide) (by decide) (by decide) (by decide) (by decide) (by decide)]
      have e3 : (t + 2) ||| 1 = t + 2 + 1 := by
        rw [← or_t4 t 2 (by omega) h4 (by decide), Nat.or_assoc, show (2 ||| 1 : Nat) = 3 from rfl, or_t4 t 3 (by omega) h4 (by decide), or_t4 t 2 (by omega) h4 (by decide)]
      rw [e3]; simp only [Nat.or_zero]
    have ht : B / 33554432 < 126 := by omega
    cases aq <;> cases rl <;> simp only [if_true, Bool.false_eq_true, if_false]
    · rfl
    · rw [o1 _ ht (by omega)]; rfl
    · rw [o2 _ bt (by omega)]; rfl
    · rw [o2 _ bt (by omega), o3 _ ht (by omega)]; rfl
  · rw [if_neg (by decide), if_neg (by decide), if_neg (by decide), if_neg (by decide), if_neg (by decide), if_neg (by decide), if_neg (by decide), base_w B R1 R2 b32 s1 s2 (by omega), base_d _ _ _ _ _ RD bt s2 s1 bf bc d]
    simp only [encode_Encode.j0, encode_Encode.j1]
    rw [if_neg (by decide), if_neg (by decide), if_pos (by decide)]
    have o2 : ∀ t : Nat, t < 128 → t % 4 = 0 → Go.bits .or .u32 (W6 t R2 R1 (B / 4096 % 8) RD (B % 128) : Nat) 67108864 = (W6 (t + 2) R2 R1 (B / 4096 % 8) RD (B % 128) : Nat) := by
      intro t h0 h4
      rw [aqw.1, or_w _ _ _ _ _ _ _ _ _ _ _ _ h0 s2 s1 bf d bc (by decide) (by decide) (by decide) (by decide) (by decide) (by decide), or_t4 t 2 h0 h4 (by decide)]
      simp only [Nat.or_zero]
    have o1 : ∀ t : Nat, t < 126 → t % 4 = 0 → Go.bits .or .u32 (W6 t R2 R1 (B / 4096 % 8) RD (B % 128) : Nat) 33554432 = (W6 (t + 1) R2 R1 (B / 4096 % 8) RD (B % 128) : Nat) := by
      intro t h0 h4
      rw [aqw.2, or_w _ _ _ _ _ _ _ _ _ _ _ _ (by omega) s2 s1 bf d bc (by decide) (by decide) (by decide) (by decide) (by decide) (by decide), or_t4 t 1 (by omega) h4 (by decide)]
      simp only [Nat.or_zero]
    have o3 : ∀ t : Nat, t < 126 → t % 4 = 0 → Go.bits .or .u32 (W6 (t + 2) R2 R1 (B / 4096 % 8) RD (B % 128) : Nat) 33554432 = (W6 (t + 2 + 1) R2 R1 (B / 4096 % 8) RD (B % 128) : Nat) := by
      intro t h0 h4
      rw [aqw.2, or_w _ _ _ _ _ _ _ _ _ _ _ _ (by omega) s2 s1 bf d bc (by decide) (by decide) (by decide) (by decide) (by decide) (by decide)]
      have e3 : (t + 2) ||| 1 = t + 2 + 1 := by
        rw [← or_t4 t 2 (by omega) h4 (by decide), Nat.or_assoc, show (2 ||| 1 : Nat) = 3 from rfl, or_t4 t 3 (by omega) h4 (by decide), or_t4 t 2 (by omega) h4 (by decide)]
      rw [e3]; simp only [Nat.or_zero]
    have ht : B / 33554432 < 126 := by omega
    cases aq <;> cases rl <;> simp only [if_true, Bool.false_eq_true, if_false]
    · rfl
    · rw [o1 _ ht (by omega)]; rfl
    · rw [o2 _ bt (by omega)]; rfl
    · rw [o2 _ bt (by omega), o3 _ ht (by omega)]; rfl
end Go.Proofs.YtiibhggjlandmaaDoor.Enc
-- Written by a program (a turned copy of the kit's print.py) for this claim. Lean checks it.
namespace Go.Proofs.YtiibhggjlandmaaDoor.PK
open Go.RowKit Go.Proofs.YtiibhggjlandmaaDoorW.PrintWords Go.Proofs.YtiibhggjlandmaaDoorW.PrintLast Go.Proofs.YtiibhggjlandmaaDoorW.PrintMore Go.Proofs.YtiibhggjlandmaaDoor.PF Go.Proofs.YtiibhggjlandmaaDoor.PL Go.Proofs.YtiibhggjlandmaaDoor.PB Go.Proofs.YtiibhggjlandmaaDoor.TR
attribute [local go_sem] max2_int min2_int max_two min_two max_three min_three max_four min_four   -- for this text's walks alone
set_option linter.unusedVariables false
set_option linter.unusedSimpArgs false

theorem eqA24 (d : Nat) (w : World) (x0 y0 : Int) (x1 y1 : Int) (x2 y2 : Int) (x3 y3 : Int) (x4 y4 : Int) (x5 y5 : Bool) (x6 y6 : Bool) (x7 y7 : Int) (x8 y8 : Int) :
    (Op.equalIn (d + 2) 24 (.agg #[.int .i64 x0, .int .i64 x1, .int .i64 x2, .int .i64 x3, .int .i64 x4, .bool x5, .bool x6, .int .i64 x7, .int .u32 x8]) (.agg #[.int .i64 y0, .int .i64 y1, .int .i64 y2, .int .i64 y3, .int .i64 y4, .bool y5, .bool y6, .int .i64 y7, .int .u32 y8])).run Tryd.prog w = .ok (x0 == y0 && (x1 == y1 && (x2 == y2 && (x3 == y3 && (x4 == y4 && (x5 == y5 && (x6 == y6 && (x7 == y7 && (x8 == y8))))))))) w := by
  refine eqA_of Tryd.underlying24 (by kernel_rfl) ?_
  refine eqf_cons (by rfl) (by go_simp; rfl) (by go_simp; rfl) (by go_simp) ?_
  refine eqf_cons (by rfl) (by go_simp; rfl) (by go_simp; rfl) (by go_simp) ?_
  refine eqf_cons (by rfl) (by go_simp; rfl) (by go_simp; rfl) (by go_simp) ?_
  refine eqf_cons (by rfl) (by go_simp; rfl) (by go_simp; rfl) (by go_simp) ?_
  refine eqf_cons (by rfl) (by go_simp; rfl) (by go_simp; rfl) (by go_simp) ?_
  refine eqf_cons (by rfl) (by go_simp; rfl) (by go_simp; rfl) (by go_simp) ?_
  refine eqf_cons (by rfl) (by go_simp; rfl) (by go_simp; rfl) (by go_simp) ?_
  refine eqf_cons (by rfl) (by go_simp; rfl) (by go_simp; rfl) (by go_simp) ?_
  exact eqf_last (by rfl) (by go_simp; rfl) (by go_simp; rfl) (by go_simp)
attribute [local go_sem high] eqA24
/-! ### encode_Compress: function 15 -/
def encode_Compress.l0 : Nat → Int → Bool → List Int → Int → Int → Int → Int → Int → Int → Int → Bool → Bool → Int → Int → Option (Int × Bool)
  | 0, _, _, _, _, _, _, _, _, _, _, _, _, _, _ => none
  | k + 1, x4, x5, x15, x16, x17, x359000, x359001, x359002, x359003, x359004, x359005, x359006, x359007, x359008 => if x17 < x16 then (if 0 ≤ x17 then (if x17 < (x15.length : Int) then ((decode_Decode.f k ((rd x15 x17) % 4294967296)).bind fun bt364 => (if (bt364.1 == x359000 && (bt364.2.1 == x359001 && (bt364.2.2.1 == x359002 && (bt364.2.2.2.1 == x359003 && (bt364.2.2.2.2.1 == x359004 && (bt364.2.2.2.2.2.1 == x359005 && (bt364.2.2.2.2.2.2.1 == x359006 && (0 == x359007 && (0 == x359008))))))))) = true then (if x5 = true then (if (rd x15 x17) < x4 then (encode_Compress.l0 k (rd x15 x17) true x15 x16 (wrap64 (x17 + 1)) x359000 x359001 x359002 x359003 x359004 x359005 x359006 x359007 x359008) else (encode_Compress.l0 k x4 x5 x15 x16 (wrap64 (x17 + 1)) x359000 x359001 x359002 x359003 x359004 x359005 x359006 x359007 x359008)) else (encode_Compress.l0 k (rd x15 x17) true x15 x16 (wrap64 (x17 + 1)) x359000 x359001 x359002 x359003 x359004 x359005 x359006 x359007 x359008)) else (encode_Compress.l0 k x4 x5 x15 x16 (wrap64 (x17 + 1)) x359000 x359001 x359002 x359003 x359004 x359005 x359006 x359007 x359008))) else (none)) else (none)) else (some (x4, x5))
def encode_Compress.f (k : Nat) (a0_0 : Int) (a0_1 : Int) (a0_2 : Int) (a0_3 : Int) (a0_4 : Int) (a0_5 : Bool) (a0_6 : Bool) (a0_7 : Int) (a0_8 : Int) : Option (Int × Bool) := (encode_Check.f a0_0 a0_1 a0_2 a0_3 a0_4 a0_5 a0_6 a0_7 a0_8).bind fun t359 => (if t359 = 0 then ((encode_tries.f a0_0 a0_1 a0_2 a0_3 a0_4 a0_5 a0_6 0 0).bind fun t360 => (encode_Compress.l0 k 0 false t360 (t360.length : Int) 0 a0_0 a0_1 a0_2 a0_3 a0_4 a0_5 a0_6 0 0)) else (some (0, false)))
end Go.Proofs.YtiibhggjlandmaaDoor.PK
/- encode.Compress: its contract. Premise: the list of atomics lies where the program has it. -/
namespace Go.Proofs.YtiibhggjlandmaaDoor.PK
open Go.RowKit Go.Proofs.YtiibhggjlandmaaDoorW.PrintWords Go.Proofs.YtiibhggjlandmaaDoorW.PrintLast Go.Proofs.YtiibhggjlandmaaDoorW.PrintMore Go.Proofs.YtiibhggjlandmaaDoor.PF Go.Proofs.YtiibhggjlandmaaDoor.PL Go.Proofs.YtiibhggjlandmaaDoor.PB Go.Proofs.YtiibhggjlandmaaDoor.TR
attribute [local go_sem high] eqA24
set_option linter.unusedVariables false
set_option linter.unusedSimpArgs false
def iC (a0 a1 a2 a3 a4 : Int) (a5 a6 : Bool) (a7 a8 : Int) : Array Value := #[.int .i64 a0, .int .i64 a1, .int .i64 a2, .int .i64 a3, .int .i64 a4, .bool a5, .bool a6, .int .i64 a7, .int .u32 a8]
theorem set_alloc (W : World) (cs : Array Value) (t : TypeId) (j : Nat) (v : Value) : (W.alloc (.cells cs t)).setCell ⟨W.heap.size, j, none⟩ v = W.alloc (.cells (cs.setIfInBounds j v) t) := by
  have h : (W.heap.push (.cells cs t)).modify W.heap.size (fun x => match x with | .cells c elem frozen => .cells (c.setIfInBounds j v) elem frozen | o => o) = W.heap.push (.cells (cs.setIfInBounds j v) t) := by
    apply Array.ext
    · simp
    · intro i h1 h2
      simp only [Array.size_modify, Array.size_push] at h1
      rw [Array.getElem_modify]
      by_cases e : W.heap.size = i
      · subst e; simp
      · rw [if_neg e, Array.getElem_push_lt (by omega), Array.getElem_push_lt (by omega)]
  exact congrArg (fun h => ({ heap := h, tape := W.tape, drawn := W.drawn, os := W.os, output := W.output } : World)) h
theorem said_fold (W : World) (a0 a1 a2 a3 a4 : Int) (a5 a6 : Bool) (a7 a8 b c : Int) :
    ((W.alloc (.cells (iC a0 a1 a2 a3 a4 a5 a6 a7 a8) 24)).setCell ⟨W.heap.size, 7, none⟩ (.int .i64 b)).setCell ⟨W.heap.size, 8, none⟩ (.int .u32 c) = W.alloc (.cells (iC a0 a1 a2 a3 a4 a5 a6 b c) 24) := by
  rw [set_alloc, set_alloc]; rfl
/-- What stands in memory in the loop. -/
structure CS (w : World) (inn : Array Value) (A : Option Addr) (c : Nat) (l : List Int) (W : World) : Prop where
  row : W.heap[w.heap.size]? = some (.cells inn 24 (0, 0))
  own : ∃ base, Kd.R (Kd.int .u16) 34 W base (fun _ => True) (.slice A l.length c) l
  below : Below w.heap.size w W
  size : w.heap.size < W.heap.size
theorem CS.keep {w : World} {inn : Array Value} {A : Option Addr} {c : Nat} {l : List Int} {W W' : World} (h : CS w inn A c l W) (hb : Below W.heap.size W W') : CS w inn A c l W' := by
  obtain ⟨b, ho⟩ := h.own
  exact ⟨(hb.block _ h.size).trans h.row, ⟨b, Kd.R_below ho hb⟩, below_step h.below hb, Nat.lt_of_lt_of_le h.size hb.size⟩
theorem CS.read {w : World} {inn : Array Value} {A : Option Addr} {c : Nat} {l : List Int} {W : World} (h : CS w inn A c l W) (k : Nat) (hk : k < l.length) : ∃ ad, A = some ad ∧ W.cell? (ad.add k) = some (.int .u16 (Go.Proofs.YtiibhggjlandmaaDoorW.PrintWords.rd l (k : Int))) := by
  obtain ⟨b, ho⟩ := h.own
  have := Kd.at_int (Kd.R_reads' ho).2.2 (k : Int) (by omega) (by omega)
  simpa using this
theorem CS.cap {w : World} {inn : Array Value} {A : Option Addr} {c : Nat} {l : List Int} {W : World} (h : CS w inn A c l W) : l.length ≤ c := by
  obtain ⟨b, ho⟩ := h.own
  exact (Kd.R_reads' ho).2.1
set_option maxHeartbeats 8000000 in
set_option maxRecDepth 100000 in
theorem comp_no (k : Nat) (a0 a1 a2 a3 a4 : Int) (a5 a6 : Bool) (a7 a8 c : Int) (w : World) (hT : TabOk w) (h : encode_Check.f a0 a1 a2 a3 a4 a5 a6 a7 a8 = some c) (hc : c ≠ 0) :
    Calls Tryd.prog 15 #[.agg (iC a0 a1 a2 a3 a4 a5 a6 a7 a8)] w fun e w' => e = .returned (.tuple #[.int .u16 0, .bool false]) ∧ Below w.heap.size w w' := by
  have hT1 := hT.below (below_alloc (Below.refl _ w) (.cells (iC a0 a1 a2 a3 a4 a5 a6 a7 a8) 24))
  have hrow := heap_alloc_new w (.cells (iC a0 a1 a2 a3 a4 a5 a6 a7 a8) 24)
  have hcb : (c != 0) = true := bne_iff_ne.mpr hc
  unfold iC at *
  go_enter Tryd.func15, Tryd.ntmps15
  go_wp2_with (first
    | ((with_reducible refine gate_dst (N := 9) rfl ?_); refine wpList_load_row rfl 24 _ rfl w.heap.size rfl 24 _ (0, 0) _ hrow Tryd.underlying24 rfl (by kernel_rfl) ?_)
    | (go_at_call 11; refine (encode_Check.calls a0 a1 a2 a3 a4 a5 a6 a7 a8 c _ hT1 h).mono ?_; rintro e w1 ⟨rfl, hb⟩; have HB := Lib.hid ((below_alloc (Below.refl _ w) (.cells (iC a0 a1 a2 a3 a4 a5 a6 a7 a8) 24)).trans (hb.mono (by simp))); clear hb))
  go_ret2
  exact ⟨rfl, HB.out⟩
set_option maxHeartbeats 8000000 in
set_option maxRecDepth 100000 in
theorem comp_yes (k : Nat) (a0 a1 a2 a3 a4 : Int) (a5 a6 : Bool) (a7 a8 : Int) (l : List Int) (r1 : Int) (r2 : Bool) (w : World) (hT : TabOk w) (h : encode_Check.f a0 a1 a2 a3 a4 a5 a6 a7 a8 = some 0) (ht : encode_tries.f a0 a1 a2 a3 a4 a5 a6 0 0 = some l)
    (hl : encode_Compress.l0 k 0 false l (l.length : Int) 0 a0 a1 a2 a3 a4 a5 a6 0 0 = some (r1, r2)) (hlen : l.length ≤ 1000) :
    Calls Tryd.prog 15 #[.agg (iC a0 a1 a2 a3 a4 a5 a6 a7 a8)] w fun e w' => e = .returned (.tuple #[.int .u16 r1, .bool r2]) ∧ Below w.heap.size w w' := by
  have hT1 := hT.below (below_alloc (Below.refl _ w) (.cells (iC a0 a1 a2 a3 a4 a5 a6 a7 a8) 24))
  have hrow := heap_alloc_new w (.cells (iC a0 a1 a2 a3 a4 a5 a6 a7 a8) 24)
  have HL := Lib.hid hl
  have HC := Lib.hid h
  have HTR := Lib.hid ht
  clear hl h ht
  unfold iC at hT1 hrow ⊢
  go_enter Tryd.func15, Tryd.ntmps15
  go_wp2_with (first
    | ((with_reducible refine gate_dst (N := 9) rfl ?_); refine wpList_load_row rfl 24 _ rfl w.heap.size rfl 24 _ (0, 0) _ hrow Tryd.underlying24 rfl (by kernel_rfl) ?_)
    | (go_at_call 11; refine (encode_Check.calls a0 a1 a2 a3 a4 a5 a6 a7 a8 0 _ hT1 HC.out).mono ?_; rintro e w1 ⟨rfl, hb⟩; (have HR1 := Lib.hid ((hb.block w.heap.size (by simp)).trans hrow); have HB := Lib.hid ((below_alloc (Below.refl _ w) (.cells (iC a0 a1 a2 a3 a4 a5 a6 a7 a8) 24)).trans (hb.mono (by simp))); have q7 := Go.Proofs.YtiibhggjlandmaaDoor.PF.row_cell HR1.out 7 (.int .i64 a7) rfl; have q8 := Go.Proofs.YtiibhggjlandmaaDoor.PF.row_cell HR1.out 8 (.int .u32 a8) rfl; have q7f := frozen_of_row w1 w.heap.size 7 _ 24 HR1.out; have q8f := frozen_of_row w1 w.heap.size 8 _ 24 HR1.out; have HSZ := Lib.hid (lt_of_block HR1.out); clear hb))
    | ((with_reducible refine gate_dst (N := 14) rfl ?_); refine wpList_load_row rfl 24 _ rfl w.heap.size rfl 24 (iC a0 a1 a2 a3 a4 a5 a6 0 0) (0, 0) _ (by rw [heap_setCell_same _ _ 8 _ 24 _ (heap_setCell_same _ _ 7 _ 24 _ HR1.out)]; rfl) Tryd.underlying24 rfl (by kernel_rfl) ?_; unfold iC)
    | (go_at_call 32; refine (encode_tries.calls a0 a1 a2 a3 a4 a5 a6 0 0 l _ HTR.out).mono ?_; rintro e w2 ⟨v0, rfl, hR, hb⟩; obtain ⟨A, c, rfl⟩ := Kd.R_slice hR; have HCS := Lib.hid (show CS w (iC a0 a1 a2 a3 a4 a5 a6 0 0) A c l w2 from ⟨(hb.block _ (by simp; exact HSZ.out)).trans (by rw [heap_setCell_same _ _ 8 _ 24 _ (heap_setCell_same _ _ 7 _ 24 _ HR1.out)]; rfl), ⟨_, hR⟩, below_step (below_set (below_set HB.out (Nat.le_refl _)) (Nat.le_refl _)) hb, Nat.lt_of_lt_of_le HSZ.out (by have := hb.size; simpa using this)⟩); clear hR hb))
  clear HR1 HB HSZ hT1 hrow hT
  go_loopw [4, 5, 17] (fun b f i wr => ∃ (m : Nat) (b' : Int) (f' : Bool) (kk : Nat), m ≤ l.length ∧ b = .int .u16 b' ∧ f = .bool f' ∧ i = .int .i64 m ∧ Hid (encode_Compress.l0 kk b' f' l (l.length : Int) (m : Int) a0 a1 a2 a3 a4 a5 a6 0 0 = some (r1, r2)) ∧ Hid (CS w (iC a0 a1 a2 a3 a4 a5 a6 0 0) A c l wr)) (fun _ _ i _ => l.length - (intOf i).toNat)
  case atStart => exact ⟨0, 0, false, k, Nat.zero_le _, rfl, rfl, rfl, HL, HCS⟩
  case round =>
    clear HL HCS
    obtain ⟨m, b', f', kk, hm, rfl, rfl, rfl, HL, HCS⟩ := hrel
    by_cases hlt : m < l.length
    · have H := HL.out
      cases kk with
      | zero => exact absurd H (by simp [encode_Compress.l0])
      | succ kk =>
      clear HL
      rw [encode_Compress.l0, if_pos (by omega), if_pos (by omega), if_pos (by omega)] at H
      obtain ⟨⟨t1, t2, t3, t4, t5, t6, t7, t8, t9⟩, hD, H2⟩ := Option.bind_eq_some_iff.mp H
      clear H
      have H := H2
      clear H2
      obtain ⟨ad, hA, hcell⟩ := HCS.out.read m hlt
      subst hA
      have hcap := HCS.out.cap
      generalize Go.Proofs.YtiibhggjlandmaaDoorW.PrintWords.rd l (m : Int) = x at *
      have HD := Lib.hid hD
      clear hD
      have hw : wrap64 ((m : Int) + 1) = ((m + 1 : Nat) : Int) := by unfold wrap64; omega
      rw [hw] at H
      clear hw
      have hb1 : decide ((m : Int) < (l.length : Int)) = true := by simp; omega
      have p0 : (0 ≤ (m : Int)) = True := eq_true (by omega)
      have p1 : ((m : Int) < (l.length : Int)) = True := eq_true (by omega)
      dsimp only at H
      have hE : (t1 == a0 && (t2 == a1 && (t3 == a2 && (t4 == a3 && (t5 == a4 && (t6 == a5 && (t7 == a6 && ((0 : Int) == 0 && ((0 : Int) == 0))))))))) = (t1 == a0 && (t2 == a1 && (t3 == a2 && (t4 == a3 && (t5 == a4 && (t6 == a5 && (t7 == a6))))))) := by simp
      rw [hE] at H
      clear hE
      cases hs : (t1 == a0 && (t2 == a1 && (t3 == a2 && (t4 == a3 && (t5 == a4 && (t6 == a5 && (t7 == a6)))))))
      · rw [if_neg (by rw [hs]; decide)] at H
        have HN := Lib.hid H
        clear H
        go_wp2_with (first
          | (go_at_call 17; (refine (decode_Decode.calls kk (x % 4294967296) t1 t2 t3 t4 t5 t6 t7 t8 t9 _ HD.out).mono ?_; rintro e w1 ⟨rfl, hb⟩; have HB1 := Lib.hid hb; have HCS1 := Lib.hid (HCS.out.keep (hb.trans (below_alloc (Below.refl _ w1) (.cells (iC t1 t2 t3 t4 t5 t6 t7 0 0) 24) |>.mono hb.size))); have z7 : (w1.alloc (.cells #[.int .i64 t1, .int .i64 t2, .int .i64 t3, .int .i64 t4, .int .i64 t5, .bool t6, .bool t7, .int .i64 t8, .int .u32 t9] 24)).cell? ⟨w1.heap.size, 7, none⟩ = some (.int .i64 t8) := Go.Proofs.YtiibhggjlandmaaDoor.PF.row_cell (heap_alloc_new w1 _) 7 _ rfl; have z8 : (w1.alloc (.cells #[.int .i64 t1, .int .i64 t2, .int .i64 t3, .int .i64 t4, .int .i64 t5, .bool t6, .bool t7, .int .i64 t8, .int .u32 t9] 24)).cell? ⟨w1.heap.size, 8, none⟩ = some (.int .u32 t9) := Go.Proofs.YtiibhggjlandmaaDoor.PF.row_cell (heap_alloc_new w1 _) 8 _ rfl; clear hb))
          | ((with_reducible refine gate_store (t := 24) (p := 8) (v := .tmp 23) rfl ?_); (refine store_new rfl 24 _ _ rfl w1 w1.heap.size rfl _ #[.int .i64 t1, .int .i64 t2, .int .i64 t3, .int .i64 t4, .int .i64 t5, .bool t6, .bool t7, .int .i64 t8, .int .u32 t9] rfl rfl (by kernel_rfl) rfl (by simp [Value.oneCell']) ?_))
          | ((with_reducible refine gate_dst (N := 26) rfl ?_); (rw [said_fold w1 t1 t2 t3 t4 t5 t6 t7 t8 t9 0 0]; refine wpList_load_row rfl 24 _ rfl w1.heap.size rfl 24 (iC t1 t2 t3 t4 t5 t6 t7 0 0) (0, 0) _ (heap_alloc_new w1 _) Tryd.underlying24 rfl (by kernel_rfl) ?_))
          | ((with_reducible refine gate_dst (N := 27) rfl ?_); (refine wpList_load_row rfl 24 _ rfl w.heap.size rfl 24 (iC a0 a1 a2 a3 a4 a5 a6 0 0) (0, 0) _ HCS1.out.row Tryd.underlying24 rfl (by kernel_rfl) ?_; unfold iC)))
        go_roundw
        case rel => go_light; exact ⟨m + 1, b', f', kk, by omega, rfl, rfl, by go_num, HN, HCS1⟩
        case measure => simp [intOf]; omega
      · rw [if_pos hs] at H
        simp only [Bool.and_eq_true, beq_iff_eq] at hs
        obtain ⟨e1, e2, e3, e4, e5, e6, e7⟩ := hs
        replace e1 := e1.symm; replace e2 := e2.symm; replace e3 := e3.symm; replace e4 := e4.symm; replace e5 := e5.symm; replace e6 := e6.symm; replace e7 := e7.symm
        subst e1 e2 e3 e4 e5 e6 e7
        cases f'
        · rw [if_neg (by decide)] at H
          have HN := Lib.hid H
          clear H
          go_wp2_with (first
          | (go_at_call 17; (refine (decode_Decode.calls kk (x % 4294967296) a0 a1 a2 a3 a4 a5 a6 t8 t9 _ HD.out).mono ?_; rintro e w1 ⟨rfl, hb⟩; have HB1 := Lib.hid hb; have HCS1 := Lib.hid (HCS.out.keep (hb.trans (below_alloc (Below.refl _ w1) (.cells (iC a0 a1 a2 a3 a4 a5 a6 0 0) 24) |>.mono hb.size))); have z7 : (w1.alloc (.cells #[.int .i64 a0, .int .i64 a1, .int .i64 a2, .int .i64 a3, .int .i64 a4, .bool a5, .bool a6, .int .i64 t8, .int .u32 t9] 24)).cell? ⟨w1.heap.size, 7, none⟩ = some (.int .i64 t8) := Go.Proofs.YtiibhggjlandmaaDoor.PF.row_cell (heap_alloc_new w1 _) 7 _ rfl; have z8 : (w1.alloc (.cells #[.int .i64 a0, .int .i64 a1, .int .i64 a2, .int .i64 a3, .int .i64 a4, .bool a5, .bool a6, .int .i64 t8, .int .u32 t9] 24)).cell? ⟨w1.heap.size, 8, none⟩ = some (.int .u32 t9) := Go.Proofs.YtiibhggjlandmaaDoor.PF.row_cell (heap_alloc_new w1 _) 8 _ rfl; clear hb))
          | ((with_reducible refine gate_store (t := 24) (p := 8) (v := .tmp 23) rfl ?_); (refine store_new rfl 24 _ _ rfl w1 w1.heap.size rfl _ #[.int .i64 a0, .int .i64 a1, .int .i64 a2, .int .i64 a3, .int .i64 a4, .bool a5, .bool a6, .int .i64 t8, .int .u32 t9] rfl rfl (by kernel_rfl) rfl (by simp [Value.oneCell']) ?_))
          | ((with_reducible refine gate_dst (N := 26) rfl ?_); (rw [said_fold w1 a0 a1 a2 a3 a4 a5 a6 t8 t9 0 0]; refine wpList_load_row rfl 24 _ rfl w1.heap.size rfl 24 (iC a0 a1 a2 a3 a4 a5 a6 0 0) (0, 0) _ (heap_alloc_new w1 _) Tryd.underlying24 rfl (by kernel_rfl) ?_))
          | ((with_reducible refine gate_dst (N := 27) rfl ?_); (refine wpList_load_row rfl 24 _ rfl w.heap.size rfl 24 (iC a0 a1 a2 a3 a4 a5 a6 0 0) (0, 0) _ HCS1.out.row Tryd.underlying24 rfl (by kernel_rfl) ?_; unfold iC)))
          go_roundw
          case rel => go_light; exact ⟨m + 1, x, true, kk, by omega, rfl, rfl, by go_num, HN, HCS1⟩
          case measure => simp [intOf]; omega
        · rw [if_pos rfl] at H
          by_cases hlb : x < b'
          · rw [if_pos hlb] at H
            have hlb1 : decide (x < b') = true := decide_eq_true hlb
            have HN := Lib.hid H
            clear H hlb
            go_wp2_with (first
          | (go_at_call 17; (refine (decode_Decode.calls kk (x % 4294967296) a0 a1 a2 a3 a4 a5 a6 t8 t9 _ HD.out).mono ?_; rintro e w1 ⟨rfl, hb⟩; have HB1 := Lib.hid hb; have HCS1 := Lib.hid (HCS.out.keep (hb.trans (below_alloc (Below.refl _ w1) (.cells (iC a0 a1 a2 a3 a4 a5 a6 0 0) 24) |>.mono hb.size))); have z7 : (w1.alloc (.cells #[.int .i64 a0, .int .i64 a1, .int .i64 a2, .int .i64 a3, .int .i64 a4, .bool a5, .bool a6, .int .i64 t8, .int .u32 t9] 24)).cell? ⟨w1.heap.size, 7, none⟩ = some (.int .i64 t8) := Go.Proofs.YtiibhggjlandmaaDoor.PF.row_cell (heap_alloc_new w1 _) 7 _ rfl; have z8 : (w1.alloc (.cells #[.int .i64 a0, .int .i64 a1, .int .i64 a2, .int .i64 a3, .int .i64 a4, .bool a5, .bool a6, .int .i64 t8, .int .u32 t9] 24)).cell? ⟨w1.heap.size, 8, none⟩ = some (.int .u32 t9) := Go.Proofs.YtiibhggjlandmaaDoor.PF.row_cell (heap_alloc_new w1 _) 8 _ rfl; clear hb))
          | ((with_reducible refine gate_store (t := 24) (p := 8) (v := .tmp 23) rfl ?_); (refine store_new rfl 24 _ _ rfl w1 w1.heap.size rfl _ #[.int .i64 a0, .int .i64 a1, .int .i64 a2, .int .i64 a3, .int .i64 a4, .bool a5, .bool a6, .int .i64 t8, .int .u32 t9] rfl rfl (by kernel_rfl) rfl (by simp [Value.oneCell']) ?_))
          | ((with_reducible refine gate_dst (N := 26) rfl ?_); (rw [said_fold w1 a0 a1 a2 a3 a4 a5 a6 t8 t9 0 0]; refine wpList_load_row rfl 24 _ rfl w1.heap.size rfl 24 (iC a0 a1 a2 a3 a4 a5 a6 0 0) (0, 0) _ (heap_alloc_new w1 _) Tryd.underlying24 rfl (by kernel_rfl) ?_))
          | ((with_reducible refine gate_dst (N := 27) rfl ?_); (refine wpList_load_row rfl 24 _ rfl w.heap.size rfl 24 (iC a0 a1 a2 a3 a4 a5 a6 0 0) (0, 0) _ HCS1.out.row Tryd.underlying24 rfl (by kernel_rfl) ?_; unfold iC)))
            go_roundw
            case rel => go_light; exact ⟨m + 1, x, true, kk, by omega, rfl, rfl, by go_num, HN, HCS1⟩
            case measure => simp [intOf]; omega
          · rw [if_neg hlb] at H
            have hlb1 : decide (x < b') = false := decide_eq_false hlb
            have HN := Lib.hid H
            clear H hlb
            go_wp2_with (first
          | (go_at_call 17; (refine (decode_Decode.calls kk (x % 4294967296) a0 a1 a2 a3 a4 a5 a6 t8 t9 _ HD.out).mono ?_; rintro e w1 ⟨rfl, hb⟩; have HB1 := Lib.hid hb; have HCS1 := Lib.hid (HCS.out.keep (hb.trans (below_alloc (Below.refl _ w1) (.cells (iC a0 a1 a2 a3 a4 a5 a6 0 0) 24) |>.mono hb.size))); have z7 : (w1.alloc (.cells #[.int .i64 a0, .int .i64 a1, .int .i64 a2, .int .i64 a3, .int .i64 a4, .bool a5, .bool a6, .int .i64 t8, .int .u32 t9] 24)).cell? ⟨w1.heap.size, 7, none⟩ = some (.int .i64 t8) := Go.Proofs.YtiibhggjlandmaaDoor.PF.row_cell (heap_alloc_new w1 _) 7 _ rfl; have z8 : (w1.alloc (.cells #[.int .i64 a0, .int .i64 a1, .int .i64 a2, .int .i64 a3, .int .i64 a4, .bool a5, .bool a6, .int .i64 t8, .int .u32 t9] 24)).cell? ⟨w1.heap.size, 8, none⟩ = some (.int .u32 t9) := Go.Proofs.YtiibhggjlandmaaDoor.PF.row_cell (heap_alloc_new w1 _) 8 _ rfl; clear hb))
          | ((with_reducible refine gate_store (t := 24) (p := 8) (v := .tmp 23) rfl ?_); (refine store_new rfl 24 _ _ rfl w1 w1.heap.size rfl _ #[.int .i64 a0, .int .i64 a1, .int .i64 a2, .int .i64 a3, .int .i64 a4, .bool a5, .bool a6, .int .i64 t8, .int .u32 t9] rfl rfl (by kernel_rfl) rfl (by simp [Value.oneCell']) ?_))
          | ((with_reducible refine gate_dst (N := 26) rfl ?_); (rw [said_fold w1 a0 a1 a2 a3 a4 a5 a6 t8 t9 0 0]; refine wpList_load_row rfl 24 _ rfl w1.heap.size rfl 24 (iC a0 a1 a2 a3 a4 a5 a6 0 0) (0, 0) _ (heap_alloc_new w1 _) Tryd.underlying24 rfl (by kernel_rfl) ?_))
          | ((with_reducible refine gate_dst (N := 27) rfl ?_); (refine wpList_load_row rfl 24 _ rfl w.heap.size rfl 24 (iC a0 a1 a2 a3 a4 a5 a6 0 0) (0, 0) _ HCS1.out.row Tryd.underlying24 rfl (by kernel_rfl) ?_; unfold iC)))
            go_roundw
            case rel => go_light; exact ⟨m + 1, b', true, kk, by omega, rfl, rfl, by go_num, HN, HCS1⟩
            case measure => simp [intOf]; omega
    · obtain rfl : m = l.length := by omega
      have hfin : b' = r1 ∧ f' = r2 := by
        have H := HL.out
        cases kk with
        | zero => simp [encode_Compress.l0] at H
        | succ kk =>
          rw [encode_Compress.l0, if_neg (by omega)] at H
          simp only [Option.some.injEq, Prod.mk.injEq] at H
          exact H
      obtain ⟨rfl, rfl⟩ := hfin
      have hb1 : decide (((l.length : Nat) : Int) < (l.length : Int)) = false := by simp
      go_wp2
      go_ret2
      exact ⟨rfl, HCS.out.below⟩
theorem len_ite {c : Prop} [Decidable c] {a b : List Int} {n : Nat} (ha : a.length ≤ n) (hb : b.length ≤ n) : (if c then a else b).length ≤ n := by split <;> assumption
theorem len_nil {n : Nat} : ([] : List Int).length ≤ n := Nat.zero_le _
theorem encode_Compress.calls (k : Nat) (a0_0 : Int) (a0_1 : Int) (a0_2 : Int) (a0_3 : Int) (a0_4 : Int) (a0_5 : Bool) (a0_6 : Bool) (a0_7 : Int) (a0_8 : Int) (r1 : Int) (r2 : Bool) (w : World) (hT : TabOk w) (h : encode_Compress.f k a0_0 a0_1 a0_2 a0_3 a0_4 a0_5 a0_6 a0_7 a0_8 = some (r1, r2)) :
    Calls Tryd.prog 15 #[.agg #[.int .i64 a0_0, .int .i64 a0_1, .int .i64 a0_2, .int .i64 a0_3, .int .i64 a0_4, .bool a0_5, .bool a0_6, .int .i64 a0_7, .int .u32 a0_8]] w fun e w' => e = .returned (.tuple #[.int .u16 r1, .bool r2]) ∧ Below w.heap.size w w' := by
  unfold encode_Compress.f at h
  obtain ⟨c, hc, h⟩ := Option.bind_eq_some_iff.mp h
  by_cases h0 : c = 0
  · subst h0
    rw [if_pos rfl] at h
    obtain ⟨l, hl, h⟩ := Option.bind_eq_some_iff.mp h
    have hlen : l.length ≤ 1000 := by
      have := Option.some.inj hl
      subst this
      unfold tryL
      repeat (first | exact len_nil | refine len_ite (by simp) ?_)
    exact comp_yes k _ _ _ _ _ _ _ _ _ l r1 r2 w hT hc hl h hlen
  · rw [if_neg h0] at h
    simp only [Option.some.injEq, Prod.mk.injEq] at h
    obtain ⟨rfl, rfl⟩ := h
    exact comp_no k _ _ _ _ _ _ _ _ _ c w hT hc h0
end Go.Proofs.YtiibhggjlandmaaDoor.PK
