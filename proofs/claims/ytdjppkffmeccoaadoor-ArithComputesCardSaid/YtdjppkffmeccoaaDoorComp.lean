/- The contract of Compute: what an operation makes of two registers, by the table of rows and the list of immediate forms. -/
import Derived.Test.YtdjppkffmeccoaaDoorTabs
import Derived.Test.YtdjppkffmeccoaaDoorPCx
import Derived.Lib.Hide
import Derived.Laws.EntriesVeiled
namespace Go.Proofs.YtdjppkffmeccoaaDoor.PC
open Go.RowKit Go.Proofs.YtdjppkffmeccoaaDoorW.PrintWords Go.Proofs.YtdjppkffmeccoaaDoorW.PrintLast Go.Proofs.YtdjppkffmeccoaaDoorW.PrintMore
set_option linter.unusedVariables false
set_option linter.unusedSimpArgs false
set_option maxRecDepth 100000

/-- The list of immediate forms, as the program's text lays it. -/
def plainV : List Int := [0, 0, 0, 0, 0, 0, 0, 0, 0, 0, 0, 0, 0, 0, 0, 0, 0, 0, 0, 0, 0, 0, 35, 38, 39, 40, 43, 44, 37, 41, 42, 45, 47, 48, 49, 0, 0, 0, 0, 0, 0, 0, 0, 0, 0, 0, 0, 0, 0, 0, 0, 0, 0, 0, 0, 0, 0, 0, 0, 0, 0, 0, 0, 0, 0, 0, 0, 0, 0, 0, 0, 0, 0, 0, 0, 0, 0, 0, 0, 0, 0, 0, 0, 0, 0, 0, 0, 0, 0, 0, 0, 0, 0, 0, 0, 0, 0]
/-- The list of immediate forms lies where the program has it. -/
structure TabOk (w : World) : Prop where
  size : 0 < w.heap.size
  cell : ∀ i : Nat, i < 97 → w.cell? ⟨0, i, none⟩ = some (.int .i64 (plainV.getD i 0))
theorem TabOk.below {w w' : World} (h : TabOk w) (hb : Below w.heap.size w w') : TabOk w' where
  size := Nat.lt_of_lt_of_le h.size hb.size
  cell := fun i hi => (hb.cell (p := ⟨0, i, none⟩) h.size).trans (h.cell i hi)

set_option maxHeartbeats 1000000 in
theorem compW0 (o : Int) (f : Nat) (a b r : Int) (w : World) (h0 : 0 ≤ o) (h1 : o < 97) (hc : w.cell? ⟨0, o.toNat, none⟩ = some (.int .i64 0)) (hz : 0 < w.heap.size)
    (hidx : ∀ w, (Instr.index 49 (.agg rowsV) (.int .i64 o)).run Tryd.prog w = .ok (.agg #[.func (.func f) #[] #[], .nilFunc]) w)
    (hne : ∀ w, (binOp BinOp.neq 45 (.func (.func f) #[] #[]) .nilFunc).run Tryd.prog w = .ok (.bool true) w)
    (hcf : ∀ args w, Sem.run Tryd.prog (callFunc f args) w = .ok (Next.enter f args) w)
    (hcall : ∀ w, Calls Tryd.prog f #[.int .u64 a, .int .u64 b] w fun e w' => e = .returned (.int .u64 r) ∧ Drawn0 w w')
    : Calls Tryd.prog 13 #[.int .i64 o, .int .u64 a, .int .u64 b] w fun e w' => e = .returned (.tuple #[.int .u64 r, .bool true]) ∧ Below w.heap.size w w' := by
  have hcall' := Lib.hid hcall
  clear hcall
  go_enter Tryd.func13, Tryd.ntmps13
  go_wp2_with (first | (go_at_call 30; refine (rows_any _).mono ?_; rintro e w' ⟨rfl, rfl⟩) | (with_reducible refine (hcall'.out _).mono ?_; rintro e w' ⟨rfl, ⟨nd, rfl⟩⟩))
  go_ret2
  exact ⟨rfl, by repeat (first | exact Below.refl _ _ | apply below_alloc | apply pw_below_drewN | apply below_drew1)⟩

set_option maxHeartbeats 1000000 in
theorem compW1 (o p : Int) (f : Nat) (a b r : Int) (w : World) (h0 : 0 ≤ o) (h1 : o < 97) (g0 : 1 ≤ p) (g1 : p < 97) (hc : w.cell? ⟨0, o.toNat, none⟩ = some (.int .i64 p)) (hz : 0 < w.heap.size)
    (hidx : ∀ w, (Instr.index 49 (.agg rowsV) (.int .i64 p)).run Tryd.prog w = .ok (.agg #[.func (.func f) #[] #[], .nilFunc]) w)
    (hne : ∀ w, (binOp BinOp.neq 45 (.func (.func f) #[] #[]) .nilFunc).run Tryd.prog w = .ok (.bool true) w)
    (hcf : ∀ args w, Sem.run Tryd.prog (callFunc f args) w = .ok (Next.enter f args) w)
    (hcall : ∀ w, Calls Tryd.prog f #[.int .u64 a, .int .u64 b] w fun e w' => e = .returned (.int .u64 r) ∧ Drawn0 w w')
    : Calls Tryd.prog 13 #[.int .i64 o, .int .u64 a, .int .u64 b] w fun e w' => e = .returned (.tuple #[.int .u64 r, .bool true]) ∧ Below w.heap.size w w' := by
  have hcall' := Lib.hid hcall
  clear hcall
  have hpb : (p != 0) = true := by rw [bne_iff_ne]; omega
  go_enter Tryd.func13, Tryd.ntmps13
  go_wp2_with (first | (go_at_call 30; refine (rows_any _).mono ?_; rintro e w' ⟨rfl, rfl⟩) | (with_reducible refine (hcall'.out _).mono ?_; rintro e w' ⟨rfl, ⟨nd, rfl⟩⟩))
  go_ret2
  exact ⟨rfl, by repeat (first | exact Below.refl _ _ | apply below_alloc | apply pw_below_drewN | apply below_drew1)⟩

set_option maxHeartbeats 1000000 in
theorem compH0 (o : Int) (f : Nat) (a b s r : Int) (w : World) (h0 : 0 ≤ o) (h1 : o < 97) (hc : w.cell? ⟨0, o.toNat, none⟩ = some (.int .i64 0)) (hz : 0 < w.heap.size)
    (hidx : ∀ w, (Instr.index 49 (.agg rowsV) (.int .i64 o)).run Tryd.prog w = .ok (.agg #[.nilFunc, .func (.func f) #[] #[]]) w)
    (hn0 : ∀ w, (binOp BinOp.neq 45 .nilFunc .nilFunc).run Tryd.prog w = .ok (.bool false) w)
    (hne : ∀ w, (binOp BinOp.neq 46 (.func (.func f) #[] #[]) .nilFunc).run Tryd.prog w = .ok (.bool true) w)
    (hcf : ∀ args w, Sem.run Tryd.prog (callFunc f args) w = .ok (Next.enter f args) w)
    (hcall : ∀ w, Calls Tryd.prog f #[.int .u32 (a % 4294967296), .int .u32 (b % 4294967296)] w fun e w' => e = .returned (.int .u32 s) ∧ Drawn0 w w') (hsg : arith_signed.f s = some r)
    : Calls Tryd.prog 13 #[.int .i64 o, .int .u64 a, .int .u64 b] w fun e w' => e = .returned (.tuple #[.int .u64 r, .bool true]) ∧ Below w.heap.size w w' := by
  have hcall' := Lib.hid hcall
  clear hcall
  have hsg' := Lib.hid hsg
  clear hsg
  go_enter Tryd.func13, Tryd.ntmps13
  go_wp2_with (first | (go_at_call 30; refine (rows_any _).mono ?_; rintro e w' ⟨rfl, rfl⟩) | (go_at_call 31; (with_reducible refine (arith_signed.calls _ _ _ hsg'.out).mono ?_); rintro e w' ⟨rfl, ⟨nd2, rfl⟩⟩) | (with_reducible refine (hcall'.out _).mono ?_; rintro e w' ⟨rfl, ⟨nd, rfl⟩⟩))
  go_ret2
  exact ⟨rfl, by repeat (first | exact Below.refl _ _ | apply below_alloc | apply pw_below_drewN | apply below_drew1)⟩

set_option maxHeartbeats 1000000 in
theorem compH1 (o p : Int) (f : Nat) (a b s r : Int) (w : World) (h0 : 0 ≤ o) (h1 : o < 97) (g0 : 1 ≤ p) (g1 : p < 97) (hc : w.cell? ⟨0, o.toNat, none⟩ = some (.int .i64 p)) (hz : 0 < w.heap.size)
    (hidx : ∀ w, (Instr.index 49 (.agg rowsV) (.int .i64 p)).run Tryd.prog w = .ok (.agg #[.nilFunc, .func (.func f) #[] #[]]) w)
    (hn0 : ∀ w, (binOp BinOp.neq 45 .nilFunc .nilFunc).run Tryd.prog w = .ok (.bool false) w)
    (hne : ∀ w, (binOp BinOp.neq 46 (.func (.func f) #[] #[]) .nilFunc).run Tryd.prog w = .ok (.bool true) w)
    (hcf : ∀ args w, Sem.run Tryd.prog (callFunc f args) w = .ok (Next.enter f args) w)
    (hcall : ∀ w, Calls Tryd.prog f #[.int .u32 (a % 4294967296), .int .u32 (b % 4294967296)] w fun e w' => e = .returned (.int .u32 s) ∧ Drawn0 w w') (hsg : arith_signed.f s = some r)
    : Calls Tryd.prog 13 #[.int .i64 o, .int .u64 a, .int .u64 b] w fun e w' => e = .returned (.tuple #[.int .u64 r, .bool true]) ∧ Below w.heap.size w w' := by
  have hcall' := Lib.hid hcall
  clear hcall
  have hsg' := Lib.hid hsg
  clear hsg
  have hpb : (p != 0) = true := by rw [bne_iff_ne]; omega
  go_enter Tryd.func13, Tryd.ntmps13
  go_wp2_with (first | (go_at_call 30; refine (rows_any _).mono ?_; rintro e w' ⟨rfl, rfl⟩) | (go_at_call 31; (with_reducible refine (arith_signed.calls _ _ _ hsg'.out).mono ?_); rintro e w' ⟨rfl, ⟨nd2, rfl⟩⟩) | (with_reducible refine (hcall'.out _).mono ?_; rintro e w' ⟨rfl, ⟨nd, rfl⟩⟩))
  go_ret2
  exact ⟨rfl, by repeat (first | exact Below.refl _ _ | apply below_alloc | apply pw_below_drewN | apply below_drew1)⟩

set_option maxHeartbeats 1000000 in
theorem compN0 (o : Int) (a b : Int) (w : World) (h0 : 0 ≤ o) (h1 : o < 97) (hc : w.cell? ⟨0, o.toNat, none⟩ = some (.int .i64 0)) (hz : 0 < w.heap.size)
    (hidx : ∀ w, (Instr.index 49 (.agg rowsV) (.int .i64 o)).run Tryd.prog w = .ok (.agg #[.nilFunc, .nilFunc]) w)
    (hn0 : ∀ w, (binOp BinOp.neq 45 .nilFunc .nilFunc).run Tryd.prog w = .ok (.bool false) w)
    (hn1 : ∀ w, (binOp BinOp.neq 46 .nilFunc .nilFunc).run Tryd.prog w = .ok (.bool false) w)
    : Calls Tryd.prog 13 #[.int .i64 o, .int .u64 a, .int .u64 b] w fun e w' => e = .returned (.tuple #[.int .u64 0, .bool false]) ∧ Below w.heap.size w w' := by
  go_enter Tryd.func13, Tryd.ntmps13
  go_wp2_with (first | (go_at_call 30; refine (rows_any _).mono ?_; rintro e w' ⟨rfl, rfl⟩))
  go_ret2
  exact ⟨rfl, by repeat (first | exact Below.refl _ _ | apply below_alloc | apply pw_below_drewN | apply below_drew1)⟩

theorem compOut (o a b : Int) (w : World) (h : o < 0 ∨ 97 ≤ o) : Calls Tryd.prog 13 #[.int .i64 o, .int .u64 a, .int .u64 b] w fun e w' => e = .returned (.tuple #[.int .u64 0, .bool false]) ∧ Below w.heap.size w w' := by
  rcases h with h | h
  · go_enter Tryd.func13, Tryd.ntmps13
    go_wp2
    go_ret2
    exact ⟨rfl, Below.refl _ _⟩
  · have h2 : ¬ o < 0 := by omega
    go_enter Tryd.func13, Tryd.ntmps13
    go_wp2
    go_ret2
    exact ⟨rfl, Below.refl _ _⟩

theorem n45 : ∀ w, (binOp BinOp.neq 45 .nilFunc .nilFunc).run Tryd.prog w = .ok (.bool false) w := fun _ => by kernel_rfl
theorem n46 : ∀ w, (binOp BinOp.neq 46 .nilFunc .nilFunc).run Tryd.prog w = .ok (.bool false) w := fun _ => by kernel_rfl
theorem ix35 : ∀ w, (Instr.index 49 (.agg rowsV) (.int .i64 35)).run Tryd.prog w = .ok (.agg #[.func (.func 42) #[] #[], .nilFunc]) w := fun _ => by kernel_rfl
theorem ne35 : ∀ w, (binOp BinOp.neq 45 (.func (.func 42) #[] #[]) .nilFunc).run Tryd.prog w = .ok (.bool true) w := fun _ => by kernel_rfl
theorem ix36 : ∀ w, (Instr.index 49 (.agg rowsV) (.int .i64 36)).run Tryd.prog w = .ok (.agg #[.func (.func 43) #[] #[], .nilFunc]) w := fun _ => by kernel_rfl
theorem ne36 : ∀ w, (binOp BinOp.neq 45 (.func (.func 43) #[] #[]) .nilFunc).run Tryd.prog w = .ok (.bool true) w := fun _ => by kernel_rfl
theorem ix37 : ∀ w, (Instr.index 49 (.agg rowsV) (.int .i64 37)).run Tryd.prog w = .ok (.agg #[.func (.func 44) #[] #[], .nilFunc]) w := fun _ => by kernel_rfl
theorem ne37 : ∀ w, (binOp BinOp.neq 45 (.func (.func 44) #[] #[]) .nilFunc).run Tryd.prog w = .ok (.bool true) w := fun _ => by kernel_rfl
theorem ix38 : ∀ w, (Instr.index 49 (.agg rowsV) (.int .i64 38)).run Tryd.prog w = .ok (.agg #[.func (.func 47) #[] #[], .nilFunc]) w := fun _ => by kernel_rfl
theorem ne38 : ∀ w, (binOp BinOp.neq 45 (.func (.func 47) #[] #[]) .nilFunc).run Tryd.prog w = .ok (.bool true) w := fun _ => by kernel_rfl
theorem ix39 : ∀ w, (Instr.index 49 (.agg rowsV) (.int .i64 39)).run Tryd.prog w = .ok (.agg #[.func (.func 49) #[] #[], .nilFunc]) w := fun _ => by kernel_rfl
theorem ne39 : ∀ w, (binOp BinOp.neq 45 (.func (.func 49) #[] #[]) .nilFunc).run Tryd.prog w = .ok (.bool true) w := fun _ => by kernel_rfl
theorem ix40 : ∀ w, (Instr.index 49 (.agg rowsV) (.int .i64 40)).run Tryd.prog w = .ok (.agg #[.func (.func 50) #[] #[], .nilFunc]) w := fun _ => by kernel_rfl
theorem ne40 : ∀ w, (binOp BinOp.neq 45 (.func (.func 50) #[] #[]) .nilFunc).run Tryd.prog w = .ok (.bool true) w := fun _ => by kernel_rfl
theorem ix41 : ∀ w, (Instr.index 49 (.agg rowsV) (.int .i64 41)).run Tryd.prog w = .ok (.agg #[.func (.func 45) #[] #[], .nilFunc]) w := fun _ => by kernel_rfl
theorem ne41 : ∀ w, (binOp BinOp.neq 45 (.func (.func 45) #[] #[]) .nilFunc).run Tryd.prog w = .ok (.bool true) w := fun _ => by kernel_rfl
theorem ix42 : ∀ w, (Instr.index 49 (.agg rowsV) (.int .i64 42)).run Tryd.prog w = .ok (.agg #[.func (.func 46) #[] #[], .nilFunc]) w := fun _ => by kernel_rfl
theorem ne42 : ∀ w, (binOp BinOp.neq 45 (.func (.func 46) #[] #[]) .nilFunc).run Tryd.prog w = .ok (.bool true) w := fun _ => by kernel_rfl
theorem ix43 : ∀ w, (Instr.index 49 (.agg rowsV) (.int .i64 43)).run Tryd.prog w = .ok (.agg #[.func (.func 51) #[] #[], .nilFunc]) w := fun _ => by kernel_rfl
theorem ne43 : ∀ w, (binOp BinOp.neq 45 (.func (.func 51) #[] #[]) .nilFunc).run Tryd.prog w = .ok (.bool true) w := fun _ => by kernel_rfl
theorem ix44 : ∀ w, (Instr.index 49 (.agg rowsV) (.int .i64 44)).run Tryd.prog w = .ok (.agg #[.func (.func 52) #[] #[], .nilFunc]) w := fun _ => by kernel_rfl
theorem ne44 : ∀ w, (binOp BinOp.neq 45 (.func (.func 52) #[] #[]) .nilFunc).run Tryd.prog w = .ok (.bool true) w := fun _ => by kernel_rfl
theorem ix45 : ∀ w, (Instr.index 49 (.agg rowsV) (.int .i64 45)).run Tryd.prog w = .ok (.agg #[.nilFunc, .func (.func 53) #[] #[]]) w := fun _ => by kernel_rfl
theorem ne45 : ∀ w, (binOp BinOp.neq 46 (.func (.func 53) #[] #[]) .nilFunc).run Tryd.prog w = .ok (.bool true) w := fun _ => by kernel_rfl
theorem ix46 : ∀ w, (Instr.index 49 (.agg rowsV) (.int .i64 46)).run Tryd.prog w = .ok (.agg #[.nilFunc, .func (.func 54) #[] #[]]) w := fun _ => by kernel_rfl
theorem ne46 : ∀ w, (binOp BinOp.neq 46 (.func (.func 54) #[] #[]) .nilFunc).run Tryd.prog w = .ok (.bool true) w := fun _ => by kernel_rfl
theorem ix47 : ∀ w, (Instr.index 49 (.agg rowsV) (.int .i64 47)).run Tryd.prog w = .ok (.agg #[.nilFunc, .func (.func 55) #[] #[]]) w := fun _ => by kernel_rfl
theorem ne47 : ∀ w, (binOp BinOp.neq 46 (.func (.func 55) #[] #[]) .nilFunc).run Tryd.prog w = .ok (.bool true) w := fun _ => by kernel_rfl
theorem ix48 : ∀ w, (Instr.index 49 (.agg rowsV) (.int .i64 48)).run Tryd.prog w = .ok (.agg #[.nilFunc, .func (.func 56) #[] #[]]) w := fun _ => by kernel_rfl
theorem ne48 : ∀ w, (binOp BinOp.neq 46 (.func (.func 56) #[] #[]) .nilFunc).run Tryd.prog w = .ok (.bool true) w := fun _ => by kernel_rfl
theorem ix49 : ∀ w, (Instr.index 49 (.agg rowsV) (.int .i64 49)).run Tryd.prog w = .ok (.agg #[.nilFunc, .func (.func 57) #[] #[]]) w := fun _ => by kernel_rfl
theorem ne49 : ∀ w, (binOp BinOp.neq 46 (.func (.func 57) #[] #[]) .nilFunc).run Tryd.prog w = .ok (.bool true) w := fun _ => by kernel_rfl
theorem ix62 : ∀ w, (Instr.index 49 (.agg rowsV) (.int .i64 62)).run Tryd.prog w = .ok (.agg #[.func (.func 58) #[] #[], .nilFunc]) w := fun _ => by kernel_rfl
theorem ne62 : ∀ w, (binOp BinOp.neq 45 (.func (.func 58) #[] #[]) .nilFunc).run Tryd.prog w = .ok (.bool true) w := fun _ => by kernel_rfl
theorem ix63 : ∀ w, (Instr.index 49 (.agg rowsV) (.int .i64 63)).run Tryd.prog w = .ok (.agg #[.func (.func 59) #[] #[], .nilFunc]) w := fun _ => by kernel_rfl
theorem ne63 : ∀ w, (binOp BinOp.neq 45 (.func (.func 59) #[] #[]) .nilFunc).run Tryd.prog w = .ok (.bool true) w := fun _ => by kernel_rfl
theorem ix64 : ∀ w, (Instr.index 49 (.agg rowsV) (.int .i64 64)).run Tryd.prog w = .ok (.agg #[.func (.func 61) #[] #[], .nilFunc]) w := fun _ => by kernel_rfl
theorem ne64 : ∀ w, (binOp BinOp.neq 45 (.func (.func 61) #[] #[]) .nilFunc).run Tryd.prog w = .ok (.bool true) w := fun _ => by kernel_rfl
theorem ix65 : ∀ w, (Instr.index 49 (.agg rowsV) (.int .i64 65)).run Tryd.prog w = .ok (.agg #[.func (.func 62) #[] #[], .nilFunc]) w := fun _ => by kernel_rfl
theorem ne65 : ∀ w, (binOp BinOp.neq 45 (.func (.func 62) #[] #[]) .nilFunc).run Tryd.prog w = .ok (.bool true) w := fun _ => by kernel_rfl
theorem ix66 : ∀ w, (Instr.index 49 (.agg rowsV) (.int .i64 66)).run Tryd.prog w = .ok (.agg #[.func (.func 63) #[] #[], .nilFunc]) w := fun _ => by kernel_rfl
theorem ne66 : ∀ w, (binOp BinOp.neq 45 (.func (.func 63) #[] #[]) .nilFunc).run Tryd.prog w = .ok (.bool true) w := fun _ => by kernel_rfl
theorem ix67 : ∀ w, (Instr.index 49 (.agg rowsV) (.int .i64 67)).run Tryd.prog w = .ok (.agg #[.func (.func 64) #[] #[], .nilFunc]) w := fun _ => by kernel_rfl
theorem ne67 : ∀ w, (binOp BinOp.neq 45 (.func (.func 64) #[] #[]) .nilFunc).run Tryd.prog w = .ok (.bool true) w := fun _ => by kernel_rfl
theorem ix68 : ∀ w, (Instr.index 49 (.agg rowsV) (.int .i64 68)).run Tryd.prog w = .ok (.agg #[.func (.func 65) #[] #[], .nilFunc]) w := fun _ => by kernel_rfl
theorem ne68 : ∀ w, (binOp BinOp.neq 45 (.func (.func 65) #[] #[]) .nilFunc).run Tryd.prog w = .ok (.bool true) w := fun _ => by kernel_rfl
theorem ix69 : ∀ w, (Instr.index 49 (.agg rowsV) (.int .i64 69)).run Tryd.prog w = .ok (.agg #[.func (.func 66) #[] #[], .nilFunc]) w := fun _ => by kernel_rfl
theorem ne69 : ∀ w, (binOp BinOp.neq 45 (.func (.func 66) #[] #[]) .nilFunc).run Tryd.prog w = .ok (.bool true) w := fun _ => by kernel_rfl
theorem ix70 : ∀ w, (Instr.index 49 (.agg rowsV) (.int .i64 70)).run Tryd.prog w = .ok (.agg #[.nilFunc, .func (.func 67) #[] #[]]) w := fun _ => by kernel_rfl
theorem ne70 : ∀ w, (binOp BinOp.neq 46 (.func (.func 67) #[] #[]) .nilFunc).run Tryd.prog w = .ok (.bool true) w := fun _ => by kernel_rfl
theorem ix71 : ∀ w, (Instr.index 49 (.agg rowsV) (.int .i64 71)).run Tryd.prog w = .ok (.agg #[.nilFunc, .func (.func 68) #[] #[]]) w := fun _ => by kernel_rfl
theorem ne71 : ∀ w, (binOp BinOp.neq 46 (.func (.func 68) #[] #[]) .nilFunc).run Tryd.prog w = .ok (.bool true) w := fun _ => by kernel_rfl
theorem ix72 : ∀ w, (Instr.index 49 (.agg rowsV) (.int .i64 72)).run Tryd.prog w = .ok (.agg #[.nilFunc, .func (.func 70) #[] #[]]) w := fun _ => by kernel_rfl
theorem ne72 : ∀ w, (binOp BinOp.neq 46 (.func (.func 70) #[] #[]) .nilFunc).run Tryd.prog w = .ok (.bool true) w := fun _ => by kernel_rfl
theorem ix73 : ∀ w, (Instr.index 49 (.agg rowsV) (.int .i64 73)).run Tryd.prog w = .ok (.agg #[.nilFunc, .func (.func 69) #[] #[]]) w := fun _ => by kernel_rfl
theorem ne73 : ∀ w, (binOp BinOp.neq 46 (.func (.func 69) #[] #[]) .nilFunc).run Tryd.prog w = .ok (.bool true) w := fun _ => by kernel_rfl
theorem ix74 : ∀ w, (Instr.index 49 (.agg rowsV) (.int .i64 74)).run Tryd.prog w = .ok (.agg #[.nilFunc, .func (.func 71) #[] #[]]) w := fun _ => by kernel_rfl
theorem ne74 : ∀ w, (binOp BinOp.neq 46 (.func (.func 71) #[] #[]) .nilFunc).run Tryd.prog w = .ok (.bool true) w := fun _ => by kernel_rfl
/-- The operation of two registers that an operation is. -/
def creg (o : Int) : Int := if o = 22 then 35 else if o = 23 then 38 else if o = 24 then 39 else if o = 25 then 40 else if o = 26 then 43 else if o = 27 then 44 else if o = 28 then 37 else if o = 29 then 41 else if o = 30 then 42 else if o = 31 then 45 else if o = 32 then 47 else if o = 33 then 48 else if o = 34 then 49 else o
/-- Is it an operation of two registers? -/
def known (o : Int) : Bool := o == 35 || o == 36 || o == 37 || o == 38 || o == 39 || o == 40 || o == 41 || o == 42 || o == 43 || o == 44 || o == 45 || o == 46 || o == 47 || o == 48 || o == 49 || o == 62 || o == 63 || o == 64 || o == 65 || o == 66 || o == 67 || o == 68 || o == 69 || o == 70 || o == 71 || o == 72 || o == 73 || o == 74
def cop (o a b : Int) : Option Int := if o = 35 then arith_rows_1.f a b else if o = 36 then arith_rows_2.f a b else if o = 37 then arith_rows_3.f a b else if o = 38 then arith_rows_6.f a b else if o = 39 then arith_rows_7.f a b else if o = 40 then arith_rows_8.f a b else if o = 41 then arith_rows_4.f a b else if o = 42 then arith_rows_5.f a b else if o = 43 then arith_rows_9.f a b else if o = 44 then arith_rows_10.f a b else if o = 45 then ((arith_rows_11.f (a % 4294967296) (b % 4294967296)).bind fun s => arith_signed.f s) else if o = 46 then ((arith_rows_12.f (a % 4294967296) (b % 4294967296)).bind fun s => arith_signed.f s) else if o = 47 then ((arith_rows_13.f (a % 4294967296) (b % 4294967296)).bind fun s => arith_signed.f s) else if o = 48 then ((arith_rows_14.f (a % 4294967296) (b % 4294967296)).bind fun s => arith_signed.f s) else if o = 49 then ((arith_rows_15.f (a % 4294967296) (b % 4294967296)).bind fun s => arith_signed.f s) else if o = 62 then arith_rows_16.f a b else if o = 63 then arith_rows_17.f a b else if o = 64 then arith_rows_18.f a b else if o = 65 then arith_rows_19.f a b else if o = 66 then arith_divide.f a b else if o = 67 then arith_divideU.f a b else if o = 68 then arith_remain.f a b else if o = 69 then arith_remainU.f a b else if o = 70 then ((arith_rows_20.f (a % 4294967296) (b % 4294967296)).bind fun s => arith_signed.f s) else if o = 71 then ((arith_rows_21.f (a % 4294967296) (b % 4294967296)).bind fun s => arith_signed.f s) else if o = 72 then ((arith_rows_23.f (a % 4294967296) (b % 4294967296)).bind fun s => arith_signed.f s) else if o = 73 then ((arith_rows_22.f (a % 4294967296) (b % 4294967296)).bind fun s => arith_signed.f s) else if o = 74 then ((arith_rows_24.f (a % 4294967296) (b % 4294967296)).bind fun s => arith_signed.f s) else none
def arith_Compute.f (o a b : Int) : Option (Int × Bool) := if known (creg o) = true then (cop (creg o) a b).bind fun r => some (r, true) else some (0, false)
theorem nowhereN (n : Nat) (hn : n < 97) (h : known (creg n) = false) : ∀ w, (Instr.index 49 (.agg rowsV) (.int .i64 n)).run Tryd.prog w = .ok (.agg #[.nilFunc, .nilFunc]) w := by
  rcases (Nat.lt_succ_iff_lt_or_eq.mp hn).symm with rfl | hn
  · exact fun _ => by kernel_rfl
  rcases (Nat.lt_succ_iff_lt_or_eq.mp hn).symm with rfl | hn
  · exact fun _ => by kernel_rfl
  rcases (Nat.lt_succ_iff_lt_or_eq.mp hn).symm with rfl | hn
  · exact fun _ => by kernel_rfl
  rcases (Nat.lt_succ_iff_lt_or_eq.mp hn).symm with rfl | hn
  · exact fun _ => by kernel_rfl
  rcases (Nat.lt_succ_iff_lt_or_eq.mp hn).symm with rfl | hn
  · exact fun _ => by kernel_rfl
  rcases (Nat.lt_succ_iff_lt_or_eq.mp hn).symm with rfl | hn
  · exact fun _ => by kernel_rfl
  rcases (Nat.lt_succ_iff_lt_or_eq.mp hn).symm with rfl | hn
  · exact fun _ => by kernel_rfl
  rcases (Nat.lt_succ_iff_lt_or_eq.mp hn).symm with rfl | hn
  · exact fun _ => by kernel_rfl
  rcases (Nat.lt_succ_iff_lt_or_eq.mp hn).symm with rfl | hn
  · exact fun _ => by kernel_rfl
  rcases (Nat.lt_succ_iff_lt_or_eq.mp hn).symm with rfl | hn
  · exact fun _ => by kernel_rfl
  rcases (Nat.lt_succ_iff_lt_or_eq.mp hn).symm with rfl | hn
  · exact fun _ => by kernel_rfl
  rcases (Nat.lt_succ_iff_lt_or_eq.mp hn).symm with rfl | hn
  · exact fun _ => by kernel_rfl
  rcases (Nat.lt_succ_iff_lt_or_eq.mp hn).symm with rfl | hn
  · exact fun _ => by kernel_rfl
  rcases (Nat.lt_succ_iff_lt_or_eq.mp hn).symm with rfl | hn
  · exact fun _ => by kernel_rfl
  rcases (Nat.lt_succ_iff_lt_or_eq.mp hn).symm with rfl | hn
  · exact fun _ => by kernel_rfl
  rcases (Nat.lt_succ_iff_lt_or_eq.mp hn).symm with rfl | hn
  · exact fun _ => by kernel_rfl
  rcases (Nat.lt_succ_iff_lt_or_eq.mp hn).symm with rfl | hn
  · exact fun _ => by kernel_rfl
  rcases (Nat.lt_succ_iff_lt_or_eq.mp hn).symm with rfl | hn
  · exact fun _ => by kernel_rfl
  rcases (Nat.lt_succ_iff_lt_or_eq.mp hn).symm with rfl | hn
  · exact fun _ => by kernel_rfl
  rcases (Nat.lt_succ_iff_lt_or_eq.mp hn).symm with rfl | hn
  · exact fun _ => by kernel_rfl
  rcases (Nat.lt_succ_iff_lt_or_eq.mp hn).symm with rfl | hn
  · exact fun _ => by kernel_rfl
  rcases (Nat.lt_succ_iff_lt_or_eq.mp hn).symm with rfl | hn
  · exact fun _ => by kernel_rfl
  rcases (Nat.lt_succ_iff_lt_or_eq.mp hn).symm with rfl | hn
  · exact absurd h (by decide)
  rcases (Nat.lt_succ_iff_lt_or_eq.mp hn).symm with rfl | hn
  · exact absurd h (by decide)
  rcases (Nat.lt_succ_iff_lt_or_eq.mp hn).symm with rfl | hn
  · exact absurd h (by decide)
  rcases (Nat.lt_succ_iff_lt_or_eq.mp hn).symm with rfl | hn
  · exact absurd h (by decide)
  rcases (Nat.lt_succ_iff_lt_or_eq.mp hn).symm with rfl | hn
  · exact absurd h (by decide)
  rcases (Nat.lt_succ_iff_lt_or_eq.mp hn).symm with rfl | hn
  · exact absurd h (by decide)
  rcases (Nat.lt_succ_iff_lt_or_eq.mp hn).symm with rfl | hn
  · exact absurd h (by decide)
  rcases (Nat.lt_succ_iff_lt_or_eq.mp hn).symm with rfl | hn
  · exact absurd h (by decide)
  rcases (Nat.lt_succ_iff_lt_or_eq.mp hn).symm with rfl | hn
  · exact absurd h (by decide)
  rcases (Nat.lt_succ_iff_lt_or_eq.mp hn).symm with rfl | hn
  · exact absurd h (by decide)
  rcases (Nat.lt_succ_iff_lt_or_eq.mp hn).symm with rfl | hn
  · exact absurd h (by decide)
  rcases (Nat.lt_succ_iff_lt_or_eq.mp hn).symm with rfl | hn
  · exact absurd h (by decide)
  rcases (Nat.lt_succ_iff_lt_or_eq.mp hn).symm with rfl | hn
  · exact absurd h (by decide)
  rcases (Nat.lt_succ_iff_lt_or_eq.mp hn).symm with rfl | hn
  · exact fun _ => by kernel_rfl
  rcases (Nat.lt_succ_iff_lt_or_eq.mp hn).symm with rfl | hn
  · exact fun _ => by kernel_rfl
  rcases (Nat.lt_succ_iff_lt_or_eq.mp hn).symm with rfl | hn
  · exact fun _ => by kernel_rfl
  rcases (Nat.lt_succ_iff_lt_or_eq.mp hn).symm with rfl | hn
  · exact fun _ => by kernel_rfl
  rcases (Nat.lt_succ_iff_lt_or_eq.mp hn).symm with rfl | hn
  · exact fun _ => by kernel_rfl
  rcases (Nat.lt_succ_iff_lt_or_eq.mp hn).symm with rfl | hn
  · exact fun _ => by kernel_rfl
  rcases (Nat.lt_succ_iff_lt_or_eq.mp hn).symm with rfl | hn
  · exact fun _ => by kernel_rfl
  rcases (Nat.lt_succ_iff_lt_or_eq.mp hn).symm with rfl | hn
  · exact fun _ => by kernel_rfl
  rcases (Nat.lt_succ_iff_lt_or_eq.mp hn).symm with rfl | hn
  · exact fun _ => by kernel_rfl
  rcases (Nat.lt_succ_iff_lt_or_eq.mp hn).symm with rfl | hn
  · exact fun _ => by kernel_rfl
  rcases (Nat.lt_succ_iff_lt_or_eq.mp hn).symm with rfl | hn
  · exact fun _ => by kernel_rfl
  rcases (Nat.lt_succ_iff_lt_or_eq.mp hn).symm with rfl | hn
  · exact fun _ => by kernel_rfl
  rcases (Nat.lt_succ_iff_lt_or_eq.mp hn).symm with rfl | hn
  · exact absurd h (by decide)
  rcases (Nat.lt_succ_iff_lt_or_eq.mp hn).symm with rfl | hn
  · exact absurd h (by decide)
  rcases (Nat.lt_succ_iff_lt_or_eq.mp hn).symm with rfl | hn
  · exact absurd h (by decide)
  rcases (Nat.lt_succ_iff_lt_or_eq.mp hn).symm with rfl | hn
  · exact absurd h (by decide)
  rcases (Nat.lt_succ_iff_lt_or_eq.mp hn).symm with rfl | hn
  · exact absurd h (by decide)
  rcases (Nat.lt_succ_iff_lt_or_eq.mp hn).symm with rfl | hn
  · exact absurd h (by decide)
  rcases (Nat.lt_succ_iff_lt_or_eq.mp hn).symm with rfl | hn
  · exact absurd h (by decide)
  rcases (Nat.lt_succ_iff_lt_or_eq.mp hn).symm with rfl | hn
  · exact absurd h (by decide)
  rcases (Nat.lt_succ_iff_lt_or_eq.mp hn).symm with rfl | hn
  · exact absurd h (by decide)
  rcases (Nat.lt_succ_iff_lt_or_eq.mp hn).symm with rfl | hn
  · exact absurd h (by decide)
  rcases (Nat.lt_succ_iff_lt_or_eq.mp hn).symm with rfl | hn
  · exact absurd h (by decide)
  rcases (Nat.lt_succ_iff_lt_or_eq.mp hn).symm with rfl | hn
  · exact absurd h (by decide)
  rcases (Nat.lt_succ_iff_lt_or_eq.mp hn).symm with rfl | hn
  · exact absurd h (by decide)
  rcases (Nat.lt_succ_iff_lt_or_eq.mp hn).symm with rfl | hn
  · exact absurd h (by decide)
  rcases (Nat.lt_succ_iff_lt_or_eq.mp hn).symm with rfl | hn
  · exact absurd h (by decide)
  rcases (Nat.lt_succ_iff_lt_or_eq.mp hn).symm with rfl | hn
  · exact absurd h (by decide)
  rcases (Nat.lt_succ_iff_lt_or_eq.mp hn).symm with rfl | hn
  · exact absurd h (by decide)
  rcases (Nat.lt_succ_iff_lt_or_eq.mp hn).symm with rfl | hn
  · exact absurd h (by decide)
  rcases (Nat.lt_succ_iff_lt_or_eq.mp hn).symm with rfl | hn
  · exact absurd h (by decide)
  rcases (Nat.lt_succ_iff_lt_or_eq.mp hn).symm with rfl | hn
  · exact absurd h (by decide)
  rcases (Nat.lt_succ_iff_lt_or_eq.mp hn).symm with rfl | hn
  · exact absurd h (by decide)
  rcases (Nat.lt_succ_iff_lt_or_eq.mp hn).symm with rfl | hn
  · exact absurd h (by decide)
  rcases (Nat.lt_succ_iff_lt_or_eq.mp hn).symm with rfl | hn
  · exact absurd h (by decide)
  rcases (Nat.lt_succ_iff_lt_or_eq.mp hn).symm with rfl | hn
  · exact absurd h (by decide)
  rcases (Nat.lt_succ_iff_lt_or_eq.mp hn).symm with rfl | hn
  · exact absurd h (by decide)
  rcases (Nat.lt_succ_iff_lt_or_eq.mp hn).symm with rfl | hn
  · exact absurd h (by decide)
  rcases (Nat.lt_succ_iff_lt_or_eq.mp hn).symm with rfl | hn
  · exact absurd h (by decide)
  rcases (Nat.lt_succ_iff_lt_or_eq.mp hn).symm with rfl | hn
  · exact absurd h (by decide)
  rcases (Nat.lt_succ_iff_lt_or_eq.mp hn).symm with rfl | hn
  · exact fun _ => by kernel_rfl
  rcases (Nat.lt_succ_iff_lt_or_eq.mp hn).symm with rfl | hn
  · exact fun _ => by kernel_rfl
  rcases (Nat.lt_succ_iff_lt_or_eq.mp hn).symm with rfl | hn
  · exact fun _ => by kernel_rfl
  rcases (Nat.lt_succ_iff_lt_or_eq.mp hn).symm with rfl | hn
  · exact fun _ => by kernel_rfl
  rcases (Nat.lt_succ_iff_lt_or_eq.mp hn).symm with rfl | hn
  · exact fun _ => by kernel_rfl
  rcases (Nat.lt_succ_iff_lt_or_eq.mp hn).symm with rfl | hn
  · exact fun _ => by kernel_rfl
  rcases (Nat.lt_succ_iff_lt_or_eq.mp hn).symm with rfl | hn
  · exact fun _ => by kernel_rfl
  rcases (Nat.lt_succ_iff_lt_or_eq.mp hn).symm with rfl | hn
  · exact fun _ => by kernel_rfl
  rcases (Nat.lt_succ_iff_lt_or_eq.mp hn).symm with rfl | hn
  · exact fun _ => by kernel_rfl
  rcases (Nat.lt_succ_iff_lt_or_eq.mp hn).symm with rfl | hn
  · exact fun _ => by kernel_rfl
  rcases (Nat.lt_succ_iff_lt_or_eq.mp hn).symm with rfl | hn
  · exact fun _ => by kernel_rfl
  rcases (Nat.lt_succ_iff_lt_or_eq.mp hn).symm with rfl | hn
  · exact fun _ => by kernel_rfl
  rcases (Nat.lt_succ_iff_lt_or_eq.mp hn).symm with rfl | hn
  · exact fun _ => by kernel_rfl
  rcases (Nat.lt_succ_iff_lt_or_eq.mp hn).symm with rfl | hn
  · exact fun _ => by kernel_rfl
  rcases (Nat.lt_succ_iff_lt_or_eq.mp hn).symm with rfl | hn
  · exact fun _ => by kernel_rfl
  rcases (Nat.lt_succ_iff_lt_or_eq.mp hn).symm with rfl | hn
  · exact fun _ => by kernel_rfl
  rcases (Nat.lt_succ_iff_lt_or_eq.mp hn).symm with rfl | hn
  · exact fun _ => by kernel_rfl
  rcases (Nat.lt_succ_iff_lt_or_eq.mp hn).symm with rfl | hn
  · exact fun _ => by kernel_rfl
  rcases (Nat.lt_succ_iff_lt_or_eq.mp hn).symm with rfl | hn
  · exact fun _ => by kernel_rfl
  rcases (Nat.lt_succ_iff_lt_or_eq.mp hn).symm with rfl | hn
  · exact fun _ => by kernel_rfl
  rcases (Nat.lt_succ_iff_lt_or_eq.mp hn).symm with rfl | hn
  · exact fun _ => by kernel_rfl
  rcases (Nat.lt_succ_iff_lt_or_eq.mp hn).symm with rfl | hn
  · exact fun _ => by kernel_rfl
  exact absurd hn (Nat.not_lt_zero _)
theorem nowhere (o : Int) (h0 : 0 ≤ o) (h1 : o < 97) (h : known (creg o) = false) : ∀ w, (Instr.index 49 (.agg rowsV) (.int .i64 o)).run Tryd.prog w = .ok (.agg #[.nilFunc, .nilFunc]) w := by
  obtain ⟨n, rfl⟩ : ∃ n : Nat, o = (n : Int) := ⟨o.toNat, by omega⟩
  exact nowhereN n (by omega) h
theorem plainN : ∀ n : Nat, n < 97 → known (creg n) = false → plainV.getD n 0 = 0 := by decide +kernel
theorem plain0 (o : Int) (h0 : 0 ≤ o) (h1 : o < 97) (h : known (creg o) = false) : plainV.getD o.toNat 0 = 0 := by
  obtain ⟨n, rfl⟩ : ∃ n : Nat, o = (n : Int) := ⟨o.toNat, by omega⟩
  exact plainN n (by omega) h
theorem arith_Compute.calls (o a b r1 : Int) (r2 : Bool) (w : World) (hT : TabOk w) (h : arith_Compute.f o a b = some (r1, r2)) :
    Calls Tryd.prog 13 #[.int .i64 o, .int .u64 a, .int .u64 b] w fun e w' => e = .returned (.tuple #[.int .u64 r1, .bool r2]) ∧ Below w.heap.size w w' := by
  unfold arith_Compute.f at h
  by_cases e22 : o = 22
  · subst e22
    have hc := hT.cell 22 (by decide)
    rw [show creg 22 = 35 from by decide, if_pos (show known 35 = true from by decide)] at h
    rw [show cop 35 a b = arith_rows_1.f a b from rfl] at h
    obtain ⟨r, hr, h⟩ := Option.bind_eq_some_iff.mp h
    obtain ⟨rfl, rfl⟩ := Prod.mk.inj (Option.some.inj h)
    exact compW1 22 35 42 a b _ w (by decide) (by decide) (by decide) (by decide) hc hT.size ix35 ne35 Tryd.call42 (fun w => arith_rows_1.calls a b _ w hr)
  by_cases e23 : o = 23
  · subst e23
    have hc := hT.cell 23 (by decide)
    rw [show creg 23 = 38 from by decide, if_pos (show known 38 = true from by decide)] at h
    rw [show cop 38 a b = arith_rows_6.f a b from rfl] at h
    obtain ⟨r, hr, h⟩ := Option.bind_eq_some_iff.mp h
    obtain ⟨rfl, rfl⟩ := Prod.mk.inj (Option.some.inj h)
    exact compW1 23 38 47 a b _ w (by decide) (by decide) (by decide) (by decide) hc hT.size ix38 ne38 Tryd.call47 (fun w => arith_rows_6.calls a b _ w hr)
  by_cases e24 : o = 24
  · subst e24
    have hc := hT.cell 24 (by decide)
    rw [show creg 24 = 39 from by decide, if_pos (show known 39 = true from by decide)] at h
    rw [show cop 39 a b = arith_rows_7.f a b from rfl] at h
    obtain ⟨r, hr, h⟩ := Option.bind_eq_some_iff.mp h
    obtain ⟨rfl, rfl⟩ := Prod.mk.inj (Option.some.inj h)
    exact compW1 24 39 49 a b _ w (by decide) (by decide) (by decide) (by decide) hc hT.size ix39 ne39 Tryd.call49 (fun w => arith_rows_7.calls a b _ w hr)
  by_cases e25 : o = 25
  · subst e25
    have hc := hT.cell 25 (by decide)
    rw [show creg 25 = 40 from by decide, if_pos (show known 40 = true from by decide)] at h
    rw [show cop 40 a b = arith_rows_8.f a b from rfl] at h
    obtain ⟨r, hr, h⟩ := Option.bind_eq_some_iff.mp h
    obtain ⟨rfl, rfl⟩ := Prod.mk.inj (Option.some.inj h)
    exact compW1 25 40 50 a b _ w (by decide) (by decide) (by decide) (by decide) hc hT.size ix40 ne40 Tryd.call50 (fun w => arith_rows_8.calls a b _ w hr)
  by_cases e26 : o = 26
  · subst e26
    have hc := hT.cell 26 (by decide)
    rw [show creg 26 = 43 from by decide, if_pos (show known 43 = true from by decide)] at h
    rw [show cop 43 a b = arith_rows_9.f a b from rfl] at h
    obtain ⟨r, hr, h⟩ := Option.bind_eq_some_iff.mp h
    obtain ⟨rfl, rfl⟩ := Prod.mk.inj (Option.some.inj h)
    exact compW1 26 43 51 a b _ w (by decide) (by decide) (by decide) (by decide) hc hT.size ix43 ne43 Tryd.call51 (fun w => arith_rows_9.calls a b _ w hr)
  by_cases e27 : o = 27
  · subst e27
    have hc := hT.cell 27 (by decide)
    rw [show creg 27 = 44 from by decide, if_pos (show known 44 = true from by decide)] at h
    rw [show cop 44 a b = arith_rows_10.f a b from rfl] at h
    obtain ⟨r, hr, h⟩ := Option.bind_eq_some_iff.mp h
    obtain ⟨rfl, rfl⟩ := Prod.mk.inj (Option.some.inj h)
    exact compW1 27 44 52 a b _ w (by decide) (by decide) (by decide) (by decide) hc hT.size ix44 ne44 Tryd.call52 (fun w => arith_rows_10.calls a b _ w hr)
  by_cases e28 : o = 28
  · subst e28
    have hc := hT.cell 28 (by decide)
    rw [show creg 28 = 37 from by decide, if_pos (show known 37 = true from by decide)] at h
    rw [show cop 37 a b = arith_rows_3.f a b from rfl] at h
    obtain ⟨r, hr, h⟩ := Option.bind_eq_some_iff.mp h
    obtain ⟨rfl, rfl⟩ := Prod.mk.inj (Option.some.inj h)
    exact compW1 28 37 44 a b _ w (by decide) (by decide) (by decide) (by decide) hc hT.size ix37 ne37 Tryd.call44 (fun w => arith_rows_3.calls a b _ w hr)
  by_cases e29 : o = 29
  · subst e29
    have hc := hT.cell 29 (by decide)
    rw [show creg 29 = 41 from by decide, if_pos (show known 41 = true from by decide)] at h
    rw [show cop 41 a b = arith_rows_4.f a b from rfl] at h
    obtain ⟨r, hr, h⟩ := Option.bind_eq_some_iff.mp h
    obtain ⟨rfl, rfl⟩ := Prod.mk.inj (Option.some.inj h)
    exact compW1 29 41 45 a b _ w (by decide) (by decide) (by decide) (by decide) hc hT.size ix41 ne41 Tryd.call45 (fun w => arith_rows_4.calls a b _ w hr)
  by_cases e30 : o = 30
  · subst e30
    have hc := hT.cell 30 (by decide)
    rw [show creg 30 = 42 from by decide, if_pos (show known 42 = true from by decide)] at h
    rw [show cop 42 a b = arith_rows_5.f a b from rfl] at h
    obtain ⟨r, hr, h⟩ := Option.bind_eq_some_iff.mp h
    obtain ⟨rfl, rfl⟩ := Prod.mk.inj (Option.some.inj h)
    exact compW1 30 42 46 a b _ w (by decide) (by decide) (by decide) (by decide) hc hT.size ix42 ne42 Tryd.call46 (fun w => arith_rows_5.calls a b _ w hr)
  by_cases e31 : o = 31
  · subst e31
    have hc := hT.cell 31 (by decide)
    rw [show creg 31 = 45 from by decide, if_pos (show known 45 = true from by decide)] at h
    rw [show cop 45 a b = ((arith_rows_11.f (a % 4294967296) (b % 4294967296)).bind fun s => arith_signed.f s) from rfl] at h
    obtain ⟨r, hr, h⟩ := Option.bind_eq_some_iff.mp h
    obtain ⟨rfl, rfl⟩ := Prod.mk.inj (Option.some.inj h)
    obtain ⟨s, hs, hr⟩ := Option.bind_eq_some_iff.mp hr
    exact compH1 31 45 53 a b s _ w (by decide) (by decide) (by decide) (by decide) hc hT.size ix45 n45 ne45 Tryd.call53 (fun w => arith_rows_11.calls _ _ _ w hs) hr
  by_cases e32 : o = 32
  · subst e32
    have hc := hT.cell 32 (by decide)
    rw [show creg 32 = 47 from by decide, if_pos (show known 47 = true from by decide)] at h
    rw [show cop 47 a b = ((arith_rows_13.f (a % 4294967296) (b % 4294967296)).bind fun s => arith_signed.f s) from rfl] at h
    obtain ⟨r, hr, h⟩ := Option.bind_eq_some_iff.mp h
    obtain ⟨rfl, rfl⟩ := Prod.mk.inj (Option.some.inj h)
    obtain ⟨s, hs, hr⟩ := Option.bind_eq_some_iff.mp hr
    exact compH1 32 47 55 a b s _ w (by decide) (by decide) (by decide) (by decide) hc hT.size ix47 n45 ne47 Tryd.call55 (fun w => arith_rows_13.calls _ _ _ w hs) hr
  by_cases e33 : o = 33
  · subst e33
    have hc := hT.cell 33 (by decide)
    rw [show creg 33 = 48 from by decide, if_pos (show known 48 = true from by decide)] at h
    rw [show cop 48 a b = ((arith_rows_14.f (a % 4294967296) (b % 4294967296)).bind fun s => arith_signed.f s) from rfl] at h
    obtain ⟨r, hr, h⟩ := Option.bind_eq_some_iff.mp h
    obtain ⟨rfl, rfl⟩ := Prod.mk.inj (Option.some.inj h)
    obtain ⟨s, hs, hr⟩ := Option.bind_eq_some_iff.mp hr
    exact compH1 33 48 56 a b s _ w (by decide) (by decide) (by decide) (by decide) hc hT.size ix48 n45 ne48 Tryd.call56 (fun w => arith_rows_14.calls _ _ _ w hs) hr
  by_cases e34 : o = 34
  · subst e34
    have hc := hT.cell 34 (by decide)
    rw [show creg 34 = 49 from by decide, if_pos (show known 49 = true from by decide)] at h
    rw [show cop 49 a b = ((arith_rows_15.f (a % 4294967296) (b % 4294967296)).bind fun s => arith_signed.f s) from rfl] at h
    obtain ⟨r, hr, h⟩ := Option.bind_eq_some_iff.mp h
    obtain ⟨rfl, rfl⟩ := Prod.mk.inj (Option.some.inj h)
    obtain ⟨s, hs, hr⟩ := Option.bind_eq_some_iff.mp hr
    exact compH1 34 49 57 a b s _ w (by decide) (by decide) (by decide) (by decide) hc hT.size ix49 n45 ne49 Tryd.call57 (fun w => arith_rows_15.calls _ _ _ w hs) hr
  by_cases e35 : o = 35
  · subst e35
    have hc := hT.cell 35 (by decide)
    rw [show creg 35 = 35 from by decide, if_pos (show known 35 = true from by decide)] at h
    rw [show cop 35 a b = arith_rows_1.f a b from rfl] at h
    obtain ⟨r, hr, h⟩ := Option.bind_eq_some_iff.mp h
    obtain ⟨rfl, rfl⟩ := Prod.mk.inj (Option.some.inj h)
    exact compW0 35 42 a b _ w (by decide) (by decide) hc hT.size ix35 ne35 Tryd.call42 (fun w => arith_rows_1.calls a b _ w hr)
  by_cases e36 : o = 36
  · subst e36
    have hc := hT.cell 36 (by decide)
    rw [show creg 36 = 36 from by decide, if_pos (show known 36 = true from by decide)] at h
    rw [show cop 36 a b = arith_rows_2.f a b from rfl] at h
    obtain ⟨r, hr, h⟩ := Option.bind_eq_some_iff.mp h
    obtain ⟨rfl, rfl⟩ := Prod.mk.inj (Option.some.inj h)
    exact compW0 36 43 a b _ w (by decide) (by decide) hc hT.size ix36 ne36 Tryd.call43 (fun w => arith_rows_2.calls a b _ w hr)
  by_cases e37 : o = 37
  · subst e37
    have hc := hT.cell 37 (by decide)
    rw [show creg 37 = 37 from by decide, if_pos (show known 37 = true from by decide)] at h
    rw [show cop 37 a b = arith_rows_3.f a b from rfl] at h
    obtain ⟨r, hr, h⟩ := Option.bind_eq_some_iff.mp h
    obtain ⟨rfl, rfl⟩ := Prod.mk.inj (Option.some.inj h)
    exact compW0 37 44 a b _ w (by decide) (by decide) hc hT.size ix37 ne37 Tryd.call44 (fun w => arith_rows_3.calls a b _ w hr)
  by_cases e38 : o = 38
  · subst e38
    have hc := hT.cell 38 (by decide)
    rw [show creg 38 = 38 from by decide, if_pos (show known 38 = true from by decide)] at h
    rw [show cop 38 a b = arith_rows_6.f a b from rfl] at h
    obtain ⟨r, hr, h⟩ := Option.bind_eq_some_iff.mp h
    obtain ⟨rfl, rfl⟩ := Prod.mk.inj (Option.some.inj h)
    exact compW0 38 47 a b _ w (by decide) (by decide) hc hT.size ix38 ne38 Tryd.call47 (fun w => arith_rows_6.calls a b _ w hr)
  by_cases e39 : o = 39
  · subst e39
    have hc := hT.cell 39 (by decide)
    rw [show creg 39 = 39 from by decide, if_pos (show known 39 = true from by decide)] at h
    rw [show cop 39 a b = arith_rows_7.f a b from rfl] at h
    obtain ⟨r, hr, h⟩ := Option.bind_eq_some_iff.mp h
    obtain ⟨rfl, rfl⟩ := Prod.mk.inj (Option.some.inj h)
    exact compW0 39 49 a b _ w (by decide) (by decide) hc hT.size ix39 ne39 Tryd.call49 (fun w => arith_rows_7.calls a b _ w hr)
  by_cases e40 : o = 40
  · subst e40
    have hc := hT.cell 40 (by decide)
    rw [show creg 40 = 40 from by decide, if_pos (show known 40 = true from by decide)] at h
    rw [show cop 40 a b = arith_rows_8.f a b from rfl] at h
    obtain ⟨r, hr, h⟩ := Option.bind_eq_some_iff.mp h
    obtain ⟨rfl, rfl⟩ := Prod.mk.inj (Option.some.inj h)
    exact compW0 40 50 a b _ w (by decide) (by decide) hc hT.size ix40 ne40 Tryd.call50 (fun w => arith_rows_8.calls a b _ w hr)
  by_cases e41 : o = 41
  · subst e41
    have hc := hT.cell 41 (by decide)
    rw [show creg 41 = 41 from by decide, if_pos (show known 41 = true from by decide)] at h
    rw [show cop 41 a b = arith_rows_4.f a b from rfl] at h
    obtain ⟨r, hr, h⟩ := Option.bind_eq_some_iff.mp h
    obtain ⟨rfl, rfl⟩ := Prod.mk.inj (Option.some.inj h)
    exact compW0 41 45 a b _ w (by decide) (by decide) hc hT.size ix41 ne41 Tryd.call45 (fun w => arith_rows_4.calls a b _ w hr)
  by_cases e42 : o = 42
  · subst e42
    have hc := hT.cell 42 (by decide)
    rw [show creg 42 = 42 from by decide, if_pos (show known 42 = true from by decide)] at h
    rw [show cop 42 a b = arith_rows_5.f a b from rfl] at h
    obtain ⟨r, hr, h⟩ := Option.bind_eq_some_iff.mp h
    obtain ⟨rfl, rfl⟩ := Prod.mk.inj (Option.some.inj h)
    exact compW0 42 46 a b _ w (by decide) (by decide) hc hT.size ix42 ne42 Tryd.call46 (fun w => arith_rows_5.calls a b _ w hr)
  by_cases e43 : o = 43
  · subst e43
    have hc := hT.cell 43 (by decide)
    rw [show creg 43 = 43 from by decide, if_pos (show known 43 = true from by decide)] at h
    rw [show cop 43 a b = arith_rows_9.f a b from rfl] at h
    obtain ⟨r, hr, h⟩ := Option.bind_eq_some_iff.mp h
    obtain ⟨rfl, rfl⟩ := Prod.mk.inj (Option.some.inj h)
    exact compW0 43 51 a b _ w (by decide) (by decide) hc hT.size ix43 ne43 Tryd.call51 (fun w => arith_rows_9.calls a b _ w hr)
  by_cases e44 : o = 44
  · subst e44
    have hc := hT.cell 44 (by decide)
    rw [show creg 44 = 44 from by decide, if_pos (show known 44 = true from by decide)] at h
    rw [show cop 44 a b = arith_rows_10.f a b from rfl] at h
    obtain ⟨r, hr, h⟩ := Option.bind_eq_some_iff.mp h
    obtain ⟨rfl, rfl⟩ := Prod.mk.inj (Option.some.inj h)
    exact compW0 44 52 a b _ w (by decide) (by decide) hc hT.size ix44 ne44 Tryd.call52 (fun w => arith_rows_10.calls a b _ w hr)
  by_cases e45 : o = 45
  · subst e45
    have hc := hT.cell 45 (by decide)
    rw [show creg 45 = 45 from by decide, if_pos (show known 45 = true from by decide)] at h
    rw [show cop 45 a b = ((arith_rows_11.f (a % 4294967296) (b % 4294967296)).bind fun s => arith_signed.f s) from rfl] at h
    obtain ⟨r, hr, h⟩ := Option.bind_eq_some_iff.mp h
    obtain ⟨rfl, rfl⟩ := Prod.mk.inj (Option.some.inj h)
    obtain ⟨s, hs, hr⟩ := Option.bind_eq_some_iff.mp hr
    exact compH0 45 53 a b s _ w (by decide) (by decide) hc hT.size ix45 n45 ne45 Tryd.call53 (fun w => arith_rows_11.calls _ _ _ w hs) hr
  by_cases e46 : o = 46
  · subst e46
    have hc := hT.cell 46 (by decide)
    rw [show creg 46 = 46 from by decide, if_pos (show known 46 = true from by decide)] at h
    rw [show cop 46 a b = ((arith_rows_12.f (a % 4294967296) (b % 4294967296)).bind fun s => arith_signed.f s) from rfl] at h
    obtain ⟨r, hr, h⟩ := Option.bind_eq_some_iff.mp h
    obtain ⟨rfl, rfl⟩ := Prod.mk.inj (Option.some.inj h)
    obtain ⟨s, hs, hr⟩ := Option.bind_eq_some_iff.mp hr
    exact compH0 46 54 a b s _ w (by decide) (by decide) hc hT.size ix46 n45 ne46 Tryd.call54 (fun w => arith_rows_12.calls _ _ _ w hs) hr
  by_cases e47 : o = 47
  · subst e47
    have hc := hT.cell 47 (by decide)
    rw [show creg 47 = 47 from by decide, if_pos (show known 47 = true from by decide)] at h
    rw [show cop 47 a b = ((arith_rows_13.f (a % 4294967296) (b % 4294967296)).bind fun s => arith_signed.f s) from rfl] at h
    obtain ⟨r, hr, h⟩ := Option.bind_eq_some_iff.mp h
    obtain ⟨rfl, rfl⟩ := Prod.mk.inj (Option.some.inj h)
    obtain ⟨s, hs, hr⟩ := Option.bind_eq_some_iff.mp hr
    exact compH0 47 55 a b s _ w (by decide) (by decide) hc hT.size ix47 n45 ne47 Tryd.call55 (fun w => arith_rows_13.calls _ _ _ w hs) hr
  by_cases e48 : o = 48
  · subst e48
    have hc := hT.cell 48 (by decide)
    rw [show creg 48 = 48 from by decide, if_pos (show known 48 = true from by decide)] at h
    rw [show cop 48 a b = ((arith_rows_14.f (a % 4294967296) (b % 4294967296)).bind fun s => arith_signed.f s) from rfl] at h
    obtain ⟨r, hr, h⟩ := Option.bind_eq_some_iff.mp h
    obtain ⟨rfl, rfl⟩ := Prod.mk.inj (Option.some.inj h)
    obtain ⟨s, hs, hr⟩ := Option.bind_eq_some_iff.mp hr
    exact compH0 48 56 a b s _ w (by decide) (by decide) hc hT.size ix48 n45 ne48 Tryd.call56 (fun w => arith_rows_14.calls _ _ _ w hs) hr
  by_cases e49 : o = 49
  · subst e49
    have hc := hT.cell 49 (by decide)
    rw [show creg 49 = 49 from by decide, if_pos (show known 49 = true from by decide)] at h
    rw [show cop 49 a b = ((arith_rows_15.f (a % 4294967296) (b % 4294967296)).bind fun s => arith_signed.f s) from rfl] at h
    obtain ⟨r, hr, h⟩ := Option.bind_eq_some_iff.mp h
    obtain ⟨rfl, rfl⟩ := Prod.mk.inj (Option.some.inj h)
    obtain ⟨s, hs, hr⟩ := Option.bind_eq_some_iff.mp hr
    exact compH0 49 57 a b s _ w (by decide) (by decide) hc hT.size ix49 n45 ne49 Tryd.call57 (fun w => arith_rows_15.calls _ _ _ w hs) hr
  by_cases e62 : o = 62
  · subst e62
    have hc := hT.cell 62 (by decide)
    rw [show creg 62 = 62 from by decide, if_pos (show known 62 = true from by decide)] at h
    rw [show cop 62 a b = arith_rows_16.f a b from rfl] at h
    obtain ⟨r, hr, h⟩ := Option.bind_eq_some_iff.mp h
    obtain ⟨rfl, rfl⟩ := Prod.mk.inj (Option.some.inj h)
    exact compW0 62 58 a b _ w (by decide) (by decide) hc hT.size ix62 ne62 Tryd.call58 (fun w => arith_rows_16.calls a b _ w hr)
  by_cases e63 : o = 63
  · subst e63
    have hc := hT.cell 63 (by decide)
    rw [show creg 63 = 63 from by decide, if_pos (show known 63 = true from by decide)] at h
    rw [show cop 63 a b = arith_rows_17.f a b from rfl] at h
    obtain ⟨r, hr, h⟩ := Option.bind_eq_some_iff.mp h
    obtain ⟨rfl, rfl⟩ := Prod.mk.inj (Option.some.inj h)
    exact compW0 63 59 a b _ w (by decide) (by decide) hc hT.size ix63 ne63 Tryd.call59 (fun w => arith_rows_17.calls a b _ w hr)
  by_cases e64 : o = 64
  · subst e64
    have hc := hT.cell 64 (by decide)
    rw [show creg 64 = 64 from by decide, if_pos (show known 64 = true from by decide)] at h
    rw [show cop 64 a b = arith_rows_18.f a b from rfl] at h
    obtain ⟨r, hr, h⟩ := Option.bind_eq_some_iff.mp h
    obtain ⟨rfl, rfl⟩ := Prod.mk.inj (Option.some.inj h)
    exact compW0 64 61 a b _ w (by decide) (by decide) hc hT.size ix64 ne64 Tryd.call61 (fun w => arith_rows_18.calls a b _ w hr)
  by_cases e65 : o = 65
  · subst e65
    have hc := hT.cell 65 (by decide)
    rw [show creg 65 = 65 from by decide, if_pos (show known 65 = true from by decide)] at h
    rw [show cop 65 a b = arith_rows_19.f a b from rfl] at h
    obtain ⟨r, hr, h⟩ := Option.bind_eq_some_iff.mp h
    obtain ⟨rfl, rfl⟩ := Prod.mk.inj (Option.some.inj h)
    exact compW0 65 62 a b _ w (by decide) (by decide) hc hT.size ix65 ne65 Tryd.call62 (fun w => arith_rows_19.calls a b _ w hr)
  by_cases e66 : o = 66
  · subst e66
    have hc := hT.cell 66 (by decide)
    rw [show creg 66 = 66 from by decide, if_pos (show known 66 = true from by decide)] at h
    rw [show cop 66 a b = arith_divide.f a b from rfl] at h
    obtain ⟨r, hr, h⟩ := Option.bind_eq_some_iff.mp h
    obtain ⟨rfl, rfl⟩ := Prod.mk.inj (Option.some.inj h)
    exact compW0 66 63 a b _ w (by decide) (by decide) hc hT.size ix66 ne66 Tryd.call63 (fun w => arith_divide.calls a b _ w hr)
  by_cases e67 : o = 67
  · subst e67
    have hc := hT.cell 67 (by decide)
    rw [show creg 67 = 67 from by decide, if_pos (show known 67 = true from by decide)] at h
    rw [show cop 67 a b = arith_divideU.f a b from rfl] at h
    obtain ⟨r, hr, h⟩ := Option.bind_eq_some_iff.mp h
    obtain ⟨rfl, rfl⟩ := Prod.mk.inj (Option.some.inj h)
    exact compW0 67 64 a b _ w (by decide) (by decide) hc hT.size ix67 ne67 Tryd.call64 (fun w => arith_divideU.calls a b _ w hr)
  by_cases e68 : o = 68
  · subst e68
    have hc := hT.cell 68 (by decide)
    rw [show creg 68 = 68 from by decide, if_pos (show known 68 = true from by decide)] at h
    rw [show cop 68 a b = arith_remain.f a b from rfl] at h
    obtain ⟨r, hr, h⟩ := Option.bind_eq_some_iff.mp h
    obtain ⟨rfl, rfl⟩ := Prod.mk.inj (Option.some.inj h)
    exact compW0 68 65 a b _ w (by decide) (by decide) hc hT.size ix68 ne68 Tryd.call65 (fun w => arith_remain.calls a b _ w hr)
  by_cases e69 : o = 69
  · subst e69
    have hc := hT.cell 69 (by decide)
    rw [show creg 69 = 69 from by decide, if_pos (show known 69 = true from by decide)] at h
    rw [show cop 69 a b = arith_remainU.f a b from rfl] at h
    obtain ⟨r, hr, h⟩ := Option.bind_eq_some_iff.mp h
    obtain ⟨rfl, rfl⟩ := Prod.mk.inj (Option.some.inj h)
    exact compW0 69 66 a b _ w (by decide) (by decide) hc hT.size ix69 ne69 Tryd.call66 (fun w => arith_remainU.calls a b _ w hr)
  by_cases e70 : o = 70
  · subst e70
    have hc := hT.cell 70 (by decide)
    rw [show creg 70 = 70 from by decide, if_pos (show known 70 = true from by decide)] at h
    rw [show cop 70 a b = ((arith_rows_20.f (a % 4294967296) (b % 4294967296)).bind fun s => arith_signed.f s) from rfl] at h
    obtain ⟨r, hr, h⟩ := Option.bind_eq_some_iff.mp h
    obtain ⟨rfl, rfl⟩ := Prod.mk.inj (Option.some.inj h)
    obtain ⟨s, hs, hr⟩ := Option.bind_eq_some_iff.mp hr
    exact compH0 70 67 a b s _ w (by decide) (by decide) hc hT.size ix70 n45 ne70 Tryd.call67 (fun w => arith_rows_20.calls _ _ _ w hs) hr
  by_cases e71 : o = 71
  · subst e71
    have hc := hT.cell 71 (by decide)
    rw [show creg 71 = 71 from by decide, if_pos (show known 71 = true from by decide)] at h
    rw [show cop 71 a b = ((arith_rows_21.f (a % 4294967296) (b % 4294967296)).bind fun s => arith_signed.f s) from rfl] at h
    obtain ⟨r, hr, h⟩ := Option.bind_eq_some_iff.mp h
    obtain ⟨rfl, rfl⟩ := Prod.mk.inj (Option.some.inj h)
    obtain ⟨s, hs, hr⟩ := Option.bind_eq_some_iff.mp hr
    exact compH0 71 68 a b s _ w (by decide) (by decide) hc hT.size ix71 n45 ne71 Tryd.call68 (fun w => arith_rows_21.calls _ _ _ w hs) hr
  by_cases e72 : o = 72
  · subst e72
    have hc := hT.cell 72 (by decide)
    rw [show creg 72 = 72 from by decide, if_pos (show known 72 = true from by decide)] at h
    rw [show cop 72 a b = ((arith_rows_23.f (a % 4294967296) (b % 4294967296)).bind fun s => arith_signed.f s) from rfl] at h
    obtain ⟨r, hr, h⟩ := Option.bind_eq_some_iff.mp h
    obtain ⟨rfl, rfl⟩ := Prod.mk.inj (Option.some.inj h)
    obtain ⟨s, hs, hr⟩ := Option.bind_eq_some_iff.mp hr
    exact compH0 72 70 a b s _ w (by decide) (by decide) hc hT.size ix72 n45 ne72 Tryd.call70 (fun w => arith_rows_23.calls _ _ _ w hs) hr
  by_cases e73 : o = 73
  · subst e73
    have hc := hT.cell 73 (by decide)
    rw [show creg 73 = 73 from by decide, if_pos (show known 73 = true from by decide)] at h
    rw [show cop 73 a b = ((arith_rows_22.f (a % 4294967296) (b % 4294967296)).bind fun s => arith_signed.f s) from rfl] at h
    obtain ⟨r, hr, h⟩ := Option.bind_eq_some_iff.mp h
    obtain ⟨rfl, rfl⟩ := Prod.mk.inj (Option.some.inj h)
    obtain ⟨s, hs, hr⟩ := Option.bind_eq_some_iff.mp hr
    exact compH0 73 69 a b s _ w (by decide) (by decide) hc hT.size ix73 n45 ne73 Tryd.call69 (fun w => arith_rows_22.calls _ _ _ w hs) hr
  by_cases e74 : o = 74
  · subst e74
    have hc := hT.cell 74 (by decide)
    rw [show creg 74 = 74 from by decide, if_pos (show known 74 = true from by decide)] at h
    rw [show cop 74 a b = ((arith_rows_24.f (a % 4294967296) (b % 4294967296)).bind fun s => arith_signed.f s) from rfl] at h
    obtain ⟨r, hr, h⟩ := Option.bind_eq_some_iff.mp h
    obtain ⟨rfl, rfl⟩ := Prod.mk.inj (Option.some.inj h)
    obtain ⟨s, hs, hr⟩ := Option.bind_eq_some_iff.mp hr
    exact compH0 74 71 a b s _ w (by decide) (by decide) hc hT.size ix74 n45 ne74 Tryd.call71 (fun w => arith_rows_24.calls _ _ _ w hs) hr
  have hk : known (creg o) = false := by
    have hcr : creg o = o := by unfold creg; simp only [e22, e23, e24, e25, e26, e27, e28, e29, e30, e31, e32, e33, e34, if_false]
    rw [hcr]; unfold known; simp [e35, e36, e37, e38, e39, e40, e41, e42, e43, e44, e45, e46, e47, e48, e49, e62, e63, e64, e65, e66, e67, e68, e69, e70, e71, e72, e73, e74]
  rw [if_neg (by rw [hk]; decide)] at h
  obtain ⟨rfl, rfl⟩ := Prod.mk.inj (Option.some.inj h)
  by_cases hr : o < 0 ∨ 97 ≤ o
  · exact compOut o a b w hr
  · have hc := hT.cell o.toNat (by omega)
    rw [plain0 o (by omega) (by omega) hk] at hc
    exact compN0 o a b w (by omega) (by omega) hc hT.size (nowhere o (by omega) (by omega) hk) n45 n46
end Go.Proofs.YtdjppkffmeccoaaDoor.PC
