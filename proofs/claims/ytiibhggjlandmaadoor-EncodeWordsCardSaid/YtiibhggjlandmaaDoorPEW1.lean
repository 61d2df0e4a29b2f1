-- Written by a program (a turned copy of the kit's print.py) for this claim. Lean checks it.
import Derived.Test.YtiibhggjlandmaaDoorPEW0
namespace Go.Proofs.YtiibhggjlandmaaDoor.PL
open Go.RowKit Go.Proofs.YtiibhggjlandmaaDoorW.PrintWords Go.Proofs.YtiibhggjlandmaaDoorW.PrintLast Go.Proofs.YtiibhggjlandmaaDoorW.PrintMore Go.Proofs.YtiibhggjlandmaaDoor.PF
attribute [local go_sem] max2_int min2_int max_two min_two max_three min_three max_four min_four   -- for this text's walks alone
set_option linter.unusedVariables false
set_option linter.unusedSimpArgs false

/-! ### anvillaw06_num: function 10 -/
def anvillaw06_num.f (a0 : Int) : Option (Int) := some a0
set_option maxHeartbeats 8000000 in
set_option maxRecDepth 100000 in
theorem anvillaw06_num.calls (a0 : Int) (r : Int) (w : World) (h : anvillaw06_num.f a0 = some r) :
    Calls Tryd.prog 10 #[.int .i64 a0] w fun e w' => e = .returned (.int .i64 r) ∧ Drawn0 w w' := by
  have H : (some a0) = some r := h
  clear h
  obtain rfl := Option.some.inj H
  go_enter Tryd.func10, Tryd.ntmps10
  go_wp2
  go_ret
  exact ⟨by first | rfl | (simp; done) | (simp [*]; done), by repeat (first | exact Drawn0.refl _ | apply Drawn0.step)⟩

/-! ### encode_f: function 39 -/
def encode_f.f (a0 : Int) (a1 : Int) (a2 : Int) (a3 : Int) : Option (Int × Int) := some (a0, Go.bits .or .u32 (Go.bits .or .u32 a1 ((a2 * 4096) % 4294967296)) ((a3 * 33554432) % 4294967296))
set_option maxHeartbeats 8000000 in
set_option maxRecDepth 100000 in
theorem encode_f.calls (a0 : Int) (a1 : Int) (a2 : Int) (a3 : Int) (r1 : Int) (r2 : Int) (w : World) (h : encode_f.f a0 a1 a2 a3 = some (r1, r2)) :
    Calls Tryd.prog 39 #[.int .i64 a0, .int .u32 a1, .int .u32 a2, .int .u32 a3] w fun e w' => e = .returned (.agg #[.int .i64 r1, .int .u32 r2]) ∧ Below w.heap.size w w' := by
  have hu56 := Tryd.underlying56
  have HB := Aside0.mk (Below.refl w.heap.size w)
  have H : (some (a0, Go.bits .or .u32 (Go.bits .or .u32 a1 ((a2 * 4096) % 4294967296)) ((a3 * 33554432) % 4294967296))) = some (r1, r2) := h
  clear h
  simp only [Option.some.injEq, Prod.mk.injEq] at H
  obtain ⟨rfl, rfl⟩ := H
  go_enter Tryd.func39, Tryd.ntmps39
  go_wp2_with (first | ((with_reducible refine gate_dst (N := 8) rfl ?_); refine box_event ?hg (N := 8) ?hd (cs := #[.int .i64 0, .int .u32 0]) (t := 56) ?hr ?_; (case hd => rfl); (case hg => rfl); (case hr => first | (go_simp; done) | (go_simp; rfl)); intro gb101 hg w5 hbox hb; have n0_ := Aside0.mk (below_step (by repeat (first | (with_reducible first | exact HB.out | apply below_alloc | apply pw_below_drewN | apply below_drew1) | exact HB.out)) hb); have n1_ := Aside0.mk (hbox); have n2_ := Aside0.mk ((by rw [hg]; exact (below_size (by repeat (first | (with_reducible first | exact HB.out | apply below_alloc | apply pw_below_drewN | apply below_drew1) | exact HB.out))) : w.heap.size ≤ gb101)); have n3_ := Aside0.mk ((by rw [hg]; exact (below_size (by repeat (first | (with_reducible first | exact HB.out | apply below_alloc | apply pw_below_drewN | apply below_drew1) | exact HB.out))) : w.heap.size ≤ gb101)); clear HB; have HB := n0_; have BK101 := n1_; have GW101 := n2_; have GE101 := n3_; clear n0_ n1_ n2_ n3_; clear hb hbox hg; have hcz6_0 : w5.cell? ⟨gb101, 0, none⟩ = some (.int .i64 0) := (blk_cell BK101.out 0).trans rfl; have hcz6_1 : w5.cell? ⟨gb101, 1, none⟩ = some (.int .u32 0) := (blk_cell BK101.out 1).trans rfl; have hfz6_0 := blk_frozen BK101.out 0; have hfz6_1 := blk_frozen BK101.out 1))
  refine bodyPost_ret (results_cell_row rfl _ _ gb101 56 #[.int .i64 a0, .int .u32 (Go.bits .or .u32 (Go.bits .or .u32 a1 ((a2 * 4096) % 4294967296)) ((a3 * 33554432) % 4294967296))] (0, 0) _ rfl (by (with_reducible repeat (first | refine blk_drewN ?_ _ | refine blk_drew ?_ | refine blk_alloc ?_ _)); refine blk_put (cs := #[.int .i64 a0, .int .u32 0]) ?_ 1 _ rfl; (with_reducible repeat (first | refine blk_drewN ?_ _ | refine blk_drew ?_ | refine blk_alloc ?_ _)); refine blk_put (cs := #[.int .i64 0, .int .u32 0]) ?_ 0 _ rfl; (with_reducible repeat (first | refine blk_drewN ?_ _ | refine blk_drew ?_ | refine blk_alloc ?_ _)); exact BK101.out) Tryd.underlying56 rfl (by kernel_rfl)) rfl ?_
  exact ⟨by first | rfl | (simp [errW_none, errW_some] <;> rfl) | (simp [*, errW_none, errW_some] <;> rfl), by repeat (first | (with_reducible first | exact HB.out | apply below_alloc | apply pw_below_drewN | apply below_drew1 | refine below_set ?_ GE101.out) | exact HB.out)⟩

-- NOT PRINTED: function 40 (encode_forms)

-- given elsewhere: function 23 (encode_formOf)

/-! ### encode_fields: function 24 -/
def encode_fields.f  : Option ((List (S61))) := some (([(⟨true, false, false, true, false⟩ : S61), (⟨true, false, false, true, false⟩ : S61), (⟨true, true, false, true, false⟩ : S61), (⟨false, true, true, true, false⟩ : S61), (⟨false, true, true, true, false⟩ : S61), (⟨true, true, true, false, false⟩ : S61), (⟨true, true, false, true, false⟩ : S61), (⟨true, true, false, true, false⟩ : S61), (⟨true, true, false, true, false⟩ : S61), (⟨false, false, false, false, false⟩ : S61), (⟨true, true, true, false, true⟩ : S61), (⟨true, true, false, false, true⟩ : S61)] : List (S61)))
set_option maxHeartbeats 8000000 in
set_option maxRecDepth 100000 in
theorem encode_fields.calls  (r : List (S61)) (w : World) (h : encode_fields.f  = some r) :
    Calls Tryd.prog 24 #[] w fun e w' => ∃ v0_ : Value, e = .returned (v0_) ∧ Kd.R k61 61 w' w.heap.size (fun _ => True) v0_ r ∧ Below w.heap.size w w' := by
  have hu61 := Tryd.underlying61
  have HB := Aside0.mk (Below.refl w.heap.size w)
  have H : (some (([(⟨true, false, false, true, false⟩ : S61), (⟨true, false, false, true, false⟩ : S61), (⟨true, true, false, true, false⟩ : S61), (⟨false, true, true, true, false⟩ : S61), (⟨false, true, true, true, false⟩ : S61), (⟨true, true, true, false, false⟩ : S61), (⟨true, true, false, true, false⟩ : S61), (⟨true, true, false, true, false⟩ : S61), (⟨true, true, false, true, false⟩ : S61), (⟨false, false, false, false, false⟩ : S61), (⟨true, true, true, false, true⟩ : S61), (⟨true, true, false, false, true⟩ : S61)] : List (S61)))) = some r := h
  clear h
  obtain ⟨y102, hy102⟩ : ∃ y_ : List (S61), y_ = (([(⟨true, false, false, true, false⟩ : S61), (⟨true, false, false, true, false⟩ : S61), (⟨true, true, false, true, false⟩ : S61), (⟨false, true, true, true, false⟩ : S61), (⟨false, true, true, true, false⟩ : S61), (⟨true, true, true, false, false⟩ : S61), (⟨true, true, false, true, false⟩ : S61), (⟨true, true, false, true, false⟩ : S61), (⟨true, true, false, true, false⟩ : S61), (⟨false, false, false, false, false⟩ : S61), (⟨true, true, true, false, true⟩ : S61), (⟨true, true, false, false, true⟩ : S61)] : List (S61))) := ⟨_, rfl⟩
  replace H : (some y102) = some r := by first | (rw [hy102]; with_reducible exact H) | (have H2_ := (Option.bind_some _ _).symm.trans H; rw [hy102]; with_reducible exact H2_) | (have H2_ := (Option.bind_some _ _).symm.trans H; with_reducible exact H2_) | with_reducible exact H | (rw [hy102]; exact H) | exact H
  have Ny102 := Aside0.mk hy102
  clear hy102
  obtain rfl := Option.some.inj H
  go_enter Tryd.func24, Tryd.ntmps24
  go_wp2_with (first | ((with_reducible refine gate_dst (N := 13) rfl ?_); refine Kd.R_lit k61 _ 61 ?hg (N := 13) ?hd (xs := ([(⟨true, false, false, true, false⟩ : S61), (⟨true, false, false, true, false⟩ : S61), (⟨true, true, false, true, false⟩ : S61), (⟨false, true, true, true, false⟩ : S61), (⟨false, true, true, true, false⟩ : S61), (⟨true, true, true, false, false⟩ : S61), (⟨true, true, false, true, false⟩ : S61), (⟨true, true, false, true, false⟩ : S61), (⟨true, true, false, true, false⟩ : S61), (⟨false, false, false, false, false⟩ : S61), (⟨true, true, true, false, true⟩ : S61), (⟨true, true, false, false, true⟩ : S61)] : List (S61))) (inner := [.bool true, .bool false, .bool false, .bool true, .bool false, .bool true, .bool false, .bool false, .bool true, .bool false, .bool true, .bool true, .bool false, .bool true, .bool false, .bool false, .bool true, .bool true, .bool true, .bool false, .bool false, .bool true, .bool true, .bool true, .bool false, .bool true, .bool true, .bool true, .bool false, .bool false, .bool true, .bool true, .bool false, .bool true, .bool false, .bool true, .bool true, .bool false, .bool true, .bool false, .bool true, .bool true, .bool false, .bool true, .bool false, .bool false, .bool false, .bool false, .bool false, .bool false, .bool true, .bool true, .bool true, .bool false, .bool true, .bool true, .bool true, .bool false, .bool false, .bool true]) (ok := fun _ => True) (okp := fun _ => True) ?hr ?hp (fun _ hk => hk) trivial (Below.refl _ _) (Nat.le_refl _) (by simp) ?_; (case hd => rfl); (case hg => rfl); (case hr => first | (go_simp; done) | (go_simp; rfl)); (case hp => exact (Reps.c5 (show Kd.M k61 _ _ _ (⟨true, false, false, true, false⟩ : S61) [.bool true, .bool false, .bool false, .bool true, .bool false] from (k61_mkM _ _ _ (⟨true, false, false, true, false⟩ : S61) )) (Reps.c5 (show Kd.M k61 _ _ _ (⟨true, false, false, true, false⟩ : S61) [.bool true, .bool false, .bool false, .bool true, .bool false] from (k61_mkM _ _ _ (⟨true, false, false, true, false⟩ : S61) )) (Reps.c5 (show Kd.M k61 _ _ _ (⟨true, true, false, true, false⟩ : S61) [.bool true, .bool true, .bool false, .bool true, .bool false] from (k61_mkM _ _ _ (⟨true, true, false, true, false⟩ : S61) )) (Reps.c5 (show Kd.M k61 _ _ _ (⟨false, true, true, true, false⟩ : S61) [.bool false, .bool true, .bool true, .bool true, .bool false] from (k61_mkM _ _ _ (⟨false, true, true, true, false⟩ : S61) )) (Reps.c5 (show Kd.M k61 _ _ _ (⟨false, true, true, true, false⟩ : S61) [.bool false, .bool true, .bool true, .bool true, .bool false] from (k61_mkM _ _ _ (⟨false, true, true, true, false⟩ : S61) )) (Reps.c5 (show Kd.M k61 _ _ _ (⟨true, true, true, false, false⟩ : S61) [.bool true, .bool true, .bool true, .bool false, .bool false] from (k61_mkM _ _ _ (⟨true, true, true, false, false⟩ : S61) )) (Reps.c5 (show Kd.M k61 _ _ _ (⟨true, true, false, true, false⟩ : S61) [.bool true, .bool true, .bool false, .bool true, .bool false] from (k61_mkM _ _ _ (⟨true, true, false, true, false⟩ : S61) )) (Reps.c5 (show Kd.M k61 _ _ _ (⟨true, true, false, true, false⟩ : S61) [.bool true, .bool true, .bool false, .bool true, .bool false] from (k61_mkM _ _ _ (⟨true, true, false, true, false⟩ : S61) )) (Reps.c5 (show Kd.M k61 _ _ _ (⟨true, true, false, true, false⟩ : S61) [.bool true, .bool true, .bool false, .bool true, .bool false] from (k61_mkM _ _ _ (⟨true, true, false, true, false⟩ : S61) )) (Reps.c5 (show Kd.M k61 _ _ _ (⟨false, false, false, false, false⟩ : S61) [.bool false, .bool false, .bool false, .bool false, .bool false] from (k61_mkM _ _ _ (⟨false, false, false, false, false⟩ : S61) )) (Reps.c5 (show Kd.M k61 _ _ _ (⟨true, true, true, false, true⟩ : S61) [.bool true, .bool true, .bool true, .bool false, .bool true] from (k61_mkM _ _ _ (⟨true, true, true, false, true⟩ : S61) )) (Reps.c5 (show Kd.M k61 _ _ _ (⟨true, true, false, false, true⟩ : S61) [.bool true, .bool true, .bool false, .bool false, .bool true] from (k61_mkM _ _ _ (⟨true, true, false, false, true⟩ : S61) )) (Reps.none _ _)))))))))))))); intro v103 w1 ho2 hb hg_ hnew_; clear hg_ hnew_; (first | rw [← Ny102.out] at ho2 | (simp only [Int.reduceToNat] at ho2; rw [← Ny102.out] at ho2)); have n0_ := Aside0.mk (Kd.R_lower ho2 (below_size (by repeat (first | (with_reducible first | exact HB.out | apply below_alloc | apply pw_below_drewN | apply below_drew1) | exact HB.out)))); have n1_ := Aside0.mk (below_step (by repeat (first | (with_reducible first | exact HB.out | apply below_alloc | apply pw_below_drewN | apply below_drew1) | exact HB.out)) hb); clear HB; have HO104 := n0_; have HB := n1_; clear n0_ n1_; clear hb ho2))
  go_ret
  exact ⟨_, by first | rfl | (simp [errW_none, errW_some] <;> rfl) | (simp [*, errW_none, errW_some] <;> rfl), by (with_reducible repeat (first | apply Kd.R_alloc | apply Kd.R_drewN | apply Kd.R_drew)); exact HO104.out, by repeat (first | (with_reducible first | exact HB.out | apply below_alloc | apply pw_below_drewN | apply below_drew1) | exact HB.out)⟩

-- NOT PRINTED: function 25 (encode_reaches)

-- given elsewhere: function 11 (encode_Check)

/-! ### encode_scatter: function 30 -/
def encode_scatter.l0 : Nat → Int → Int → List (S78) → Int → Int → Option (Int)
  | 0, _, _, _, _, _ => none
  | k + 1, x0, x5, x8, x9, x10 => if x10 < x9 then (if 0 ≤ x10 then (if x10 < (x8.length : Int) then (if 0 ≤ ((rd_T78 x8 x10).f1) then (if 0 ≤ (wrap64 ((wrap64 (((rd_T78 x8 x10).f0) - ((rd_T78 x8 x10).f1))) + 1)) then (if 0 ≤ ((rd_T78 x8 x10).f2) then (encode_scatter.l0 k x0 (Go.bits .or .u32 x5 (shl .u32 (Go.bits .and .u32 ((shr .i64 x0 ((rd_T78 x8 x10).f1)) % 4294967296) (((shl .u32 1 (wrap64 ((wrap64 (((rd_T78 x8 x10).f0) - ((rd_T78 x8 x10).f1))) + 1))) - 1) % 4294967296)) ((rd_T78 x8 x10).f2))) x8 x9 (wrap64 (x10 + 1))) else (none)) else (none)) else (none)) else (none)) else (none)) else (some x5)
def encode_scatter.f (k : Nat) (a0 : Int) (l1 : List (S78)) : Option (Int) := encode_scatter.l0 k a0 0 l1 (l1.length : Int) 0
theorem encode_scatter.mono_l : ∀ k, (∀ y0 y1 y2 y3 y4, LeO (encode_scatter.l0 k y0 y1 y2 y3 y4) (encode_scatter.l0 (k + 1) y0 y1 y2 y3 y4))
  | 0 => fun _ _ _ _ _ r h => by simp [encode_scatter.l0] at h
  | k + 1 => by
    have ih0 := encode_scatter.mono_l k
    · intro y0 y1 y2 y3 y4
      unfold encode_scatter.l0
      repeat' first
      | (with_reducible exact ih0 _ _ _ _ _)
      | (with_reducible exact LeO.refl _)
      | (with_reducible exact LeO.none _)
      | (with_reducible refine LeO.ite ?_ ?_)
      | (with_reducible refine LeO.bind ?_ (fun _ => ?_))
      | exact ih0 _ _ _ _ _
      | exact LeO.none _
      | refine LeO.ite ?_ ?_
      | refine LeO.bind ?_ (fun _ => ?_)
theorem encode_scatter.mono : ∀ a0 a1 k, LeO (encode_scatter.f k a0 a1) (encode_scatter.f (k + 1) a0 a1) := by
  intro a0 a1 k
  have ih0 := encode_scatter.mono_l k
  unfold encode_scatter.f
  repeat' first
      | (with_reducible exact ih0 _ _ _ _ _)
      | (with_reducible exact LeO.refl _)
      | (with_reducible exact LeO.none _)
      | (with_reducible refine LeO.ite ?_ ?_)
      | (with_reducible refine LeO.bind ?_ (fun _ => ?_))
      | exact ih0 _ _ _ _ _
      | exact LeO.none _
      | refine LeO.ite ?_ ?_
      | refine LeO.bind ?_ (fun _ => ?_)
set_option maxHeartbeats 8000000 in
set_option maxRecDepth 100000 in
theorem encode_scatter.calls (k : Nat) (a0 : Int) (A1 : Option Addr) (c1 : Nat) (l1 : List (S78)) (r : Int) (w : World) (hr1 : Kd.C k78 w A1 l1.length l1) (hc1 : l1.length ≤ c1) (h : encode_scatter.f k a0 l1 = some r) :
    Calls Tryd.prog 30 #[.int .i64 a0, .slice A1 l1.length c1] w fun e w' => e = .returned (.int .u32 r) ∧ Below w.heap.size w w' := by
  have hu78 := Tryd.underlying78
  have HR1 := Aside0.mk hr1
  have HC1 := Aside0.mk hc1
  clear hr1 hc1
  have HB := Aside0.mk (Below.refl w.heap.size w)
  have H : (encode_scatter.l0 k a0 0 l1 (l1.length : Int) 0) = some r := h
  clear h
  have H' := Aside0.mk H
  clear H
  go_enter Tryd.func30, Tryd.ntmps30
  go_wp2
  repeat (go_quiet (fail); try go_wp2)
  go_loopg [5, 10] k (fun kq v5 v10 w' => ∃ (x5_1 : Int) (x10_1 : Int), v5 = .int .u32 x5_1 ∧ v10 = .int .i64 x10_1 ∧ Aside0 (encode_scatter.l0 kq a0 x5_1 l1 (l1.length : Int) x10_1 = some r) ∧ Aside0 (kq ≤ k) ∧ Aside0 (Below w.heap.size w w'))
  case atStart => exact ⟨(0), (0), (by first | rfl | (simp; done) | (simp [*]; done)), (by first | rfl | (simp; done) | (simp [*]; done)), H', ⟨Nat.le_refl _⟩, ⟨by repeat (first | (with_reducible first | exact HB.out | apply below_alloc | apply pw_below_drewN | apply below_drew1) | exact HB.out)⟩⟩
  case round =>
    clear H'
    try clear c1
    try clear p2
    obtain ⟨x5_1, x10_1, rfl, rfl, HA, HK1, HB⟩ := hrel
    cases gk with
    | zero => exact absurd HA.out (by simp [encode_scatter.l0])
    | succ k1 =>
      have H := HA.out
      clear HA
      simp only [encode_scatter.l0] at H
      by_cases c3 : x10_1 < (l1.length : Int)
      · rw [if_pos c3] at H
        have c3b0 : decide (x10_1 < (l1.length : Int)) = true := decide_eq_true c3
        clear c3
        by_cases c4 : 0 ≤ x10_1
        · rw [if_pos c4] at H
          have c4b0 : decide (0 ≤ x10_1) = true := decide_eq_true c4
          clear c4
          by_cases c5 : x10_1 < (l1.length : Int)
          · rw [if_pos c5] at H
            have c5b0 : decide (x10_1 < (l1.length : Int)) = true := decide_eq_true c5
            clear c5
            by_cases c6 : 0 ≤ ((rd_T78 l1 x10_1).f1)
            · rw [if_pos c6] at H
              have c6b0 := eq_true c6
              have c6b1 : decide (0 ≤ ((rd_T78 l1 x10_1).f1)) = true := decide_eq_true c6
              clear c6
              obtain ⟨ji7, hji7⟩ : ∃ j_ : Int, (shr .i64 a0 ((rd_T78 l1 x10_1).f1)) = j_ := ⟨_, rfl⟩
              replace H : (if 0 ≤ (wrap64 ((wrap64 (((rd_T78 l1 x10_1).f0) - ((rd_T78 l1 x10_1).f1))) + 1)) then (if 0 ≤ ((rd_T78 l1 x10_1).f2) then (encode_scatter.l0 k1 a0 (Go.bits .or .u32 x5_1 (shl .u32 (Go.bits .and .u32 ((ji7) % 4294967296) (((shl .u32 1 (wrap64 ((wrap64 (((rd_T78 l1 x10_1).f0) - ((rd_T78 l1 x10_1).f1))) + 1))) - 1) % 4294967296)) ((rd_T78 l1 x10_1).f2))) l1 (l1.length : Int) (wrap64 (x10_1 + 1))) else (none)) else (none)) = some r := by first | (rw [hji7] at H; exact H) | (simp only [hji7] at H ⊢; exact H)
              have hji7_ : (a0 / 2 ^ min ((rd_T78 l1 x10_1).f1).toNat 64) = ji7 := hji7
              have hji7z : ((rd_T78 l1 x10_1).f1) ≤ 64 → (a0 / 2 ^ ((rd_T78 l1 x10_1).f1).toNat) = ji7 := shr_small hji7
              obtain ⟨ji8, hji8⟩ : ∃ j_ : Int, (wrap64 ((wrap64 (((rd_T78 l1 x10_1).f0) - ((rd_T78 l1 x10_1).f1))) + 1)) = j_ := ⟨_, rfl⟩
              replace H : (if 0 ≤ (ji8) then (if 0 ≤ ((rd_T78 l1 x10_1).f2) then (encode_scatter.l0 k1 a0 (Go.bits .or .u32 x5_1 (shl .u32 (Go.bits .and .u32 ((ji7) % 4294967296) (((shl .u32 1 (ji8)) - 1) % 4294967296)) ((rd_T78 l1 x10_1).f2))) l1 (l1.length : Int) (wrap64 (x10_1 + 1))) else (none)) else (none)) = some r := by first | (rw [hji8] at H; exact H) | (simp only [hji8] at H ⊢; exact H)
              have hji8w : (IntKind.i64.wrap ((wrap64 (((rd_T78 l1 x10_1).f0) - ((rd_T78 l1 x10_1).f1))) + 1)) = ji8 := (i64_w _).trans hji8
              by_cases c9 : 0 ≤ (ji8)
              · rw [if_pos c9] at H
                have c9b0 := eq_true c9
                have c9b1 : decide (0 ≤ (ji8)) = true := decide_eq_true c9
                clear c9
                obtain ⟨ji10, hji10⟩ : ∃ j_ : Int, (shl .u32 1 (ji8)) = j_ := ⟨_, rfl⟩
                replace H : (if 0 ≤ ((rd_T78 l1 x10_1).f2) then (encode_scatter.l0 k1 a0 (Go.bits .or .u32 x5_1 (shl .u32 (Go.bits .and .u32 ((ji7) % 4294967296) (((ji10) - 1) % 4294967296)) ((rd_T78 l1 x10_1).f2))) l1 (l1.length : Int) (wrap64 (x10_1 + 1))) else (none)) = some r := by first | (rw [hji10] at H; exact H) | (simp only [hji10] at H ⊢; exact H)
                have hji10_ : (IntKind.u32.wrap (1 * 2 ^ min (ji8).toNat 32)) = ji10 := hji10
                have hji10z : (ji8) ≤ 32 → (IntKind.u32.wrap (1 * 2 ^ (ji8).toNat)) = ji10 := shl_small hji10
                have hji10u : (IntKind.u32.wrap (2 ^ min (ji8).toNat 32)) = ji10 := by have h_ := hji10_; rw [Int.one_mul] at h_; exact h_
                have hji10v : (ji8) ≤ 32 → (IntKind.u32.wrap (2 ^ (ji8).toNat)) = ji10 := fun hle_ => by have h_ := hji10z hle_; rw [Int.one_mul] at h_; exact h_
                by_cases c11 : 0 ≤ ((rd_T78 l1 x10_1).f2)
                · rw [if_pos c11] at H
                  have c11b0 := eq_true c11
                  have c11b1 : decide (0 ≤ ((rd_T78 l1 x10_1).f2)) = true := decide_eq_true c11
                  clear c11
                  obtain ⟨ji12, hji12⟩ : ∃ j_ : Int, (shl .u32 (Go.bits .and .u32 ((ji7) % 4294967296) (((ji10) - 1) % 4294967296)) ((rd_T78 l1 x10_1).f2)) = j_ := ⟨_, rfl⟩
                  replace H : (encode_scatter.l0 k1 a0 (Go.bits .or .u32 x5_1 (ji12)) l1 (l1.length : Int) (wrap64 (x10_1 + 1))) = some r := by first | (rw [hji12] at H; exact H) | (simp only [hji12] at H ⊢; exact H)
                  have hji12_ : (IntKind.u32.wrap ((Go.bits .and .u32 ((ji7) % 4294967296) (((ji10) - 1) % 4294967296)) * 2 ^ min ((rd_T78 l1 x10_1).f2).toNat 32)) = ji12 := hji12
                  have hji12z : ((rd_T78 l1 x10_1).f2) ≤ 32 → (IntKind.u32.wrap ((Go.bits .and .u32 ((ji7) % 4294967296) (((ji10) - 1) % 4294967296)) * 2 ^ ((rd_T78 l1 x10_1).f2).toNat)) = ji12 := shl_small hji12
                  have H' := Aside0.mk H
                  clear H
                  have p105 : 0 ≤ (x10_1 : Int) := of_decide_eq_true (by first | (with_reducible assumption) | assumption)
                  have q105 : x10_1 < (l1.length : Int) := of_decide_eq_true (by first | (with_reducible assumption) | assumption)
                  obtain ⟨ad105, e105, hx105_0, hx105_1, hx105_2⟩ := at_T78 HR1.out x10_1 p105 q105
                  cases e105
                  replace hx105_0 := (HB.out.cell (World.block_lt_of_cell? w _ hx105_0)).trans hx105_0
                  replace hx105_1 := (HB.out.cell (World.block_lt_of_cell? w _ hx105_1)).trans hx105_1
                  replace hx105_2 := (HB.out.cell (World.block_lt_of_cell? w _ hx105_2)).trans hx105_2
                  replace p105 := eq_true p105
                  replace q105 := eq_true q105
                  go_wp2_with (first | ((with_reducible refine gate_dst (N := 7) rfl ?_); refine box_event ?hg (N := 7) ?hd (cs := #[.int .i64 0, .int .i64 0, .int .i64 0]) (t := 78) ?hr ?_; (case hd => rfl); (case hg => rfl); (case hr => first | (go_simp; done) | (go_simp; rfl)); intro gb106 hg w13 hbox hb; have n0_ := Aside0.mk (below_step (by repeat (first | (with_reducible first | exact HB.out | apply below_alloc | apply pw_below_drewN | apply below_drew1) | exact HB.out)) hb); have n1_ := Aside0.mk (hbox); have n2_ := Aside0.mk ((by rw [hg]; exact (below_size (by repeat (first | (with_reducible first | exact HB.out | apply below_alloc | apply pw_below_drewN | apply below_drew1) | exact HB.out))) : w.heap.size ≤ gb106)); have n3_ := Aside0.mk ((by rw [hg]; exact (below_size (by repeat (first | (with_reducible first | exact HB.out | apply below_alloc | apply pw_below_drewN | apply below_drew1) | exact HB.out))) : w.heap.size ≤ gb106)); clear HB; have HB := n0_; have BK106 := n1_; have GW106 := n2_; have GE106 := n3_; clear n0_ n1_ n2_ n3_; clear hb hbox hg; have hcz14_0 : w13.cell? ⟨gb106, 0, none⟩ = some (.int .i64 0) := (blk_cell BK106.out 0).trans rfl; have hcz14_1 : w13.cell? ⟨gb106, 1, none⟩ = some (.int .i64 0) := (blk_cell BK106.out 1).trans rfl; have hcz14_2 : w13.cell? ⟨gb106, 2, none⟩ = some (.int .i64 0) := (blk_cell BK106.out 2).trans rfl; have hfz14_0 := blk_frozen BK106.out 0; have hfz14_1 := blk_frozen BK106.out 1; have hfz14_2 := blk_frozen BK106.out 2))
                  repeat (go_quiet (first | ((with_reducible refine gate_dst (N := 7) rfl ?_); refine box_event ?hg (N := 7) ?hd (cs := #[.int .i64 0, .int .i64 0, .int .i64 0]) (t := 78) ?hr ?_; (case hd => rfl); (case hg => rfl); (case hr => first | (go_simp; done) | (go_simp; rfl)); intro gb106 hg w13 hbox hb; have n0_ := Aside0.mk (below_step (by repeat (first | (with_reducible first | exact HB.out | apply below_alloc | apply pw_below_drewN | apply below_drew1) | exact HB.out)) hb); have n1_ := Aside0.mk (hbox); have n2_ := Aside0.mk ((by rw [hg]; exact (below_size (by repeat (first | (with_reducible first | exact HB.out | apply below_alloc | apply pw_below_drewN | apply below_drew1) | exact HB.out))) : w.heap.size ≤ gb106)); have n3_ := Aside0.mk ((by rw [hg]; exact (below_size (by repeat (first | (with_reducible first | exact HB.out | apply below_alloc | apply pw_below_drewN | apply below_drew1) | exact HB.out))) : w.heap.size ≤ gb106)); clear HB; have HB := n0_; have BK106 := n1_; have GW106 := n2_; have GE106 := n3_; clear n0_ n1_ n2_ n3_; clear hb hbox hg; have hcz14_0 : w13.cell? ⟨gb106, 0, none⟩ = some (.int .i64 0) := (blk_cell BK106.out 0).trans rfl; have hcz14_1 : w13.cell? ⟨gb106, 1, none⟩ = some (.int .i64 0) := (blk_cell BK106.out 1).trans rfl; have hcz14_2 : w13.cell? ⟨gb106, 2, none⟩ = some (.int .i64 0) := (blk_cell BK106.out 2).trans rfl; have hfz14_0 := blk_frozen BK106.out 0; have hfz14_1 := blk_frozen BK106.out 1; have hfz14_2 := blk_frozen BK106.out 2)); try go_wp2_with (first | ((with_reducible refine gate_dst (N := 7) rfl ?_); refine box_event ?hg (N := 7) ?hd (cs := #[.int .i64 0, .int .i64 0, .int .i64 0]) (t := 78) ?hr ?_; (case hd => rfl); (case hg => rfl); (case hr => first | (go_simp; done) | (go_simp; rfl)); intro gb106 hg w13 hbox hb; have n0_ := Aside0.mk (below_step (by repeat (first | (with_reducible first | exact HB.out | apply below_alloc | apply pw_below_drewN | apply below_drew1) | exact HB.out)) hb); have n1_ := Aside0.mk (hbox); have n2_ := Aside0.mk ((by rw [hg]; exact (below_size (by repeat (first | (with_reducible first | exact HB.out | apply below_alloc | apply pw_below_drewN | apply below_drew1) | exact HB.out))) : w.heap.size ≤ gb106)); have n3_ := Aside0.mk ((by rw [hg]; exact (below_size (by repeat (first | (with_reducible first | exact HB.out | apply below_alloc | apply pw_below_drewN | apply below_drew1) | exact HB.out))) : w.heap.size ≤ gb106)); clear HB; have HB := n0_; have BK106 := n1_; have GW106 := n2_; have GE106 := n3_; clear n0_ n1_ n2_ n3_; clear hb hbox hg; have hcz14_0 : w13.cell? ⟨gb106, 0, none⟩ = some (.int .i64 0) := (blk_cell BK106.out 0).trans rfl; have hcz14_1 : w13.cell? ⟨gb106, 1, none⟩ = some (.int .i64 0) := (blk_cell BK106.out 1).trans rfl; have hcz14_2 : w13.cell? ⟨gb106, 2, none⟩ = some (.int .i64 0) := (blk_cell BK106.out 2).trans rfl; have hfz14_0 := blk_frozen BK106.out 0; have hfz14_1 := blk_frozen BK106.out 1; have hfz14_2 := blk_frozen BK106.out 2)))
                  go_roundg k1
                  case measure => have := HK1.out; omega
                  case rel => exact ⟨(Go.bits .or .u32 x5_1 (ji12)), (wrap64 (x10_1 + 1)), (by first | rfl | (simp; done) | (simp only [← hji12] <;> (first | rfl | simp)) | (simp [*]; done)), (by first | rfl | (simp; done) | (simp [*]; done)), H', ⟨by have := HK1.out; omega⟩, ⟨by repeat (first | (with_reducible first | exact HB.out | apply below_alloc | apply pw_below_drewN | apply below_drew1 | refine below_set ?_ GE106.out) | exact HB.out)⟩⟩
                · rw [if_neg c11] at H
                  exact absurd H (by simp)
              · rw [if_neg c9] at H
                exact absurd H (by simp)
            · rw [if_neg c6] at H
              exact absurd H (by simp)
          · rw [if_neg c5] at H
            exact absurd H (by simp)
        · rw [if_neg c4] at H
          exact absurd H (by simp)
      · rw [if_neg c3] at H
        have c3b0 : decide (x10_1 < (l1.length : Int)) = false := decide_eq_false c3
        clear c3
        obtain rfl := Option.some.inj H
        go_wp2
        repeat (go_quiet (fail); try go_wp2)
        go_ret
        exact ⟨by first | rfl | (simp [errW_none, errW_some] <;> rfl) | (simp [*, errW_none, errW_some] <;> rfl), by repeat (first | (with_reducible first | exact HB.out | apply below_alloc | apply pw_below_drewN | apply below_drew1) | exact HB.out)⟩

end Go.Proofs.YtiibhggjlandmaaDoor.PL
