/- The law BusMemory, its plain parts: what an access to RAM does, and the word 'aligned'. No condition. -/
import Derived.Test.YtkocfcgdjjdnhaaSolo
namespace Go.Proofs.Ytkocfcgdjjdnhaa.BW
open Go.RowKit
set_option linter.unusedVariables false
set_option linter.unusedSimpArgs false
def alignedB (addr size : Int) : Bool := szOk size && decide (addr % size = 0)
set_option maxHeartbeats 4000000 in
set_option maxRecDepth 100000 in
theorem aligned_any (w : World) (addr size : Int) (a0 : 0 ≤ addr) (a1 : addr ≤ 18446744073709551615) :
    Calls Try.prog 31 #[.int .u64 addr, .int .i64 size] w fun e w' => e = .returned (.bool (alignedB addr size)) ∧ w = w' := by
  by_cases h : szOk size = true
  · have h' : size = 1 ∨ size = 2 ∨ size = 4 ∨ size = 8 := by simpa [szOk] using h
    rcases h' with rfl | rfl | rfl | rfl
    · have t1 : addr.tmod 1 = addr % 1 := Int.tmod_eq_emod_of_nonneg a0
      go_enter Try.func31, Try.ntmps31
      go_wp2
      all_goals
        go_ret
        refine ⟨ret_bool ?_, rfl⟩
        rw [Bool.eq_iff_iff]; unfold alignedB szOk; simp [*]
    · have t1 : addr.tmod 2 = addr % 2 := Int.tmod_eq_emod_of_nonneg a0
      go_enter Try.func31, Try.ntmps31
      go_wp2
      all_goals
        go_ret
        refine ⟨ret_bool ?_, rfl⟩
        rw [Bool.eq_iff_iff]; unfold alignedB szOk; simp [*]
    · have t1 : addr.tmod 4 = addr % 4 := Int.tmod_eq_emod_of_nonneg a0
      go_enter Try.func31, Try.ntmps31
      go_wp2
      all_goals
        go_ret
        refine ⟨ret_bool ?_, rfl⟩
        rw [Bool.eq_iff_iff]; unfold alignedB szOk; simp [*]
    · have t1 : addr.tmod 8 = addr % 8 := Int.tmod_eq_emod_of_nonneg a0
      go_enter Try.func31, Try.ntmps31
      go_wp2
      all_goals
        go_ret
        refine ⟨ret_bool ?_, rfl⟩
        rw [Bool.eq_iff_iff]; unfold alignedB szOk; simp [*]
  · have e1 : (size == 1) = false := by cases hq : (size == 1) <;> simp_all [szOk]
    have e2 : (size == 2) = false := by cases hq : (size == 2) <;> simp_all [szOk]
    have e4 : (size == 4) = false := by cases hq : (size == 4) <;> simp_all [szOk]
    have e8 : (size == 8) = false := by cases hq : (size == 8) <;> simp_all [szOk]
    have hf : alignedB addr size = false := by unfold alignedB; simp [h]
    rw [hf]; clear hf h
    go_enter Try.func31, Try.ntmps31
    go_wp2
    go_ret
    exact ⟨rfl, rfl⟩
/-- Behind RAM's first address nothing but RAM is reached. -/
theorem reach_mem (n a : Nat) (size : Int) : reach n (2147483648 + (a : Int)) size = if alignedB (2147483648 + (a : Int)) size = true ∧ (a : Int) + size ≤ n then 1 else 0 := by
  unfold reach alignedB
  have e : inRam n (2147483648 + (a : Int)) size = (decide (1 ≤ size) && decide ((a : Int) + size ≤ n)) := by
    unfold inRam
    rw [Bool.eq_iff_iff]; simp only [Bool.and_eq_true, decide_eq_true_eq]; omega
  rw [e]
  by_cases h1 : szOk size = true
  · have h1' : 1 ≤ size := by simp [szOk] at h1; omega
    by_cases h2 : (2147483648 + (a : Int)) % size = 0
    · by_cases h3 : (a : Int) + size ≤ n
      · simp [h1, h2, h3, h1']
      · simp only [h1, h2, h3, h1', decide_true, decide_false, Bool.and_false, Bool.false_eq_true, and_false, if_false, Bool.and_true]
        repeat' (first | (rw [if_neg (by omega)]) | rfl)
    · simp only [h1, h2, decide_false, Bool.and_false, Bool.false_eq_true, false_and, and_false, if_false]
      repeat' (first | (rw [if_neg (by omega)]) | rfl)
  · simp only [h1, Bool.false_eq_true, false_and, if_false, Bool.false_and]
    repeat' (first | (rw [if_neg (by omega)]) | rfl)
theorem mem_store_in {s : St} (a sz : Nat) (v : Int) (h1 : alignedB (2147483648 + (a : Int)) sz = true) (h2 : a + sz ≤ s.ram.length) : s.store (2147483648 + (a : Int)) sz v = (true, { s with ram := lay s.ram a (leOf v sz) }) := by
  have hr := reach_mem s.ram.length a sz
  rw [if_pos ⟨h1, by omega⟩] at hr
  unfold St.store
  simp only [hr, if_true, show (2147483648 + (a : Int) - 2147483648).toNat = a by omega, Int.toNat_natCast]
theorem mem_store_out {s : St} (a : Nat) (size v : Int) (h : ¬ (alignedB (2147483648 + (a : Int)) size = true ∧ (a : Int) + size ≤ s.ram.length)) : s.store (2147483648 + (a : Int)) size v = (false, s) := by
  have hr := reach_mem s.ram.length a size
  rw [if_neg h] at hr
  unfold St.store
  simp [hr]
theorem mem_load_in {s : St} (a sz : Nat) (h1 : alignedB (2147483648 + (a : Int)) sz = true) (h2 : a + sz ≤ s.ram.length) : s.load (2147483648 + (a : Int)) sz = ((leVal ((s.ram.drop a).take sz), true), s) := by
  have hr := reach_mem s.ram.length a sz
  rw [if_pos ⟨h1, by omega⟩] at hr
  unfold St.load
  simp only [hr, if_true, show (2147483648 + (a : Int) - 2147483648).toNat = a by omega, Int.toNat_natCast]
theorem mem_load_out {s : St} (a : Nat) (size : Int) (h : ¬ (alignedB (2147483648 + (a : Int)) size = true ∧ (a : Int) + size ≤ s.ram.length)) : s.load (2147483648 + (a : Int)) size = ((0, false), s) := by
  have hr := reach_mem s.ram.length a size
  rw [if_neg h] at hr
  unfold St.load
  simp [hr]
theorem mem_poke {s : St} (a : Nat) (p : List Int) (hp : p ≠ []) : s.poke (2147483648 + (a : Int)) p = if a + p.length ≤ s.ram.length then (0, { s with ram := lay s.ram a p }) else (30, s) := by
  have hl : 1 ≤ p.length := by cases p with | nil => exact absurd rfl hp | cons x r => simp
  unfold St.poke
  rw [if_neg hp]
  have e : inRam s.ram.length (2147483648 + (a : Int)) p.length = decide (a + p.length ≤ s.ram.length) := by
    unfold inRam
    rw [Bool.eq_iff_iff]; simp only [Bool.and_eq_true, decide_eq_true_eq]; omega
  rw [e, show (2147483648 + (a : Int) - 2147483648).toNat = a by omega]
  by_cases h : a + p.length ≤ s.ram.length <;> simp [h]
theorem leVal_snoc : ∀ (p : List Int) (x : Int), leVal (p ++ [x]) = leVal p + x * 256 ^ p.length
  | [], x => by simp [leVal]
  | b :: r, x => by
    rw [List.cons_append, leVal, leVal_snoc r x, leVal, List.length_cons, Int.pow_succ, Int.mul_add, ← Int.add_assoc]
    congr 1
    rw [Int.mul_left_comm, Int.mul_comm (256 ^ r.length) 256]
end Go.Proofs.Ytkocfcgdjjdnhaa.BW
