/- Take and Put, the program's and the document's, and the statement's own words same, lent, kept. No condition but that what comes in can be read. -/
import Derived.Test.YtdjppkffmeccoaaAmem
namespace Go.Proofs.Ytdjppkffmeccoaa.BW
open Go.RowKit
set_option linter.unusedVariables false
set_option linter.unusedSimpArgs false
theorem rdw_cells {w : World} {v : Value} {l : List Int} (h : RdW w v l) : ∃ A c, v = .slice A l.length c ∧ ∀ i x, l[i]? = some x → ∃ g o, A = some ⟨g, o, none⟩ ∧ w.cell? ⟨g, o + i, none⟩ = some (.int .u8 x) := by
  rcases h with (⟨rfl, rfl⟩ | ⟨c, g, o, rfl, hc⟩) | ⟨rfl, A, c, rfl⟩
  · exact ⟨_, _, rfl, by simp⟩
  · exact ⟨_, _, rfl, fun i x hx => ⟨g, o, rfl, hc i x hx⟩⟩
  · exact ⟨_, _, rfl, by simp⟩
section
variable {w : World}
theorem same_any (w : World) (a b : Value) (l : List Int) (ha : RdW w a l) (hb : RdW w b l) : Calls Try.prog 14 #[a, b] w fun e w' => e = .returned (.bool true) ∧ w = w' := by
  have q1 := run_strw w a l ha
  have q2 := run_strw w b l hb
  obtain ⟨A, c, rfl⟩ := ha.shape
  obtain ⟨B, d, rfl⟩ := hb.shape
  clear ha hb
  go_enter Try.func14, Try.ntmps14
  go_wp2
  go_ret
  exact ⟨ret_bool (by simp), rfl⟩
set_option maxHeartbeats 4000000 in
set_option maxRecDepth 100000 in
theorem take_any (w : World) (v : Value) (l : List Int) (h : RdW w v l) (hb : Byts l) (hl : l.length ≤ 140737488355328) : Calls Try.prog 9 #[v] w fun e w' => e = .returned (.int .u64 (takeV l)) ∧ w = w' := by
  obtain ⟨A, c, rfl, hc⟩ := rdw_cells h
  have HC := Lib.hid hc
  have HB := Lib.hid hb
  by_cases h8 : l.length ≤ 8
  · have h8i : (l.length : Int) ≤ 8 := by omega
    have h8j : min (l.length : Int) 8 = (l.length : Int) := by omega
    have h8k : ¬ (8 : Int) < (l.length : Int) := by omega
    obtain ⟨n, hn⟩ : ∃ n : Nat, l.length = n := ⟨_, rfl⟩
    have HT := Lib.hid (show leVal (l.take n) = takeV l by unfold takeV; rw [List.take_of_length_le (by omega), List.take_of_length_le h8])
    have HN := Lib.hid (show n ≤ l.length by omega)
    have hn8 : n ≤ 8 := by omega
    rw [hn] at h8i h8j h8k hl ⊢
    clear h hc hb hn h8
    go_enter Try.func9, Try.ntmps9
    go_wp2
    go_loopw [3, 8] (fun x i wr => ∃ k : Nat, k ≤ n ∧ x = .int .u64 (leVal (l.take k)) ∧ i = .int .i64 k ∧ wr = w) (fun _ i _ => n - (intOf i).toNat)
    case atStart => exact ⟨0, Nat.zero_le _, rfl, rfl, rfl⟩
    case round =>
      obtain ⟨k, hk, rfl, rfl, rfl⟩ := hrel
      by_cases hlt : k < n
      · obtain ⟨y, hy⟩ : ∃ y, l[k]? = some y := ⟨_, List.getElem?_eq_getElem (by have := HN.out; omega)⟩
        obtain ⟨g, o, rfl, d1⟩ := HC.out k y hy
        have y0 := (HB.out y (List.mem_of_getElem? hy)).1
        have y1 := (HB.out y (List.mem_of_getElem? hy)).2
        have HST := Lib.hid (load_step l 0 k y HB.out (by simpa using hy) (by omega) y0 y1)
        have hkl : k < n := by have := HN.out; omega
        clear hy
        go_wp2
        go_roundw
        case rel =>
          go_light
          refine ⟨k + 1, by omega, ?_, by go_num, by first | trivial | rfl⟩
          exact congrArg (Value.int .u64) HST.out
        case measure => simp [intOf]; omega
      · obtain rfl : k = n := by omega
        go_wp2
        go_ret
        exact ⟨by rw [HT.out]; rfl, rfl⟩
  · have h8i : ¬ (l.length : Int) ≤ 8 := by omega
    have h8j : min (l.length : Int) 8 = 8 := by omega
    have h8k : (8 : Int) < (l.length : Int) := by omega
    have HT := Lib.hid (show leVal (l.take 8) = takeV l from rfl)
    have HN := Lib.hid (show 8 ≤ l.length by omega)
    clear h hc hb h8
    go_enter Try.func9, Try.ntmps9
    go_wp2
    go_loopw [3, 8] (fun x i wr => ∃ k : Nat, k ≤ 8 ∧ x = .int .u64 (leVal (l.take k)) ∧ i = .int .i64 k ∧ wr = w) (fun _ i _ => 8 - (intOf i).toNat)
    case atStart => exact ⟨0, Nat.zero_le _, rfl, rfl, rfl⟩
    case round =>
      obtain ⟨k, hk, rfl, rfl, rfl⟩ := hrel
      by_cases hlt : k < 8
      · obtain ⟨y, hy⟩ : ∃ y, l[k]? = some y := ⟨_, List.getElem?_eq_getElem (by have := HN.out; omega)⟩
        obtain ⟨g, o, rfl, d1⟩ := HC.out k y hy
        have y0 := (HB.out y (List.mem_of_getElem? hy)).1
        have y1 := (HB.out y (List.mem_of_getElem? hy)).2
        have HST := Lib.hid (load_step l 0 k y HB.out (by simpa using hy) (by omega) y0 y1)
        have hkl : k < l.length := by have := HN.out; omega
        clear hy
        go_wp2
        go_roundw
        case rel =>
          go_light
          refine ⟨k + 1, by omega, ?_, by go_num, by first | trivial | rfl⟩
          exact congrArg (Value.int .u64) HST.out
        case measure => simp [intOf]; omega
      · obtain rfl : k = 8 := by omega
        go_wp2
        go_ret
        exact ⟨by rw [HT.out]; rfl, rfl⟩
set_option maxHeartbeats 4000000 in
set_option maxRecDepth 100000 in
theorem rtake_any (w : World) (v : Value) (l : List Int) (h : RdW w v l) (hb : Byts l) (hl : l.length ≤ 140737488355328) : Calls Try.prog 10 #[v] w fun e w' => e = .returned (.int .u64 (takeV l)) ∧ w = w' := by
  obtain ⟨A, c, rfl, hc⟩ := rdw_cells h
  have HC := Lib.hid hc
  have HB := Lib.hid hb
  obtain ⟨n, hn⟩ : ∃ n : Nat, min l.length 8 = n := ⟨_, rfl⟩
  have hn8 : n ≤ 8 := by omega
  have HN := Lib.hid (show n ≤ l.length by omega)
  have HT := Lib.hid (show leVal (l.take n) = takeV l by
    unfold takeV
    by_cases h8 : l.length ≤ 8
    · rw [List.take_of_length_le (by omega), List.take_of_length_le h8]
    · rw [show n = 8 by omega])
  have HE := Lib.hid (show ∀ k : Nat, ¬ k < n → k ≤ n → (k < l.length → k = 8) by intro k h1 h2 h3; omega)
  clear h hc hb hn
  go_enter Try.func10, Try.ntmps10
  go_wp2
  go_loopw [3, 4] (fun x i wr => ∃ k : Nat, k ≤ n ∧ x = .int .u64 (leVal (l.take k)) ∧ i = .int .i64 k ∧ wr = w) (fun _ i _ => n - (intOf i).toNat)
  case atStart => exact ⟨0, Nat.zero_le _, rfl, rfl, rfl⟩
  case round =>
    obtain ⟨k, hk, rfl, rfl, rfl⟩ := hrel
    by_cases hlt : k < n
    · obtain ⟨y, hy⟩ : ∃ y, l[k]? = some y := ⟨_, List.getElem?_eq_getElem (by have := HN.out; omega)⟩
      obtain ⟨g, o, rfl, d1⟩ := HC.out k y hy
      have y0 := (HB.out y (List.mem_of_getElem? hy)).1
      have y1 := (HB.out y (List.mem_of_getElem? hy)).2
      have hkl : k < l.length := by have := HN.out; omega
      have e1 : decide ((k : Int) < (l.length : Int)) = true := decide_eq_true (by omega)
      have e2 : decide ((k : Int) < 8) = true := decide_eq_true (by omega)
      have HST := Lib.hid (show leVal (l.take (k + 1)) = leVal (l.take k) + y * 256 ^ k by
        rw [← take_snoc l k y hy, leVal_snoc]
        congr 2
        congr 1
        rw [List.length_take]; omega)
      have h3 := leVal_bd (l.take (k + 1)) (fun n hn => HB.out n (List.mem_of_mem_take hn))
      have h4 := leVal_bd (l.take k) (fun n hn => HB.out n (List.mem_of_mem_take hn))
      have h5 : ∀ n : Nat, n < 9 → (256 : Int) ^ n ≤ 18446744073709551616 := by decide
      have h6 := h5 (l.take (k + 1)).length (by rw [List.length_take]; omega)
      have HW := Lib.hid (show 0 ≤ leVal (l.take k) + y * 256 ^ k ∧ leVal (l.take k) + y * 256 ^ k < 18446744073709551616 ∧ 0 ≤ leVal (l.take k) by rw [← HST.out]; omega)
      have HP := Lib.hid (show ∀ m : Nat, m ≤ k → 0 ≤ y * 256 ^ m ∧ y * 256 ^ m < 18446744073709551616 from fun m hm => by
        have hq : ∀ j : Nat, j < 8 → (0 : Int) < 256 ^ j ∧ 255 * 256 ^ j < (18446744073709551616 : Int) := by decide
        obtain ⟨q0, q1⟩ := hq m (by omega)
        have q2 : y * 256 ^ m ≤ 255 * 256 ^ m := Int.mul_le_mul_of_nonneg_right y1 (Int.le_of_lt q0)
        exact ⟨Int.mul_nonneg y0 (Int.le_of_lt q0), by omega⟩)
      clear hy h3 h4 h5 h6
      go_wp2
      obtain ⟨wo, rfl⟩ : ∃ wo : World, wo = wr := ⟨_, rfl⟩
      go_loopw [5, 6] (fun x i wq => ∃ m : Nat, m ≤ k ∧ x = .int .u64 (y * 256 ^ m) ∧ i = .int .i64 m ∧ wq = wo) (fun _ i _ => k - (intOf i).toNat)
      case atStart => exact ⟨0, Nat.zero_le _, by simp, rfl, rfl⟩
      case round =>
        obtain ⟨m, hm, rfl, rfl, rfl⟩ := hrel
        by_cases hlt2 : m < k
        · have p1 := (HP.out (m + 1) (by omega)).1
          have p2 := (HP.out (m + 1) (by omega)).2
          have HS := Lib.hid (show y * 256 ^ m * 256 = y * 256 ^ (m + 1) by rw [Int.pow_succ, Int.mul_assoc])
          have hz : (y * 256 ^ m * 256) % 18446744073709551616 = y * 256 ^ m * 256 := Int.emod_eq_of_lt (by rw [HS.out]; exact p1) (by rw [HS.out]; exact p2)
          clear p1 p2
          go_wp2
          go_roundw
          case rel => go_light; exact ⟨m + 1, by omega, by rw [HS.out], by go_num, by first | trivial | rfl⟩
          case measure => simp [intOf]; omega
        · obtain rfl : m = k := by omega
          have hz : (leVal (l.take m) + y * 256 ^ m) % 18446744073709551616 = leVal (l.take m) + y * 256 ^ m := Int.emod_eq_of_lt HW.out.1 HW.out.2.1
          go_wp2
          go_roundw
          case rel => go_light; exact ⟨m + 1, by omega, by rw [HST.out], by go_num, by first | trivial | rfl⟩
          case measure => simp [intOf]; omega
    · obtain rfl : k = n := by omega
      by_cases hkl : k < l.length
      · have h8 : k = 8 := HE.out k hlt (Nat.le_refl _) hkl
        have e1 : decide ((k : Int) < (l.length : Int)) = true := decide_eq_true (by omega)
        have e2 : decide ((k : Int) < 8) = false := decide_eq_false (by omega)
        clear h8
        go_wp2
        go_ret
        exact ⟨by rw [HT.out]; rfl, rfl⟩
      · have e1 : decide ((k : Int) < (l.length : Int)) = false := decide_eq_false (by omega)
        go_wp2
        go_ret
        exact ⟨by rw [HT.out]; rfl, rfl⟩
/-- Bytes made by a call, in a block of their own. -/
def MadeBs (w : World) (l : List Int) (e : Ending) (w' : World) : Prop := ∃ A c, e = .returned (.slice A l.length c) ∧ Bs w' (.slice A l.length c) l ∧ (∀ g, (Value.slice A l.length c).ownBlock = some g → w.heap.size ≤ g) ∧ Kept [] w w'
end
end Go.Proofs.Ytdjppkffmeccoaa.BW
