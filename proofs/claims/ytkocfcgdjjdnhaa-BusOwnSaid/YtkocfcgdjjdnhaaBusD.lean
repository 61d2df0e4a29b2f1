/- The devices of the program's bus: the finisher's store, RAM's load and store. No condition. -/
import Derived.Test.YtkocfcgdjjdnhaaBusC
import Derived.RegionTactic
import Derived.Deep.Light
import Derived.Lib.Hide
namespace Go.Proofs.Ytkocfcgdjjdnhaa.BW
open Go.RowKit
set_option linter.unusedVariables false
set_option linter.unusedSimpArgs false
def finPost (w : World) (b : Nat) (off code v : Int) (w' : World) : Prop :=
  if off = 0 then (if v % 65536 = 21845 then w' = w.setCell ⟨b, 1, none⟩ (.int .i64 1) else if v % 65536 = 13107 then w' = (w.setCell ⟨b, 1, none⟩ (.int .i64 2)).setCell ⟨b, 2, none⟩ (.int .i64 (v / 65536 % 65536)) else w' = w) else w' = w
set_option maxHeartbeats 4000000 in
set_option maxRecDepth 100000 in
theorem fin_store_any (w : World) (b : Nat) (off code addr size v : Int) (v0 : 0 ≤ v) (v1 : v ≤ 18446744073709551615) (c1 : w.cell? ⟨b, 1, none⟩ = some (.int .i64 off)) (c2 : w.cell? ⟨b, 2, none⟩ = some (.int .i64 code)) (z1 : w.frozen? ⟨b, 1, none⟩ = false) (z2 : w.frozen? ⟨b, 2, none⟩ = false) :
    Calls Try.prog 119 #[.pointer (some ⟨b, 1, none⟩), .int .u64 addr, .int .i64 size, .int .u64 v] w fun e w' => e = .returned (.tuple #[]) ∧ finPost w b off code v w' := by
  by_cases h0 : off = 0
  · subst h0
    have e1 : bits .and .u64 v 65535 = v % 65536 := u64_andffff v v0 v1
    have e2 : bits .and .u64 (v / 65536) 65535 = v / 65536 % 65536 := u64_andffff _ (by omega) (by omega)
    by_cases h1 : v % 65536 = 21845
    · have b1 : (v % 65536 == 21845) = true := by simpa using h1
      have hp : finPost w b 0 code v (w.setCell ⟨b, 1, none⟩ (.int .i64 1)) := by unfold finPost; rw [if_pos rfl, if_pos h1]
      have HP := Lib.hid hp; clear hp h1
      go_enter Try.func119, Try.ntmps119
      go_wp2
      first | go_end0 | go_ret
      exact ⟨rfl, HP.out⟩
    · have b1 : (v % 65536 == 21845) = false := by simpa using h1
      by_cases h2 : v % 65536 = 13107
      · have b2 : (v % 65536 == 13107) = true := by simpa using h2
        have q0 : 0 ≤ v / 65536 % 65536 := by omega
        have q1 : v / 65536 % 65536 ≤ 65535 := by omega
        have hp : finPost w b 0 code v ((w.setCell ⟨b, 1, none⟩ (.int .i64 2)).setCell ⟨b, 2, none⟩ (.int .i64 (v / 65536 % 65536))) := by unfold finPost; rw [if_pos rfl, if_neg h1, if_pos h2]
        have HP := Lib.hid hp; clear hp h1 h2
        go_enter Try.func119, Try.ntmps119
        go_wp2
        first | go_end0 | go_ret
        exact ⟨rfl, HP.out⟩
      · have b2 : (v % 65536 == 13107) = false := by simpa using h2
        have hp : finPost w b 0 code v w := by unfold finPost; rw [if_pos rfl, if_neg h1, if_neg h2]
        have HP := Lib.hid hp; clear hp h1 h2
        go_enter Try.func119, Try.ntmps119
        go_wp2
        first | go_end0 | go_ret
        exact ⟨rfl, HP.out⟩
  · have b0 : (off != 0) = true := by simpa using h0
    have hp : finPost w b off code v w := by unfold finPost; rw [if_neg h0]
    have HP := Lib.hid hp; clear hp h0
    go_enter Try.func119, Try.ntmps119
    go_wp2
    exact bodyPost_ret (results_none rfl _ _ _) rfl ⟨rfl, HP.out⟩
theorem leVal_bd : ∀ (p : List Int), Byts p → 0 ≤ leVal p ∧ leVal p < 256 ^ p.length
  | [], _ => by simp [leVal]
  | b :: r, h => by
    have h1 := leVal_bd r fun n hn => h n (List.mem_cons_of_mem _ hn)
    have h2 := h b (List.mem_cons_self ..)
    rw [leVal, List.length_cons, Int.pow_succ]; omega
theorem leVal_small (p : List Int) (h : Byts p) (n : Nat) (hn : n ≤ 7) (hl : p.length = n) : 0 ≤ leVal p ∧ leVal p < 72057594037927936 := by
  have h1 := leVal_bd p h
  have h2 : ∀ n : Nat, n < 8 → (256 : Int) ^ n ≤ 72057594037927936 := by decide
  exact ⟨h1.1, Int.lt_of_lt_of_le h1.2 (h2 _ (by omega))⟩
theorem leVal_drop (p : List Int) (j : Nat) (x : Int) (h : p[j]? = some x) : leVal (p.drop j) = x + 256 * leVal (p.drop (j + 1)) := by
  rw [List.drop_eq_getElem_cons (List.getElem?_eq_some_iff.mp h).1, leVal, (List.getElem?_eq_some_iff.mp h).2]
set_option maxHeartbeats 4000000 in
set_option maxRecDepth 100000 in
theorem ram_load_any (w : World) (b g n cap a sz : Nat) (p : List Int) (hp : Byts p) (hl : p.length = sz) (hs : sz ≤ 8) (hn : n ≤ 65536) (ha : a + sz ≤ n) (c0 : w.cell? ⟨b, 0, none⟩ = some (.slice (some ⟨g, 0, none⟩) n cap))
    (hc : ∀ i x, p[i]? = some x → w.cell? ⟨g, a + i, none⟩ = some (.int .u8 x)) :
    Calls Try.prog 115 #[.pointer (some ⟨b, 0, none⟩), .int .u64 (2147483648 + (a : Int)), .int .i64 sz] w fun e w' => e = .returned (.int .u64 (leVal p)) ∧ w' = w := by
  have HC := Lib.hid hc; clear hc
  have HL := Lib.hid hl; clear hl
  go_enter Try.func115, Try.ntmps115
  go_wp2
  go_loop [7, 8] (fun v i => ∃ k : Nat, k ≤ sz ∧ i = .int .i64 ((k : Int) - 1) ∧ v = .int .u64 (leVal (p.drop k))) (fun _ i => (intOf i + 1).toNat)
  case atStart => exact ⟨sz, Nat.le_refl _, rfl, by rw [← HL.out, List.drop_length]; rfl⟩
  case round =>
    obtain ⟨k, hk, rfl, rfl⟩ := hrel
    by_cases hlt : 0 < k
    · obtain ⟨j, rfl⟩ : ∃ j, k = j + 1 := ⟨k - 1, by omega⟩
      obtain ⟨x, hx⟩ : ∃ x, p[j]? = some x := ⟨_, List.getElem?_eq_getElem (show j < p.length by rw [HL.out]; omega)⟩
      have hcell := HC.out j x hx
      have hb := hp x (List.mem_of_getElem? hx)
      have x0 := hb.1
      have x1 := hb.2
      have hv := leVal_small (p.drop (j + 1)) (fun n hn => hp n (List.mem_of_mem_drop hn)) (sz - (j + 1)) (by omega) (by rw [List.length_drop, HL.out])
      have v0 := hv.1
      have v1 := hv.2
      have HD := Lib.hid (leVal_drop p j x hx)
      clear hb hv hx
      go_wp2
      go_round
      case rel => go_light; exact ⟨j, by omega, rfl, by rw [u64_or8 _ _ (by omega) (by omega) (by omega) x0 (by omega), HD.out, Int.mul_comm, Int.add_comm]⟩
      case measure => simp [intOf]
    · obtain rfl : k = 0 := by omega
      go_wp2
      go_ret
      exact ⟨rfl, rfl⟩
theorem leOf_length (v : Int) : ∀ n, (leOf v n).length = n := by
  intro n; induction n generalizing v with
  | zero => rfl
  | succ n ih => rw [leOf, List.length_cons, ih]
theorem leOf_snoc (v : Int) (n : Nat) : leOf v (n + 1) = leOf v n ++ [v / 256 ^ n % 256] := by
  induction n generalizing v with
  | zero => simp [leOf]
  | succ n ih =>
    rw [leOf, ih (v / 256), leOf, List.cons_append, Int.pow_succ, Int.ediv_ediv_of_nonneg (by decide), Int.mul_comm 256]
theorem lay_length (l : List Int) (a : Nat) (p : List Int) (h : a + p.length ≤ l.length) : (lay l a p).length = l.length := by
  unfold lay; simp; omega
theorem lay_nil (l : List Int) (a : Nat) : lay l a [] = l := by simp [lay]
theorem lay_snoc (l : List Int) (a : Nat) (p : List Int) (x : Int) (h : a + p.length < l.length) : (lay l a p).set (a + p.length) x = lay l a (p ++ [x]) := by
  unfold lay
  rw [List.set_append_right _ _ (by simp; omega)]
  have e : a + p.length - (List.take a l ++ p).length = 0 := by simp; omega
  rw [e, List.drop_eq_getElem_cons (by omega : a + p.length < l.length), List.set_cons_zero]
  simp [Nat.add_assoc]
set_option maxHeartbeats 4000000 in
set_option maxRecDepth 100000 in
theorem ram_store_any (w : World) (b g cap a sz : Nat) (vr : Value) (l : List Int) (v addr : Int) (v0 : 0 ≤ v) (v1 : v ≤ 18446744073709551615) (hs : sz ≤ 8) (hn : l.length ≤ 65536) (ha : a + sz ≤ l.length) (hgb : g ≠ b)
    (hv : vr = .slice (some ⟨g, 0, none⟩) l.length cap) (hbs : Bs w vr l) (c0 : w.cell? ⟨b, 0, none⟩ = some vr) (z0 : l.length ≤ cap) (z1 : cap ≤ maxLen) :
    Calls Try.prog 116 #[.pointer (some ⟨b, 0, none⟩), .int .u64 (2147483648 + (a : Int)), .int .i64 sz, .int .u64 v] w fun e w' => e = .returned (.tuple #[]) ∧ Bs w' vr (lay l a (leOf v sz)) ∧ Kept [g] w w' := by
  have hlt : b < w.heap.size := World.block_lt_of_cell? w _ c0
  have HV := Lib.hid hv; have HB := Lib.hid hbs; have HC := Lib.hid c0
  rw [hv] at c0; clear hv hbs
  go_enter Try.func116, Try.ntmps116
  go_wp2
  go_loopw [10] (fun i wr => ∃ k : Nat, k ≤ sz ∧ i = .int .i64 k ∧ Hid (Bs wr vr (lay l a (leOf v k))) ∧ Hid (Kept [g] w wr)) (fun i _ => sz - (intOf i).toNat)
  case atStart => exact ⟨0, Nat.zero_le _, rfl, by show Bs _ _ _; rw [leOf, lay_nil]; exact HB.out, Kept.refl _ _⟩
  case round =>
    obtain ⟨k, hk, rfl, hb, hkp⟩ := hrel
    by_cases hlt2 : k < sz
    · have d0 : wr.cell? ⟨b, 0, none⟩ = some (.slice (some ⟨g, 0, none⟩) l.length cap) := (hkp.out.cell (p := ⟨b, 0, none⟩) hlt (by simpa using hgb.symm)).trans c0
      have hll : (lay l a (leOf v k)).length = l.length := lay_length _ _ _ (by rw [leOf_length]; omega)
      obtain ⟨x, hx⟩ : ∃ x, (lay l a (leOf v k))[a + k]? = some x := ⟨_, List.getElem?_eq_getElem (by rw [hll]; omega)⟩
      have d1 : wr.cell? ⟨g, a + k, none⟩ = some (.int .u8 x) := hb.out.cell HV.out (a + k) x hx
      have d2 : wr.frozen? ⟨g, a + k, none⟩ = false := hb.out.frozen HV.out (a + k)
      have HLL := Lib.hid hll; clear hll hx
      go_wp2
      go_region
      go_wp2
      go_roundw
      case rel =>
        go_light
        refine ⟨k + 1, by omega, by go_num, ?_, ?_⟩
        · have h1 := hb.out.set HV.out (a + k) (v / 2 ^ (8 * k) % 256) (by rw [HLL.out]; omega)
          have h2 := lay_snoc l a (leOf v k) (v / 2 ^ (8 * k) % 256) (by rw [leOf_length]; omega)
          rw [leOf_length, show (2 : Int) ^ (8 * k) = 256 ^ k from by rw [Int.pow_mul]; rfl, ← leOf_snoc] at h2
          show Bs (wr.setCell _ _) _ _
          rw [← h2, show (256 : Int) ^ k = 2 ^ (8 * k) from by rw [Int.pow_mul]; rfl]
          exact h1
        · exact ((hkp.out.setCell (fun _ => by simp) _).drew)
      case measure => simp [intOf]; omega
    · obtain rfl : k = sz := by omega
      go_wp2
      go_end0
      exact ⟨rfl, hb.out, hkp.out⟩
end Go.Proofs.Ytkocfcgdjjdnhaa.BW
