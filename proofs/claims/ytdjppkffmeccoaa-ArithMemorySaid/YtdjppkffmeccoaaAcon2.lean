/- Put, the program's and the document's; lent, kept. No condition but that what comes in can be read. -/
import Derived.Test.YtdjppkffmeccoaaAcon
namespace Go.Proofs.Ytdjppkffmeccoaa.BW
open Go.RowKit
set_option linter.unusedVariables false
set_option linter.unusedSimpArgs false
theorem one_atA {W : World} {g0 : Nat} {T : TypeId} {u : Value} (h : W.heap.size = g0) : (W.alloc (.cells #[u] T)).cell? ⟨g0, 0, none⟩ = some u := by subst h; exact row_cell (heap_alloc_new _ _) 0 _ rfl
theorem rd_one {W : World} {g0 c : Nat} {y : Int} (h : W.cell? ⟨g0, 0, none⟩ = some (.int .u8 y)) : Rd W (.slice (some ⟨g0, 0, none⟩) 1 c) [y] := .inr ⟨c, g0, 0, rfl, fun i x hx => by
  cases i with
  | zero => simp at hx; subst hx; exact h
  | succ i => simp at hx⟩
/-- A slice of bytes of one's own, made since w. -/
def Mk (w wr : World) (f : Value) (l : List Int) : Prop := Bs wr f l ∧ (∀ g, f.ownBlock = some g → w.heap.size ≤ g) ∧ Kept [] w wr
theorem Mk.grew {w wr w' : World} {f f' : Value} {l m : List Int} (h : Mk w wr f l) (hg : Grew wr w' f f' m) : Mk w w' f' m :=
  ⟨hg.bs, fun g hg' => (hg.blk g hg').elim (h.2.1 g) (fun h1 => Nat.le_trans h.2.2.size h1), h.2.2.trans hg.kept (fun x hx hl => by have := h.2.1 x (by simpa using hx); omega)⟩
theorem Mk.keep {w wr w' : World} {f : Value} {l : List Int} (h : Mk w wr f l) (hk : Kept [] wr w') : Mk w w' f l := ⟨h.1.keep hk (by simp), h.2.1, h.2.2.trans hk (by simp)⟩
theorem Mk.set {w wr : World} {g c n : Nat} {l : List Int} (h : Mk w wr (.slice (some ⟨g, 0, none⟩) n c) l) (i : Nat) (x : Int) (hi : i < l.length) : Mk w (wr.setCell ⟨g, i, none⟩ (.int .u8 x)) (.slice (some ⟨g, 0, none⟩) n c) (l.set i x) :=
  ⟨h.1.set rfl i x hi, h.2.1, h.2.2.setCell (fun hl => by have := h.2.1 g rfl; simp at hl; omega) _⟩
theorem Mk.made {w wr : World} {f : Value} {l : List Int} (h : Mk w wr f l) : MadeBs w l (.returned f) wr := by
  obtain ⟨A, c, rfl⟩ := h.1.shape
  exact ⟨A, c, rfl, h.1, h.2.1, h.2.2⟩
theorem info5E : (Try.prog.info? 5).map (fun i => (i.zero, i.size, i.bytes)) = some (some (.int .u8 0), 1, 1) := info5
/-- What Put has made when k bytes are written. -/
def putK (v : Int) (n k : Nat) : List Int := leOf v k ++ List.replicate (n - k) 0
theorem putK_len (v : Int) (n k : Nat) (h : k ≤ n) : (putK v n k).length = n := by simp [putK, leOf_length]; omega
theorem putK_set (v : Int) (n k : Nat) (h : k < n) : (putK v n k).set k (v / 256 ^ k % 256) = putK v n (k + 1) := by
  unfold putK
  rw [leOf_snoc, List.set_append, if_neg (by rw [leOf_length]; omega), leOf_length, Nat.sub_self, show n - k = (n - (k + 1)) + 1 by omega, List.replicate_succ, List.set_cons_zero, List.append_assoc]; rfl
theorem putK_zero (v : Int) (n : Nat) : putK v n 0 = List.replicate n 0 := by simp [putK, leOf]
theorem putK_all (v : Int) (n : Nat) : putK v n n = leOf v n := by simp [putK]
theorem leOf_byte (v : Int) : ∀ (n k : Nat), k < n → (leOf v n)[k]? = some (v / 256 ^ k % 256) := by
  intro n k h
  induction n with
  | zero => omega
  | succ n ih =>
    rw [leOf_snoc]
    by_cases hk : k < n
    · rw [List.getElem?_append_left (by rw [leOf_length]; exact hk)]; exact ih hk
    · rw [List.getElem?_append_right (by rw [leOf_length]; omega), leOf_length, show k - n = 0 by omega, show k = n by omega]; rfl
set_option maxHeartbeats 4000000 in
set_option maxRecDepth 100000 in
theorem put_n (w : World) (v size : Int) (n : Nat) (v0 : 0 ≤ v) (v1 : v ≤ 18446744073709551615) (hn : n ≤ 8) (hs : (size ≤ 0 ∧ n = 0) ∨ (0 < n ∧ size = n) ∨ (8 < size ∧ n = 8)) (z0 : -9223372036854775808 ≤ size) (z1 : size ≤ 9223372036854775807) :
    Calls Try.prog 12 #[.int .u64 v, .int .i64 size] w (MadeBs w (leOf v n)) := by
  have hmk := run_make_row' (P := Try.prog) 22 5 (.int .u8 0) 1 Try.underlying22 info5 rfl .i64 .i64 n (by omega) (by omega)
  have HM0 := Lib.hid (show Mk w (w.alloc (.cells (madeCells #[.int .u8 0] n) 5)) (.slice (some ⟨w.heap.size, 0, none⟩) n n) (putK v n 0) from by
    rw [putK_zero]; exact ⟨Bs.made (by unfold maxLen; omega), fun g hg => by simp [Value.ownBlock] at hg; omega, (Kept.refl [] w).alloc _⟩)
  have hmm : max 0 (min size 8) = (n : Int) := by omega
  have HMK := Lib.hid hmk
  rcases hs with ⟨h1, rfl⟩ | ⟨h0, rfl⟩ | ⟨h1, rfl⟩
  · have e1 : min size 8 = size := by omega
    have hmk2 : ∀ w : World, (Instr.makeSlice 22 (.int .i64 0) (.int .i64 0)).run Try.prog w = .ok (.slice (some ⟨w.heap.size, 0, none⟩) 0 0) (w.alloc (.cells (madeCells #[.int .u8 0] 0) 5)) := hmk
    clear hmk
    have e2 : size ≤ 8 := by omega
    have e3 : ¬ (0 : Int) < size := by omega
    clear hmm
    go_enter Try.func12, Try.ntmps12
    go_wp2
    generalize w.heap.size = g at *
    go_loopw [13] (fun i wr => ∃ k : Nat, k ≤ 0 ∧ i = .int .i64 k ∧ Hid (Mk w wr (.slice (some ⟨g, 0, none⟩) 0 0) (putK v 0 k))) (fun i _ => 0 - (intOf i).toNat)
    case atStart => exact ⟨0, Nat.zero_le _, rfl, HM0.out⟩
    case round =>
      obtain ⟨k, hk, rfl, hq⟩ := hrel
      have HQ := Lib.hid hq.out
      clear hq HM0
      by_cases hlt : k < 0
      · exact absurd hlt (by omega)
      · obtain rfl : k = 0 := by omega
        have HE := Lib.hid (show MadeBs w (leOf v 0) (.returned (.slice (some ⟨g, 0, none⟩) 0 0)) wr from by have h := HQ.out; rw [putK_all] at h; exact h.made)
        go_wp2
        go_ret
        exact HE.out
  · have e1 : min (n : Int) 8 = n := by omega
    have e2 : (n : Int) ≤ 8 := by omega
    have e3 : (0 : Int) < (n : Int) := by omega
    have e4 : max 0 (n : Int) = n := by omega
    clear hmm
    go_enter Try.func12, Try.ntmps12
    go_wp2
    generalize w.heap.size = g at *
    go_loopw [13] (fun i wr => ∃ k : Nat, k ≤ n ∧ i = .int .i64 k ∧ Hid (Mk w wr (.slice (some ⟨g, 0, none⟩) n n) (putK v n k))) (fun i _ => n - (intOf i).toNat)
    case atStart => exact ⟨0, Nat.zero_le _, rfl, HM0.out⟩
    case round =>
      obtain ⟨k, hk, rfl, hq⟩ := hrel
      have HQ := Lib.hid hq.out
      clear hq HM0
      by_cases hlt : k < n
      · obtain ⟨x, hx⟩ : ∃ x, (putK v n k)[k]? = some x := ⟨_, List.getElem?_eq_getElem (by rw [putK_len _ _ _ hk]; exact hlt)⟩
        have d1 : wr.cell? ⟨g, k, none⟩ = some (.int .u8 x) := HQ.out.1.cell rfl k x hx
        have d2 : wr.frozen? ⟨g, k, none⟩ = false := HQ.out.1.frozen rfl k
        have HS := Lib.hid (HQ.out.set k (v / 2 ^ (8 * k) % 256) (by rw [putK_len _ _ _ hk]; exact hlt))
        have HE := Lib.hid (show (putK v n k).set k (v / 2 ^ (8 * k) % 256) = putK v n (k + 1) by rw [show (2 : Int) ^ (8 * k) = 256 ^ k from by rw [Int.pow_mul]; rfl]; exact putK_set v n k hlt)
        clear hx
        go_wp2
        go_roundw
        case rel =>
          go_light
          refine ⟨k + 1, by omega, by go_num, ?_⟩
          have h := HS.out
          rw [HE.out] at h
          exact h
        case measure => simp [intOf]; omega
      · obtain rfl : k = n := by omega
        have HE := Lib.hid (show MadeBs w (leOf v k) (.returned (.slice (some ⟨g, 0, none⟩) k k)) wr from by have h := HQ.out; rw [putK_all] at h; exact h.made)
        go_wp2
        go_ret
        exact HE.out
  · have e1 : min size 8 = 8 := by omega
    have hmk2 : ∀ w : World, (Instr.makeSlice 22 (.int .i64 8) (.int .i64 8)).run Try.prog w = .ok (.slice (some ⟨w.heap.size, 0, none⟩) 8 8) (w.alloc (.cells (madeCells #[.int .u8 0] 8) 5)) := hmk
    clear hmk
    have e2 : ¬ size ≤ 8 := by omega
    clear hmm
    go_enter Try.func12, Try.ntmps12
    go_wp2
    generalize w.heap.size = g at *
    go_loopw [13] (fun i wr => ∃ k : Nat, k ≤ 8 ∧ i = .int .i64 k ∧ Hid (Mk w wr (.slice (some ⟨g, 0, none⟩) 8 8) (putK v 8 k))) (fun i _ => 8 - (intOf i).toNat)
    case atStart => exact ⟨0, Nat.zero_le _, rfl, HM0.out⟩
    case round =>
      obtain ⟨k, hk, rfl, hq⟩ := hrel
      have HQ := Lib.hid hq.out
      clear hq HM0
      by_cases hlt : k < 8
      · obtain ⟨x, hx⟩ : ∃ x, (putK v 8 k)[k]? = some x := ⟨_, List.getElem?_eq_getElem (by rw [putK_len _ _ _ hk]; exact hlt)⟩
        have d1 : wr.cell? ⟨g, k, none⟩ = some (.int .u8 x) := HQ.out.1.cell rfl k x hx
        have d2 : wr.frozen? ⟨g, k, none⟩ = false := HQ.out.1.frozen rfl k
        have HS := Lib.hid (HQ.out.set k (v / 2 ^ (8 * k) % 256) (by rw [putK_len _ _ _ hk]; exact hlt))
        have HE := Lib.hid (show (putK v 8 k).set k (v / 2 ^ (8 * k) % 256) = putK v 8 (k + 1) by rw [show (2 : Int) ^ (8 * k) = 256 ^ k from by rw [Int.pow_mul]; rfl]; exact putK_set v 8 k hlt)
        clear hx
        go_wp2
        go_roundw
        case rel =>
          go_light
          refine ⟨k + 1, by omega, by go_num, ?_⟩
          have h := HS.out
          rw [HE.out] at h
          exact h
        case measure => simp [intOf]; omega
      · obtain rfl : k = 8 := by omega
        have HE := Lib.hid (show MadeBs w (leOf v 8) (.returned (.slice (some ⟨g, 0, none⟩) 8 8)) wr from by have h := HQ.out; rw [putK_all] at h; exact h.made)
        go_wp2
        go_ret
        exact HE.out
theorem put_any (w : World) (v size : Int) (v0 : 0 ≤ v) (v1 : v ≤ 18446744073709551615) (z0 : -9223372036854775808 ≤ size) (z1 : size ≤ 9223372036854775807) :
    Calls Try.prog 12 #[.int .u64 v, .int .i64 size] w (MadeBs w (putL v size)) :=
  put_n w v size (putN size) v0 v1 (putN_le size) (by unfold putN; omega) z0 z1
/-- What is left of a number when k bytes are taken. -/
theorem div_pow_succ (v : Int) (k : Nat) : v / 256 ^ k / 256 = v / 256 ^ (k + 1) := by
  rw [Int.pow_succ]
  have h : (0 : Int) < 256 ^ k := Int.pow_pos (by decide)
  rw [Int.ediv_ediv, if_neg (by intro hn; omega), Int.sub_zero]
set_option maxHeartbeats 4000000 in
set_option maxRecDepth 100000 in
theorem rput_any (w : World) (v size : Int) (v0 : 0 ≤ v) (v1 : v ≤ 18446744073709551615) (z0 : -9223372036854775808 ≤ size) (z1 : size ≤ 9223372036854775807) :
    Calls Try.prog 13 #[.int .u64 v, .int .i64 size] w (MadeBs w (putL v size)) := by
  have HM0 := Lib.hid (show Mk w w (.slice none 0 0) (leOf v 0) from ⟨Bs.nil w, by simp [Value.ownBlock], Kept.refl _ _⟩)
  have HN := Lib.hid (show putN size ≤ 8 ∧ ((size ≤ 0 ∧ putN size = 0) ∨ (0 < size ∧ size ≤ 8 ∧ size = putN size) ∨ (8 < size ∧ putN size = 8)) by unfold putN; omega)
  have hfd : putL v size = leOf v (putN size) := rfl
  rw [hfd]
  clear hfd
  generalize putN size = n at *
  have hn8 := HN.out.1
  go_enter Try.func13, Try.ntmps13
  go_wp2
  go_loopw [0, 5, 6] (fun x q i wr => ∃ k : Nat, k ≤ n ∧ x = .int .u64 (v / 256 ^ k) ∧ i = .int .i64 k ∧ Hid (Mk w wr q (leOf v k))) (fun _ _ i _ => n - (intOf i).toNat)
  case atStart => exact ⟨0, Nat.zero_le _, by simp, rfl, HM0.out⟩
  case round =>
    obtain ⟨k, hk, rfl, rfl, hq⟩ := hrel
    have HQ := Lib.hid hq.out
    clear hq HM0
    have p0 : 0 ≤ v / 256 ^ k := Int.ediv_nonneg v0 (Int.le_of_lt (Int.pow_pos (by decide)))
    have p1 : v / 256 ^ k ≤ 18446744073709551615 := Int.le_trans (Int.ediv_le_self _ v0) v1
    by_cases hlt : k < n
    · have e1 : decide ((k : Int) < size) = true := decide_eq_true (by have := HN.out; omega)
      have e2 : decide ((k : Int) < 8) = true := decide_eq_true (by omega)
      have HDV := Lib.hid (div_pow_succ v k)
      have HSN := Lib.hid (leOf_snoc v k)
      obtain ⟨A5, c5, rfl⟩ := HQ.out.1.shape
      have hll : (leOf v k).length = k := leOf_length v k
      have HBS := Lib.hid (show Bs (wr.alloc (.cells #[.int .u8 (v / 256 ^ k % 256)] 5)) (.slice A5 k c5) (leOf v k) from by have h := (HQ.out.keep ((Kept.refl [] wr).alloc (.cells #[.int .u8 (v / 256 ^ k % 256)] 5))).1; rw [hll] at h; exact h)
      have HMK := Lib.hid (show Mk w (wr.alloc (.cells #[.int .u8 (v / 256 ^ k % 256)] 5)) (.slice A5 k c5) (leOf v k) from by have h := HQ.out.keep ((Kept.refl [] wr).alloc (.cells #[.int .u8 (v / 256 ^ k % 256)] 5)); rw [hll] at h; exact h)
      have HSC := Lib.hid (show Rd (wr.alloc (.cells #[.int .u8 (v / 256 ^ k % 256)] 5)) (.slice (some ⟨wr.heap.size, 0, none⟩) 1 1) [v / 256 ^ k % 256] from rd_one (one_atA rfl))
      have HLL := Lib.hid (show (leOf v k).length + [v / 256 ^ k % 256].length ≤ 140737488355328 by rw [hll]; simp; omega)
      rw [hll]
      clear hll
      go_wp2_with (first
        | (at_builtin; refine wpList_append_bs rfl _ _ rfl (.slice A5 k c5) (.slice (some ⟨wr.heap.size, 0, none⟩) 1 1) (leOf v k) [v / 256 ^ k % 256] rfl rfl HBS.out HSC.out HLL.out ?_; intro v' w' hg; have HG := Lib.hid (show Mk w w' v' (leOf v (k + 1)) from by rw [HSN.out]; exact HMK.out.grew hg); clear hg))
      go_roundw
      case rel => go_light; exact ⟨k + 1, by omega, by rw [HDV.out], by go_num, HG.out⟩
      case measure => simp [intOf]; omega
    · obtain rfl : k = n := by omega
      have HE := Lib.hid (HQ.out.made)
      by_cases h8 : size ≤ 8
      · have e1 : decide ((k : Int) < size) = false := decide_eq_false (by have := HN.out; omega)
        go_wp2
        go_ret
        exact HE.out
      · have e1 : decide ((k : Int) < size) = true := decide_eq_true (by have := HN.out; omega)
        have e2 : decide ((k : Int) < 8) = false := decide_eq_false (by have := HN.out; omega)
        go_wp2
        go_ret
        exact HE.out
theorem run_append_bsw (w : World) (ty : TypeId) (b cap : Nat) (x : Value) (l m : List Int) (hv : Bs w (.slice (some ⟨b, 0, none⟩) l.length cap) l) (hx : RdW w x m) (hl : l.length + m.length ≤ 140737488355328) :
    ∃ v' w', (Builtin.append_ #[22, 22] ty #[.slice (some ⟨b, 0, none⟩) l.length cap, x]).run Try.prog w = .ok v' w' ∧ Grew w w' (.slice (some ⟨b, 0, none⟩) l.length cap) v' (l ++ m) := by
  rcases hx with hx | ⟨rfl, A, c, rfl⟩
  · exact run_append_bs w ty _ x l m hv hx hl
  · obtain ⟨i0, hi, hz0, hz1, hz2⟩ := info_parts info5
    have hle : l.length ≤ cap := by
      rcases hv.at with ⟨e, _⟩ | ⟨g, cp, cur, e, hg, h3, _⟩
      · simp at e
      · simp only [Value.slice.injEq] at e; rw [e.2.2]; exact h3
    have hr := run_append_room_cells (P := Try.prog) w 22 ty 5 i0 Try.underlying22 hi b 0 l.length cap A 0 c [] (by simp) (by simp) (by simp) (by omega) (by simp) (by simp)
    refine ⟨_, _, hr, ?_, Kept.refl _ _, fun g hg => .inl hg⟩
    rw [List.append_nil]; exact hv
theorem wpList_append_bsw {w : World} {ops : Array Oper} {rest : List Oper} {o : Oper} {a : Act} {Q : Exit → Act → World → Prop} (hgd : o.guard = none) (s x : Operand)
    (ho : o.op = .call { callee := .builtin .append, args := #[s, x], argTypes := #[22, 22] }) (b cap : Nat) (y : Value) (l m : List Int) (hs : a.eval s = .slice (some ⟨b, 0, none⟩) l.length cap) (hy : a.eval x = y) (hv : Bs w (.slice (some ⟨b, 0, none⟩) l.length cap) l) (hx : RdW w y m) (hl : l.length + m.length ≤ 140737488355328)
    (h : ∀ v' w', Grew w w' (.slice (some ⟨b, 0, none⟩) l.length cap) v' (l ++ m) → wpList Try.prog ops Q rest (a.put o.dst v') w') : wpList Try.prog ops Q (o :: rest) a w :=
  wpList_plain hgd fun _ hK => by
    obtain ⟨v', w', hr, hg⟩ := run_append_bsw w o.type b cap y l m hv hx hl
    unfold Oper.wp execOp
    simp only [ho, resolve, invoke, builtin, Sem.run_bind, Sem.run_pure, Result.andThen_ok, List.map_toArray, List.map_cons, List.map_nil, hs, hy, hr]
    exact hK _ _ (h v' w' hg)
theorem Bs.empty (w : World) : Bs (w.alloc (.cells #[] 5)) (.slice (some ⟨w.heap.size, 0, none⟩) 0 0) [] :=
  ⟨rfl, .inr ⟨w.heap.size, 0, #[], rfl, Nat.zero_le _, heap_alloc_new w _, Nat.le_refl _, Nat.zero_le _, rfl, rfl⟩⟩
set_option maxHeartbeats 4000000 in
set_option maxRecDepth 100000 in
theorem lent_any (w : World) (v : Value) (l : List Int) (h : RdW w v l) (hl : l.length ≤ 140737488351232) :
    Calls Try.prog 8 #[v] w (MadeBs w (l ++ marks)) := by
  obtain ⟨A, c, rfl⟩ := h.shape
  have hka : Kept [] w (w.alloc (.cells #[] 5)) := (Kept.refl [] w).alloc _
  have HR := Lib.hid (h.keep hka)
  have HKA := Lib.hid hka
  have HLL := Lib.hid (show ([] : List Int).length + l.length ≤ 140737488355328 by simp; omega)
  have HM0 := Lib.hid (show Mk w (w.alloc (.cells #[] 5)) (.slice (some ⟨w.heap.size, 0, none⟩) 0 0) [] from ⟨Bs.empty w, fun g hg => by simp [Value.ownBlock] at hg; omega, hka⟩)
  clear h hka
  go_enter Try.func8, Try.ntmps8
  go_wp2_with (first
    | (at_builtin; refine wpList_append_bsw rfl _ _ rfl w.heap.size 0 (.slice A l.length c) [] l rfl rfl (Bs.empty w) HR.out HLL.out ?_; intro v' w' hg; have HG := Lib.hid (show Mk w w' v' (l ++ marks.take 0) from by rw [List.take_zero, List.append_nil]; have h := HM0.out.grew hg; rw [List.nil_append] at h; exact h); clear hg))
  clear HM0 HR HKA
  go_loopw [3, 4] (fun f i wr => ∃ k : Nat, k ≤ 64 ∧ i = .int .i64 k ∧ Hid (Mk w wr f (l ++ marks.take k))) (fun _ i _ => 64 - (intOf i).toNat)
  case atStart => exact ⟨0, by omega, rfl, HG.out⟩
  case round =>
    obtain ⟨k, hk, rfl, hq⟩ := hrel
    have HQ := Lib.hid hq.out
    clear hq HG
    by_cases hlt : k < 64
    · obtain ⟨A5, c5, rfl⟩ := HQ.out.1.shape
      have hll : (l ++ marks.take k).length = l.length + k := by rw [List.length_append, List.length_take, marks_len]; omega
      have t1 : (k : Int).tmod 7 = (k : Int) % 7 := Int.tmod_eq_emod_of_nonneg (by omega)
      have hw : wr = wr := rfl
      have HMK := Lib.hid (show Mk w (wr.alloc (.cells #[.int .u8 (200 + (k : Int) % 7)] 5)) (.slice A5 (l.length + k) c5) (l ++ marks.take k) from by have h := HQ.out.keep ((Kept.refl [] wr).alloc (.cells #[.int .u8 (200 + (k : Int) % 7)] 5)); rw [hll] at h; exact h)
      have HSC := Lib.hid (show Rd (wr.alloc (.cells #[.int .u8 (200 + (k : Int) % 7)] 5)) (.slice (some ⟨wr.heap.size, 0, none⟩) 1 1) [200 + (k : Int) % 7] from rd_one (one_atA rfl))
      have HLN := Lib.hid (show (l ++ marks.take k).length + [200 + (k : Int) % 7].length ≤ 140737488355328 by rw [hll]; simp; omega)
      have HSN := Lib.hid (show (l ++ marks.take k) ++ [200 + (k : Int) % 7] = l ++ marks.take (k + 1) by rw [List.append_assoc, take_snoc marks k _ (marks_get k hlt)])
      rw [hll]
      clear hll hw
      go_wp2_with (first
        | (at_builtin; refine wpList_append_bs rfl _ _ rfl (.slice A5 (l.length + k) c5) (.slice (some ⟨wr.heap.size, 0, none⟩) 1 1) (l ++ marks.take k) [200 + (k : Int) % 7] rfl rfl HMK.out.1 HSC.out HLN.out ?_; intro v' w' hg; have HG := Lib.hid (show Mk w w' v' (l ++ marks.take (k + 1)) from by rw [← HSN.out]; exact HMK.out.grew hg); clear hg))
      go_roundw
      case rel => go_light; exact ⟨k + 1, by omega, by go_num, HG.out⟩
      case measure => simp [intOf]; omega
    · obtain rfl : k = 64 := by omega
      have HE := Lib.hid (show MadeBs w (l ++ marks) (.returned _) wr from by have h := HQ.out; rw [List.take_of_length_le (show marks.length ≤ 64 by rw [marks_len]; exact Nat.le_refl _)] at h; exact h.made)
      go_wp2
      go_ret
      exact HE.out
set_option maxHeartbeats 4000000 in
set_option maxRecDepth 100000 in
theorem kept_any (w : World) (f v : Value) (l : List Int) (hf : Bs w f (l ++ marks)) (hv : RdW w v l) (hl : l.length ≤ 140737488351232) :
    Calls Try.prog 11 #[f, v] w fun e w' => e = .returned (.bool true) ∧ w = w' := by
  obtain ⟨A, c, rfl⟩ := hv.shape
  have hll : (l ++ marks).length = l.length + 64 := by rw [List.length_append, marks_len]
  rcases hf.at with ⟨_, h0⟩ | ⟨g, cap, cur, rfl, hg, h3, h4, _⟩
  · rw [h0] at hll; simp at hll
  rw [hll] at hf h3 ⊢
  have HC := Lib.hid (show ∀ k : Nat, k < 64 → w.cell? ⟨g, l.length + k, none⟩ = some (.int .u8 (200 + (k : Int) % 7)) from fun k hk => hf.cell rfl (l.length + k) _ (by rw [List.getElem?_append_right (by omega), show l.length + k - l.length = k by omega]; exact marks_get k hk))
  have HP := Lib.hid (show RdW w (.slice (some ⟨g, 0, none⟩) l.length cap) l from .inl (.inr ⟨cap, g, 0, rfl, fun i x hx => by
    rw [Nat.zero_add]
    exact hf.cell rfl i x (by rw [List.getElem?_append_left (List.getElem?_eq_some_iff.mp hx).1]; exact hx)⟩))
  have HV := Lib.hid hv
  have hcap : l.length + 64 ≤ cap := h3
  have hcap2 : cap ≤ 9223372036854775807 := h4
  clear hf hv hll hg h3 h4
  go_enter Try.func11, Try.ntmps11
  go_wp2
  go_loopw [5] (fun i wr => ∃ k : Nat, k ≤ 64 ∧ i = .int .i64 k ∧ wr = w) (fun i _ => 64 - (intOf i).toNat)
  case atStart => exact ⟨0, by omega, rfl, rfl⟩
  case round =>
    obtain ⟨k, hk, rfl, rfl⟩ := hrel
    by_cases hlt : k < 64
    · have d1 := HC.out k hlt
      have t1 : (k : Int).tmod 7 = (k : Int) % 7 := Int.tmod_eq_emod_of_nonneg (by omega)
      go_wp2
      go_roundw
      case rel => go_light; exact ⟨k + 1, by omega, by go_num, by first | trivial | rfl⟩
      case measure => simp [intOf]; omega
    · obtain rfl : k = 64 := by omega
      go_wp2_with (first
        | (go_at_call 14; refine (same_any _ _ _ l HP.out HV.out).mono ?_; rintro e wz ⟨rfl, rfl⟩))
      go_ret
      exact ⟨rfl, rfl⟩
end Go.Proofs.Ytdjppkffmeccoaa.BW
