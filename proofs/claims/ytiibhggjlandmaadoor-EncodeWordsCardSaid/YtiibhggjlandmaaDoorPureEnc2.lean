/- encode.Encode: what it answers where Check is content. Plain facts over the printed functions. No condition. -/
import Derived.Test.YtiibhggjlandmaaDoorPureEnc
namespace Go.Proofs.YtiibhggjlandmaaDoor.Enc
open Go.RowKit Go.Proofs.YtiibhggjlandmaaDoorW.PrintWords Go.Proofs.YtiibhggjlandmaaDoor.PF Go.Proofs.YtiibhggjlandmaaDoor.PL
set_option linter.unusedVariables false
set_option linter.unusedSimpArgs false
/-- What a form's bits are, by its shape. -/
def formN (n B : Nat) : Bool :=
  (n == 9 || (B / 128 % 32 == 0 && B / 32768 % 1024 == 0)) && ((n != 0 && n != 1) || B / 4096 == 0) && ((n != 2 && n != 8 && n != 3 && n != 4) || B / 33554432 == 0) &&
  ((n != 6 && n != 7) || (B / 33554432 == 0 || B / 33554432 == 32)) && ((n != 10 && n != 11) || B / 33554432 % 4 == 0) && B % 4 == 3
def formB (op : Int) : Bool :=
  match encode_formOf.f op with
  | some (n, b, true) => decide (0 ≤ n) && decide (n < 12) && decide (0 ≤ b) && decide (b < 4294967296) && formN n.toNat b.toNat && decide (1 ≤ op) && decide (op ≤ 96)
  | some (_, _, false) => true
  | none => false
set_option maxRecDepth 100000 in
theorem forms_in : ∀ i : Fin 97, formB (i.val : Int) = true := by decide +kernel
theorem findT_none (x : Int) : ∀ l : List (Int × Int × Int), (∀ e ∈ l, e.1 ≠ x) → findT x l = none
  | [], _ => rfl
  | (o, s, b) :: r, h => by
    rw [findT, if_neg (fun e => h _ (List.mem_cons_self ..) e.symm)]
    exact findT_none x r fun e he => h e (List.mem_cons_of_mem _ he)
set_option maxRecDepth 100000 in
theorem formT_in : ∀ e ∈ formT, 1 ≤ e.1 ∧ e.1 ≤ 96 := by decide +kernel
theorem formOf_out (op : Int) (h : ¬ (0 ≤ op ∧ op ≤ 96)) : encode_formOf.f op = some (0, 0, false) := by
  have e1 : findT op formT = none := findT_none op formT fun e he => by have := formT_in e he; omega
  unfold encode_formOf.f
  rw [if_neg (by omega), if_neg (by omega), e1]
  rfl
theorem forms_all (op : Int) : formB op = true := by
  by_cases h : 0 ≤ op ∧ op ≤ 96
  · have := forms_in ⟨op.toNat, by omega⟩
    rwa [show ((op.toNat : Nat) : Int) = op by omega] at this
  · unfold formB; rw [formOf_out op h]
/-- The immediates that a shape may have. -/
def immOk (n : Nat) (v : Int) : Prop :=
  if n = 0 then -2147483648 ≤ v ∧ v < 2147483648 ∧ v % 4096 = 0 else if n = 1 then -1048576 ≤ v ∧ v < 1048576 ∧ v % 2 = 0 else if n = 2 ∨ n = 4 then -2048 ≤ v ∧ v < 2048
  else if n = 3 then -4096 ≤ v ∧ v < 4096 ∧ v % 2 = 0 else if n = 6 then 0 ≤ v ∧ v < 64 else if n = 7 then 0 ≤ v ∧ v < 32 else if n = 8 then 0 ≤ v ∧ v < 4096 else v = 0
structure Val (n B rd rs1 rs2 : Nat) (v : Int) (aq rl : Bool) : Prop where
  n12 : n < 12
  b32 : B < 4294967296
  form : formN n B = true
  d : rd < 32
  s1 : rs1 < 32
  s2 : rs2 < 32
  hd : n = 3 ∨ n = 4 ∨ n = 9 → rd = 0
  h1 : n = 0 ∨ n = 1 ∨ n = 9 → rs1 = 0
  h2 : n = 3 ∨ n = 4 ∨ n = 5 ∨ n = 10 ∨ rs2 = 0
  imm : immOk n v
  o : n = 10 ∨ n = 11 ∨ (aq = false ∧ rl = false)
theorem tm (v m : Int) (h : Int.tmod v m = 0) : v % m = 0 := by
  have : m ∣ v := Int.dvd_iff_tmod_eq_zero.mpr h
  exact Int.emod_eq_zero_of_dvd this
theorem reach_imm (n : Nat) (hn : n < 9) (h5 : n ≠ 5) (v : Int) (h : chkR v (findR (n : Int) reachT) = some 0) : immOk n v := by
  have e : n = 0 ∨ n = 1 ∨ n = 2 ∨ n = 3 ∨ n = 4 ∨ n = 6 ∨ n = 7 ∨ n = 8 := by omega
  have k : ∀ lo hi st : Int, st ≠ 0 → chkR v (some (lo, hi, st)) = some 0 → lo ≤ v ∧ v ≤ hi ∧ v % st = 0 := by
    intro lo hi st hst hx
    simp only [chkR, if_neg hst] at hx
    by_cases c : v < lo ∨ v > hi
    · rw [if_pos c] at hx; exact absurd hx (by decide)
    · rw [if_neg c] at hx
      by_cases c2 : Int.tmod v st = 0
      · exact ⟨by omega, by omega, tm v st c2⟩
      · rw [if_neg c2] at hx; exact absurd hx (by decide)
  rcases e with rfl | rfl | rfl | rfl | rfl | rfl | rfl | rfl
  · have := k (-2147483648) 2147479552 4096 (by decide) h; simp only [immOk]; simp; omega
  · have := k (-1048576) 1048574 2 (by decide) h; simp only [immOk]; simp; omega
  · have := k (-2048) 2047 1 (by decide) h; simp only [immOk]; simp; omega
  · have := k (-4096) 4094 2 (by decide) h; simp only [immOk]; simp; omega
  · have := k (-2048) 2047 1 (by decide) h; simp only [immOk]; simp; omega
  · have := k 0 63 1 (by decide) h; simp only [immOk]; simp; omega
  · have := k 0 31 1 (by decide) h; simp only [immOk]; simp; omega
  · have := k 0 4095 1 (by decide) h; simp only [immOk]; simp; omega
theorem nb {r : Int} (h : ¬ bad r) : ∃ R : Nat, r = R ∧ R < 32 := ⟨r.toNat, by unfold bad at h; omega, by unfold bad at h; omega⟩
theorem zr (b : Bool) (R : Nat) (h : (!b) = false ∨ ((R : Int) != 0) = false) (hb : b = false) : R = 0 := by
  subst hb
  rcases h with h | h
  · exact absurd h (by decide)
  · have : (R : Int) = 0 := by simpa using h
    omega
theorem zv (b : Bool) (v : Int) (h : (!b) = false ∨ (v != 0) = false) (hb : b = false) : v = 0 := by
  subst hb
  rcases h with h | h
  · exact absurd h (by decide)
  · simpa using h
theorem zo (b aq rl : Bool) (h : (!b) = false ∨ (aq = false ∧ rl = false)) (hb : b = false) : aq = false ∧ rl = false := by
  subst hb
  rcases h with h | h
  · exact absurd h (by decide)
  · exact h
/-- What Check's content says. -/
theorem val_of (op rd rs1 rs2 v : Int) (aq rl : Bool) (len raw : Int) (h : encode_Check.f op rd rs1 rs2 v aq rl len raw = some 0) :
    ∃ n B RD R1 R2 : Nat, encode_formOf.f op = some ((n : Int), (B : Int), true) ∧ rd = RD ∧ rs1 = R1 ∧ rs2 = R2 ∧ Val n B RD R1 R2 v aq rl := by
  have hp := forms_all op
  unfold formB at hp
  unfold encode_Check.f at h
  obtain ⟨⟨n, b, t⟩, hz, hq⟩ := Option.bind_eq_some_iff.mp h
  clear h
  rw [hz] at hp
  cases t with
  | false => simp at hq
  | true =>
    simp only [Bool.and_eq_true, decide_eq_true_eq] at hp
    obtain ⟨⟨⟨⟨⟨⟨p1, p2⟩, p3⟩, p4⟩, p5⟩, _⟩, _⟩ := hp
    obtain ⟨m, rfl⟩ : ∃ m : Nat, n = (m : Int) := ⟨n.toNat, by omega⟩
    obtain ⟨B, rfl⟩ : ∃ B : Nat, b = (B : Int) := ⟨b.toNat, by omega⟩
    simp only [Int.toNat_natCast] at p5 hq
    simp only [if_true, if_neg (show ¬ ((m : Int) < 0) by omega)] at hq
    obtain ⟨hh, hH, h⟩ := Option.bind_eq_some_iff.mp hq
    clear hq
    by_cases c1 : bad rd ∨ bad rs1 ∨ bad rs2
    · rw [if_pos c1] at h; exact absurd h (by decide)
    rw [if_neg c1] at h
    by_cases c2 : bad2 hh rd rs1 rs2 v aq rl = true
    · rw [if_pos c2] at h; exact absurd h (by decide)
    rw [if_neg c2] at h
    obtain ⟨RD, rfl, d1⟩ := nb (fun x => c1 (.inl x))
    obtain ⟨R1, rfl, d2⟩ := nb (fun x => c1 (.inr (.inl x)))
    obtain ⟨R2, rfl, d3⟩ := nb (fun x => c1 (.inr (.inr x)))
    refine ⟨m, B, RD, R1, R2, hz, rfl, rfl, rfl, ?_⟩
    have hm : m < 12 := by omega
    clear c1 p1 p2 hz
    have hi : (m < 9 ∧ m ≠ 5) → immOk m v := fun hx => reach_imm m hx.1 hx.2 v h
    clear h
    have c3 : bad2 hh (RD : Int) (R1 : Int) (R2 : Int) v aq rl = false := by simpa using c2
    clear c2
    unfold bad2 at c3
    simp only [Bool.or_eq_false_iff, Bool.and_eq_false_iff] at c3
    obtain ⟨⟨⟨⟨a1, a2⟩, a3⟩, a4⟩, a5⟩ := c3
    have e : m = 0 ∨ m = 1 ∨ m = 2 ∨ m = 3 ∨ m = 4 ∨ m = 5 ∨ m = 6 ∨ m = 7 ∨ m = 8 ∨ m = 9 ∨ m = 10 ∨ m = 11 := by omega
    rcases e with rfl | rfl | rfl | rfl | rfl | rfl | rfl | rfl | rfl | rfl | rfl | rfl <;>
      (obtain rfl := Option.some.inj hH; clear hH
       refine ⟨by omega, by omega, p5, d1, d2, d3, ?_, ?_, ?_, ?_, ?_⟩
       · intro hx; first | (exfalso; clear a1 a2 a3 a4 a5 hi; omega) | exact zr _ RD a1 rfl
       · intro hx; first | (exfalso; clear a1 a2 a3 a4 a5 hi; omega) | exact zr _ R1 a2 rfl
       · first | exact .inr (.inr (.inr (.inr (zr _ R2 a3 rfl)))) | (clear a1 a2 a3 a4 a5 hi; omega)
       · first | exact hi (by decide) | exact (show v = 0 from zv _ v a4 rfl)
       · first | exact .inl rfl | exact .inr (.inl rfl) | exact .inr (.inr (zo _ aq rl a5 rfl)))
/-- The word, by shape. -/
def encT (n B rd rs1 rs2 : Nat) (v : Int) (aq rl : Bool) : Nat :=
  if n = 4 then W6 (fi v 32 128) rs2 rs1 (B / 4096 % 8) (fi v 1 32) (B % 128)
  else if n = 3 then W6 (fi v 4096 2 * 64 + fi v 32 64) rs2 rs1 (B / 4096 % 8) (fi v 2 16 * 2 + fi v 2048 2) (B % 128)
  else if n = 0 then W6 (fi v 33554432 128) (fi v 1048576 32) (fi v 32768 32) (fi v 4096 8) rd (B % 128)
  else if n = 1 then W6 (fi v 1048576 2 * 64 + fi v 32 64) (fi v 2 16 * 2 + fi v 2048 2) (fi v 32768 32) (fi v 4096 8) rd (B % 128)
  else if n = 2 ∨ n = 8 then W6 (fi v 32 128) (fi v 1 32) rs1 (B / 4096 % 8) rd (B % 128)
  else if n = 6 then W6 (B / 33554432 + fi v 32 2) (fi v 1 32) rs1 (B / 4096 % 8) rd (B % 128)
  else if n = 7 then W6 (B / 33554432) (fi v 1 32) rs1 (B / 4096 % 8) rd (B % 128)
  else if n = 9 then B
  else W6 (B / 33554432 + (if aq = true then 2 else 0) + (if rl = true then 1 else 0)) rs2 rs1 (B / 4096 % 8) rd (B % 128)
theorem regs_w (r1 r2 : Nat) (h1 : r1 < 32) (h2 : r2 < 32) : ((((r1 : Int) % 4294967296) * 32768) % 4294967296 = (W6 0 0 r1 0 0 0 : Nat)) ∧ ((((r2 : Int) % 4294967296) * 1048576) % 4294967296 = (W6 0 r2 0 0 0 0 : Nat)) ∧ ((((r2 : Int) % 4294967296) * 128) % 4294967296 = (W6 0 0 0 0 r2 0 : Nat)) := by
  unfold W6; refine ⟨by omega, by omega, by omega⟩
theorem W6_of (B : Nat) : B = W6 (B / 33554432) (B / 1048576 % 32) (B / 32768 % 32) (B / 4096 % 8) (B / 128 % 32) (B % 128) := by unfold W6; omega
/-- Opcode and f3, and both registers. -/
theorem base_w (B r1 r2 : Nat) (hB : B < 4294967296) (h1 : r1 < 32) (h2 : r2 < 32) (hz : B / 128 % 32 = 0 ∧ B / 32768 % 1024 = 0) :
    Go.bits .or .u32 (Go.bits .or .u32 (B : Int) ((((r1 : Int) % 4294967296) * 32768) % 4294967296)) ((((r2 : Int) % 4294967296) * 1048576) % 4294967296) = (W6 (B / 33554432) r2 r1 (B / 4096 % 8) 0 (B % 128) : Nat) := by
  have e : (B : Int) = (W6 (B / 33554432) 0 0 (B / 4096 % 8) 0 (B % 128) : Nat) := by congr 1; unfold W6; omega
  rw [(regs_w r1 r2 h1 h2).1, (regs_w r1 r2 h1 h2).2.1]
  conv => lhs; arg 3; arg 3; rw [e]
  rw [or_w _ _ _ _ _ _ _ _ _ _ _ _ (by omega) (by decide) (by decide) (by omega) (by decide) (by omega) (by decide) (by decide) h1 (by decide) (by decide) (by decide)]
  simp only [Nat.zero_or, Nat.or_zero]
  rw [or_w _ _ _ _ _ _ _ _ _ _ _ _ (by omega) (by decide) h1 (by omega) (by decide) (by omega) (by decide) h2 (by decide) (by decide) (by decide) (by decide)]
  simp only [Nat.zero_or, Nat.or_zero]
theorem base_d (t y x f c rd : Nat) (h0 : t < 128) (h1 : y < 32) (h2 : x < 32) (h3 : f < 8) (h5 : c < 128) (h : rd < 32) : Go.bits .or .u32 (W6 t y x f 0 c : Nat) ((((rd : Int) % 4294967296) * 128) % 4294967296) = (W6 t y x f rd c : Nat) := by
  rw [(regs_w rd rd h h).2.2, or_w _ _ _ _ _ _ _ _ _ _ _ _ h0 h1 h2 h3 (by decide) h5 (by decide) (by decide) (by decide) (by decide) h (by decide)]
  simp only [Nat.zero_or, Nat.or_zero]
theorem or_32 : ∀ i : Fin 2, 32 ||| i.val = 32 + i.val := by decide
theorem orT : ∀ a : Fin 32, ∀ i : Fin 4, (a.val * 4) ||| i.val = a.val * 4 + i.val := by decide
theorem or_t4 (t i : Nat) (ht : t < 128) (h4 : t % 4 = 0) (hi : i < 4) : t ||| i = t + i := by
  have := orT ⟨t / 4, by omega⟩ ⟨i, hi⟩
  simp only at this
  rwa [show t / 4 * 4 = t by omega] at this
theorem or_s (t i : Nat) (ht : t = 0 ∨ t = 32) (hi : i < 2) : t ||| i = t + i := by
  rcases ht with rfl | rfl
  · simp
  · exact or_32 ⟨i, hi⟩
theorem aqw : (67108864 : Int) = (W6 2 0 0 0 0 0 : Nat) ∧ (33554432 : Int) = (W6 1 0 0 0 0 0 : Nat) := by decide +kernel
theorem enc_ok (k : Nat) (hk : 12 ≤ k) (op rd rs1 rs2 v : Int) (aq rl : Bool) (len raw : Int) (h : encode_Check.f op rd rs1 rs2 v aq rl len raw = some 0) :
    ∃ n B RD R1 R2 : Nat, encode_formOf.f op = some ((n : Int), (B : Int), true) ∧ rd = RD ∧ rs1 = R1 ∧ rs2 = R2 ∧ Val n B RD R1 R2 v aq rl ∧
      encode_Encode.f k op rd rs1 rs2 v aq rl len raw = some (((encT n B RD R1 R2 v aq rl : Nat) : Int), 0) := by
  obtain ⟨n, B, RD, R1, R2, hz, rfl, rfl, rfl, hv⟩ := val_of op rd rs1 rs2 v aq rl len raw h
  refine ⟨n, B, RD, R1, R2, hz, rfl, rfl, rfl, hv, ?_⟩
  obtain ⟨k, rfl⟩ : ∃ j, k = j + 2 := ⟨k - 2, by omega⟩
  unfold encode_Encode.f
  rw [h, Option.bind_some, if_pos rfl, hz, Option.bind_some]
  dsimp only
  obtain ⟨n12, b32, hf, d, s1, s2, hd, h1, h2, hi, o⟩ := hv
  clear h hz
  have e : n = 0 ∨ n = 1 ∨ n = 2 ∨ n = 3 ∨ n = 4 ∨ n = 5 ∨ n = 6 ∨ n = 7 ∨ n = 8 ∨ n = 9 ∨ n = 10 ∨ n = 11 := by omega
  have bt : B / 33554432 < 128 := by omega
  have bf : B / 4096 % 8 < 8 := by omega
  have bc : B % 128 < 128 := by omega
  have f32 := fb v 32 128 128 rfl (by decide); have f1 := fb v 1 32 32 rfl (by decide)
  rcases e with rfl | rfl | rfl | rfl | rfl | rfl | rfl | rfl | rfl | rfl | rfl | rfl <;> simp [formN] at hf
  · obtain rfl := h1 (.inl rfl)
    obtain rfl : R2 = 0 := by omega
    rw [if_neg (by decide), if_neg (by decide), if_pos (by decide), base_w B 0 0 b32 (by decide) (by decide) (by omega), base_d _ _ _ _ _ RD bt (by decide) (by decide) bf bc d]
    have g1 := fb v 33554432 128 128 rfl (by decide); have g2 := fb v 1048576 32 32 rfl (by decide); have g3 := fb v 32768 32 32 rfl (by decide); have g4 := fb v 4096 8 8 rfl (by decide)
    have ev : v % 4294967296 = (W6 (fi v 33554432 128) (fi v 1048576 32) (fi v 32768 32) (fi v 4096 8) 0 0 : Nat) := by
      simp only [immOk, if_true] at hi
      unfold W6 fi; omega
    rw [ev, or_w _ _ _ _ _ _ _ _ _ _ _ _ bt (by decide) (by decide) bf d bc g1 g2 g3 g4 (by decide) (by decide)]
    rw [show B / 33554432 = 0 by omega, show B / 4096 % 8 = 0 by omega]
    simp only [Nat.zero_or, Nat.or_zero]; rfl
  · obtain rfl := h1 (.inr (.inl rfl))
    obtain rfl : R2 = 0 := by omega
    rw [if_neg (by decide), if_neg (by decide), if_neg (by decide), if_pos (by decide), sc_J v (k + 2) (by omega), Option.bind_some, base_w B 0 0 b32 (by decide) (by decide) (by omega), base_d _ _ _ _ _ RD bt (by decide) (by decide) bf bc d]
    have g1 := fb v 1048576 2 2 rfl (by decide); have g2 := fb v 32 64 64 rfl (by decide); have g3 := fb v 2 16 16 rfl (by decide); have g4 := fb v 2048 2 2 rfl (by decide)
    have g5 := fb v 32768 32 32 rfl (by decide); have g6 := fb v 4096 8 8 rfl (by decide)
    rw [or_w _ _ _ _ _ _ _ _ _ _ _ _ bt (by decide) (by decide) bf d bc (by omega) (by omega) g5 g6 (by decide) (by decide)]
    rw [show B / 33554432 = 0 by omega, show B / 4096 % 8 = 0 by omega]
    simp only [Nat.zero_or, Nat.or_zero]; rfl
  · obtain rfl : R2 = 0 := by omega
    rw [if_neg (by decide), if_neg (by decide), if_neg (by decide), if_neg (by decide), if_pos (by decide), base_w B R1 0 b32 s1 (by decide) (by omega), base_d _ _ _ _ _ RD bt (by decide) s1 bf bc d]
    rw [encode_Encode.j0, if_pos (by decide)]
    rw [sc_I v (k + 1) (by omega), Option.bind_some, or_w _ _ _ _ _ _ _ _ _ _ _ _ bt (by decide) s1 bf d bc f32 f1 (by decide) (by decide) (by decide) (by decide), show B / 33554432 = 0 by omega]
    simp only [Nat.zero_or, Nat.or_zero]; rfl
  · obtain rfl := hd (.inl rfl)
    rw [if_neg (by decide), if_pos (by decide), sc_B v (k + 2) (by omega), Option.bind_some, base_w B R1 R2 b32 s1 s2 (by omega)]
    have g1 := fb v 4096 2 2 rfl (by decide); have g2 := fb v 32 64 64 rfl (by decide); have g3 := fb v 2 16 16 rfl (by decide); have g4 := fb v 2048 2 2 rfl (by decide)
    rw [or_w _ _ _ _ _ _ _ _ _ _ _ _ bt s2 s1 bf (by decide) bc (by omega) (by decide) (by decide) (by decide) (by omega) (by decide), show B / 33554432 = 0 by omega]
    simp only [Nat.zero_or, Nat.or_zero]; rfl
  · obtain rfl := hd (.inr (.inl rfl))
    rw [if_pos (by decide), sc_S v (k + 2) (by omega), Option.bind_some, base_w B R1 R2 b32 s1 s2 (by omega)]
    rw [or_w _ _ _ _ _ _ _ _ _ _ _ _ bt s2 s1 bf (by decide) bc f32 (by decide) (by decide) (by decide) f1 (by decide), show B / 33554432 = 0 by omega]
    simp only [Nat.zero_or, Nat.or_zero]; rfl
  · obtain ⟨rfl, rfl⟩ : aq = false ∧ rl = false := by rcases o with o | o | o; exact absurd o (by decide); exact absurd o (by decide); exact o
    rw [if_neg (by decide), if_neg (by decide), if_neg (by decide), if_neg (by decide), if_neg (by decide), if_neg (by decide), if_neg (by decide), base_w B R1 R2 b32 s1 s2 (by omega), base_d _ _ _ _ _ RD bt s2 s1 bf bc d]
    simp [encode_Encode.j0, encode_Encode.j1, encT]
  · obtain rfl : R2 = 0 := by omega
    rw [if_neg (by decide), if_neg (by decide), if_neg (by decide), if_neg (by decide), if_neg (by decide), if_neg (by decide), if_pos (by decide), base_w B R1 0 b32 s1 (by decide) (by omega), base_d _ _ _ _ _ RD bt (by decide) s1 bf bc d]
    rw [encode_Encode.j0, if_pos (by decide)]
    have e32 : fi v 32 128 = fi v 32 2 := by simp only [immOk] at hi; simp at hi; unfold fi; omega
    have g1 := fb v 32 2 2 rfl (by decide)
    rw [sc_I v (k + 1) (by omega), Option.bind_some, or_w _ _ _ _ _ _ _ _ _ _ _ _ bt (by decide) s1 bf d bc f32 f1 (by decide) (by decide) (by decide) (by decide), e32, or_s _ _ (by omega) g1]
    simp only [Nat.zero_or, Nat.or_zero]; rfl
  · obtain rfl : R2 = 0 := by omega
    rw [if_neg (by decide), if_neg (by decide), if_neg (by decide), if_neg (by decide), if_neg (by decide), if_neg (by decide), if_neg (by decide), base_w B R1 0 b32 s1 (by decide) (by omega), base_d _ _ _ _ _ RD bt (by decide) s1 bf bc d]
    rw [encode_Encode.j0, if_pos (by decide)]
    have e32 : fi v 32 128 = 0 := by simp only [immOk] at hi; simp at hi; unfold fi; omega
    rw [sc_I v (k + 1) (by omega), Option.bind_some, or_w _ _ _ _ _ _ _ _ _ _ _ _ bt (by decide) s1 bf d bc f32 f1 (by decide) (by decide) (by decide) (by decide), e32]
    simp only [Nat.zero_or, Nat.or_zero]; rfl
  · obtain rfl : R2 = 0 := by omega
    rw [if_neg (by decide), if_neg (by decide), if_neg (by decide), if_neg (by decide), if_neg (by decide), if_pos (by decide), base_w B R1 0 b32 s1 (by decide) (by omega), base_d _ _ _ _ _ RD bt (by decide) s1 bf bc d]
    rw [encode_Encode.j0, if_pos (by decide)]
    rw [sc_I v (k + 1) (by omega), Option.bind_some, or_w _ _ _ _ _ _ _ _ _ _ _ _ bt (by decide) s1 bf d bc f32 f1 (by decide) (by decide) (by decide) (by decide), show B / 33554432 = 0 by omega]
    simp only [Nat.zero_or, Nat.or_zero]; rfl
  · obtain rfl := hd (.inr (.inr rfl))
    obtain rfl := h1 (.inr (.inr rfl))
    obtain rfl : R2 = 0 := by omega
    have zz : (((((0 : Nat) : Int)) % 4294967296 * 32768) % 4294967296) = ((0 : Nat) : Int) := rfl
    have zy : (((((0 : Nat) : Int)) % 4294967296 * 1048576) % 4294967296) = ((0 : Nat) : Int) := rfl
    have zx : (((((0 : Nat) : Int)) % 4294967296 * 128) % 4294967296) = ((0 : Nat) : Int) := rfl
    obtain ⟨rfl, rfl⟩ : aq = false ∧ rl = false := by rcases o with o | o | o; exact absurd o (by decide); exact absurd o (by decide); exact o
    rw [if_neg (by decide), if_neg (by decide), if_neg (by decide), if_neg (by decide), if_neg (by decide), if_neg (by decide), if_neg (by decide), zz, zy, zx, or32 B 0 b32 (by decide), Nat.or_zero, or32 B 0 b32 (by decide), Nat.or_zero, or32 B 0 b32 (by decide), Nat.or_zero]
    simp [encode_Encode.j0, encode_Encode.j1, encT]
  · rw [if_neg (by decide), if_neg (by decide), if_neg (by decide), if_neg (by decide), if_neg (by decide), if_neg (by decide), if_neg (by decide), base_w B R1 R2 b32 s1 s2 (by omega), base_d _ _ _ _ _ RD bt s2 s1 bf bc d]
    simp only [encode_Encode.j0, encode_Encode.j1]
    rw [if_neg (by decide), if_pos (by decide), if_pos (by decide)]
    have o2 : ∀ t : Nat, t < 128 → t % 4 = 0 → Go.bits .or .u32 (W6 t R2 R1 (B / 4096 % 8) RD (B % 128) : Nat) 67108864 = (W6 (t + 2) R2 R1 (B / 4096 % 8) RD (B % 128) : Nat) := by
      intro t h0 h4
      rw [aqw.1, or_w _ _ _ _ _ _ _ _ _ _ _ _ h0 s2 s1 bf d bc (by decide) (by decide) (by decide) (by decide) (by decide) (by decide), or_t4 t 2 h0 h4 (by decide)]
      simp only [Nat.or_zero]
    have o1 : ∀ t : Nat, t < 126 → t % 4 = 0 → Go.bits .or .u32 (W6 t R2 R1 (B / 4096 % 8) RD (B % 128) : Nat) 33554432 = (W6 (t + 1) R2 R1 (B / 4096 % 8) RD (B % 128) : Nat) := by
      intro t h0 h4
      rw [aqw.2, or_w _ _ _ _ _ _ _ _ _ _ _ _ (by omega) s2 s1 bf d bc (by decide) (by decide) (by decide) (by decide) (by decide) (by decide), or_t4 t 1 (by omega) h4 (by decide)]
      simp only [Nat.or_zero]
    have o3 : ∀ t : Nat, t < 126 → t % 4 = 0 → Go.bits .or .u32 (W6 (t + 2) R2 R1 (B / 4096 % 8) RD (B % 128) : Nat) 33554432 = (W6 (t + 2 + 1) R2 R1 (B / 4096 % 8) RD (B % 128) : Nat) := by
      intro t h0 h4
      rw [aqw.2, or_w _ _ _ _ _ _ _ _ _ _ _ _ (by omega) s2 s1 bf d bc (by decide) (by decide) (by decide) (by decide) (by decide) (by decide)]
      have e3 : (t + 2) ||| 1 = t + 2 + 1 := by
        rw [← or_t4 t 2 (by omega) h4 (by decide), Nat.or_assoc, show (2 ||| 1 : Nat) = 3 from rfl, or_t4 t 3 (by omega) h4 (by decide), or_t4 t 2 (by omega) h4 (by decide)]
      rw [e3]; simp only [Nat.or_zero]
    have ht : B / 33554432 < 126 := by omega
    cases aq <;> cases rl <;> simp only [if_true, Bool.false_eq_true, if_false]
    · rfl
    · rw [o1 _ ht (by omega)]; rfl
    · rw [o2 _ bt (by omega)]; rfl
    · rw [o2 _ bt (by omega), o3 _ ht (by omega)]; rfl
  · rw [if_neg (by decide), if_neg (by decide), if_neg (by decide), if_neg (by decide), if_neg (by decide), if_neg (by decide), if_neg (by decide), base_w B R1 R2 b32 s1 s2 (by omega), base_d _ _ _ _ _ RD bt s2 s1 bf bc d]
    simp only [encode_Encode.j0, encode_Encode.j1]
    rw [if_neg (by decide), if_neg (by decide), if_pos (by decide)]
    have o2 : ∀ t : Nat, t < 128 → t % 4 = 0 → Go.bits .or .u32 (W6 t R2 R1 (B / 4096 % 8) RD (B % 128) : Nat) 67108864 = (W6 (t + 2) R2 R1 (B / 4096 % 8) RD (B % 128) : Nat) := by
      intro t h0 h4
      rw [aqw.1, or_w _ _ _ _ _ _ _ _ _ _ _ _ h0 s2 s1 bf d bc (by decide) (by decide) (by decide) (by decide) (by decide) (by decide), or_t4 t 2 h0 h4 (by decide)]
      simp only [Nat.or_zero]
    have o1 : ∀ t : Nat, t < 126 → t % 4 = 0 → Go.bits .or .u32 (W6 t R2 R1 (B / 4096 % 8) RD (B % 128) : Nat) 33554432 = (W6 (t + 1) R2 R1 (B / 4096 % 8) RD (B % 128) : Nat) := by
      intro t h0 h4
      rw [aqw.2, or_w _ _ _ _ _ _ _ _ _ _ _ _ (by omega) s2 s1 bf d bc (by decide) (by decide) (by decide) (by decide) (by decide) (by decide), or_t4 t 1 (by omega) h4 (by decide)]
      simp only [Nat.or_zero]
    have o3 : ∀ t : Nat, t < 126 → t % 4 = 0 → Go.bits .or .u32 (W6 (t + 2) R2 R1 (B / 4096 % 8) RD (B % 128) : Nat) 33554432 = (W6 (t + 2 + 1) R2 R1 (B / 4096 % 8) RD (B % 128) : Nat) := by
      intro t h0 h4
      rw [aqw.2, or_w _ _ _ _ _ _ _ _ _ _ _ _ (by omega) s2 s1 bf d bc (by decide) (by decide) (by decide) (by decide) (by decide) (by decide)]
      have e3 : (t + 2) ||| 1 = t + 2 + 1 := by
        rw [← or_t4 t 2 (by omega) h4 (by decide), Nat.or_assoc, show (2 ||| 1 : Nat) = 3 from rfl, or_t4 t 3 (by omega) h4 (by decide), or_t4 t 2 (by omega) h4 (by decide)]
      rw [e3]; simp only [Nat.or_zero]
    have ht : B / 33554432 < 126 := by omega
    cases aq <;> cases rl <;> simp only [if_true, Bool.false_eq_true, if_false]
    · rfl
    · rw [o1 _ ht (by omega)]; rfl
    · rw [o2 _ bt (by omega)]; rfl
    · rw [o2 _ bt (by omega), o3 _ ht (by omega)]; rfl
end Go.Proofs.YtiibhggjlandmaaDoor.Enc
