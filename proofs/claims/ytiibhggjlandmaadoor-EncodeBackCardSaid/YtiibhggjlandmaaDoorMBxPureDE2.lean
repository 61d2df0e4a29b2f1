/- Texts of this claim, put together by a program: PureDE2. -/
import Derived.Test.YtiibhggjlandmaaDoorMB27
/- decode against encode in plain numbers: what the encoder's word is read as; what a read word is encoded as. No condition. -/
namespace Go.Proofs.YtiibhggjlandmaaDoor.Pure
open Go.RowKit Go.Proofs.YtiibhggjlandmaaDoorW.PrintWords Go.Proofs.YtiibhggjlandmaaDoorW.PrintMore Go.Proofs.YtiibhggjlandmaaDoor.PB Go.Proofs.YtiibhggjlandmaaDoor.PD Go.Proofs.YtiibhggjlandmaaDoor.Mth
open Go.Proofs.YtiibhggjlandmaaDoor.PF (encode_formOf.f encode_Check.f findT formT)
open Go.Proofs.YtiibhggjlandmaaDoor.Enc (W6 fi fb Val immOk encT formN)
set_option linter.unusedVariables false
set_option linter.unusedSimpArgs false
theorem w6_f (t y x f r c : Nat) (ht : t < 128) (hy : y < 32) (hx : x < 32) (hf : f < 8) (hr : r < 32) (hc : c < 128) (Z : Nat) (hZ : Z = W6 t y x f r c) :
    fld Z 11 7 = r ∧ fld Z 19 15 = x ∧ fld Z 24 20 = y ∧ fld Z 31 25 = t ∧ fld Z 31 20 = t * 32 + y ∧ fld Z 31 12 = ((t * 32 + y) * 32 + x) * 8 + f := by
  subst hZ
  unfold fld W6
  simp only [Nat.reduceAdd, Nat.reduceSub, Nat.reducePow]
  refine ⟨by omega, by omega, by omega, by omega, by omega, by omega⟩
theorem w6_g (t y x f r c : Nat) (ht : t < 128) (hy : y < 32) (hx : x < 32) (hf : f < 8) (hr : r < 32) (hc : c < 128) (Z : Nat) (hZ : Z = W6 t y x f r c) :
    fld Z 25 20 = t % 2 * 32 + y ∧ fld Z 26 26 = t / 2 % 2 ∧ fld Z 25 25 = t % 2 ∧ fld Z 31 31 = t / 64 ∧ fld Z 30 25 = t % 64 ∧ fld Z 11 8 = r / 2 ∧ fld Z 7 7 = r % 2 := by
  subst hZ
  unfold fld W6
  simp only [Nat.reduceAdd, Nat.reduceSub, Nat.reducePow]
  refine ⟨by omega, by omega, by omega, by omega, by omega, by omega, by omega⟩
theorem w6_h (t y x f r c : Nat) (ht : t < 128) (hy : y < 32) (hx : x < 32) (hf : f < 8) (hr : r < 32) (hc : c < 128) (Z : Nat) (hZ : Z = W6 t y x f r c) :
    fld Z 19 12 = x * 8 + f ∧ fld Z 20 20 = y % 2 ∧ fld Z 30 21 = t % 64 * 16 + y / 2 := by
  subst hZ
  unfold fld W6
  simp only [Nat.reduceAdd, Nat.reduceSub, Nat.reducePow]
  refine ⟨by omega, by omega, by omega⟩
theorem sgn12 (V : Nat) (v : Int) (h : (V : Int) = v % 4096) (h0 : -2048 ≤ v) (h1 : v < 2048) : sgn 12 V = v := by
  unfold sgn; simp only [Nat.reduceSub, Nat.reducePow]; split <;> omega
theorem sgn13 (V : Nat) (v : Int) (h : (V : Int) = v % 8192) (h0 : -4096 ≤ v) (h1 : v < 4096) : sgn 13 V = v := by
  unfold sgn; simp only [Nat.reduceSub, Nat.reducePow]; split <;> omega
theorem sgn21 (V : Nat) (v : Int) (h : (V : Int) = v % 2097152) (h0 : -1048576 ≤ v) (h1 : v < 1048576) : sgn 21 V = v := by
  unfold sgn; simp only [Nat.reduceSub, Nat.reducePow]; split <;> omega
theorem sgn32 (V : Nat) (v : Int) (h : (V : Int) = v % 4294967296) (h0 : -2147483648 ≤ v) (h1 : v < 2147483648) : sgn 32 V = v := by
  unfold sgn; simp only [Nat.reduceSub, Nat.reducePow]; split <;> omega
set_option maxHeartbeats 8000000 in
theorem fill_enc (op : Int) (n B rd rs1 rs2 : Nat) (v : Int) (aq rl : Bool) (hv : Val n B rd rs1 rs2 v aq rl) (hL : n = 11 → rs2 = 0) (len raw : Int) :
    fillN (shp n) (encT n B rd rs1 rs2 v aq rl) op len raw = (op, (rd : Int), (rs1 : Int), (rs2 : Int), v, aq, rl, len, raw) := by
  by_cases h9 : n = 9
  · subst h9
    obtain rfl := hv.hd (.inr (.inr rfl))
    obtain rfl := hv.h1 (.inr (.inr rfl))
    have h2 := hv.h2
    have hi := hv.imm
    have ho := hv.o
    obtain rfl : rs2 = 0 := by omega
    obtain rfl : v = 0 := by simpa [immOk] using hi
    obtain ⟨rfl, rfl⟩ : aq = false ∧ rl = false := by rcases ho with o | o | o; exact absurd o (by decide); exact absurd o (by decide); exact o
    rfl
  obtain ⟨t, y, x, g, r, he, ht, hy, hx, hg, hr, p1, p6, p7, p5, pU, pJ, pX, pB, pS, pI, pH, pY⟩ := enc_parts n B rd rs1 rs2 v aq rl hv h9
  have hc : B % 128 < 128 := Nat.mod_lt _ (by decide)
  obtain ⟨a1, a2, a3, a4, a5, a6⟩ := w6_f t y x g r (B % 128) ht hy hx hg hr hc _ he
  obtain ⟨b1, b2, b3, b4, b5, b6, b7⟩ := w6_g t y x g r (B % 128) ht hy hx hg hr hc _ he
  obtain ⟨c1, c2, c3⟩ := w6_h t y x g r (B % 128) ht hy hx hg hr hc _ he
  have hi := hv.imm
  have h1 := hv.h1
  have h2 := hv.h2
  have hd := hv.hd
  have ho := hv.o
  have n12 := hv.n12
  have hform := hv.form
  generalize encT n B rd rs1 rs2 v aq rl = Z at *
  clear he hv
  have q : n = 0 ∨ n = 1 ∨ n = 2 ∨ n = 3 ∨ n = 4 ∨ n = 5 ∨ n = 6 ∨ n = 7 ∨ n = 8 ∨ n = 10 ∨ n = 11 := by clear p1 p6 p7 p5 pU pJ pX pB pS pI pH pY h1 h2 hd ho; omega
  have fl : ∀ a b : Bool, a = false ∧ b = false → a = false ∧ b = false := fun _ _ h => h
  rcases q with rfl | rfl | rfl | rfl | rfl | rfl | rfl | rfl | rfl | rfl | rfl
  · obtain ⟨e1, e2, e3, e4, e5⟩ := pU rfl
    obtain rfl := h1 (.inl rfl)
    obtain rfl : rs2 = 0 := by clear p1 p6 p7 p5 pU pJ pX pB pS pI pH pY; omega
    obtain ⟨rfl, rfl⟩ : aq = false ∧ rl = false := by rcases ho with o | o | o; exact absurd o (by decide); exact absurd o (by decide); exact o
    clear p1 p6 p7 p5 pU pJ pX pB pS pI pH pY h1 h2 hd ho
    simp only [immOk, if_true] at hi
    have es : sgn 32 (fld Z 31 12 * 4096) = v := by
      refine sgn32 _ v ?_ hi.1 hi.2.1
      rw [a6, e1, e2, e3, e4]; unfold fi; omega
    show (op, ((fld Z 11 7 : Nat) : Int), (0 : Int), (0 : Int), sgn 32 (fld Z 31 12 * 4096), false, false, len, raw) = _
    rw [es, a1, e5]; rfl
  · obtain ⟨e1, e2, e3, e4, e5⟩ := pJ rfl
    obtain rfl := h1 (.inr (.inl rfl))
    obtain rfl : rs2 = 0 := by clear p1 p6 p7 p5 pU pJ pX pB pS pI pH pY; omega
    obtain ⟨rfl, rfl⟩ : aq = false ∧ rl = false := by rcases ho with o | o | o; exact absurd o (by decide); exact absurd o (by decide); exact o
    clear p1 p6 p7 p5 pU pJ pX pB pS pI pH pY h1 h2 hd ho
    simp only [immOk] at hi
    simp at hi
    have es : sgn 21 (immJ Z) = v := by
      refine sgn21 _ v ?_ hi.1 hi.2.1
      unfold immJ
      rw [b4, c1, c2, c3, e1, e2, e3, e4]
      have g7 := fb v 1048576 2 2 rfl (by decide); have g8 := fb v 32 64 64 rfl (by decide); have g9 := fb v 2 16 16 rfl (by decide); have g10 := fb v 2048 2 2 rfl (by decide)
      rw [show (fi v 1048576 2 * 64 + fi v 32 64) / 64 = fi v 1048576 2 by omega, show (fi v 1048576 2 * 64 + fi v 32 64) % 64 = fi v 32 64 by omega, show (fi v 2 16 * 2 + fi v 2048 2) % 2 = fi v 2048 2 by omega, show (fi v 2 16 * 2 + fi v 2048 2) / 2 = fi v 2 16 by omega]
      clear g7 g8 g9 g10 a1 a2 a3 a4 a5 a6 b1 b2 b3 b4 b5 b6 b7 c1 c2 c3 e1 e2 e3 e4
      unfold fi; omega
    show (op, ((fld Z 11 7 : Nat) : Int), (0 : Int), (0 : Int), sgn 21 (immJ Z), false, false, len, raw) = _
    rw [es, a1, e5]; rfl
  · obtain ⟨e1, e2, e3⟩ := pI (.inl rfl)
    have e4 := pX (by decide) (by decide)
    obtain rfl : rs2 = 0 := by clear p1 p6 p7 p5 pU pJ pX pB pS pI pH pY; omega
    obtain ⟨rfl, rfl⟩ : aq = false ∧ rl = false := by rcases ho with o | o | o; exact absurd o (by decide); exact absurd o (by decide); exact o
    clear p1 p6 p7 p5 pU pJ pX pB pS pI pH pY h1 h2 hd ho
    simp only [immOk] at hi
    simp at hi
    have es : sgn 12 (fld Z 31 20) = v := by
      refine sgn12 _ v ?_ hi.1 hi.2
      rw [a5, e1, e2]; unfold fi; omega
    show (op, ((fld Z 11 7 : Nat) : Int), ((fld Z 19 15 : Nat) : Int), (0 : Int), sgn 12 (fld Z 31 20), false, false, len, raw) = _
    rw [es, a1, a2, e3, e4]; rfl
  · obtain ⟨e1, e2, e3⟩ := pB rfl
    have e4 := pX (by decide) (by decide)
    obtain rfl := hd (.inl rfl)
    obtain ⟨rfl, rfl⟩ : aq = false ∧ rl = false := by rcases ho with o | o | o; exact absurd o (by decide); exact absurd o (by decide); exact o
    clear p1 p6 p7 p5 pU pJ pX pB pS pI pH pY h1 h2 hd ho
    simp only [immOk] at hi
    simp at hi
    have es : sgn 13 (immB Z) = v := by
      refine sgn13 _ v ?_ hi.1 hi.2.1
      unfold immB
      rw [b4, b7, b5, b6, e1, e3]
      have g7 := fb v 4096 2 2 rfl (by decide); have g8 := fb v 32 64 64 rfl (by decide); have g9 := fb v 2 16 16 rfl (by decide); have g10 := fb v 2048 2 2 rfl (by decide)
      rw [show (fi v 4096 2 * 64 + fi v 32 64) / 64 = fi v 4096 2 by omega, show (fi v 4096 2 * 64 + fi v 32 64) % 64 = fi v 32 64 by omega, show (fi v 2 16 * 2 + fi v 2048 2) % 2 = fi v 2048 2 by omega, show (fi v 2 16 * 2 + fi v 2048 2) / 2 = fi v 2 16 by omega]
      clear g7 g8 g9 g10 a1 a2 a3 a4 a5 a6 b1 b2 b3 b4 b5 b6 b7 c1 c2 c3 e1 e2 e3 e4
      unfold fi; omega
    show (op, (0 : Int), ((fld Z 19 15 : Nat) : Int), ((fld Z 24 20 : Nat) : Int), sgn 13 (immB Z), false, false, len, raw) = _
    rw [es, a2, a3, e2, e4]; rfl
  · obtain ⟨e1, e2, e3⟩ := pS rfl
    have e4 := pX (by decide) (by decide)
    obtain rfl := hd (.inr (.inl rfl))
    obtain ⟨rfl, rfl⟩ : aq = false ∧ rl = false := by rcases ho with o | o | o; exact absurd o (by decide); exact absurd o (by decide); exact o
    clear p1 p6 p7 p5 pU pJ pX pB pS pI pH pY h1 h2 hd ho
    simp only [immOk] at hi
    simp at hi
    have es : sgn 12 (immS Z) = v := by
      refine sgn12 _ v ?_ hi.1 hi.2
      unfold immS
      rw [a4, a1, e1, e3]; unfold fi; omega
    show (op, (0 : Int), ((fld Z 19 15 : Nat) : Int), ((fld Z 24 20 : Nat) : Int), sgn 12 (immS Z), false, false, len, raw) = _
    rw [es, a2, a3, e2, e4]; rfl
  · obtain ⟨e1, e2⟩ := pY (.inl rfl)
    have e4 := pX (by decide) (by decide)
    obtain ⟨rfl, rfl⟩ : aq = false ∧ rl = false := by rcases ho with o | o | o; exact absurd o (by decide); exact absurd o (by decide); exact o
    obtain rfl : v = 0 := by simpa [immOk] using hi
    show (op, ((fld Z 11 7 : Nat) : Int), ((fld Z 19 15 : Nat) : Int), ((fld Z 24 20 : Nat) : Int), (0 : Int), false, false, len, raw) = _
    rw [a1, a2, a3, e1, e2, e4]
  · obtain ⟨e1, e2⟩ := pH (.inl rfl)
    have e3 := (p6 rfl).2
    have e4 := pX (by decide) (by decide)
    obtain rfl : rs2 = 0 := by clear p1 p6 p7 p5 pU pJ pX pB pS pI pH pY; omega
    obtain ⟨rfl, rfl⟩ : aq = false ∧ rl = false := by rcases ho with o | o | o; exact absurd o (by decide); exact absurd o (by decide); exact o
    clear p1 p6 p7 p5 pU pJ pX pB pS pI pH pY h1 h2 hd ho
    simp only [immOk] at hi
    simp at hi
    have es : ((fld Z 25 20 : Nat) : Int) = v := by
      rw [b1, e1]
      have g12 := fb v 32 2 2 rfl (by decide)
      simp only [formN, Bool.and_eq_true, Bool.or_eq_true, beq_iff_eq, bne_iff_ne] at hform
      have : t % 2 = fi v 32 2 := by clear a1 a2 a3 a4 a5 a6 b1 b2 b3 b4 b5 b6 b7 c1 c2 c3; omega
      rw [this]; clear hform this g12 e3; unfold fi; omega
    show (op, ((fld Z 11 7 : Nat) : Int), ((fld Z 19 15 : Nat) : Int), (0 : Int), ((fld Z 25 20 : Nat) : Int), false, false, len, raw) = _
    rw [es, a1, a2, e2, e4]; rfl
  · obtain ⟨e1, e2⟩ := pH (.inr rfl)
    have e4 := pX (by decide) (by decide)
    obtain rfl : rs2 = 0 := by clear p1 p6 p7 p5 pU pJ pX pB pS pI pH pY; omega
    obtain ⟨rfl, rfl⟩ : aq = false ∧ rl = false := by rcases ho with o | o | o; exact absurd o (by decide); exact absurd o (by decide); exact o
    clear p1 p6 p7 p5 pU pJ pX pB pS pI pH pY h1 h2 hd ho
    simp only [immOk] at hi
    simp at hi
    have es : ((fld Z 24 20 : Nat) : Int) = v := by
      rw [a3, e1]; unfold fi; omega
    show (op, ((fld Z 11 7 : Nat) : Int), ((fld Z 19 15 : Nat) : Int), (0 : Int), ((fld Z 24 20 : Nat) : Int), false, false, len, raw) = _
    rw [es, a1, a2, e2, e4]; rfl
  · obtain ⟨e1, e2, e3⟩ := pI (.inr rfl)
    have e4 := pX (by decide) (by decide)
    obtain rfl : rs2 = 0 := by clear p1 p6 p7 p5 pU pJ pX pB pS pI pH pY; omega
    obtain ⟨rfl, rfl⟩ : aq = false ∧ rl = false := by rcases ho with o | o | o; exact absurd o (by decide); exact absurd o (by decide); exact o
    clear p1 p6 p7 p5 pU pJ pX pB pS pI pH pY h1 h2 hd ho
    simp only [immOk] at hi
    simp at hi
    have es : ((fld Z 31 20 : Nat) : Int) = v := by
      rw [a5, e1, e2]; unfold fi; omega
    show (op, ((fld Z 11 7 : Nat) : Int), ((fld Z 19 15 : Nat) : Int), (0 : Int), ((fld Z 31 20 : Nat) : Int), false, false, len, raw) = _
    rw [es, a1, a2, e3, e4]; rfl
  · obtain ⟨e1, e2⟩ := pY (.inr (.inl rfl))
    have e4 := pX (by decide) (by decide)
    obtain rfl : v = 0 := by simpa [immOk] using hi
    have e3 := (p5 (.inl rfl)).2
    simp only [formN, Bool.and_eq_true, Bool.or_eq_true, beq_iff_eq, bne_iff_ne] at hform
    have e5 : (((fld Z 26 26 : Nat) : Int) == 1) = aq := by
      rw [b2, e3]; clear p1 p6 p7 p5 pU pJ pX pB pS pI pH pY a1 a2 a3 a4 a5 a6 b1 b2 b3 b4 b5 b6 b7 c1 c2 c3
      cases aq <;> cases rl <;> simp <;> omega
    have e6 : (((fld Z 25 25 : Nat) : Int) == 1) = rl := by
      rw [b3, e3]; clear p1 p6 p7 p5 pU pJ pX pB pS pI pH pY a1 a2 a3 a4 a5 a6 b1 b2 b3 b4 b5 b6 b7 c1 c2 c3
      cases aq <;> cases rl <;> simp <;> omega
    show (op, ((fld Z 11 7 : Nat) : Int), ((fld Z 19 15 : Nat) : Int), ((fld Z 24 20 : Nat) : Int), (0 : Int), (((fld Z 26 26 : Nat) : Int) == 1), (((fld Z 25 25 : Nat) : Int) == 1), len, raw) = _
    rw [e5, e6, a1, a2, a3, e1, e2, e4]
  · obtain ⟨e1, e2⟩ := pY (.inr (.inr rfl))
    have e4 := pX (by decide) (by decide)
    obtain rfl : v = 0 := by simpa [immOk] using hi
    have e3 := (p5 (.inr rfl)).2
    simp only [formN, Bool.and_eq_true, Bool.or_eq_true, beq_iff_eq, bne_iff_ne] at hform
    have e5 : (((fld Z 26 26 : Nat) : Int) == 1) = aq := by
      rw [b2, e3]; clear p1 p6 p7 p5 pU pJ pX pB pS pI pH pY a1 a2 a3 a4 a5 a6 b1 b2 b3 b4 b5 b6 b7 c1 c2 c3
      cases aq <;> cases rl <;> simp <;> omega
    have e6 : (((fld Z 25 25 : Nat) : Int) == 1) = rl := by
      rw [b3, e3]; clear p1 p6 p7 p5 pU pJ pX pB pS pI pH pY a1 a2 a3 a4 a5 a6 b1 b2 b3 b4 b5 b6 b7 c1 c2 c3
      cases aq <;> cases rl <;> simp <;> omega
    show (op, ((fld Z 11 7 : Nat) : Int), ((fld Z 19 15 : Nat) : Int), ((fld Z 24 20 : Nat) : Int), (0 : Int), (((fld Z 26 26 : Nat) : Int) == 1), (((fld Z 25 25 : Nat) : Int) == 1), len, raw) = _
    rw [e5, e6, a1, a2, a3, e1, e2, e4]
theorem dec_enc (op : Int) (n B rd rs1 rs2 : Nat) (v : Int) (aq rl : Bool) (hz : encode_formOf.f op = some ((n : Int), (B : Int), true)) (hv : Val n B rd rs1 rs2 v aq rl) (hL : n = 11 → rs2 = 0) (len raw : Int) :
    decN (encT n B rd rs1 rs2 v aq rl) len raw = (op, (rd : Int), (rs1 : Int), (rs2 : Int), v, aq, rl, len, raw) := by
  obtain ⟨_, _, f, hf, h1, h2, _⟩ := find_enc op n B rd rs1 rs2 v aq rl hz hv hL
  unfold decN
  rw [hf]
  show fillN f.shape _ f.op len raw = _
  rw [h1, h2]
  exact fill_enc op n B rd rs1 rs2 v aq rl hv hL len raw
end Go.Proofs.YtiibhggjlandmaaDoor.Pure
