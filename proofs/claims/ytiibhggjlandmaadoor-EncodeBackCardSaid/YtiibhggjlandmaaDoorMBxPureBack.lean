/- Texts of this claim, put together by a program: PureBack. -/
import Derived.Test.YtiibhggjlandmaaDoorMB33
import Derived.Test.YtiibhggjlandmaaDoorMBxPLBack
/- EncodeBack in plain numbers: whatever decodes is encoded again as the same bits, or as what it stands for. No condition. -/
namespace Go.Proofs.YtiibhggjlandmaaDoor.Pure
open Go.RowKit Go.Proofs.YtiibhggjlandmaaDoorW.PrintWords Go.Proofs.YtiibhggjlandmaaDoorW.PrintMore Go.Proofs.YtiibhggjlandmaaDoor.PB Go.Proofs.YtiibhggjlandmaaDoor.PD Go.Proofs.YtiibhggjlandmaaDoor.PK Go.Proofs.YtiibhggjlandmaaDoor.Mth
open Go.Proofs.YtiibhggjlandmaaDoor.PF (encode_formOf.f encode_Check.f findT formT hasL)
open Go.Proofs.YtiibhggjlandmaaDoor.PL (encode_Encode.f encode_scatter.f)
open Go.Proofs.YtiibhggjlandmaaDoor.TR (tryL)
open Go.Proofs.YtiibhggjlandmaaDoor.Enc (W6 fi fb Val immOk encT formN)
set_option linter.unusedVariables false
set_option linter.unusedSimpArgs false
theorem live_l9 : anvillaw06_live.f 2299 = some true := by decide +kernel
theorem form_0 (n B : Int) : encode_formOf.f 0 ≠ some (n, B, true) := by
  have : (encode_formOf.f 0).map (fun z => z.2.2) = some false := by decide +kernel
  intro h
  rw [h] at this
  exact absurd this (by simp)
theorem sameB_eq' (D : Rec) (op rd rs1 rs2 v : Int) (aq rl : Bool) (h : sameB D op rd rs1 rs2 v aq rl = true) :
    D.1 = op ∧ D.2.1 = rd ∧ D.2.2.1 = rs1 ∧ D.2.2.2.1 = rs2 ∧ D.2.2.2.2.1 = v ∧ D.2.2.2.2.2.1 = aq ∧ D.2.2.2.2.2.2.1 = rl := by
  unfold sameB at h
  simp only [Bool.and_eq_true, beq_iff_eq] at h
  obtain ⟨h1, h2, h3, h4, h5, h6, h7, _⟩ := h
  exact ⟨h1, h2, h3, h4, h5, h6, h7⟩
/-- What a legal parcel stands for is found, at it or below it, with the same word. -/
theorem found (p e : Nat) (op rd rs1 rs2 v : Int) (aq rl : Bool) (hp : p < 65536) (he : decode_Expand.f 2020 (p : Int) = some ((e : Int), true)) (h3 : p % 4 ≠ 3) (hd : dcd p = (op, rd, rs1, rs2, v, aq, rl, 2, (p : Int)))
    (q : Nat) (hq : q ≤ p) (hq3 : q % 4 ≠ 3) (hqe : decode_Expand.f 2020 (q : Int) = some ((e : Int), true)) (ht : (q : Int) ∈ tryL op rd rs1 rs2 v) :
    ∃ b : Nat, compL op rd rs1 rs2 v aq rl = ((b : Int), true) ∧ b ≤ p ∧ b % 4 ≠ 3 ∧ sameB (dcd b) op rd rs1 rs2 v aq rl = true := by
  have dn : ∀ x : Nat, x < 65536 → x % 4 ≠ 3 → decode_Expand.f 2020 (x : Int) = some ((e : Int), true) → dcd x = decN e 2 (x : Int) := fun x hx hx3 hxe => by
    rcases dcd_ok x hx hx3 with ⟨a, _⟩ | ⟨e', a, _, _, b⟩
    · rw [hxe] at a; exact absurd (congrArg (fun z => z.map Prod.snd) a) (by simp)
    · rw [hxe] at a
      have : e = e' := by have := congrArg (fun z => (z.map Prod.fst).getD 0) a; simp only [Option.map_some, Option.getD_some] at this; omega
      subst this
      unfold dcd; rw [b]; rfl
  have hs : sameB (dcd q) op rd rs1 rs2 v aq rl = true := by
    have a := dn p hp h3 he
    have b := dn q (by omega) hq3 hqe
    rw [hd] at a
    rw [b]
    unfold decN at a ⊢
    cases hf : findF (e : Int) formsL with
    | none =>
      rw [hf] at a
      injection a with a0 a; injection a with a1 a; injection a with a2 a; injection a with a3 a; injection a with a4 a; injection a with a5 a; injection a with a6 a
      subst a0 a1 a2 a3 a4 a5 a6
      rfl
    | some f =>
      rw [hf] at a
      obtain ⟨A, B, C, D, E, F, hs⟩ := fillN_split f.shape e f.op
      simp only [hs] at a ⊢
      injection a with a0 a; injection a with a1 a; injection a with a2 a; injection a with a3 a; injection a with a4 a; injection a with a5 a; injection a with a6 a
      subst a0 a1 a2 a3 a4 a5 a6
      simp [sameB]
  cases hc : (compL op rd rs1 rs2 v aq rl).2 with
  | false =>
    have := (compL_no _ _ _ _ _ _ _ hc).2 q ht
    rw [hs] at this; exact absurd this (by decide)
  | true =>
    obtain ⟨b, b0, b1, b2, b3, b4⟩ := compL_yes _ _ _ _ _ _ _ hc
    exact ⟨b, by rw [← b0, ← hc], Nat.le_trans (b4 q ht hs) hq, b2, b3⟩

theorem check_0 (rd rs1 rs2 v : Int) (aq rl : Bool) (len raw : Int) : encode_Check.f 0 rd rs1 rs2 v aq rl len raw = some 60 := by
  have h : encode_formOf.f 0 = some (0, 0, false) := by decide +kernel
  unfold encode_Check.f
  rw [h, Option.bind_some, if_neg (by decide)]
/-- A long one: nothing, or a record that can be, encoded as it. -/
theorem longer (r : Nat) (hr : r < 4294967296) :
    (∃ rd rs1 rs2 v : Int, ∃ aq rl : Bool, decN r 4 (r : Int) = (0, rd, rs1, rs2, v, aq, rl, 4, (r : Int))) ∨
    ∃ op rd rs1 rs2 v : Int, ∃ aq rl : Bool, op ≠ 0 ∧ decN r 4 (r : Int) = (op, rd, rs1, rs2, v, aq, rl, 4, (r : Int)) ∧ (∀ len raw, encode_Check.f op rd rs1 rs2 v aq rl len raw = some 0) ∧ (∀ k len raw, 12 ≤ k → encode_Encode.f k op rd rs1 rs2 v aq rl len raw = some ((r : Int), 0)) := by
  unfold decN
  cases hf : findF (r : Int) formsL with
  | none => exact Or.inl ⟨0, 0, 0, 0, false, false, rfl⟩
  | some f =>
    obtain ⟨n, B, rd, rs1, rs2, v, aq, rl, g1, g2, g3, g4⟩ := enc_dec r hr f hf 4 (r : Int)
    have hc : ∀ len raw, encode_Check.f f.op rd rs1 rs2 v aq rl len raw = some 0 := fun len raw => check_of _ n B rd rs1 rs2 v aq rl len raw g2 g3
    refine Or.inr ⟨f.op, rd, rs1, rs2, v, aq, rl, ?_, g1, hc, fun k len raw hk => ?_⟩
    · have := ops_ok f (findF_mem hf).1; omega
    · obtain ⟨n', B', RD, R1, R2, z, e1, e2, e3, hv, en⟩ := Go.Proofs.YtiibhggjlandmaaDoor.Enc.enc_ok k hk _ _ _ _ _ _ _ _ _ (hc len raw)
      rw [en]
      have := g2.symm.trans z
      injection this with this
      have a := congrArg Prod.fst this
      have b := congrArg (fun z => z.2.1) this
      simp only at a b
      rw [← g4, show n' = n by omega, show B' = B by omega, show RD = rd by omega, show R1 = rs1 by omega, show R2 = rs2 by omega]
theorem exp_at (k : Nat) (hk : 2020 ≤ k) (p : Nat) (r : Int × Bool) (h : decode_Expand.f 2020 (p : Int) = some r) : decode_Expand.f k (p : Int) = some r :=
  at_rounds (g := fun k => decode_Expand.f k (p : Int)) (decode_Expand.mono _) hk h
theorem Back_true (n : Nat) (hn : n < 4294967296) : anvillaw06_EncodeBack.f 2300 (n : Int) = some true := by
  unfold anvillaw06_EncodeBack.f
  by_cases h3 : n % 4 = 3
  · rw [decode_long (by decide) n hn h3, Option.bind_some, live_ok, Option.bind_some, if_pos rfl]
    rcases longer n hn with ⟨rd, rs1, rs2, v, aq, rl, hd⟩ | ⟨op, rd, rs1, rs2, v, aq, rl, h0, hd, hc, he⟩
    · rw [hd]
      simp only []
      rw [anvillaw06_EncodeBack.j0, if_pos (by decide), live_l9, Option.bind_some, if_pos rfl, check_0, Option.bind_some]
      rfl
    · rw [hd]
      simp only []
      rw [anvillaw06_EncodeBack.j0, if_neg (by simp [h0]), hc, Option.bind_some, if_pos rfl, he _ _ _ (by decide), Option.bind_some, and32_3 n hn, h3]
      simp
  · have hm : n % 65536 < 65536 := by omega
    have h4 : (n % 65536) % 4 ≠ 3 := by omega
    generalize hp : n % 65536 = p at hm h4
    have hD : decode_Decode.f 2300 (n : Int) = some (dcd p) := by
      have hx : ∀ e b, decode_Expand.f 2020 (p : Int) = some (e, b) → decode_Expand.f 2300 ((n % 65536 : Nat) : Int) = some (e, b) := fun e b h => by
        rw [hp]; exact exp_at 2300 (by decide) p _ h
      have dp := dcd_some p hm h4
      rcases okP_get (okP_all p hm) with h | ⟨e, h, _, _, he, _⟩
      · have a := decode_short (k := 2300) (by decide) n 0 false hn (by decide) h3 (hx _ _ h)
        have b := decode_short (k := 2020) (by decide) p 0 false (by omega) (by decide) h4 (by rw [Nat.mod_eq_of_lt hm]; exact h)
        rw [Nat.mod_eq_of_lt hm] at b
        rw [a, hp, ← b, dp]
      · have a := decode_short (k := 2300) (by decide) n e true hn he h3 (hx _ _ h)
        have b := decode_short (k := 2020) (by decide) p e true (by omega) he h4 (by rw [Nat.mod_eq_of_lt hm]; exact h)
        rw [Nat.mod_eq_of_lt hm] at b
        rw [a, hp, ← b, dp]
    rw [hD, Option.bind_some, live_ok, Option.bind_some, if_pos rfl]
    rcases parcel p hm h4 with ⟨_, hd⟩ | ⟨e, op, rd, rs1, rs2, v, aq, rl, he, e3, e4, hd, hck, hen, q, hq, hqe, hqt⟩
    · rw [hd]
      simp only []
      rw [anvillaw06_EncodeBack.j0, if_pos (by decide), live_l9, Option.bind_some, if_pos rfl, check_0, Option.bind_some]
      rfl
    · have hop : ¬ op = 0 := fun hh => by
        subst hh
        have := hck 0 0
        rw [check_0] at this
        exact absurd this (by simp)
      have hq3 : q % 4 ≠ 3 := fun hh => by
        rcases okP_get (okP_all q (by omega)) with a | ⟨_, _, a, _⟩
        · rw [hqe] at a; exact absurd (congrArg (fun z => z.map Prod.snd) a) (by simp)
        · exact a hh
      obtain ⟨b, hb, b1, b2, b3⟩ := found p e op rd rs1 rs2 v aq rl hm he h4 hd q hq hq3 hqe hqt
      have hE : ∀ k len raw, 12 ≤ k → encode_Encode.f k op rd rs1 rs2 v aq rl len raw = some ((e : Int), 0) := fun k len raw hk => by
        obtain ⟨n', B', RD, R1, R2, z, e1, e2, e3, hv, en⟩ := Go.Proofs.YtiibhggjlandmaaDoor.Enc.enc_ok k hk _ _ _ _ _ _ _ _ _ (hck len raw)
        obtain ⟨n2, B2, RD2, R12, R22, z2, e12, e22, e32, hv2, en2⟩ := Go.Proofs.YtiibhggjlandmaaDoor.Enc.enc_ok 2300 (by decide) _ _ _ _ _ _ _ _ _ (hck len raw)
        have := z.symm.trans z2
        injection this with this
        have a := congrArg Prod.fst this
        have b := congrArg (fun z => z.2.1) this
        simp only at a b
        rw [en, ← hen len raw, en2, show n' = n2 by omega, show B' = B2 by omega, show RD = RD2 by omega, show R1 = R12 by omega, show R2 = R22 by omega]
      have hbd := sameB_eq' _ _ _ _ _ _ _ _ b3
      have hbE : decode_Expand.f 2020 (b : Int) = some ((e : Int), true) := by
        rcases parcel b (by omega) b2 with ⟨_, hd2⟩ | ⟨e', op', rd', rs1', rs2', v', aq', rl', he', _, _, hd2, _, hen', _⟩
        · rw [hd2] at hbd; exact absurd hbd.1.symm hop
        · rw [hd2] at hbd
          obtain ⟨rfl, rfl, rfl, rfl, rfl, rfl, rfl⟩ := hbd
          have := (hen' 0 0).symm.trans (hen 0 0)
          injection this with this
          have := congrArg Prod.fst this
          simp only at this
          rw [he', this]
      rw [hd]
      simp only []
      rw [anvillaw06_EncodeBack.j0, if_neg (by simp [hop]), hck, Option.bind_some, if_pos rfl, hE _ _ _ (by decide), Option.bind_some, and32_3 n hn]
      simp only [if_true]
      rw [if_neg (by omega), u16_wrap, hp, exp_at 2299 (by decide) p _ he, Option.bind_some, comp_ok 2299 (by decide) _ _ _ _ _ _ _ _ _ (hck _ _), Option.bind_some, hb]
      simp only [if_true]
      rw [show decide ((b : Int) > (p : Int)) = false from decide_eq_false (by omega), anvillaw06_EncodeBack.j1, if_neg (by decide), exp_at 2298 (by decide) b _ hbE, Option.bind_some]
      simp only [if_true]
      rw [show (b : Int) % 4294967296 = b by omega, at_rounds (g := fun k => decode_Decode.f k (b : Int)) (decode_Decode.mono _) (by decide) (dcd_some b (by omega) b2), Option.bind_some]
      unfold anvillaw06_bare.f
      simp only [Option.bind_some]
      obtain ⟨s1, s2, s3, s4, s5, s6, s7⟩ := hbd
      rw [s1, s2, s3, s4, s5, s6, s7]
      simp
theorem EncodeBack (a0 : Int) (h0 : 0 ≤ a0) (h1 : a0 ≤ 4294967295) : ∃ k, anvillaw06_EncodeBack.f k a0 = some true := by
  obtain ⟨n, rfl⟩ : ∃ m : Nat, a0 = (m : Int) := ⟨a0.toNat, by omega⟩
  exact ⟨2300, Back_true n (by omega)⟩
end Go.Proofs.YtiibhggjlandmaaDoor.Pure
