/- Texts of this claim, put together by a program: PureLeast. -/
import Derived.Test.YtiibhggjlandmaaDoorMB33
import Derived.Test.YtiibhggjlandmaaDoorMBxPLLeast
/- EncodeLeast in plain numbers: the parcel that Compress finds is the least. No condition. -/
namespace Go.Proofs.YtiibhggjlandmaaDoor.Pure
open Go.RowKit Go.Proofs.YtiibhggjlandmaaDoorW.PrintWords Go.Proofs.YtiibhggjlandmaaDoorW.PrintMore Go.Proofs.YtiibhggjlandmaaDoor.PB Go.Proofs.YtiibhggjlandmaaDoor.PD Go.Proofs.YtiibhggjlandmaaDoor.PK Go.Proofs.YtiibhggjlandmaaDoor.Mth
open Go.Proofs.YtiibhggjlandmaaDoor.PF (encode_formOf.f encode_Check.f findT formT hasL)
open Go.Proofs.YtiibhggjlandmaaDoor.PL (encode_Encode.f encode_scatter.f)
open Go.Proofs.YtiibhggjlandmaaDoor.TR (tryL)
open Go.Proofs.YtiibhggjlandmaaDoor.Enc (W6 fi fb Val immOk encT formN)
set_option linter.unusedVariables false
set_option linter.unusedSimpArgs false
theorem live_l9 : anvillaw06_live.f 2299 = some true := by decide +kernel
theorem form_0 (n B : Int) : encode_formOf.f 0 ≠ some (n, B, true) := by
  have : (encode_formOf.f 0).map (fun z => z.2.2) = some false := by decide +kernel
  intro h
  rw [h] at this
  exact absurd this (by simp)
theorem sameB_eq' (D : Rec) (op rd rs1 rs2 v : Int) (aq rl : Bool) (h : sameB D op rd rs1 rs2 v aq rl = true) :
    D.1 = op ∧ D.2.1 = rd ∧ D.2.2.1 = rs1 ∧ D.2.2.2.1 = rs2 ∧ D.2.2.2.2.1 = v ∧ D.2.2.2.2.2.1 = aq ∧ D.2.2.2.2.2.2.1 = rl := by
  unfold sameB at h
  simp only [Bool.and_eq_true, beq_iff_eq] at h
  obtain ⟨h1, h2, h3, h4, h5, h6, h7, _⟩ := h
  exact ⟨h1, h2, h3, h4, h5, h6, h7⟩
/-- What a legal parcel stands for is found, at it or below it, with the same word. -/
theorem found (p e : Nat) (op rd rs1 rs2 v : Int) (aq rl : Bool) (hp : p < 65536) (he : decode_Expand.f 2020 (p : Int) = some ((e : Int), true)) (h3 : p % 4 ≠ 3) (hd : dcd p = (op, rd, rs1, rs2, v, aq, rl, 2, (p : Int)))
    (q : Nat) (hq : q ≤ p) (hq3 : q % 4 ≠ 3) (hqe : decode_Expand.f 2020 (q : Int) = some ((e : Int), true)) (ht : (q : Int) ∈ tryL op rd rs1 rs2 v) :
    ∃ b : Nat, compL op rd rs1 rs2 v aq rl = ((b : Int), true) ∧ b ≤ p ∧ b % 4 ≠ 3 ∧ sameB (dcd b) op rd rs1 rs2 v aq rl = true := by
  have dn : ∀ x : Nat, x < 65536 → x % 4 ≠ 3 → decode_Expand.f 2020 (x : Int) = some ((e : Int), true) → dcd x = decN e 2 (x : Int) := fun x hx hx3 hxe => by
    rcases dcd_ok x hx hx3 with ⟨a, _⟩ | ⟨e', a, _, _, b⟩
    · rw [hxe] at a; exact absurd (congrArg (fun z => z.map Prod.snd) a) (by simp)
    · rw [hxe] at a
      have : e = e' := by have := congrArg (fun z => (z.map Prod.fst).getD 0) a; simp only [Option.map_some, Option.getD_some] at this; omega
      subst this
      unfold dcd; rw [b]; rfl
  have hs : sameB (dcd q) op rd rs1 rs2 v aq rl = true := by
    have a := dn p hp h3 he
    have b := dn q (by omega) hq3 hqe
    rw [hd] at a
    rw [b]
    unfold decN at a ⊢
    cases hf : findF (e : Int) formsL with
    | none =>
      rw [hf] at a
      injection a with a0 a; injection a with a1 a; injection a with a2 a; injection a with a3 a; injection a with a4 a; injection a with a5 a; injection a with a6 a
      subst a0 a1 a2 a3 a4 a5 a6
      rfl
    | some f =>
      rw [hf] at a
      obtain ⟨A, B, C, D, E, F, hs⟩ := fillN_split f.shape e f.op
      simp only [hs] at a ⊢
      injection a with a0 a; injection a with a1 a; injection a with a2 a; injection a with a3 a; injection a with a4 a; injection a with a5 a; injection a with a6 a
      subst a0 a1 a2 a3 a4 a5 a6
      simp [sameB]
  cases hc : (compL op rd rs1 rs2 v aq rl).2 with
  | false =>
    have := (compL_no _ _ _ _ _ _ _ hc).2 q ht
    rw [hs] at this; exact absurd this (by decide)
  | true =>
    obtain ⟨b, b0, b1, b2, b3, b4⟩ := compL_yes _ _ _ _ _ _ _ hc
    exact ⟨b, by rw [← b0, ← hc], Nat.le_trans (b4 q ht hs) hq, b2, b3⟩

theorem Least_true (op rd rs1 rs2 v : Int) (aq rl : Bool) (len raw : Int) (n : Nat) (hn : n < 65536) : anvillaw06_EncodeLeast.f 2300 op rd rs1 rs2 v aq rl len raw (n : Int) = some true := by
  obtain ⟨c, hc, _⟩ := check_tot op rd rs1 rs2 v aq rl len raw
  have hC : ∀ k, 2100 ≤ k → encode_Compress.f k op rd rs1 rs2 v aq rl len raw = some (if c = 0 then compL op rd rs1 rs2 v aq rl else (0, false)) := fun k hk => by
    by_cases h : c = 0
    · subst h; rw [if_pos rfl]; exact comp_ok k hk _ _ _ _ _ _ _ _ _ hc
    · rw [if_neg h]; exact comp_bad k _ _ _ _ _ _ _ _ _ c hc h
  unfold anvillaw06_EncodeLeast.f
  rw [hC 2300 (by decide), Option.bind_some, live_ok, Option.bind_some, if_pos rfl, and16_3 n hn]
  generalize hR : (if c = 0 then compL op rd rs1 rs2 v aq rl else (0, false)) = R
  have hX : R.2 = true → c = 0 ∧ ∃ p : Nat, R.1 = (p : Int) ∧ sameB (dcd p) op rd rs1 rs2 v aq rl = true := fun h => by
    by_cases h0 : c = 0
    · rw [if_pos h0] at hR; subst hR
      obtain ⟨p, e, _, _, p3, _⟩ := compL_yes _ _ _ _ _ _ _ h
      exact ⟨h0, p, e, p3⟩
    · rw [if_neg h0] at hR; subst hR; exact absurd h (by decide)
  rw [anvillaw06_EncodeLeast.j0]
  by_cases h3 : n % 4 = 3
  · rw [h3, if_pos (by decide), live_l9, Option.bind_some]
  · rw [if_neg (by rw [beq_iff_eq]; omega), show (n : Int) % 4294967296 = n by omega]
    rw [at_rounds (g := fun k => decode_Decode.f k (n : Int)) (decode_Decode.mono _) (by decide) (dcd_some n hn h3), Option.bind_some]
    rcases parcel n hn h3 with ⟨_, hd⟩ | ⟨e, op', rd', rs1', rs2', v', aq', rl', he, e3, e4, hd, hck, _, q, hq, hqe, hqt⟩
    · rw [hd, if_pos rfl]
      cases hf : R.2 with
      | false => simp
      | true =>
        obtain ⟨h0, p, hp, hs⟩ := hX hf
        rw [if_pos rfl, hp]
        have : ((p : Int) != (n : Int)) = true := by
          rw [bne_iff_ne]; intro hh
          have : p = n := by omega
          subst this
          have := (sameB_eq' _ _ _ _ _ _ _ _ hs).1
          rw [hd] at this
          subst h0
          obtain ⟨n', B, _, _, _, hz, _⟩ := Go.Proofs.YtiibhggjlandmaaDoor.Enc.enc_ok 2300 (by decide) _ _ _ _ _ _ _ _ _ hc
          rw [← this] at hz
          exact form_0 _ _ hz
        rw [this]
    · have hq3 : q % 4 ≠ 3 := fun hh => by
        rcases okP_get (okP_all q (by omega)) with a | ⟨_, _, a, _⟩
        · rw [hqe] at a; exact absurd (congrArg (fun z => z.map Prod.snd) a) (by simp)
        · exact a hh
      obtain ⟨b, hb, b1, b2, b3⟩ := found n e op' rd' rs1' rs2' v' aq' rl' hn he h3 hd q hq hq3 hqe hqt
      have hop : ¬ op' = 0 := fun hh => by
        subst hh
        obtain ⟨n', B, _, _, _, hz, _⟩ := Go.Proofs.YtiibhggjlandmaaDoor.Enc.enc_ok 2300 (by decide) _ _ _ _ _ _ _ _ _ (hck 0 0)
        exact form_0 _ _ hz
      rw [hd]
      simp only []
      rw [if_neg hop, comp_ok 2299 (by decide) _ _ _ _ _ _ _ _ _ (hck 2 (n : Int)), Option.bind_some, hb]
      simp only [if_true]
      rw [show decide ((b : Int) > (n : Int)) = false from decide_eq_false (by omega), anvillaw06_EncodeLeast.j1, if_neg (by decide)]
      unfold anvillaw06_bare.f
      simp only [Option.bind_some]
      by_cases S : op' = op ∧ rd' = rd ∧ rs1' = rs1 ∧ rs2' = rs2 ∧ v' = v ∧ aq' = aq ∧ rl' = rl
      · obtain ⟨rfl, rfl, rfl, rfl, rfl, rfl, rfl⟩ := S
        have h0 : c = 0 := by have := hc.symm.trans (hck len raw); injection this
        rw [if_pos h0, hb] at hR
        subst hR
        simp
        omega
      · have hS : (!(op' == op) || (!(rd' == rd) || (!(rs1' == rs1) || (!(rs2' == rs2) || (!(v' == v) || (!(aq' == aq) || (!(rl' == rl) || (!((0 : Int) == 0) || (!((0 : Int) == 0)))))))))) = true := by
          rw [← Bool.not_eq_false]
          intro hh
          simp only [Bool.or_eq_false_iff, Bool.not_eq_false', beq_iff_eq] at hh
          obtain ⟨s1, s2, s3, s4, s5, s6, s7, _⟩ := hh
          exact S ⟨s1, s2, s3, s4, s5, s6, s7⟩
        rw [if_pos hS]
        cases hf : R.2 with
        | false => simp
        | true =>
          obtain ⟨h0, p, hp, hs⟩ := hX hf
          rw [if_pos rfl, hp]
          have : ((p : Int) != (n : Int)) = true := by
            rw [bne_iff_ne]; intro hh
            have : p = n := by omega
            subst this
            have := sameB_eq' _ _ _ _ _ _ _ _ hs
            rw [hd] at this
            exact S this
          rw [this]
theorem EncodeLeast (a0_0 a0_1 a0_2 a0_3 a0_4 : Int) (a0_5 a0_6 : Bool) (a0_7 a0_8 a1 : Int)
    (_ : -9223372036854775808 ≤ a0_0) (_ : a0_0 ≤ 9223372036854775807) (_ : -9223372036854775808 ≤ a0_1) (_ : a0_1 ≤ 9223372036854775807) (_ : -9223372036854775808 ≤ a0_2) (_ : a0_2 ≤ 9223372036854775807)
    (_ : -9223372036854775808 ≤ a0_3) (_ : a0_3 ≤ 9223372036854775807) (_ : -9223372036854775808 ≤ a0_4) (_ : a0_4 ≤ 9223372036854775807) (_ : -9223372036854775808 ≤ a0_7) (_ : a0_7 ≤ 9223372036854775807) (_ : 0 ≤ a0_8) (_ : a0_8 ≤ 4294967295)
    (h0 : 0 ≤ a1) (h1 : a1 ≤ 65535) :
    ∃ k, anvillaw06_EncodeLeast.f k a0_0 a0_1 a0_2 a0_3 a0_4 a0_5 a0_6 a0_7 a0_8 a1 = some true := by
  obtain ⟨n, rfl⟩ : ∃ m : Nat, a1 = (m : Int) := ⟨a1.toNat, by omega⟩
  exact ⟨2300, Least_true _ _ _ _ _ _ _ _ _ n (by omega)⟩
end Go.Proofs.YtiibhggjlandmaaDoor.Pure
