/- Texts of this claim, put together by a program: PureApart. -/
import Derived.Test.YtiibhggjlandmaaDoorMB29
import Derived.Test.YtiibhggjlandmaaDoorMBxPLApart
/- EncodeApart in plain numbers: two records with different bare parts have different words and different parcels. No condition. -/
namespace Go.Proofs.YtiibhggjlandmaaDoor.Pure
open Go.RowKit Go.Proofs.YtiibhggjlandmaaDoorW.PrintWords Go.Proofs.YtiibhggjlandmaaDoorW.PrintMore Go.Proofs.YtiibhggjlandmaaDoor.PB Go.Proofs.YtiibhggjlandmaaDoor.PD Go.Proofs.YtiibhggjlandmaaDoor.PK Go.Proofs.YtiibhggjlandmaaDoor.Mth
open Go.Proofs.YtiibhggjlandmaaDoor.PF (encode_formOf.f encode_Check.f findT formT hasL)
open Go.Proofs.YtiibhggjlandmaaDoor.PL (encode_Encode.f encode_scatter.f)
open Go.Proofs.YtiibhggjlandmaaDoor.Enc (W6 fi fb Val immOk encT formN)
set_option linter.unusedVariables false
set_option linter.unusedSimpArgs false
theorem live_ok9 : anvillaw06_live.f 2299 = some true := by decide +kernel
theorem apart_j0 (x y op rd rs1 rs2 v : Int) (aq rl : Bool) (len raw op' rd' rs1' rs2' v' : Int) (aq' rl' : Bool) (len' raw' : Int) :
    anvillaw06_EncodeApart.j0 2300 x y true op rd rs1 rs2 v aq rl len raw op' rd' rs1' rs2' v' aq' rl' len' raw' = some true := by
  rw [anvillaw06_EncodeApart.j0, if_pos rfl, live_ok9, Option.bind_some]
theorem sameB_eq (D : Rec) (op rd rs1 rs2 v : Int) (aq rl : Bool) (h : sameB D op rd rs1 rs2 v aq rl = true) :
    D.1 = op ∧ D.2.1 = rd ∧ D.2.2.1 = rs1 ∧ D.2.2.2.1 = rs2 ∧ D.2.2.2.2.1 = v ∧ D.2.2.2.2.2.1 = aq ∧ D.2.2.2.2.2.2.1 = rl := by
  unfold sameB at h
  simp only [Bool.and_eq_true, beq_iff_eq] at h
  obtain ⟨h1, h2, h3, h4, h5, h6, h7, _⟩ := h
  exact ⟨h1, h2, h3, h4, h5, h6, h7⟩
theorem enc_word (op rd rs1 rs2 v : Int) (aq rl : Bool) (len raw : Int) (h : encode_Check.f op rd rs1 rs2 v aq rl len raw = some 0) :
    ∃ W : Nat, encode_Encode.f 2300 op rd rs1 rs2 v aq rl len raw = some ((W : Int), 0) ∧ decN W 0 0 = (op, rd, rs1, rs2, v, aq, rl, 0, 0) ∧
      ∃ n B RD R1 R2 : Nat, encode_formOf.f op = some ((n : Int), (B : Int), true) ∧ rd = RD ∧ rs1 = R1 ∧ rs2 = R2 ∧ W = encT n B RD R1 R2 v aq rl := by
  obtain ⟨n, B, RD, R1, R2, hz, rfl, rfl, rfl, hv, he⟩ := Go.Proofs.YtiibhggjlandmaaDoor.Enc.enc_ok 2300 (by decide) _ _ _ _ _ _ _ _ _ h
  have hL : n = 11 → R2 = 0 := fun h => by have := hv.h2; omega
  exact ⟨_, he, dec_enc op n B RD R1 R2 v aq rl hz hv hL 0 0, n, B, RD, R1, R2, hz, rfl, rfl, rfl, rfl⟩
theorem Apart_true (op rd rs1 rs2 v : Int) (aq rl : Bool) (len raw op' rd' rs1' rs2' v' : Int) (aq' rl' : Bool) (len' raw' : Int) :
    anvillaw06_EncodeApart.f 2300 op rd rs1 rs2 v aq rl len raw op' rd' rs1' rs2' v' aq' rl' len' raw' = some true := by
  obtain ⟨c, hc, _⟩ := check_tot op rd rs1 rs2 v aq rl len raw
  obtain ⟨d, hd, _⟩ := check_tot op' rd' rs1' rs2' v' aq' rl' len' raw'
  unfold anvillaw06_EncodeApart.f
  by_cases hd0 : d = 0
  · subst hd0
    obtain ⟨W', e', w', n', B', RD', R1', R2', hz', q1', q2', q3', hW'⟩ := enc_word _ _ _ _ _ _ _ _ _ hd
    by_cases hc0 : c = 0
    · subst hc0
      obtain ⟨W, e, w, n, B, RD, R1, R2, hz, q1, q2, q3, hW⟩ := enc_word _ _ _ _ _ _ _ _ _ hc
      rw [e, Option.bind_some, e', Option.bind_some, live_ok, Option.bind_some, if_pos rfl, if_pos rfl]
      rw [show (((0 : Int) != 0)) = false from rfl, anvillaw06_EncodeApart.j0, if_neg (by decide), comp_ok 2299 (by decide) _ _ _ _ _ _ _ _ _ hc, Option.bind_some, comp_ok 2299 (by decide) _ _ _ _ _ _ _ _ _ hd, Option.bind_some]
      unfold anvillaw06_bare.f
      rw [Option.bind_some, Option.bind_some]
      by_cases S : op = op' ∧ rd = rd' ∧ rs1 = rs1' ∧ rs2 = rs2' ∧ v = v' ∧ aq = aq' ∧ rl = rl'
      · obtain ⟨rfl, rfl, rfl, rfl, rfl, rfl, rfl⟩ := S
        have hn : n = n' ∧ B = B' := by
          have := hz.symm.trans hz'
          injection this with this
          have a := congrArg Prod.fst this
          have b := congrArg (fun z => z.2.1) this
          simp only at a b
          exact ⟨by omega, by omega⟩
        have hWW : W = W' := by
          rw [hW, hW', hn.1, hn.2, show RD = RD' by omega, show R1 = R1' by omega, show R2 = R2' by omega]
        subst hWW
        simp
      · have hWW : ((W : Int) == (W' : Int)) = false := by
          rw [beq_eq_false_iff_ne]
          intro hh
          have : W = W' := by omega
          subst this
          have := w.symm.trans w'
          apply S
          have a1 := congrArg (fun z => z.1) this
          have a2 := congrArg (fun z => z.2.1) this
          have a3 := congrArg (fun z => z.2.2.1) this
          have a4 := congrArg (fun z => z.2.2.2.1) this
          have a5 := congrArg (fun z => z.2.2.2.2.1) this
          have a6 := congrArg (fun z => z.2.2.2.2.2.1) this
          have a7 := congrArg (fun z => z.2.2.2.2.2.2.1) this
          exact ⟨a1, a2, a3, a4, a5, a6, a7⟩
        have hS : (op == op' && (rd == rd' && (rs1 == rs1' && (rs2 == rs2' && (v == v' && (aq == aq' && (rl == rl' && ((0 : Int) == 0 && ((0 : Int) == 0))))))))) = false := by
          rw [Bool.eq_false_iff]
          intro hh
          simp only [Bool.and_eq_true, beq_iff_eq] at hh
          obtain ⟨h1, h2, h3, h4, h5, h6, h7, _⟩ := hh
          exact S ⟨h1, h2, h3, h4, h5, h6, h7⟩
        show (if (((W : Int) == (W' : Int)) != (op == op' && (rd == rd' && (rs1 == rs1' && (rs2 == rs2' && (v == v' && (aq == aq' && (rl == rl' && ((0 : Int) == 0 && ((0 : Int) == 0)))))))))) = true then some false else if (op == op' && (rd == rd' && (rs1 == rs1' && (rs2 == rs2' && (v == v' && (aq == aq' && (rl == rl' && ((0 : Int) == 0 && ((0 : Int) == 0))))))))) = true then _ else _) = some true
        rw [hWW, hS, if_neg (by decide), if_neg (by decide)]
        by_cases f1 : (compL op rd rs1 rs2 v aq rl).2 = true
        · rw [if_pos f1]
          by_cases f2 : (compL op' rd' rs1' rs2' v' aq' rl').2 = true
          · rw [if_pos f2]
            obtain ⟨p, p0, _, _, p3, _⟩ := compL_yes _ _ _ _ _ _ _ f1
            obtain ⟨q, q0, _, _, q3, _⟩ := compL_yes _ _ _ _ _ _ _ f2
            rw [p0, q0]
            have : ((p : Int) != (q : Int)) = true := by
              rw [bne_iff_ne]
              intro hh
              have : p = q := by omega
              subst this
              obtain ⟨a1, a2, a3, a4, a5, a6, a7⟩ := sameB_eq _ _ _ _ _ _ _ _ p3
              obtain ⟨b1, b2, b3, b4, b5, b6, b7⟩ := sameB_eq _ _ _ _ _ _ _ _ q3
              exact S ⟨a1.symm.trans b1, a2.symm.trans b2, a3.symm.trans b3, a4.symm.trans b4, a5.symm.trans b5, a6.symm.trans b6, a7.symm.trans b7⟩
            rw [this]
          · rw [if_neg f2]
        · rw [if_neg f1]
    · rw [encode_bad 2300 _ _ _ _ _ _ _ _ _ c hc hc0, Option.bind_some, e', Option.bind_some, live_ok, Option.bind_some, if_pos rfl, if_neg hc0]
      exact apart_j0 ..
  · rw [encode_bad 2300 _ _ _ _ _ _ _ _ _ d hd hd0]
    by_cases hc0 : c = 0
    · subst hc0
      obtain ⟨W, e, _⟩ := enc_word _ _ _ _ _ _ _ _ _ hc
      rw [e, Option.bind_some, Option.bind_some, live_ok, Option.bind_some, if_pos rfl, if_pos rfl]
      rw [show (d != 0) = true from bne_iff_ne.mpr hd0]
      exact apart_j0 ..
    · rw [encode_bad 2300 _ _ _ _ _ _ _ _ _ c hc hc0, Option.bind_some, Option.bind_some, live_ok, Option.bind_some, if_pos rfl, if_neg hc0]
      exact apart_j0 ..
theorem EncodeApart (a0_0 a0_1 a0_2 a0_3 a0_4 : Int) (a0_5 a0_6 : Bool) (a0_7 a0_8 a1_0 a1_1 a1_2 a1_3 a1_4 : Int) (a1_5 a1_6 : Bool) (a1_7 a1_8 : Int)
    (_ : -9223372036854775808 ≤ a0_0) (_ : a0_0 ≤ 9223372036854775807) (_ : -9223372036854775808 ≤ a0_1) (_ : a0_1 ≤ 9223372036854775807) (_ : -9223372036854775808 ≤ a0_2) (_ : a0_2 ≤ 9223372036854775807)
    (_ : -9223372036854775808 ≤ a0_3) (_ : a0_3 ≤ 9223372036854775807) (_ : -9223372036854775808 ≤ a0_4) (_ : a0_4 ≤ 9223372036854775807) (_ : -9223372036854775808 ≤ a0_7) (_ : a0_7 ≤ 9223372036854775807) (_ : 0 ≤ a0_8) (_ : a0_8 ≤ 4294967295)
    (_ : -9223372036854775808 ≤ a1_0) (_ : a1_0 ≤ 9223372036854775807) (_ : -9223372036854775808 ≤ a1_1) (_ : a1_1 ≤ 9223372036854775807) (_ : -9223372036854775808 ≤ a1_2) (_ : a1_2 ≤ 9223372036854775807)
    (_ : -9223372036854775808 ≤ a1_3) (_ : a1_3 ≤ 9223372036854775807) (_ : -9223372036854775808 ≤ a1_4) (_ : a1_4 ≤ 9223372036854775807) (_ : -9223372036854775808 ≤ a1_7) (_ : a1_7 ≤ 9223372036854775807) (_ : 0 ≤ a1_8) (_ : a1_8 ≤ 4294967295) :
    ∃ k, anvillaw06_EncodeApart.f k a0_0 a0_1 a0_2 a0_3 a0_4 a0_5 a0_6 a0_7 a0_8 a1_0 a1_1 a1_2 a1_3 a1_4 a1_5 a1_6 a1_7 a1_8 = some true := ⟨2300, Apart_true ..⟩
end Go.Proofs.YtiibhggjlandmaaDoor.Pure
