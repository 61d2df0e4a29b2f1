/- Both checks in plain numbers: both tables by operation, both checks by shape. No condition. -/
import Derived.Test.YtiibhggjlandmaaDoorPEW7
namespace Go.Proofs.YtiibhggjlandmaaDoor.Pure
open Go.RowKit Go.Proofs.YtiibhggjlandmaaDoorW.PrintWords Go.Proofs.YtiibhggjlandmaaDoor.PF Go.Proofs.YtiibhggjlandmaaDoor.PL
set_option linter.unusedVariables false
set_option linter.unusedSimpArgs false
/-- The document's list. -/
def refL : List S70 := (anvilref06_Forms.f 120).getD []
set_option maxRecDepth 100000 in
theorem forms_ok : anvilref06_Forms.f 120 = some refL := by
  have h : (anvilref06_Forms.f 120).isSome = true := by decide +kernel
  obtain ⟨x, hx⟩ := Option.isSome_iff_exists.mp h
  rw [refL, hx]; rfl
set_option maxRecDepth 100000 in
theorem refL_len : refL.length = 96 := by decide +kernel
def findL (x : Int) : List S70 → Int × Int × Int × Int × Int
  | [] => (0, 0, 0, 0, 0)
  | a :: r => if a.f0 = x then (a.f0, a.f1, a.f2, a.f3, a.f4) else findL x r
theorem form_l0 (op : Int) : ∀ (r p : List S70) (k : Nat), r.length < k → (p ++ r).length < 1000 → anvilref06_form.l0 k op (p ++ r) p.length = some (findL op r)
  | [], p, k + 1, _, _ => by
    rw [anvilref06_form.l0, if_neg (by simp)]; rfl
  | a :: r, p, k + 1, h, hb => by
    simp only [List.length_cons, List.length_append] at h hb
    have hg : rd_T70 (p ++ a :: r) (p.length : Int) = a := by simp [rd_T70]
    rw [anvilref06_form.l0, if_pos (by simp only [List.length_append, List.length_cons]; omega), if_pos (by omega), hg, findL]
    by_cases e : a.f0 = op
    · rw [if_pos e, if_pos e]
    · rw [if_neg e, if_neg e]
      have hw : wrap64 ((p.length : Int) + 1) = ((p ++ [a]).length : Nat) := by rw [List.length_append]; simp; unfold wrap64; omega
      rw [hw]
      have := form_l0 op r (p ++ [a]) k (by omega) (by simp; omega)
      simpa using this
theorem form_ok (op : Int) (k : Nat) (hk : 120 ≤ k) : anvilref06_form.f k op = some (findL op refL) := by
  refine at_rounds (g := fun k => anvilref06_form.f k op) (anvilref06_form.mono op) hk ?_
  show anvilref06_form.f 120 op = _
  rw [anvilref06_form.f, forms_ok, Option.bind_some]
  exact form_l0 op refL [] 120 (by rw [refL_len]; omega) (by rw [List.nil_append, refL_len]; omega)
def kindOf (n : Nat) : Int := ([85, 74, 73, 66, 83, 82, 72, 87, 78, 90, 65, 76] : List Int).getD n 0
def pairB (op : Int) : Bool :=
  match encode_formOf.f op with
  | some (n, _, true) => decide (0 ≤ n) && decide (n < 12) && ((findL op refL).2.2.2.2 == kindOf n.toNat) && ((findL op refL).1 == op) && (op != 0)
  | some (_, _, false) => (findL op refL).1 == 0
  | none => false
set_option maxRecDepth 100000 in
theorem pairs_in : ∀ i : Fin 97, pairB (i.val : Int) = true := by decide +kernel
theorem findT_none (x : Int) : ∀ l : List (Int × Int × Int), (∀ e ∈ l, e.1 ≠ x) → findT x l = none
  | [], _ => rfl
  | (o, s, b) :: r, h => by
    rw [findT, if_neg (fun e => h _ (List.mem_cons_self ..) e.symm)]
    exact findT_none x r fun e he => h e (List.mem_cons_of_mem _ he)
theorem findL_none (x : Int) : ∀ l : List S70, (∀ e ∈ l, e.f0 ≠ x) → findL x l = (0, 0, 0, 0, 0)
  | [], _ => rfl
  | a :: r, h => by
    rw [findL, if_neg (h _ (List.mem_cons_self ..))]
    exact findL_none x r fun e he => h e (List.mem_cons_of_mem _ he)
set_option maxRecDepth 100000 in
theorem formT_in : ∀ e ∈ formT, 1 ≤ e.1 ∧ e.1 ≤ 96 := by decide +kernel
set_option maxRecDepth 100000 in
theorem refL_in : ∀ e ∈ refL, 1 ≤ e.f0 ∧ e.f0 ≤ 96 := by
  have h : refL.all (fun e => decide (1 ≤ e.f0) && decide (e.f0 ≤ 96)) = true := by decide +kernel
  intro e he
  have := List.all_eq_true.mp h e he
  simpa using this
theorem pairs (op : Int) : pairB op = true := by
  by_cases h : 0 ≤ op ∧ op ≤ 96
  · have := pairs_in ⟨op.toNat, by omega⟩
    rwa [show ((op.toNat : Nat) : Int) = op by omega] at this
  · have e1 : findT op formT = none := findT_none op formT fun e he => by have := formT_in e he; omega
    have e2 : findL op refL = (0, 0, 0, 0, 0) := findL_none op refL fun e he => by have := refL_in e he; omega
    unfold pairB encode_formOf.f
    rw [if_neg (by omega), if_neg (by omega), e1, e2]
    rfl
def reg (r : Int) (t : Bool) : Bool := decide (0 ≤ r) && (decide (r < 32) && (t || r == 0))
theorem register_ok (r : Int) (t : Bool) : anvilref06_register.f r t = some (reg r t) := by
  unfold anvilref06_register.f reg
  by_cases h0 : 0 ≤ r <;> by_cases h1 : r < 32 <;> cases t <;> simp [h0, h1]
theorem reg_bad (r : Int) (t : Bool) : reg r t = true ↔ ¬ bad r ∧ (t = true ∨ r = 0) := by
  unfold reg bad; cases t <;> simp <;> omega
def sA : ByteArray := ⟨#[85, 74, 73, 72, 87, 82, 78, 76, 65]⟩
def sB : ByteArray := ⟨#[73, 66, 83, 72, 87, 82, 78, 76, 65]⟩
def sC : ByteArray := ⟨#[66, 83, 82, 65]⟩
def sD : ByteArray := ⟨#[85, 74, 73, 66, 83, 72, 87, 78]⟩
def sE : ByteArray := ⟨#[76, 65]⟩
def oneAll (c : Int) : Option Has := (anvilref06_one.f 12 c sA).bind fun a => (anvilref06_one.f 12 c sB).bind fun b => (anvilref06_one.f 12 c sC).bind fun d => (anvilref06_one.f 12 c sD).bind fun i => (anvilref06_one.f 12 c sE).bind fun o => some ⟨a, b, d, i, o⟩
theorem one_up {c : Int} {s : ByteArray} {r : Bool} (h : anvilref06_one.f 12 c s = some r) (k : Nat) (hk : 12 ≤ k) : anvilref06_one.f k c s = some r :=
  at_rounds (g := fun k => anvilref06_one.f k c s) (anvilref06_one.mono c s) hk h
theorem j2_ok (k : Nat) (c : Int) (x : Bool) (op rd rs1 rs2 imm : Int) (aq rl : Bool) (len raw : Int) :
    anvilref06_Check.j2 (k + 1) c x op rd rs1 rs2 imm aq rl len raw = if x = true then some 60 else (anvilref06_reach.f k c imm).bind fun t => if t = true then some 0 else some 61 := by
  simp only [anvilref06_Check.j2]
theorem j1_ok (k : Nat) (hk : 12 ≤ k) (c : Int) (x : Bool) (op rd rs1 rs2 imm : Int) (aq rl : Bool) (len raw : Int) (i o : Bool) (hD : anvilref06_one.f 12 c sD = some i) (hE : anvilref06_one.f 12 c sE = some o) :
    anvilref06_Check.j1 (k + 2) c x op rd rs1 rs2 imm aq rl len raw = if x = true then some 60 else if ((!i && (imm != 0)) || (!o && (aq || rl))) = true then some 60 else (anvilref06_reach.f k c imm).bind fun t => if t = true then some 0 else some 61 := by
  have e1 := one_up hD (k + 1) (by omega)
  have e2 := one_up hE (k + 1) (by omega)
  unfold sD at e1; unfold sE at e2
  simp only [anvilref06_Check.j1, e1, e2, Option.bind_some, j2_ok]
  cases x <;> by_cases h : imm = 0 <;> cases aq <;> cases rl <;> cases i <;> cases o <;> simp [h]
theorem j0_ok (k : Nat) (hk : 12 ≤ k) (c : Int) (op rd rs1 rs2 imm : Int) (aq rl : Bool) (len raw : Int) (x1 x2 x3 x4 : Int) (hh : Has) (h : oneAll c = some hh) :
    anvilref06_Check.j0 (k + 3) false op rd rs1 rs2 imm aq rl len raw x1 x2 x3 x4 c = if (reg rd hh.rd && (reg rs1 hh.rs1 && reg rs2 hh.rs2)) = true then (if ((!hh.imm && (imm != 0)) || (!hh.order && (aq || rl))) = true then some 60 else (anvilref06_reach.f k c imm).bind fun t => if t = true then some 0 else some 61) else some 60 := by
  unfold oneAll at h
  obtain ⟨a, ha, h⟩ := Option.bind_eq_some_iff.mp h
  obtain ⟨b, hb, h⟩ := Option.bind_eq_some_iff.mp h
  obtain ⟨d, hd, h⟩ := Option.bind_eq_some_iff.mp h
  obtain ⟨i, hi, h⟩ := Option.bind_eq_some_iff.mp h
  obtain ⟨o, ho, h⟩ := Option.bind_eq_some_iff.mp h
  obtain rfl := Option.some.inj h
  have e1 := one_up ha (k + 2) (by omega)
  have e2 := one_up hb (k + 2) (by omega)
  have e3 := one_up hd (k + 2) (by omega)
  unfold sA at e1; unfold sB at e2; unfold sC at e3
  simp only [anvilref06_Check.j0, e1, e2, e3, Option.bind_some, register_ok, j1_ok k hk _ _ _ _ _ _ _ _ _ _ _ i o hi ho]
  cases reg rd a <;> cases reg rs1 b <;> cases reg rs2 d <;> simp
theorem ref_prog (rd rs1 rs2 imm : Int) (aq rl : Bool) (hh : Has) (R : Option Int) :
    (if (reg rd hh.rd && (reg rs1 hh.rs1 && reg rs2 hh.rs2)) = true then (if ((!hh.imm && (imm != 0)) || (!hh.order && (aq || rl))) = true then some 60 else R) else some 60) =
      if bad rd ∨ bad rs1 ∨ bad rs2 then some 60 else if bad2 hh rd rs1 rs2 imm aq rl = true then some 60 else R := by
  have q1 := reg_bad rd hh.rd
  have q2 := reg_bad rs1 hh.rs1
  have q3 := reg_bad rs2 hh.rs2
  unfold bad2
  by_cases b1 : bad rd
  · have : reg rd hh.rd = false := by cases h : reg rd hh.rd <;> simp_all
    simp [b1, this]
  by_cases b2 : bad rs1
  · have : reg rs1 hh.rs1 = false := by cases h : reg rs1 hh.rs1 <;> simp_all
    simp [b2, this]
  by_cases b3 : bad rs2
  · have : reg rs2 hh.rs2 = false := by cases h : reg rs2 hh.rs2 <;> simp_all
    simp [b3, this]
  have r1 : reg rd hh.rd = (hh.rd || rd == 0) := by rw [Bool.eq_iff_iff, q1]; simp [b1]
  have r2 : reg rs1 hh.rs1 = (hh.rs1 || rs1 == 0) := by rw [Bool.eq_iff_iff, q2]; simp [b2]
  have r3 : reg rs2 hh.rs2 = (hh.rs2 || rs2 == 0) := by rw [Bool.eq_iff_iff, q3]; simp [b3]
  have nb : ¬ (bad rd ∨ bad rs1 ∨ bad rs2) := by simp [b1, b2, b3]
  rw [if_neg nb, r1, r2, r3]
  clear q1 q2 q3 r1 r2 r3 nb b1 b2 b3
  obtain ⟨p1, p2, p3, p4, p5⟩ := hh
  have f1 : (rd != 0) = !(rd == 0) := rfl
  have f2 : (rs1 != 0) = !(rs1 == 0) := rfl
  have f3 : (rs2 != 0) = !(rs2 == 0) := rfl
  simp only [f1, f2, f3]
  cases h1 : (rd == 0) <;> cases h2 : (rs1 == 0) <;> cases h3 : (rs2 == 0) <;> cases h4 : (!p4 && (imm != 0)) <;> cases h5 : (!p5 && (aq || rl)) <;> (try simp only [h1, h2, h3, h4, h5]) <;> cases p1 <;> cases p2 <;> cases p3 <;> rfl
set_option maxRecDepth 100000 in
theorem shapes : ∀ n : Fin 12, oneAll (kindOf n.val) = hasL[n.val]? := by
  intro n
  have h : ∀ n : Fin 12, (match oneAll (kindOf n.val), hasL[n.val]? with | some a, some b => (a.rd == b.rd) && (a.rs1 == b.rs1) && (a.rs2 == b.rs2) && (a.imm == b.imm) && (a.order == b.order) | _, _ => false) = true := by decide +kernel
  have := h n
  split at this
  · next a b h1 h2 =>
    rw [h1, h2]
    obtain ⟨a1, a2, a3, a4, a5⟩ := a
    obtain ⟨b1, b2, b3, b4, b5⟩ := b
    simp only [Bool.and_eq_true, beq_iff_eq] at this
    simp_all
  · exact absurd this (by simp)
theorem reach_ok (k : Nat) (imm : Int) (n : Nat) (hn : n < 12) : ((anvilref06_reach.f (k + 1) (kindOf n) imm).bind fun t => if t = true then some (0 : Int) else some 61) = chkR imm (findR (n : Int) reachT) := by
  have t1 : ∀ a : Int, Int.tmod a 1 = 0 := fun a => Int.tmod_one a
  have g4 : Int.tmod imm 4096 = 0 ↔ (4096 : Int) ∣ imm := (Int.dvd_iff_tmod_eq_zero).symm
  have g2 : Int.tmod imm 2 = 0 ↔ (2 : Int) ∣ imm := (Int.dvd_iff_tmod_eq_zero).symm
  rcases (show n = 0 ∨ n = 1 ∨ n = 2 ∨ n = 3 ∨ n = 4 ∨ n = 5 ∨ n = 6 ∨ n = 7 ∨ n = 8 ∨ n = 9 ∨ n = 10 ∨ n = 11 by omega) with rfl | rfl | rfl | rfl | rfl | rfl | rfl | rfl | rfl | rfl | rfl | rfl
  · by_cases a1 : (-2147483648) ≤ imm <;> by_cases a2 : imm < 2147483648 <;> by_cases a3 : Int.tmod imm 4096 = 0 <;> (simp [anvilref06_reach.f, anvilref06_reach.j0, kindOf, chkR, findR, reachT, a1, a2, a3, t1]; try omega)
  · by_cases a1 : (-1048576) ≤ imm <;> by_cases a2 : imm < 1048576 <;> by_cases a3 : Int.tmod imm 2 = 0 <;> (simp [anvilref06_reach.f, anvilref06_reach.j0, kindOf, chkR, findR, reachT, a1, a2, a3, t1]; try omega)
  · by_cases a1 : (-2048) ≤ imm <;> by_cases a2 : imm < 2048 <;> (simp [anvilref06_reach.f, anvilref06_reach.j0, kindOf, chkR, findR, reachT, a1, a2, t1]; try omega)
  · by_cases a1 : (-4096) ≤ imm <;> by_cases a2 : imm < 4096 <;> by_cases a3 : Int.tmod imm 2 = 0 <;> (simp [anvilref06_reach.f, anvilref06_reach.j0, kindOf, chkR, findR, reachT, a1, a2, a3, t1]; try omega)
  · by_cases a1 : (-2048) ≤ imm <;> by_cases a2 : imm < 2048 <;> (simp [anvilref06_reach.f, anvilref06_reach.j0, kindOf, chkR, findR, reachT, a1, a2, t1]; try omega)
  · simp [anvilref06_reach.f, anvilref06_reach.j0, kindOf, chkR, findR, reachT]
  · by_cases a1 : 0 ≤ imm <;> by_cases a2 : imm < 64 <;> (simp [anvilref06_reach.f, anvilref06_reach.j0, kindOf, chkR, findR, reachT, a1, a2, t1]; try omega)
  · by_cases a1 : 0 ≤ imm <;> by_cases a2 : imm < 32 <;> (simp [anvilref06_reach.f, anvilref06_reach.j0, kindOf, chkR, findR, reachT, a1, a2, t1]; try omega)
  · by_cases a1 : 0 ≤ imm <;> by_cases a2 : imm < 4096 <;> (simp [anvilref06_reach.f, anvilref06_reach.j0, kindOf, chkR, findR, reachT, a1, a2, t1]; try omega)
  all_goals simp [anvilref06_reach.f, anvilref06_reach.j0, kindOf, chkR, findR, reachT]
theorem stR (m : Nat) (hm : m < 12) (lo hi st : Int) (h : findR (m : Int) reachT = some (lo, hi, st)) : st ≠ 0 := by
  have : ∀ n : Fin 12, (match findR (n.val : Int) reachT with | some (_, _, st) => st != 0 | none => true) = true := by decide +kernel
  have := this ⟨m, hm⟩
  simp only [h] at this
  simpa using this
theorem has_some (n : Nat) (h : n < 12) : ∃ hh, hasL[n]? = some hh := by
  have : n < hasL.length := h
  exact ⟨hasL[n], List.getElem?_eq_getElem this⟩
theorem checks_same (op rd rs1 rs2 imm : Int) (aq rl : Bool) (len raw : Int) : ∃ v, encode_Check.f op rd rs1 rs2 imm aq rl len raw = some v ∧ anvilref06_Check.f 200 op rd rs1 rs2 imm aq rl len raw = some v := by
  have hp := pairs op
  unfold pairB at hp
  unfold encode_Check.f anvilref06_Check.f
  rw [form_ok op 200 (by omega)]
  rcases hz : encode_formOf.f op with _ | ⟨n, b, t⟩
  · rw [hz] at hp; exact absurd hp (by simp)
  · rw [hz] at hp
    rcases hl : findL op refL with ⟨l1, l2, l3, l4, l5⟩
    rw [hl] at hp
    cases t
    · simp only [beq_iff_eq] at hp
      subst hp
      refine ⟨60, by simp, ?_⟩
      simp only [Option.bind_some, anvilref06_Check.j0]
      by_cases h0 : op = 0 <;> simp [h0]
    · simp only [Bool.and_eq_true, decide_eq_true_eq, beq_iff_eq, bne_iff_ne, ne_eq] at hp
      obtain ⟨⟨⟨⟨p1, p2⟩, p3⟩, p4⟩, p5⟩ := hp
      subst p4
      obtain ⟨m, rfl⟩ : ∃ m : Nat, n = (m : Int) := ⟨n.toNat, by omega⟩
      have hm : m < 12 := by omega
      simp only [Int.toNat_natCast] at p3
      subst p3
      obtain ⟨hh, hH⟩ := has_some m hm
      have hs := (shapes ⟨m, hm⟩).trans hH
      have hb : (l1 == 0) = false := by simp [p5]
      have hj := j0_ok 197 (by omega) (kindOf m) l1 rd rs1 rs2 imm aq rl len raw l1 l2 l3 l4 hh hs
      rw [ref_prog, reach_ok 196 imm m hm] at hj
      simp only [Option.bind_some, if_neg p5, hb, hj, Int.toNat_natCast, hH, if_neg (show ¬ ((m : Int) < 0) by omega), if_true]
      by_cases c1 : bad rd ∨ bad rs1 ∨ bad rs2
      · rw [if_pos c1]; exact ⟨60, rfl, rfl⟩
      rw [if_neg c1]
      by_cases c2 : bad2 hh rd rs1 rs2 imm aq rl = true
      · rw [if_pos c2]; exact ⟨60, rfl, rfl⟩
      rw [if_neg c2]
      have hc : ∃ v, chkR imm (findR (m : Int) reachT) = some v := by
        clear hj hs
        rcases hf : findR (m : Int) reachT with _ | ⟨lo, hi, st⟩
        · exact ⟨0, rfl⟩
        · have hst : st ≠ 0 := stR m hm lo hi st hf
          simp only [chkR, if_neg hst]
          split
          · exact ⟨_, rfl⟩
          · split
            · exact ⟨_, rfl⟩
            · exact ⟨_, rfl⟩
      obtain ⟨v, hv⟩ := hc
      exact ⟨v, hv, hv⟩
end Go.Proofs.YtiibhggjlandmaaDoor.Pure
