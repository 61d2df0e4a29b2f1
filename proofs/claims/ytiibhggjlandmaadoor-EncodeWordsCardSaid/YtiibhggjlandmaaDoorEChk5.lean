/- encode.Check's contract. Premise: the list of atomics lies where the program has it. -/
import Derived.Test.YtiibhggjlandmaaDoorEChk4
namespace Go.Proofs.YtiibhggjlandmaaDoor.PF
open Go.RowKit Go.Proofs.YtiibhggjlandmaaDoorW.PrintWords Go.Proofs.YtiibhggjlandmaaDoorW.PrintMore
set_option linter.unusedVariables false
set_option linter.unusedSimpArgs false
def bad2 (hh : Has) (rd rs1 rs2 imm : Int) (aq rl : Bool) : Bool := (!hh.rd && (rd != 0)) || (!hh.rs1 && (rs1 != 0)) || (!hh.rs2 && (rs2 != 0)) || (!hh.imm && (imm != 0)) || (!hh.order && (aq || rl))
def encode_Check.f (op rd rs1 rs2 imm : Int) (aq rl : Bool) (len raw : Int) : Option Int :=
  (encode_formOf.f op).bind fun z => if z.2.2 = true then (if z.1 < 0 then none else (hasL[z.1.toNat]?).bind fun hh => if bad rd ∨ bad rs1 ∨ bad rs2 then some 60 else if bad2 hh rd rs1 rs2 imm aq rl = true then some 60 else chkR imm (findR z.1 reachT)) else some 60
set_option maxHeartbeats 2000000 in
set_option maxRecDepth 100000 in
theorem check_none (op rd rs1 rs2 imm : Int) (aq rl : Bool) (len raw s b : Int) (w : World) (hT : TabOk w) (hf : encode_formOf.f op = some (s, b, false)) :
    Calls Tryd.prog 11 #[.agg #[.int .i64 op, .int .i64 rd, .int .i64 rs1, .int .i64 rs2, .int .i64 imm, .bool aq, .bool rl, .int .i64 len, .int .u32 raw]] w fun e w' => e = .returned (.int .i64 60) ∧ Below w.heap.size w w' := by
  have hT1 := hT.below (below_alloc (Below.refl _ w) (.cells (inV op rd rs1 rs2 imm aq rl len raw) 24))
  go_enter Tryd.func11, Tryd.ntmps11
  go_wp2_with (first | (go_at_call 23; refine (encode_formOf.calls op s b false _ hT1 hf).mono ?_; rintro e w1 ⟨rfl, hb⟩; have hB := (below_alloc (Below.refl _ w) (.cells (inV op rd rs1 rs2 imm aq rl len raw) 24)).trans (hb.mono (by simp)); clear hb))
  go_ret
  exact ⟨rfl, below_alloc hB _⟩
theorem encode_Check.calls (op rd rs1 rs2 imm : Int) (aq rl : Bool) (len raw r : Int) (w : World) (hT : TabOk w) (h : encode_Check.f op rd rs1 rs2 imm aq rl len raw = some r) :
    Calls Tryd.prog 11 #[.agg #[.int .i64 op, .int .i64 rd, .int .i64 rs1, .int .i64 rs2, .int .i64 imm, .bool aq, .bool rl, .int .i64 len, .int .u32 raw]] w fun e w' => e = .returned (.int .i64 r) ∧ Below w.heap.size w w' := by
  unfold encode_Check.f at h
  obtain ⟨⟨s, b, ok⟩, hf, h⟩ := Option.bind_eq_some_iff.mp h
  cases ok with
  | false =>
    simp only [Bool.false_eq_true, if_false, Option.some.injEq] at h
    subst h
    exact check_none op rd rs1 rs2 imm aq rl len raw s b w hT hf
  | true =>
    simp only [if_true] at h
    by_cases c : s < 0
    · rw [if_pos c] at h; exact absurd h (by simp)
    rw [if_neg c] at h
    obtain ⟨hh, hhas, h⟩ := Option.bind_eq_some_iff.mp h
    obtain ⟨n, rfl⟩ : ∃ n : Nat, s = n := ⟨s.toNat, by omega⟩
    rw [Int.toNat_natCast] at hhas
    have hn : n < 12 := (List.getElem?_eq_some_iff.mp hhas).1
    refine check_long op rd rs1 rs2 imm aq rl len raw b r n w hT hf ?_ hn hh hhas ?_ ?_
    · intro hb; rw [if_pos hb] at h; exact (Option.some.inj h).symm
    · intro hx hb
      rw [if_neg hx, if_neg (by rw [show bad2 hh rd rs1 rs2 imm aq rl = false from hb]; decide)] at h; exact h
    · intro hb
      by_cases hx : bad rd ∨ bad rs1 ∨ bad rs2
      · rw [if_pos hx] at h; exact (Option.some.inj h).symm
      · rw [if_neg hx, if_pos (show bad2 hh rd rs1 rs2 imm aq rl = true from hb)] at h; exact (Option.some.inj h).symm
end Go.Proofs.YtiibhggjlandmaaDoor.PF
