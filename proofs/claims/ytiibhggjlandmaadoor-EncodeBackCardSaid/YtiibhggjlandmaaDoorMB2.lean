/- Texts of this claim, put together by a program: EChk5, Try, PTx0, PTx1, PTx, PEW0, PEW1. -/
import Derived.Test.YtiibhggjlandmaaDoorMBxEChk4
import Derived.Test.YtiibhggjlandmaaDoorMB0
import Derived.Test.YtiibhggjlandmaaDoorProg
import Derived.WalkKit
import Derived.KernelRfl
import Derived.Deep.LoopGhost
import Derived.Maps.AppendAt
import Derived.OneCell
import Derived.Deep.Light
import Derived.Lib.Hide
import Derived.Deep.DeepMust
import Derived.Below
import Derived.Deep.Draws
import Derived.Deep.AppendLies
import Derived.OwnWalk
import Derived.Laws.BytesArg
import Derived.Laws.MakeOwn
import Derived.Laws.OwnMore
import Derived.Deep.OwnRows
import Derived.Tactics
import Derived.Lib.ConvBytes
import Derived.Laws.Slices
import Derived.RowKit3
import Derived.Deep.QuietTactic
import Derived.BigQuiet
import Derived.WideLaws
import Derived.Deep.DeepCutAuto
import Derived.Deep.CutBlock
import Derived.Deep.RegionHeld3
import Derived.Laws.Rows
import Derived.Lib.AppendStr
import Derived.ArgAppend
import Derived.Laws.IdiomCopy
import Derived.OrdersHeld
import Derived.Laws.BitsLemmas
import Derived.RowKit
/- encode.Check's contract. Premise: the list of atomics lies where the program has it. -/
namespace Go.Proofs.YtiibhggjlandmaaDoor.PF
open Go.RowKit Go.Proofs.YtiibhggjlandmaaDoorW.PrintWords Go.Proofs.YtiibhggjlandmaaDoorW.PrintMore
set_option linter.unusedVariables false
set_option linter.unusedSimpArgs false
def bad2 (hh : Has) (rd rs1 rs2 imm : Int) (aq rl : Bool) : Bool := (!hh.rd && (rd != 0)) || (!hh.rs1 && (rs1 != 0)) || (!hh.rs2 && (rs2 != 0)) || (!hh.imm && (imm != 0)) || (!hh.order && (aq || rl))
def encode_Check.f (op rd rs1 rs2 imm : Int) (aq rl : Bool) (len raw : Int) : Option Int :=
  (encode_formOf.f op).bind fun z => if z.2.2 = true then (if z.1 < 0 then none else (hasL[z.1.toNat]?).bind fun hh => if bad rd ∨ bad rs1 ∨ bad rs2 then some 60 else if bad2 hh rd rs1 rs2 imm aq rl = true then some 60 else chkR imm (findR z.1 reachT)) else some 60
set_option maxHeartbeats 2000000 in
set_option maxRecDepth 100000 in
theorem check_none (op rd rs1 rs2 imm : Int) (aq rl : Bool) (len raw s b : Int) (w : World) (hT : TabOk w) (hf : encode_formOf.f op = some (s, b, false)) :
    Calls Tryd.prog 11 #[.agg #[.int .i64 op, .int .i64 rd, .int .i64 rs1, .int .i64 rs2, .int .i64 imm, .bool aq, .bool rl, .int .i64 len, .int .u32 raw]] w fun e w' => e = .returned (.int .i64 60) ∧ Below w.heap.size w w' := by
  have hT1 := hT.below (below_alloc (Below.refl _ w) (.cells (inV op rd rs1 rs2 imm aq rl len raw) 24))
  go_enter Tryd.func11, Tryd.ntmps11
  go_wp2_with (first | (go_at_call 23; refine (encode_formOf.calls op s b false _ hT1 hf).mono ?_; rintro e w1 ⟨rfl, hb⟩; have hB := (below_alloc (Below.refl _ w) (.cells (inV op rd rs1 rs2 imm aq rl len raw) 24)).trans (hb.mono (by simp)); clear hb))
  go_ret
  exact ⟨rfl, below_alloc hB _⟩
theorem encode_Check.calls (op rd rs1 rs2 imm : Int) (aq rl : Bool) (len raw r : Int) (w : World) (hT : TabOk w) (h : encode_Check.f op rd rs1 rs2 imm aq rl len raw = some r) :
    Calls Tryd.prog 11 #[.agg #[.int .i64 op, .int .i64 rd, .int .i64 rs1, .int .i64 rs2, .int .i64 imm, .bool aq, .bool rl, .int .i64 len, .int .u32 raw]] w fun e w' => e = .returned (.int .i64 r) ∧ Below w.heap.size w w' := by
  unfold encode_Check.f at h
  obtain ⟨⟨s, b, ok⟩, hf, h⟩ := Option.bind_eq_some_iff.mp h
  cases ok with
  | false =>
    simp only [Bool.false_eq_true, if_false, Option.some.injEq] at h
    subst h
    exact check_none op rd rs1 rs2 imm aq rl len raw s b w hT hf
  | true =>
    simp only [if_true] at h
    by_cases c : s < 0
    · rw [if_pos c] at h; exact absurd h (by simp)
    rw [if_neg c] at h
    obtain ⟨hh, hhas, h⟩ := Option.bind_eq_some_iff.mp h
    obtain ⟨n, rfl⟩ : ∃ n : Nat, s = n := ⟨s.toNat, by omega⟩
    rw [Int.toNat_natCast] at hhas
    have hn : n < 12 := (List.getElem?_eq_some_iff.mp hhas).1
    refine check_long op rd rs1 rs2 imm aq rl len raw b r n w hT hf ?_ hn hh hhas ?_ ?_
    · intro hb; rw [if_pos hb] at h; exact (Option.some.inj h).symm
    · intro hx hb
      rw [if_neg hx, if_neg (by rw [show bad2 hh rd rs1 rs2 imm aq rl = false from hb]; decide)] at h; exact h
    · intro hb
      by_cases hx : bad rd ∨ bad rs1 ∨ bad rs2
      · rw [if_pos hx] at h; exact (Option.some.inj h).symm
      · rw [if_neg hx, if_pos (show bad2 hh rd rs1 rs2 imm aq rl = true from hb)] at h; exact (Option.some.inj h).symm
end Go.Proofs.YtiibhggjlandmaaDoor.PF
/- encode.tries: what stands in memory while it tries; its closure's contract: the or of the parts, appended to the list that the call owns. Premise: those of the text. -/
namespace Go.Proofs.YtiibhggjlandmaaDoor.TR
open Go.RowKit Go.Proofs.YtiibhggjlandmaaDoorW.PrintWords
set_option linter.unusedVariables false
set_option linter.unusedSimpArgs false
/-- The list so far: in a block of its own that the box at go points to; all below go is as it was in w0. -/
structure TS (w0 : World) (go : Nat) (xs : List Int) (W : World) : Prop where
  below : Below go w0 W
  size : go < W.heap.size
  own : ∃ v, W.heap[go]? = some (.cells #[v] 80 (0, 0)) ∧ W.ownsRow (go + 1) 34 1 v xs.length (nums .u16 xs)
theorem heap_alloc_lt' (w : World) (o : Obj) (k : Nat) (h : k < w.heap.size) : (w.alloc o).heap[k]? = w.heap[k]? := Below.heap_alloc w o k h
theorem ownsRow_alloc {w : World} {base : Nat} {e : TypeId} {size : Nat} {v : Value} {n : Nat} {xs : List Value} (h : w.ownsRow base e size v n xs) (o : Obj) : (w.alloc o).ownsRow base e size v n xs := by
  obtain ⟨h1, h2⟩ := h
  refine ⟨h1, ?_⟩
  rcases h2 with h2 | ⟨g, cap, cur, hv, hg, hh, r⟩
  · exact Or.inl h2
  · have hlt := lt_of_block hh
    exact Or.inr ⟨g, cap, cur, hv, hg, by rw [Below.heap_alloc w o g hlt]; exact hh, r⟩
theorem TS.alloc {w0 : World} {go : Nat} {xs : List Int} {W : World} (h : TS w0 go xs W) (o : Obj) : TS w0 go xs (W.alloc o) := by
  obtain ⟨v, h1, h2⟩ := h.own
  refine ⟨⟨h.below.os, h.below.tape, h.below.output, Nat.le_trans h.below.size (by simp), fun k hk => ?_⟩, Nat.lt_of_lt_of_le h.size (by simp), v, ?_, ownsRow_alloc h2 o⟩
  · rw [Below.heap_alloc W o k (Nat.lt_trans hk h.size)]; exact h.below.block k hk
  · rw [Below.heap_alloc W o go h.size]; exact h1
theorem TS.drewN {w0 : World} {go : Nat} {xs : List Int} {W : World} (h : TS w0 go xs W) (n : Nat) : TS w0 go xs (W.drewN n) :=
  ⟨⟨h.below.os, h.below.tape, h.below.output, h.below.size, h.below.block⟩, h.size, h.own⟩
theorem TS.drew {w0 : World} {go : Nat} {xs : List Int} {W : World} (h : TS w0 go xs W) : TS w0 go xs W.drew := h.drewN 1
/-- Behind a call that touches no block of old. -/
theorem TS.keep {w0 : World} {go : Nat} {xs : List Int} {W W' : World} (h : TS w0 go xs W) (hb : Below W.heap.size W W') : TS w0 go xs W' := by
  obtain ⟨v, h1, h2⟩ := h.own
  refine ⟨⟨hb.os.trans h.below.os, hb.tape.trans h.below.tape, hb.output.trans h.below.output, Nat.le_trans h.below.size hb.size, fun k hk => (hb.block k (Nat.lt_trans hk h.size)).trans (h.below.block k hk)⟩, Nat.lt_of_lt_of_le h.size hb.size, v, (hb.block go h.size).trans h1, ?_⟩
  obtain ⟨h3, h4⟩ := h2
  refine ⟨h3, ?_⟩
  rcases h4 with h4 | ⟨g, cap, cur, hv, hg, hh, r⟩
  · exact Or.inl h4
  · exact Or.inr ⟨g, cap, cur, hv, hg, (hb.block g (lt_of_block hh)).trans hh, r⟩
theorem TS.old {w0 : World} {go : Nat} {xs : List Int} {W : World} (h : TS w0 go xs W) {k : Nat} (hk : k < go) : W.heap[k]? = w0.heap[k]? := h.below.block k hk
/-- The or of the parts. -/
def orAll (ps : List Int) : Int := ps.foldl (fun a x => Go.bits .or .u32 a x) 0
theorem orAll_snoc (ps : List Int) (k : Nat) (h : k < ps.length) : orAll (ps.take (k + 1)) = Go.bits .or .u32 (orAll (ps.take k)) (ps.getD k 0) := by
  unfold orAll
  rw [List.take_add_one, List.foldl_append, List.getD_eq_getElem?_getD]
  rw [List.getElem?_eq_getElem h]
  rfl
theorem infoTE0 : (Tryd.prog.info? 34).map (fun i => (i.zero, i.size, i.bytes)) = some (some (.int .u16 0), 1, 2) := by kernel_rfl
theorem infoTE : ∃ i, Tryd.prog.info? 34 = some i ∧ i.zero = some (.int .u16 0) ∧ i.size = 1 ∧ i.bytes = 2 := by
  have h := infoTE0
  cases hi : Tryd.prog.info? 34 with
  | none => rw [hi] at h; exact absurd h (by simp)
  | some i =>
    rw [hi] at h
    simp only [Option.map_some, Option.some.injEq, Prod.mk.injEq] at h
    exact ⟨i, rfl, h.1, h.2.1, h.2.2⟩
theorem cell_slot {w : World} {A : Option Addr} {b i : Nat} {v : Value} (h : w.cell? ⟨b, i, none⟩ = some v) : w.cell? ((⟨b, 0, none⟩ : Addr).add i) = some v := by
  rw [add_plain]; exact h
theorem own_shape {w : World} {base : Nat} {e : TypeId} {size : Nat} {v : Value} {n : Nat} {xs : List Value} (h : w.ownsRow base e size v n xs) : ∃ A c, v = .slice A n c := by
  rcases h.2 with ⟨rfl, rfl⟩ | ⟨g, cap, cur, rfl, _⟩
  · exact ⟨_, _, rfl⟩
  · exact ⟨_, _, rfl⟩
theorem after_append {w0 wr w' : World} {go : Nat} {xs : List Int} {x : Int} {v v' : Value} {T : TypeId} (hT : TS w0 go xs wr) (hB : wr.heap[go]? = some (.cells #[v] 80 (0, 0))) (hO : wr.ownsRow (go + 1) 34 1 v xs.length (nums .u16 xs))
    (hown : w'.ownsRow (go + 1) 34 1 v' (xs.length + 1) (nums .u16 xs ++ [.int .u16 x])) (hg : (wr.alloc (.cells #[.int .u16 x] T)).grownBy w' v.ownBlock) :
    w'.cell? ⟨go, 0, none⟩ = some v ∧ w'.frozen? ⟨go, 0, none⟩ = false ∧ TS w0 go (xs ++ [x]) (w'.setCell ⟨go, 0, none⟩ v') := by
  have hlt := hT.size
  have hne : ∀ k, k ≤ go → some k ≠ v.ownBlock := fun k hk e => by
    have := own_base hO k e.symm
    omega
  have e0 : ∀ k, k ≤ go → w'.heap[k]? = wr.heap[k]? := fun k hk => by
    rw [hg.block k (by simp; omega) (hne k hk), Below.heap_alloc wr _ k (by omega)]
  have hb : w'.heap[go]? = some (.cells #[v] 80 (0, 0)) := (e0 go (Nat.le_refl _)).trans hB
  refine ⟨cell_of_one hb, free_of_one hb, ⟨?_, ?_, v', one_setCell hb, ?_⟩⟩
  · refine ⟨hg.os.trans hT.below.os, hg.tape.trans hT.below.tape, hg.output.trans hT.below.output, ?_, fun k hk => ?_⟩
    · have h1 := hg.size; have h2 := hT.below.size
      simp at h1 ⊢; omega
    · rw [Below.heap_setCell _ _ _ _ (show k ≠ go by omega), e0 k (by omega)]
      exact hT.below.block k hk
  · have h1 := hg.size
    simp at h1 ⊢; omega
  · have := ownsRow_setCell_other hown (a := ⟨go, 0, none⟩) (fun e => by have := own_base hown go e; omega) v'
    rw [List.length_append, nums_append]
    exact this
set_option maxHeartbeats 8000000 in
set_option maxRecDepth 100000 in
theorem try_any (w0 w : World) (go gp : Nat) (xs ps : List Int) (n : Nat) (hT : TS w0 go xs w) (hp : ∀ j, j < n → w.cell? ⟨gp, j, none⟩ = some (.int .u32 (ps.getD j 0))) (hn : ps.length = n) (hn5 : n ≤ 5) (hx : xs.length ≤ 20) :
    Calls Tryd.prog 44 #[.slice (some ⟨gp, 0, none⟩) n n, .pointer (some ⟨go, 0, none⟩)] w fun e w' => e = .returned (.tuple #[]) ∧ TS w0 go (xs ++ [IntKind.u16.wrap (orAll ps)]) w' := by
  obtain ⟨v, hbox, hown⟩ := hT.own
  have hc0 := cell_of_one hbox
  have hf0 := free_of_one hbox
  have HT := Lib.hid hT
  have HB := Lib.hid hbox
  have HO := Lib.hid hown
  have HP := Lib.hid hp
  have HN := Lib.hid hn
  clear hT hbox hown hp hn
  go_enter Tryd.func44, Tryd.ntmps44
  go_wp2
  go_loopw [3, 8] (fun p i wr => ∃ k : Nat, k ≤ n ∧ i = .int .i64 k ∧ p = .int .u32 (orAll (ps.take k)) ∧ wr = w) (fun _ i _ => n - (intOf i).toNat)
  case atStart => exact ⟨0, Nat.zero_le _, rfl, rfl, rfl⟩
  case round =>
    obtain ⟨k, hk, rfl, rfl, rfl⟩ := hrel
    by_cases hlt : k < n
    · have hb1 : decide ((k : Int) < (n : Int)) = true := by simp; omega
      have hcell := HP.out k hlt
      go_wp2
      go_roundw
      case rel => go_light; exact ⟨k + 1, by omega, by go_num, by rw [orAll_snoc ps k (by rw [HN.out]; exact hlt)]; simp, trivial⟩
      case measure => simp [intOf]; omega
    · obtain rfl : k = n := by omega
      have hb1 : decide ((k : Int) < (k : Int)) = false := by simp
      have htake : orAll (ps.take k) = orAll ps := by rw [← HN.out, List.take_length]
      rw [htake]
      obtain ⟨o, hps⟩ : ∃ o, orAll ps = o := ⟨_, rfl⟩
      rw [hps]
      have HPS := Lib.hid hps
      clear hps htake
      obtain ⟨ti, hi1, hi2, hi3, hi4⟩ := infoTE
      have HI := Lib.hid (And.intro hi1 (And.intro hi2 (And.intro hi3 hi4)))
      clear hi1 hi2 hi3 hi4
      have HO2 := Lib.hid (ownsRow_alloc HO.out (.cells #[.int .u16 (IntKind.u16.wrap o)] 34))
      have HLT := Lib.hid HT.out.size
      go_wp2_with (first
        | ((with_reducible refine gate_builtin (b := .append) (xs := #[.tmp 16, .tmp 19]) rfl ?_); go_must (refine wpList_append_own_at _ rfl (.tmp 16) (.tmp 19) 80 rfl (go + 1) 34 ti (.int .u16 0) 1 2 Tryd.underlying80 HI.out.1 HI.out.2.1 HI.out.2.2.1 HI.out.2.2.2 rfl (by decide) v xs.length (nums .u16 xs) rfl HO2.out ⟨wr.heap.size, 0, none⟩ 1 1 [.int .u16 (IntKind.u16.wrap o)] rfl rfl (cell_one_new _ _ _) ?h1 ?h2 ?h3 ?h4 ?_); (case h1 => intro u hu; simp at hu; subst hu; rfl); (case h2 => unfold maxLen; omega); (case h3 => omega); (case h4 => have := HLT.out; simp; omega); intro v' w' hown' hgrow hnil hat; obtain ⟨A', c', rfl⟩ := own_shape hown'; have hst := after_append HT.out HB.out HO.out hown' hgrow; have hc1 := hst.1; have hf1 := hst.2.1; have HST := Lib.hid hst.2.2; clear hst hown' hgrow hnil hat))
      go_end0
      rw [HPS.out]
      exact ⟨rfl, HST.out⟩
end Go.Proofs.YtiibhggjlandmaaDoor.TR
-- Written by a program (a turned copy of the kit's print.py) for this claim. Lean checks it.
namespace Go.Proofs.YtiibhggjlandmaaDoor.PT
open Go.RowKit Go.Proofs.YtiibhggjlandmaaDoorW.PrintWords Go.Proofs.YtiibhggjlandmaaDoorW.PrintLast Go.Proofs.YtiibhggjlandmaaDoorW.PrintMore
attribute [local go_sem] max2_int min2_int max_two min_two max_three min_three max_four min_four   -- for this text's walks alone
set_option linter.unusedVariables false
set_option linter.unusedSimpArgs false



def errW : Option Int → Value
  | none => .nilIface
  | some c => .iface 0 (.int .i64 c)
theorem errW_none : errW none = .nilIface := rfl
theorem errW_some (c : Int) : errW (some c) = .iface 0 (.int .i64 c) := rfl

-- the values' own types

end Go.Proofs.YtiibhggjlandmaaDoor.PT
-- Written by a program (a turned copy of the kit's print.py) for this claim. Lean checks it.
namespace Go.Proofs.YtiibhggjlandmaaDoor.PT
open Go.RowKit Go.Proofs.YtiibhggjlandmaaDoorW.PrintWords Go.Proofs.YtiibhggjlandmaaDoorW.PrintLast Go.Proofs.YtiibhggjlandmaaDoorW.PrintMore
attribute [local go_sem] max2_int min2_int max_two min_two max_three min_three max_four min_four   -- for this text's walks alone
set_option linter.unusedVariables false
set_option linter.unusedSimpArgs false

/-! ### encode_head: function 45 -/
def encode_head.f (a0 : Int) (a1 : Int) : Option (Int) := some ((Go.bits .or .i64 a0 (wrap64 (a1 * 8192))) % 4294967296)
set_option maxHeartbeats 8000000 in
set_option maxRecDepth 100000 in
theorem encode_head.calls (a0 : Int) (a1 : Int) (r : Int) (w : World) (h : encode_head.f a0 a1 = some r) :
    Calls Tryd.prog 45 #[.int .i64 a0, .int .i64 a1] w fun e w' => e = .returned (.int .u32 r) ∧ Drawn0 w w' := by
  have H : (some ((Go.bits .or .i64 a0 (wrap64 (a1 * 8192))) % 4294967296)) = some r := h
  clear h
  obtain rfl := Option.some.inj H
  go_enter Tryd.func45, Tryd.ntmps45
  go_wp2
  go_ret
  exact ⟨by first | rfl | (simp; done) | (simp [*]; done), by repeat (first | exact Drawn0.refl _ | apply Drawn0.step)⟩

/-! ### encode_low: function 46 -/
def encode_low.f (a0 : Int) (a1 : Int) : Option (Int) := if 0 ≤ a1 then (some (shl .u32 ((Go.bits .and .i64 a0 7) % 4294967296) a1)) else (none)
set_option maxHeartbeats 8000000 in
set_option maxRecDepth 100000 in
theorem encode_low.calls (a0 : Int) (a1 : Int) (r : Int) (w : World) (h : encode_low.f a0 a1 = some r) :
    Calls Tryd.prog 46 #[.int .i64 a0, .int .i64 a1] w fun e w' => e = .returned (.int .u32 r) ∧ Drawn0 w w' := by
  have H : (if 0 ≤ a1 then (some (shl .u32 ((Go.bits .and .i64 a0 7) % 4294967296) a1)) else (none)) = some r := h
  clear h
  by_cases c3 : 0 ≤ a1
  · rw [if_pos c3] at H
    have c3b0 := eq_true c3
    have c3b1 : decide (0 ≤ a1) = true := decide_eq_true c3
    clear c3
    obtain ⟨ji4, hji4⟩ : ∃ j_ : Int, (shl .u32 ((Go.bits .and .i64 a0 7) % 4294967296) a1) = j_ := ⟨_, rfl⟩
    replace H : (some ji4) = some r := by first | (rw [hji4] at H; exact H) | (simp only [hji4] at H ⊢; exact H)
    have hji4_ : (IntKind.u32.wrap (((Go.bits .and .i64 a0 7) % 4294967296) * 2 ^ min a1.toNat 32)) = ji4 := hji4
    have hji4z : a1 ≤ 32 → (IntKind.u32.wrap (((Go.bits .and .i64 a0 7) % 4294967296) * 2 ^ a1.toNat)) = ji4 := shl_small hji4
    obtain rfl := Option.some.inj H
    go_enter Tryd.func46, Tryd.ntmps46
    go_wp2
    go_ret
    exact ⟨by first | rfl | (simp; done) | (simp only [← hji4] <;> (first | rfl | simp)) | (simp [*]; done), by repeat (first | exact Drawn0.refl _ | apply Drawn0.step)⟩
  · rw [if_neg c3] at H
    exact absurd H (by simp)

/-! ### encode_whole: function 47 -/
def encode_whole.f (a0 : Int) (a1 : Int) : Option (Int) := if 0 ≤ a1 then (some (shl .u32 ((a0) % 4294967296) a1)) else (none)
set_option maxHeartbeats 8000000 in
set_option maxRecDepth 100000 in
theorem encode_whole.calls (a0 : Int) (a1 : Int) (r : Int) (w : World) (h : encode_whole.f a0 a1 = some r) :
    Calls Tryd.prog 47 #[.int .i64 a0, .int .i64 a1] w fun e w' => e = .returned (.int .u32 r) ∧ Drawn0 w w' := by
  have H : (if 0 ≤ a1 then (some (shl .u32 ((a0) % 4294967296) a1)) else (none)) = some r := h
  clear h
  by_cases c3 : 0 ≤ a1
  · rw [if_pos c3] at H
    have c3b0 := eq_true c3
    have c3b1 : decide (0 ≤ a1) = true := decide_eq_true c3
    clear c3
    obtain ⟨ji4, hji4⟩ : ∃ j_ : Int, (shl .u32 ((a0) % 4294967296) a1) = j_ := ⟨_, rfl⟩
    replace H : (some ji4) = some r := by first | (rw [hji4] at H; exact H) | (simp only [hji4] at H ⊢; exact H)
    have hji4_ : (IntKind.u32.wrap (((a0) % 4294967296) * 2 ^ min a1.toNat 32)) = ji4 := hji4
    have hji4z : a1 ≤ 32 → (IntKind.u32.wrap (((a0) % 4294967296) * 2 ^ a1.toNat)) = ji4 := shl_small hji4
    obtain rfl := Option.some.inj H
    go_enter Tryd.func47, Tryd.ntmps47
    go_wp2
    go_ret
    exact ⟨by first | rfl | (simp; done) | (simp only [← hji4] <;> (first | rfl | simp)) | (simp [*]; done), by repeat (first | exact Drawn0.refl _ | apply Drawn0.step)⟩
  · rw [if_neg c3] at H
    exact absurd H (by simp)

end Go.Proofs.YtiibhggjlandmaaDoor.PT
-- Written by a program (a turned copy of the kit's print.py) for this claim. Lean checks it.
namespace Go.Proofs.YtiibhggjlandmaaDoor.PT
open Go.RowKit Go.Proofs.YtiibhggjlandmaaDoorW.PrintWords Go.Proofs.YtiibhggjlandmaaDoorW.PrintLast Go.Proofs.YtiibhggjlandmaaDoorW.PrintMore
attribute [local go_sem] max2_int min2_int max_two min_two max_three min_three max_four min_four   -- for this text's walks alone
set_option linter.unusedVariables false
set_option linter.unusedSimpArgs false

end Go.Proofs.YtiibhggjlandmaaDoor.PT
-- Written by a program (a turned copy of the kit's print.py) for this claim. Lean checks it.
namespace Go.Proofs.YtiibhggjlandmaaDoor.PL
open Go.RowKit Go.Proofs.YtiibhggjlandmaaDoorW.PrintWords Go.Proofs.YtiibhggjlandmaaDoorW.PrintLast Go.Proofs.YtiibhggjlandmaaDoorW.PrintMore Go.Proofs.YtiibhggjlandmaaDoor.PF
attribute [local go_sem] max2_int min2_int max_two min_two max_three min_three max_four min_four   -- for this text's walks alone
set_option linter.unusedVariables false
set_option linter.unusedSimpArgs false



def errW : Option Int → Value
  | none => .nilIface
  | some c => .iface 0 (.int .i64 c)
theorem errW_none : errW none = .nilIface := rfl
theorem errW_some (c : Int) : errW (some c) = .iface 0 (.int .i64 c) := rfl

-- the values' own types
/-! #### struct type 61 -/
structure S61 where
  f0 : Bool
  f1 : Bool
  f2 : Bool
  f3 : Bool
  f4 : Bool
/-! #### struct type 78 -/
structure S78 where
  f0 : Int
  f1 : Int
  f2 : Int
def z78 : S78 := ⟨(0 : Int), (0 : Int), (0 : Int)⟩
def k78 : Kd S78 := Kd.iso (Kd.pair (Kd.int .i64) (Kd.pair (Kd.int .i64) (Kd.int .i64))) (fun x : S78 => (x.f0, x.f1, x.f2))
theorem k78_open {w : World} {x : S78} {cs : List Value} (h : k78.K w x cs) : cs = [.int .i64 x.f0, .int .i64 x.f1, .int .i64 x.f2] := by
  obtain ⟨_, _, rfl, rfl, ⟨_, _, rfl, rfl, rfl⟩⟩ := h
  exact rfl
theorem k78_mk (w : World) (x : S78)  : k78.K w x [.int .i64 x.f0, .int .i64 x.f1, .int .i64 x.f2] := ⟨[.int .i64 x.f0], [.int .i64 x.f1, .int .i64 x.f2], rfl, rfl, ⟨[.int .i64 x.f1], [.int .i64 x.f2], rfl, rfl, rfl⟩⟩
theorem k78_mkM (w : World) (base : Nat) (ok : Nat → Prop) (x : S78)  : k78.M w base ok x [.int .i64 x.f0, .int .i64 x.f1, .int .i64 x.f2] := ⟨[.int .i64 x.f0], [.int .i64 x.f1, .int .i64 x.f2], rfl, rfl, ⟨[.int .i64 x.f1], [.int .i64 x.f2], rfl, rfl, rfl⟩⟩
def rd_T78 (xs : List S78) (i : Int) : S78 := xs.getD i.toNat z78
theorem at_T78 {w : World} {A : Option Addr} {n : Nat} {xs : List S78} (h : Kd.C k78 w A n xs) (i : Int) (h0 : 0 ≤ i) (h1 : i < n) : ∃ ad , A = some ad ∧ w.cell? (ad.add (i.toNat * 3)) = some (.int .i64 (rd_T78 xs i).f0) ∧ w.cell? ⟨(ad.add (i.toNat * 3)).block, (ad.add (i.toNat * 3)).off + 1, none⟩ = some (.int .i64 (rd_T78 xs i).f1) ∧ w.cell? ⟨(ad.add (i.toNat * 3)).block, (ad.add (i.toNat * 3)).off + 2, none⟩ = some (.int .i64 (rd_T78 xs i).f2) := by
  obtain ⟨ad, c, e, _, hK, hc0⟩ := Kd.C_get h z78 i h0 h1
  have hc : ∀ j u, c[j]? = some u → w.cell? (ad.add (i.toNat * 3 + j)) = some u := hc0
  obtain rfl := k78_open hK
  exact ⟨ad, e, hc 0 _ rfl, by rw [← add_field _ _ 1 (by omega)]; exact hc 1 _ rfl, by rw [← add_field _ _ 2 (by omega)]; exact hc 2 _ rfl⟩

/-! #### struct type 70 -/
structure S70 where
  f0 : Int
  f1 : Int
  f2 : Int
  f3 : Int
  f4 : Int
end Go.Proofs.YtiibhggjlandmaaDoor.PL
-- Written by a program (a turned copy of the kit's print.py) for this claim. Lean checks it.
namespace Go.Proofs.YtiibhggjlandmaaDoor.PL
open Go.RowKit Go.Proofs.YtiibhggjlandmaaDoorW.PrintWords Go.Proofs.YtiibhggjlandmaaDoorW.PrintLast Go.Proofs.YtiibhggjlandmaaDoorW.PrintMore Go.Proofs.YtiibhggjlandmaaDoor.PF
attribute [local go_sem] max2_int min2_int max_two min_two max_three min_three max_four min_four   -- for this text's walks alone
set_option linter.unusedVariables false
set_option linter.unusedSimpArgs false

/-! ### anvillaw06_num: function 10 -/
/-! ### encode_f: function 39 -/
def encode_f.f (a0 : Int) (a1 : Int) (a2 : Int) (a3 : Int) : Option (Int × Int) := some (a0, Go.bits .or .u32 (Go.bits .or .u32 a1 ((a2 * 4096) % 4294967296)) ((a3 * 33554432) % 4294967296))
set_option maxHeartbeats 8000000 in
set_option maxRecDepth 100000 in
theorem encode_f.calls (a0 : Int) (a1 : Int) (a2 : Int) (a3 : Int) (r1 : Int) (r2 : Int) (w : World) (h : encode_f.f a0 a1 a2 a3 = some (r1, r2)) :
    Calls Tryd.prog 39 #[.int .i64 a0, .int .u32 a1, .int .u32 a2, .int .u32 a3] w fun e w' => e = .returned (.agg #[.int .i64 r1, .int .u32 r2]) ∧ Below w.heap.size w w' := by
  have hu56 := Tryd.underlying56
  have HB := Aside0.mk (Below.refl w.heap.size w)
  have H : (some (a0, Go.bits .or .u32 (Go.bits .or .u32 a1 ((a2 * 4096) % 4294967296)) ((a3 * 33554432) % 4294967296))) = some (r1, r2) := h
  clear h
  simp only [Option.some.injEq, Prod.mk.injEq] at H
  obtain ⟨rfl, rfl⟩ := H
  go_enter Tryd.func39, Tryd.ntmps39
  go_wp2_with (first | ((with_reducible refine gate_dst (N := 8) rfl ?_); refine box_event ?hg (N := 8) ?hd (cs := #[.int .i64 0, .int .u32 0]) (t := 56) ?hr ?_; (case hd => rfl); (case hg => rfl); (case hr => first | (go_simp; done) | (go_simp; rfl)); intro gb101 hg w5 hbox hb; have n0_ := Aside0.mk (below_step (by repeat (first | (with_reducible first | exact HB.out | apply below_alloc | apply pw_below_drewN | apply below_drew1) | exact HB.out)) hb); have n1_ := Aside0.mk (hbox); have n2_ := Aside0.mk ((by rw [hg]; exact (below_size (by repeat (first | (with_reducible first | exact HB.out | apply below_alloc | apply pw_below_drewN | apply below_drew1) | exact HB.out))) : w.heap.size ≤ gb101)); have n3_ := Aside0.mk ((by rw [hg]; exact (below_size (by repeat (first | (with_reducible first | exact HB.out | apply below_alloc | apply pw_below_drewN | apply below_drew1) | exact HB.out))) : w.heap.size ≤ gb101)); clear HB; have HB := n0_; have BK101 := n1_; have GW101 := n2_; have GE101 := n3_; clear n0_ n1_ n2_ n3_; clear hb hbox hg; have hcz6_0 : w5.cell? ⟨gb101, 0, none⟩ = some (.int .i64 0) := (blk_cell BK101.out 0).trans rfl; have hcz6_1 : w5.cell? ⟨gb101, 1, none⟩ = some (.int .u32 0) := (blk_cell BK101.out 1).trans rfl; have hfz6_0 := blk_frozen BK101.out 0; have hfz6_1 := blk_frozen BK101.out 1))
  refine bodyPost_ret (results_cell_row rfl _ _ gb101 56 #[.int .i64 a0, .int .u32 (Go.bits .or .u32 (Go.bits .or .u32 a1 ((a2 * 4096) % 4294967296)) ((a3 * 33554432) % 4294967296))] (0, 0) _ rfl (by (with_reducible repeat (first | refine blk_drewN ?_ _ | refine blk_drew ?_ | refine blk_alloc ?_ _)); refine blk_put (cs := #[.int .i64 a0, .int .u32 0]) ?_ 1 _ rfl; (with_reducible repeat (first | refine blk_drewN ?_ _ | refine blk_drew ?_ | refine blk_alloc ?_ _)); refine blk_put (cs := #[.int .i64 0, .int .u32 0]) ?_ 0 _ rfl; (with_reducible repeat (first | refine blk_drewN ?_ _ | refine blk_drew ?_ | refine blk_alloc ?_ _)); exact BK101.out) Tryd.underlying56 rfl (by kernel_rfl)) rfl ?_
  exact ⟨by first | rfl | (simp [errW_none, errW_some] <;> rfl) | (simp [*, errW_none, errW_some] <;> rfl), by repeat (first | (with_reducible first | exact HB.out | apply below_alloc | apply pw_below_drewN | apply below_drew1 | refine below_set ?_ GE101.out) | exact HB.out)⟩

-- NOT PRINTED: function 40 (encode_forms)

-- given elsewhere: function 23 (encode_formOf)

/-! ### encode_fields: function 24 -/
-- NOT PRINTED: function 25 (encode_reaches)

-- given elsewhere: function 11 (encode_Check)

/-! ### encode_scatter: function 30 -/
def encode_scatter.l0 : Nat → Int → Int → List (S78) → Int → Int → Option (Int)
  | 0, _, _, _, _, _ => none
  | k + 1, x0, x5, x8, x9, x10 => if x10 < x9 then (if 0 ≤ x10 then (if x10 < (x8.length : Int) then (if 0 ≤ ((rd_T78 x8 x10).f1) then (if 0 ≤ (wrap64 ((wrap64 (((rd_T78 x8 x10).f0) - ((rd_T78 x8 x10).f1))) + 1)) then (if 0 ≤ ((rd_T78 x8 x10).f2) then (encode_scatter.l0 k x0 (Go.bits .or .u32 x5 (shl .u32 (Go.bits .and .u32 ((shr .i64 x0 ((rd_T78 x8 x10).f1)) % 4294967296) (((shl .u32 1 (wrap64 ((wrap64 (((rd_T78 x8 x10).f0) - ((rd_T78 x8 x10).f1))) + 1))) - 1) % 4294967296)) ((rd_T78 x8 x10).f2))) x8 x9 (wrap64 (x10 + 1))) else (none)) else (none)) else (none)) else (none)) else (none)) else (some x5)
def encode_scatter.f (k : Nat) (a0 : Int) (l1 : List (S78)) : Option (Int) := encode_scatter.l0 k a0 0 l1 (l1.length : Int) 0
set_option maxHeartbeats 8000000 in
set_option maxRecDepth 100000 in
theorem encode_scatter.calls (k : Nat) (a0 : Int) (A1 : Option Addr) (c1 : Nat) (l1 : List (S78)) (r : Int) (w : World) (hr1 : Kd.C k78 w A1 l1.length l1) (hc1 : l1.length ≤ c1) (h : encode_scatter.f k a0 l1 = some r) :
    Calls Tryd.prog 30 #[.int .i64 a0, .slice A1 l1.length c1] w fun e w' => e = .returned (.int .u32 r) ∧ Below w.heap.size w w' := by
  have hu78 := Tryd.underlying78
  have HR1 := Aside0.mk hr1
  have HC1 := Aside0.mk hc1
  clear hr1 hc1
  have HB := Aside0.mk (Below.refl w.heap.size w)
  have H : (encode_scatter.l0 k a0 0 l1 (l1.length : Int) 0) = some r := h
  clear h
  have H' := Aside0.mk H
  clear H
  go_enter Tryd.func30, Tryd.ntmps30
  go_wp2
  repeat (go_quiet (fail); try go_wp2)
  go_loopg [5, 10] k (fun kq v5 v10 w' => ∃ (x5_1 : Int) (x10_1 : Int), v5 = .int .u32 x5_1 ∧ v10 = .int .i64 x10_1 ∧ Aside0 (encode_scatter.l0 kq a0 x5_1 l1 (l1.length : Int) x10_1 = some r) ∧ Aside0 (kq ≤ k) ∧ Aside0 (Below w.heap.size w w'))
  case atStart => exact ⟨(0), (0), (by first | rfl | (simp; done) | (simp [*]; done)), (by first | rfl | (simp; done) | (simp [*]; done)), H', ⟨Nat.le_refl _⟩, ⟨by repeat (first | (with_reducible first | exact HB.out | apply below_alloc | apply pw_below_drewN | apply below_drew1) | exact HB.out)⟩⟩
  case round =>
    clear H'
    try clear c1
    try clear p2
    obtain ⟨x5_1, x10_1, rfl, rfl, HA, HK1, HB⟩ := hrel
    cases gk with
    | zero => exact absurd HA.out (by simp [encode_scatter.l0])
    | succ k1 =>
      have H := HA.out
      clear HA
      simp only [encode_scatter.l0] at H
      by_cases c3 : x10_1 < (l1.length : Int)
      · rw [if_pos c3] at H
        have c3b0 : decide (x10_1 < (l1.length : Int)) = true := decide_eq_true c3
        clear c3
        by_cases c4 : 0 ≤ x10_1
        · rw [if_pos c4] at H
          have c4b0 : decide (0 ≤ x10_1) = true := decide_eq_true c4
          clear c4
          by_cases c5 : x10_1 < (l1.length : Int)
          · rw [if_pos c5] at H
            have c5b0 : decide (x10_1 < (l1.length : Int)) = true := decide_eq_true c5
            clear c5
            by_cases c6 : 0 ≤ ((rd_T78 l1 x10_1).f1)
            · rw [if_pos c6] at H
              have c6b0 := eq_true c6
              have c6b1 : decide (0 ≤ ((rd_T78 l1 x10_1).f1)) = true := decide_eq_true c6
              clear c6
              obtain ⟨ji7, hji7⟩ : ∃ j_ : Int, (shr .i64 a0 ((rd_T78 l1 x10_1).f1)) = j_ := ⟨_, rfl⟩
              replace H : (if 0 ≤ (wrap64 ((wrap64 (((rd_T78 l1 x10_1).f0) - ((rd_T78 l1 x10_1).f1))) + 1)) then (if 0 ≤ ((rd_T78 l1 x10_1).f2) then (encode_scatter.l0 k1 a0 (Go.bits .or .u32 x5_1 (shl .u32 (Go.bits .and .u32 ((ji7) % 4294967296) (((shl .u32 1 (wrap64 ((wrap64 (((rd_T78 l1 x10_1).f0) - ((rd_T78 l1 x10_1).f1))) + 1))) - 1) % 4294967296)) ((rd_T78 l1 x10_1).f2))) l1 (l1.length : Int) (wrap64 (x10_1 + 1))) else (none)) else (none)) = some r := by first | (rw [hji7] at H; exact H) | (simp only [hji7] at H ⊢; exact H)
              have hji7_ : (a0 / 2 ^ min ((rd_T78 l1 x10_1).f1).toNat 64) = ji7 := hji7
              have hji7z : ((rd_T78 l1 x10_1).f1) ≤ 64 → (a0 / 2 ^ ((rd_T78 l1 x10_1).f1).toNat) = ji7 := shr_small hji7
              obtain ⟨ji8, hji8⟩ : ∃ j_ : Int, (wrap64 ((wrap64 (((rd_T78 l1 x10_1).f0) - ((rd_T78 l1 x10_1).f1))) + 1)) = j_ := ⟨_, rfl⟩
              replace H : (if 0 ≤ (ji8) then (if 0 ≤ ((rd_T78 l1 x10_1).f2) then (encode_scatter.l0 k1 a0 (Go.bits .or .u32 x5_1 (shl .u32 (Go.bits .and .u32 ((ji7) % 4294967296) (((shl .u32 1 (ji8)) - 1) % 4294967296)) ((rd_T78 l1 x10_1).f2))) l1 (l1.length : Int) (wrap64 (x10_1 + 1))) else (none)) else (none)) = some r := by first | (rw [hji8] at H; exact H) | (simp only [hji8] at H ⊢; exact H)
              have hji8w : (IntKind.i64.wrap ((wrap64 (((rd_T78 l1 x10_1).f0) - ((rd_T78 l1 x10_1).f1))) + 1)) = ji8 := (i64_w _).trans hji8
              by_cases c9 : 0 ≤ (ji8)
              · rw [if_pos c9] at H
                have c9b0 := eq_true c9
                have c9b1 : decide (0 ≤ (ji8)) = true := decide_eq_true c9
                clear c9
                obtain ⟨ji10, hji10⟩ : ∃ j_ : Int, (shl .u32 1 (ji8)) = j_ := ⟨_, rfl⟩
                replace H : (if 0 ≤ ((rd_T78 l1 x10_1).f2) then (encode_scatter.l0 k1 a0 (Go.bits .or .u32 x5_1 (shl .u32 (Go.bits .and .u32 ((ji7) % 4294967296) (((ji10) - 1) % 4294967296)) ((rd_T78 l1 x10_1).f2))) l1 (l1.length : Int) (wrap64 (x10_1 + 1))) else (none)) = some r := by first | (rw [hji10] at H; exact H) | (simp only [hji10] at H ⊢; exact H)
                have hji10_ : (IntKind.u32.wrap (1 * 2 ^ min (ji8).toNat 32)) = ji10 := hji10
                have hji10z : (ji8) ≤ 32 → (IntKind.u32.wrap (1 * 2 ^ (ji8).toNat)) = ji10 := shl_small hji10
                have hji10u : (IntKind.u32.wrap (2 ^ min (ji8).toNat 32)) = ji10 := by have h_ := hji10_; rw [Int.one_mul] at h_; exact h_
                have hji10v : (ji8) ≤ 32 → (IntKind.u32.wrap (2 ^ (ji8).toNat)) = ji10 := fun hle_ => by have h_ := hji10z hle_; rw [Int.one_mul] at h_; exact h_
                by_cases c11 : 0 ≤ ((rd_T78 l1 x10_1).f2)
                · rw [if_pos c11] at H
                  have c11b0 := eq_true c11
                  have c11b1 : decide (0 ≤ ((rd_T78 l1 x10_1).f2)) = true := decide_eq_true c11
                  clear c11
                  obtain ⟨ji12, hji12⟩ : ∃ j_ : Int, (shl .u32 (Go.bits .and .u32 ((ji7) % 4294967296) (((ji10) - 1) % 4294967296)) ((rd_T78 l1 x10_1).f2)) = j_ := ⟨_, rfl⟩
                  replace H : (encode_scatter.l0 k1 a0 (Go.bits .or .u32 x5_1 (ji12)) l1 (l1.length : Int) (wrap64 (x10_1 + 1))) = some r := by first | (rw [hji12] at H; exact H) | (simp only [hji12] at H ⊢; exact H)
                  have hji12_ : (IntKind.u32.wrap ((Go.bits .and .u32 ((ji7) % 4294967296) (((ji10) - 1) % 4294967296)) * 2 ^ min ((rd_T78 l1 x10_1).f2).toNat 32)) = ji12 := hji12
                  have hji12z : ((rd_T78 l1 x10_1).f2) ≤ 32 → (IntKind.u32.wrap ((Go.bits .and .u32 ((ji7) % 4294967296) (((ji10) - 1) % 4294967296)) * 2 ^ ((rd_T78 l1 x10_1).f2).toNat)) = ji12 := shl_small hji12
                  have H' := Aside0.mk H
                  clear H
                  have p105 : 0 ≤ (x10_1 : Int) := of_decide_eq_true (by first | (with_reducible assumption) | assumption)
                  have q105 : x10_1 < (l1.length : Int) := of_decide_eq_true (by first | (with_reducible assumption) | assumption)
                  obtain ⟨ad105, e105, hx105_0, hx105_1, hx105_2⟩ := at_T78 HR1.out x10_1 p105 q105
                  cases e105
                  replace hx105_0 := (HB.out.cell (World.block_lt_of_cell? w _ hx105_0)).trans hx105_0
                  replace hx105_1 := (HB.out.cell (World.block_lt_of_cell? w _ hx105_1)).trans hx105_1
                  replace hx105_2 := (HB.out.cell (World.block_lt_of_cell? w _ hx105_2)).trans hx105_2
                  replace p105 := eq_true p105
                  replace q105 := eq_true q105
                  go_wp2_with (first | ((with_reducible refine gate_dst (N := 7) rfl ?_); refine box_event ?hg (N := 7) ?hd (cs := #[.int .i64 0, .int .i64 0, .int .i64 0]) (t := 78) ?hr ?_; (case hd => rfl); (case hg => rfl); (case hr => first | (go_simp; done) | (go_simp; rfl)); intro gb106 hg w13 hbox hb; have n0_ := Aside0.mk (below_step (by repeat (first | (with_reducible first | exact HB.out | apply below_alloc | apply pw_below_drewN | apply below_drew1) | exact HB.out)) hb); have n1_ := Aside0.mk (hbox); have n2_ := Aside0.mk ((by rw [hg]; exact (below_size (by repeat (first | (with_reducible first | exact HB.out | apply below_alloc | apply pw_below_drewN | apply below_drew1) | exact HB.out))) : w.heap.size ≤ gb106)); have n3_ := Aside0.mk ((by rw [hg]; exact (below_size (by repeat (first | (with_reducible first | exact HB.out | apply below_alloc | apply pw_below_drewN | apply below_drew1) | exact HB.out))) : w.heap.size ≤ gb106)); clear HB; have HB := n0_; have BK106 := n1_; have GW106 := n2_; have GE106 := n3_; clear n0_ n1_ n2_ n3_; clear hb hbox hg; have hcz14_0 : w13.cell? ⟨gb106, 0, none⟩ = some (.int .i64 0) := (blk_cell BK106.out 0).trans rfl; have hcz14_1 : w13.cell? ⟨gb106, 1, none⟩ = some (.int .i64 0) := (blk_cell BK106.out 1).trans rfl; have hcz14_2 : w13.cell? ⟨gb106, 2, none⟩ = some (.int .i64 0) := (blk_cell BK106.out 2).trans rfl; have hfz14_0 := blk_frozen BK106.out 0; have hfz14_1 := blk_frozen BK106.out 1; have hfz14_2 := blk_frozen BK106.out 2))
                  repeat (go_quiet (first | ((with_reducible refine gate_dst (N := 7) rfl ?_); refine box_event ?hg (N := 7) ?hd (cs := #[.int .i64 0, .int .i64 0, .int .i64 0]) (t := 78) ?hr ?_; (case hd => rfl); (case hg => rfl); (case hr => first | (go_simp; done) | (go_simp; rfl)); intro gb106 hg w13 hbox hb; have n0_ := Aside0.mk (below_step (by repeat (first | (with_reducible first | exact HB.out | apply below_alloc | apply pw_below_drewN | apply below_drew1) | exact HB.out)) hb); have n1_ := Aside0.mk (hbox); have n2_ := Aside0.mk ((by rw [hg]; exact (below_size (by repeat (first | (with_reducible first | exact HB.out | apply below_alloc | apply pw_below_drewN | apply below_drew1) | exact HB.out))) : w.heap.size ≤ gb106)); have n3_ := Aside0.mk ((by rw [hg]; exact (below_size (by repeat (first | (with_reducible first | exact HB.out | apply below_alloc | apply pw_below_drewN | apply below_drew1) | exact HB.out))) : w.heap.size ≤ gb106)); clear HB; have HB := n0_; have BK106 := n1_; have GW106 := n2_; have GE106 := n3_; clear n0_ n1_ n2_ n3_; clear hb hbox hg; have hcz14_0 : w13.cell? ⟨gb106, 0, none⟩ = some (.int .i64 0) := (blk_cell BK106.out 0).trans rfl; have hcz14_1 : w13.cell? ⟨gb106, 1, none⟩ = some (.int .i64 0) := (blk_cell BK106.out 1).trans rfl; have hcz14_2 : w13.cell? ⟨gb106, 2, none⟩ = some (.int .i64 0) := (blk_cell BK106.out 2).trans rfl; have hfz14_0 := blk_frozen BK106.out 0; have hfz14_1 := blk_frozen BK106.out 1; have hfz14_2 := blk_frozen BK106.out 2)); try go_wp2_with (first | ((with_reducible refine gate_dst (N := 7) rfl ?_); refine box_event ?hg (N := 7) ?hd (cs := #[.int .i64 0, .int .i64 0, .int .i64 0]) (t := 78) ?hr ?_; (case hd => rfl); (case hg => rfl); (case hr => first | (go_simp; done) | (go_simp; rfl)); intro gb106 hg w13 hbox hb; have n0_ := Aside0.mk (below_step (by repeat (first | (with_reducible first | exact HB.out | apply below_alloc | apply pw_below_drewN | apply below_drew1) | exact HB.out)) hb); have n1_ := Aside0.mk (hbox); have n2_ := Aside0.mk ((by rw [hg]; exact (below_size (by repeat (first | (with_reducible first | exact HB.out | apply below_alloc | apply pw_below_drewN | apply below_drew1) | exact HB.out))) : w.heap.size ≤ gb106)); have n3_ := Aside0.mk ((by rw [hg]; exact (below_size (by repeat (first | (with_reducible first | exact HB.out | apply below_alloc | apply pw_below_drewN | apply below_drew1) | exact HB.out))) : w.heap.size ≤ gb106)); clear HB; have HB := n0_; have BK106 := n1_; have GW106 := n2_; have GE106 := n3_; clear n0_ n1_ n2_ n3_; clear hb hbox hg; have hcz14_0 : w13.cell? ⟨gb106, 0, none⟩ = some (.int .i64 0) := (blk_cell BK106.out 0).trans rfl; have hcz14_1 : w13.cell? ⟨gb106, 1, none⟩ = some (.int .i64 0) := (blk_cell BK106.out 1).trans rfl; have hcz14_2 : w13.cell? ⟨gb106, 2, none⟩ = some (.int .i64 0) := (blk_cell BK106.out 2).trans rfl; have hfz14_0 := blk_frozen BK106.out 0; have hfz14_1 := blk_frozen BK106.out 1; have hfz14_2 := blk_frozen BK106.out 2)))
                  go_roundg k1
                  case measure => have := HK1.out; omega
                  case rel => exact ⟨(Go.bits .or .u32 x5_1 (ji12)), (wrap64 (x10_1 + 1)), (by first | rfl | (simp; done) | (simp only [← hji12] <;> (first | rfl | simp)) | (simp [*]; done)), (by first | rfl | (simp; done) | (simp [*]; done)), H', ⟨by have := HK1.out; omega⟩, ⟨by repeat (first | (with_reducible first | exact HB.out | apply below_alloc | apply pw_below_drewN | apply below_drew1 | refine below_set ?_ GE106.out) | exact HB.out)⟩⟩
                · rw [if_neg c11] at H
                  exact absurd H (by simp)
              · rw [if_neg c9] at H
                exact absurd H (by simp)
            · rw [if_neg c6] at H
              exact absurd H (by simp)
          · rw [if_neg c5] at H
            exact absurd H (by simp)
        · rw [if_neg c4] at H
          exact absurd H (by simp)
      · rw [if_neg c3] at H
        have c3b0 : decide (x10_1 < (l1.length : Int)) = false := decide_eq_false c3
        clear c3
        obtain rfl := Option.some.inj H
        go_wp2
        repeat (go_quiet (fail); try go_wp2)
        go_ret
        exact ⟨by first | rfl | (simp [errW_none, errW_some] <;> rfl) | (simp [*, errW_none, errW_some] <;> rfl), by repeat (first | (with_reducible first | exact HB.out | apply below_alloc | apply pw_below_drewN | apply below_drew1) | exact HB.out)⟩

end Go.Proofs.YtiibhggjlandmaaDoor.PL
