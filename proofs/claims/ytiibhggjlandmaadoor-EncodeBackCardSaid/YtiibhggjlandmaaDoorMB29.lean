/- Texts of this claim, put together by a program: PureTry. -/
import Derived.Test.YtiibhggjlandmaaDoorMB27
import Derived.Test.YtiibhggjlandmaaDoorMBxPureDE2
import Derived.Test.YtiibhggjlandmaaDoorMBxPK
/- encode.Compress in plain numbers: the least of the tried parcels that is read as the record. No condition. -/
namespace Go.Proofs.YtiibhggjlandmaaDoor.Pure
open Go.RowKit Go.Proofs.YtiibhggjlandmaaDoorW.PrintWords Go.Proofs.YtiibhggjlandmaaDoorW.PrintMore Go.Proofs.YtiibhggjlandmaaDoor.PB Go.Proofs.YtiibhggjlandmaaDoor.PD Go.Proofs.YtiibhggjlandmaaDoor.PK Go.Proofs.YtiibhggjlandmaaDoor.Mth
open Go.Proofs.YtiibhggjlandmaaDoor.PF (encode_formOf.f encode_Check.f findT formT)
open Go.Proofs.YtiibhggjlandmaaDoor.PL (encode_Encode.f encode_scatter.f)
open Go.Proofs.YtiibhggjlandmaaDoor.TR (tryL encode_tries.f orAll hd lo wh sc)
open Go.Proofs.YtiibhggjlandmaaDoor.Enc (W6 fi fb Val immOk encT formN)
set_option linter.unusedVariables false
set_option linter.unusedSimpArgs false
abbrev Rec := Int × Int × Int × Int × Int × Bool × Bool × Int × Int
/-- What a parcel is read as. -/
def dcd (p : Nat) : Rec := (decode_Decode.f 2020 (p : Int)).getD (0, 0, 0, 0, 0, false, false, 0, 0)
theorem dcd_ok (p : Nat) (hp : p < 65536) (h3 : p % 4 ≠ 3) : (decode_Expand.f 2020 (p : Int) = some (0, false) ∧ decode_Decode.f 2020 (p : Int) = some (0, 0, 0, 0, 0, false, false, 2, (p : Int))) ∨
    ∃ e : Nat, decode_Expand.f 2020 (p : Int) = some ((e : Int), true) ∧ e % 4 = 3 ∧ e < 4294967296 ∧ decode_Decode.f 2020 (p : Int) = some (decN e 2 (p : Int)) := by
  have hm : p % 65536 = p := Nat.mod_eq_of_lt hp
  rcases okP_get (okP_all p hp) with h | ⟨e, h, h1, h2, h4, _⟩
  · left
    have := decode_short (k := 2020) (by decide) p 0 false (by omega) (by decide) h3 (by rw [hm]; exact h)
    rw [hm] at this
    exact ⟨h, this⟩
  · right
    have := decode_short (k := 2020) (by decide) p e true (by omega) h4 h3 (by rw [hm]; exact h)
    rw [hm] at this
    exact ⟨e, h, h2, h4, this⟩
theorem dcd_some (p : Nat) (hp : p < 65536) (h3 : p % 4 ≠ 3) : decode_Decode.f 2020 (p : Int) = some (dcd p) := by
  rcases dcd_ok p hp h3 with ⟨_, h⟩ | ⟨e, _, _, _, h⟩ <;> (unfold dcd; rw [h]; rfl)
/-- The parcels tried are parcels. -/
theorem or_mod (a b : Nat) : (a ||| b) % 4 = a % 4 ||| b % 4 := by
  have := @Nat.or_mod_two_pow a b 2
  simpa using this
theorem or32m (a b : Nat) (ha : a < 4294967296) (hb : b < 4294967296) : ∃ c : Nat, Go.bits .or .u32 (a : Int) (b : Int) = (c : Int) ∧ c < 4294967296 ∧ c % 4 = (a % 4 ||| b % 4) :=
  ⟨a ||| b, or32 a b ha hb, by have := Nat.or_lt_two_pow (n := 32) ha hb; omega, or_mod a b⟩
/-- A number of 32 bits with its lowest two. -/
def Low (x : Int) (q : Nat) : Prop := ∃ a : Nat, x = (a : Int) ∧ a < 4294967296 ∧ a % 4 = q
theorem orAll_low (q : Nat) (hq : q < 4) : ∀ (l : List Int) (acc : Int), Low acc q → (∀ x ∈ l, Low x 0) → Low (l.foldl (fun a x => Go.bits .or .u32 a x) acc) q
  | [], acc, h, _ => h
  | x :: l, acc, h, hl => by
    obtain ⟨a, rfl, ha, hq1⟩ := h
    obtain ⟨b, rfl, hb, hq2⟩ := hl x List.mem_cons_self
    obtain ⟨c, hc, hc1, hc2⟩ := or32m a b ha hb
    rw [List.foldl_cons, hc]
    refine orAll_low q hq l _ ⟨c, rfl, hc1, ?_⟩ (fun y hy => hl y (List.mem_cons_of_mem _ hy))
    rw [hc2, hq1, hq2]; exact Nat.or_zero q
theorem try_low (q : Nat) (hq : q < 3) (h : Int) (l : List Int) (hh : Low h q) (hl : ∀ x ∈ l, Low x 0) : ∃ p : Nat, IntKind.u16.wrap (orAll (h :: l)) = (p : Int) ∧ p < 65536 ∧ p % 4 = q := by
  have h1 : Low (Go.bits .or .u32 0 h) q := by
    obtain ⟨a, rfl, ha, hq1⟩ := hh
    obtain ⟨c, hc, hc1, hc2⟩ := or32m 0 a (by decide) ha
    exact ⟨c, hc, hc1, by rw [hc2, hq1]; simp⟩
  obtain ⟨a, ha, h2, h3⟩ := orAll_low q (by omega) l _ h1 hl
  refine ⟨a % 65536, ?_, Nat.mod_lt _ (by decide), by omega⟩
  unfold orAll
  rw [List.foldl_cons, ha, IntKind.wrap_u16]; omega
def OkT (x : Int) : Prop := ∃ p : Nat, x = (p : Int) ∧ p < 65536 ∧ p % 4 ≠ 3
theorem hd_in : ∀ q : Fin 3, ∀ h : Fin 8, 0 ≤ hd (q.val : Int) (h.val : Int) ∧ hd (q.val : Int) (h.val : Int) < 4294967296 ∧ (hd (q.val : Int) (h.val : Int)).toNat % 4 = q.val := by decide +kernel
theorem hd_low (q h : Nat) (hq : q < 3) (hh : h < 8) : Low (hd (q : Int) (h : Int)) q := by
  have := hd_in ⟨q, hq⟩ ⟨h, hh⟩
  dsimp only at this
  exact ⟨(hd (q : Int) (h : Int)).toNat, by omega, by omega, this.2.2⟩
theorem shl_low (x : Int) (a : Nat) (h2 : 2 ≤ a) (h : a ≤ 32) : Low (shl .u32 x (a : Int)) 0 := by
  obtain ⟨c, rfl⟩ : ∃ c, a = c + 2 := ⟨a - 2, by omega⟩
  have e : shl .u32 x ((c + 2 : Nat) : Int) = IntKind.u32.wrap (x * 2 ^ (c + 2)) := by
    unfold shl
    rw [Int.toNat_natCast, Nat.min_eq_left (by simp [IntKind.bits]; omega)]
  rw [e, IntKind.wrap_u32, Int.pow_add]
  have e2 : x * (2 ^ c * 2 ^ 2) = 4 * (x * 2 ^ c) := by rw [show (2 : Int) ^ 2 = 4 from rfl, Int.mul_comm (2 ^ c) 4, ← Int.mul_assoc, Int.mul_comm x 4, Int.mul_assoc]
  rw [e2]
  generalize x * 2 ^ c = y
  exact ⟨(4 * y % 4294967296).toNat, by omega, by omega, by omega⟩
theorem lo_low (r : Int) (a : Nat) (h2 : 2 ≤ a) (h : a ≤ 32) : Low (lo r (a : Int)) 0 := by
  have e : lo r (a : Int) = shl .u32 ((Go.bits .and .i64 r 7) % 4294967296) (a : Int) := by
    unfold lo Go.Proofs.YtiibhggjlandmaaDoor.PT.encode_low.f; rw [if_pos (by omega)]; rfl
  rw [e]; exact shl_low _ a h2 h
theorem wh_low (r : Int) (a : Nat) (h2 : 2 ≤ a) (h : a ≤ 32) : Low (wh r (a : Int)) 0 := by
  have e : wh r (a : Int) = shl .u32 (r % 4294967296) (a : Int) := by
    unfold wh Go.Proofs.YtiibhggjlandmaaDoor.PT.encode_whole.f; rw [if_pos (by omega)]; rfl
  rw [e]; exact shl_low _ a h2 h
def mvLow (m : Go.Proofs.YtiibhggjlandmaaDoor.PL.S78) : Bool := Go.Proofs.YtiibhggjlandmaaDoor.Enc.mvOk m && decide (2 ≤ m.f2) && decide (m.f2 ≤ 32)
theorem mv_low (n : Int) (m : Go.Proofs.YtiibhggjlandmaaDoor.PL.S78) (h : mvLow m = true) : Low (Go.Proofs.YtiibhggjlandmaaDoor.Enc.mv n m) 0 := by
  simp only [mvLow, Bool.and_eq_true, decide_eq_true_eq] at h
  obtain ⟨⟨_, h2⟩, h3⟩ := h
  obtain ⟨a, ha⟩ : ∃ a : Nat, m.f2 = a := ⟨m.f2.toNat, by omega⟩
  unfold Go.Proofs.YtiibhggjlandmaaDoor.Enc.mv
  rw [ha]; exact shl_low _ a (by omega) (by omega)
theorem sc_low (n : Int) (l : List Go.Proofs.YtiibhggjlandmaaDoor.PL.S78) (hl : l.length < 10) (h : ∀ m ∈ l, mvLow m = true) : Low (sc n l) 0 := by
  have ho : ∀ m ∈ l, Go.Proofs.YtiibhggjlandmaaDoor.Enc.mvOk m = true := fun m hm => by
    have := h m hm
    simp only [mvLow, Bool.and_eq_true] at this
    exact this.1.1
  have e := Go.Proofs.YtiibhggjlandmaaDoor.Enc.scatter_ok n l 20 (by decide) hl ho
  unfold sc
  rw [e]
  show Low (l.foldl (fun a m => Go.bits .or .u32 a (Go.Proofs.YtiibhggjlandmaaDoor.Enc.mv n m)) 0) 0
  have := orAll_low 0 (by decide) (l.map (Go.Proofs.YtiibhggjlandmaaDoor.Enc.mv n)) 0 ⟨0, rfl, by decide, rfl⟩ (fun x hx => by
    obtain ⟨m, hm, rfl⟩ := List.mem_map.mp hx
    exact mv_low n m (h m hm))
  rwa [List.foldl_map] at this
theorem low_c (k : Nat) (h : k < 4294967296) (h4 : k % 4 = 0) : Low (k : Int) 0 := ⟨k, rfl, h, h4⟩
theorem lowL_nil : ∀ x ∈ ([] : List Int), Low x 0 := fun x hx => by cases hx
theorem lowL_cons {x : Int} {l : List Int} (h : Low x 0) (hl : ∀ y ∈ l, Low y 0) : ∀ y ∈ x :: l, Low y 0 := fun y hy => by
  rcases List.mem_cons.mp hy with rfl | hy
  · exact h
  · exact hl y hy
theorem okT_of (q h : Nat) (hq : q < 3) (hh : h < 8) (l : List Int) (hl : ∀ x ∈ l, Low x 0) : OkT (IntKind.u16.wrap (orAll (hd (q : Int) (h : Int) :: l))) := by
  obtain ⟨p, e, h1, h2⟩ := try_low q hq _ l (hd_low q h hq hh) hl
  exact ⟨p, e, h1, by omega⟩
theorem okL_nil : ∀ x ∈ ([] : List Int), OkT x := fun x hx => by cases hx
theorem okL_cons {x : Int} {l : List Int} (h : OkT x) (hl : ∀ y ∈ l, OkT y) : ∀ y ∈ x :: l, OkT y := fun y hy => by
  rcases List.mem_cons.mp hy with rfl | hy
  · exact h
  · exact hl y hy
theorem all_ite {c : Prop} [Decidable c] {a b : List Int} {P : Int → Prop} (ha : ∀ x ∈ a, P x) (hb : ∀ x ∈ b, P x) : ∀ x ∈ (if c then a else b), P x := by split <;> assumption
set_option maxHeartbeats 4000000 in
set_option maxRecDepth 10000 in
theorem try_all (op rd rs1 rs2 n : Int) : ∀ x ∈ tryL op rd rs1 rs2 n, OkT x := by
  unfold tryL
  refine all_ite (okL_cons (okT_of 0 0 (by decide) (by decide) _ (lowL_cons (lo_low rd 2 (by decide) (by decide)) (lowL_cons (sc_low n Go.Proofs.YtiibhggjlandmaaDoor.TR.a_spn (by decide) (by decide +kernel)) lowL_nil))) (okL_cons (okT_of 1 0 (by decide) (by decide) _ (lowL_cons (wh_low rd 7 (by decide) (by decide)) (lowL_cons (sc_low n Go.Proofs.YtiibhggjlandmaaDoor.TR.a_six (by decide) (by decide +kernel)) lowL_nil))) (okL_cons (okT_of 1 2 (by decide) (by decide) _ (lowL_cons (wh_low rd 7 (by decide) (by decide)) (lowL_cons (sc_low n Go.Proofs.YtiibhggjlandmaaDoor.TR.a_six (by decide) (by decide +kernel)) lowL_nil))) (okL_cons (okT_of 1 3 (by decide) (by decide) _ (lowL_cons (wh_low 2 7 (by decide) (by decide)) (lowL_cons (sc_low n Go.Proofs.YtiibhggjlandmaaDoor.TR.a_sp16 (by decide) (by decide +kernel)) lowL_nil))) okL_nil)))) ?_
  refine all_ite (okL_cons (okT_of 1 1 (by decide) (by decide) _ (lowL_cons (wh_low rd 7 (by decide) (by decide)) (lowL_cons (sc_low n Go.Proofs.YtiibhggjlandmaaDoor.TR.a_six (by decide) (by decide +kernel)) lowL_nil))) okL_nil) ?_
  refine all_ite (okL_cons (okT_of 1 3 (by decide) (by decide) _ (lowL_cons (wh_low rd 7 (by decide) (by decide)) (lowL_cons (sc_low (shr .i64 n 12) Go.Proofs.YtiibhggjlandmaaDoor.TR.a_six (by decide) (by decide +kernel)) lowL_nil))) okL_nil) ?_
  refine all_ite (okL_cons (okT_of 0 2 (by decide) (by decide) _ (lowL_cons (lo_low rd 2 (by decide) (by decide)) (lowL_cons (lo_low rs1 7 (by decide) (by decide)) (lowL_cons (sc_low n Go.Proofs.YtiibhggjlandmaaDoor.TR.a_lw (by decide) (by decide +kernel)) lowL_nil)))) (okL_cons (okT_of 2 2 (by decide) (by decide) _ (lowL_cons (wh_low rd 7 (by decide) (by decide)) (lowL_cons (sc_low n Go.Proofs.YtiibhggjlandmaaDoor.TR.a_lwsp (by decide) (by decide +kernel)) lowL_nil))) okL_nil)) ?_
  refine all_ite (okL_cons (okT_of 0 3 (by decide) (by decide) _ (lowL_cons (lo_low rd 2 (by decide) (by decide)) (lowL_cons (lo_low rs1 7 (by decide) (by decide)) (lowL_cons (sc_low n Go.Proofs.YtiibhggjlandmaaDoor.TR.a_ld (by decide) (by decide +kernel)) lowL_nil)))) (okL_cons (okT_of 2 3 (by decide) (by decide) _ (lowL_cons (wh_low rd 7 (by decide) (by decide)) (lowL_cons (sc_low n Go.Proofs.YtiibhggjlandmaaDoor.TR.a_ldsp (by decide) (by decide +kernel)) lowL_nil))) okL_nil)) ?_
  refine all_ite (okL_cons (okT_of 0 6 (by decide) (by decide) _ (lowL_cons (lo_low rs2 2 (by decide) (by decide)) (lowL_cons (lo_low rs1 7 (by decide) (by decide)) (lowL_cons (sc_low n Go.Proofs.YtiibhggjlandmaaDoor.TR.a_lw (by decide) (by decide +kernel)) lowL_nil)))) (okL_cons (okT_of 2 6 (by decide) (by decide) _ (lowL_cons (wh_low rs2 2 (by decide) (by decide)) (lowL_cons (sc_low n Go.Proofs.YtiibhggjlandmaaDoor.TR.a_swsp (by decide) (by decide +kernel)) lowL_nil))) okL_nil)) ?_
  refine all_ite (okL_cons (okT_of 0 7 (by decide) (by decide) _ (lowL_cons (lo_low rs2 2 (by decide) (by decide)) (lowL_cons (lo_low rs1 7 (by decide) (by decide)) (lowL_cons (sc_low n Go.Proofs.YtiibhggjlandmaaDoor.TR.a_ld (by decide) (by decide +kernel)) lowL_nil)))) (okL_cons (okT_of 2 7 (by decide) (by decide) _ (lowL_cons (wh_low rs2 2 (by decide) (by decide)) (lowL_cons (sc_low n Go.Proofs.YtiibhggjlandmaaDoor.TR.a_sdsp (by decide) (by decide +kernel)) lowL_nil))) okL_nil)) ?_
  refine all_ite (okL_cons (okT_of 1 4 (by decide) (by decide) _ (lowL_cons (lo_low rd 7 (by decide) (by decide)) (lowL_cons (sc_low n Go.Proofs.YtiibhggjlandmaaDoor.TR.a_six (by decide) (by decide +kernel)) lowL_nil))) okL_nil) ?_
  refine all_ite (okL_cons (okT_of 1 4 (by decide) (by decide) _ (lowL_cons (low_c 1024 (by decide) (by decide)) (lowL_cons (lo_low rd 7 (by decide) (by decide)) (lowL_cons (sc_low n Go.Proofs.YtiibhggjlandmaaDoor.TR.a_six (by decide) (by decide +kernel)) lowL_nil)))) okL_nil) ?_
  refine all_ite (okL_cons (okT_of 1 4 (by decide) (by decide) _ (lowL_cons (low_c 2048 (by decide) (by decide)) (lowL_cons (lo_low rd 7 (by decide) (by decide)) (lowL_cons (sc_low n Go.Proofs.YtiibhggjlandmaaDoor.TR.a_six (by decide) (by decide +kernel)) lowL_nil)))) okL_nil) ?_
  refine all_ite (okL_cons (okT_of 2 0 (by decide) (by decide) _ (lowL_cons (wh_low rd 7 (by decide) (by decide)) (lowL_cons (sc_low n Go.Proofs.YtiibhggjlandmaaDoor.TR.a_six (by decide) (by decide +kernel)) lowL_nil))) okL_nil) ?_
  refine all_ite (okL_cons (okT_of 1 5 (by decide) (by decide) _ (lowL_cons (sc_low n Go.Proofs.YtiibhggjlandmaaDoor.TR.a_jump (by decide) (by decide +kernel)) lowL_nil)) okL_nil) ?_
  refine all_ite (okL_cons (okT_of 1 6 (by decide) (by decide) _ (lowL_cons (lo_low rs1 7 (by decide) (by decide)) (lowL_cons (sc_low n Go.Proofs.YtiibhggjlandmaaDoor.TR.a_branch (by decide) (by decide +kernel)) lowL_nil))) okL_nil) ?_
  refine all_ite (okL_cons (okT_of 1 7 (by decide) (by decide) _ (lowL_cons (lo_low rs1 7 (by decide) (by decide)) (lowL_cons (sc_low n Go.Proofs.YtiibhggjlandmaaDoor.TR.a_branch (by decide) (by decide +kernel)) lowL_nil))) okL_nil) ?_
  refine all_ite (okL_cons (okT_of 2 4 (by decide) (by decide) _ (lowL_cons (wh_low rs1 7 (by decide) (by decide)) lowL_nil)) (okL_cons (okT_of 2 4 (by decide) (by decide) _ (lowL_cons (low_c 4096 (by decide) (by decide)) (lowL_cons (wh_low rs1 7 (by decide) (by decide)) lowL_nil))) okL_nil)) ?_
  refine all_ite (okL_cons (okT_of 2 4 (by decide) (by decide) _ (lowL_cons (low_c 4096 (by decide) (by decide)) lowL_nil)) okL_nil) ?_
  refine all_ite (okL_cons (okT_of 2 4 (by decide) (by decide) _ (lowL_cons (wh_low rd 7 (by decide) (by decide)) (lowL_cons (wh_low rs2 2 (by decide) (by decide)) lowL_nil))) (okL_cons (okT_of 2 4 (by decide) (by decide) _ (lowL_cons (low_c 4096 (by decide) (by decide)) (lowL_cons (wh_low rd 7 (by decide) (by decide)) (lowL_cons (wh_low rs2 2 (by decide) (by decide)) lowL_nil)))) okL_nil)) ?_
  refine all_ite (okL_cons (okT_of 1 4 (by decide) (by decide) _ (lowL_cons (low_c 3072 (by decide) (by decide)) (lowL_cons (low_c 0 (by decide) (by decide)) (lowL_cons (lo_low rd 7 (by decide) (by decide)) (lowL_cons (lo_low rs2 2 (by decide) (by decide)) lowL_nil))))) okL_nil) ?_
  refine all_ite (okL_cons (okT_of 1 4 (by decide) (by decide) _ (lowL_cons (low_c 3072 (by decide) (by decide)) (lowL_cons (low_c 32 (by decide) (by decide)) (lowL_cons (lo_low rd 7 (by decide) (by decide)) (lowL_cons (lo_low rs2 2 (by decide) (by decide)) lowL_nil))))) okL_nil) ?_
  refine all_ite (okL_cons (okT_of 1 4 (by decide) (by decide) _ (lowL_cons (low_c 3072 (by decide) (by decide)) (lowL_cons (low_c 64 (by decide) (by decide)) (lowL_cons (lo_low rd 7 (by decide) (by decide)) (lowL_cons (lo_low rs2 2 (by decide) (by decide)) lowL_nil))))) okL_nil) ?_
  refine all_ite (okL_cons (okT_of 1 4 (by decide) (by decide) _ (lowL_cons (low_c 3072 (by decide) (by decide)) (lowL_cons (low_c 96 (by decide) (by decide)) (lowL_cons (lo_low rd 7 (by decide) (by decide)) (lowL_cons (lo_low rs2 2 (by decide) (by decide)) lowL_nil))))) okL_nil) ?_
  refine all_ite (okL_cons (okT_of 1 4 (by decide) (by decide) _ (lowL_cons (low_c 3072 (by decide) (by decide)) (lowL_cons (low_c 4096 (by decide) (by decide)) (lowL_cons (lo_low rd 7 (by decide) (by decide)) (lowL_cons (lo_low rs2 2 (by decide) (by decide)) lowL_nil))))) okL_nil) ?_
  refine all_ite (okL_cons (okT_of 1 4 (by decide) (by decide) _ (lowL_cons (low_c 3072 (by decide) (by decide)) (lowL_cons (low_c 4128 (by decide) (by decide)) (lowL_cons (lo_low rd 7 (by decide) (by decide)) (lowL_cons (lo_low rs2 2 (by decide) (by decide)) lowL_nil))))) okL_nil) ?_
  exact okL_nil
theorem try_len (op rd rs1 rs2 n : Int) : (tryL op rd rs1 rs2 n).length ≤ 4 := by
  unfold tryL
  repeat (first | exact Go.Proofs.YtiibhggjlandmaaDoor.PK.len_nil | refine Go.Proofs.YtiibhggjlandmaaDoor.PK.len_ite (by simp) ?_)
/-- The record, but for Len and Raw. -/
def sameB (D : Rec) (op rd rs1 rs2 v : Int) (aq rl : Bool) : Bool := (D.1 == op && (D.2.1 == rd && (D.2.2.1 == rs1 && (D.2.2.2.1 == rs2 && (D.2.2.2.2.1 == v && (D.2.2.2.2.2.1 == aq && (D.2.2.2.2.2.2.1 == rl && ((0 : Int) == 0 && ((0 : Int) == 0)))))))))
def stepC (S : Int → Bool) (bf : Int × Bool) (x : Int) : Int × Bool := if S x = true then (if bf.2 = true then (if x < bf.1 then (x, true) else bf) else (x, true)) else bf
theorem comp_l0 (op rd rs1 rs2 v : Int) (aq rl : Bool) : ∀ (r p : List Int) (k : Nat) (b : Int) (f : Bool), 2020 + r.length < k → (p ++ r).length < 100 → (∀ x ∈ r, OkT x) →
    encode_Compress.l0 k b f (p ++ r) ((p ++ r).length : Int) p.length op rd rs1 rs2 v aq rl 0 0 = some (r.foldl (stepC (fun x => sameB (dcd x.toNat) op rd rs1 rs2 v aq rl)) (b, f))
  | [], p, k, b, f, h, _, _ => by
    obtain ⟨k, rfl⟩ : ∃ j, k = j + 1 := ⟨k - 1, by omega⟩
    rw [encode_Compress.l0, if_neg (by simp)]; rfl
  | a :: r, p, k, b, f, h, hb, ho => by
    obtain ⟨k, rfl⟩ : ∃ j, k = j + 1 := ⟨k - 1, by omega⟩
    simp only [List.length_cons, List.length_append] at h hb
    have hl : ((p ++ a :: r).length : Int) = (p.length : Int) + (r.length : Int) + 1 := by simp; omega
    have hg : Go.Proofs.YtiibhggjlandmaaDoorW.PrintWords.rd (p ++ a :: r) (p.length : Int) = a := by simp [Go.Proofs.YtiibhggjlandmaaDoorW.PrintWords.rd]
    obtain ⟨q, hq, h1, h3⟩ := ho a List.mem_cons_self
    have hd2 : decode_Decode.f k ((Go.Proofs.YtiibhggjlandmaaDoorW.PrintWords.rd (p ++ a :: r) (p.length : Int)) % 4294967296) = some (dcd a.toNat) := by
      have hg' : Go.Proofs.YtiibhggjlandmaaDoorW.PrintWords.rd (p ++ a :: r) (p.length : Int) = a := hg
      rw [hg', hq, show (q : Int) % 4294967296 = q by omega, Int.toNat_natCast]
      exact at_rounds (g := fun k => decode_Decode.f k (q : Int)) (decode_Decode.mono _) (by omega) (dcd_some q h1 h3)
    have hg' : Go.Proofs.YtiibhggjlandmaaDoorW.PrintWords.rd (p ++ a :: r) (p.length : Int) = a := hg
    have hw : wrap64 ((p.length : Int) + 1) = ((p ++ [a]).length : Nat) := by rw [List.length_append]; simp; unfold wrap64; omega
    have ih := fun b f => comp_l0 op rd rs1 rs2 v aq rl r (p ++ [a]) k b f (by omega) (by simp; omega) (fun x hx => ho x (List.mem_cons_of_mem _ hx))
    simp only [List.append_assoc, List.singleton_append] at ih
    rw [encode_Compress.l0, hl, if_pos (by omega), if_pos (by omega), if_pos (by omega), hd2, Option.bind_some, hg', hw]
    rw [← hl]
    simp only [ih]
    rw [List.foldl_cons]
    show (if sameB (dcd a.toNat) op rd rs1 rs2 v aq rl = true then _ else _) = _
    unfold stepC
    by_cases c : sameB (dcd a.toNat) op rd rs1 rs2 v aq rl = true
    · rw [if_pos c, if_pos c]
      cases f
      · rfl
      · simp only [if_true]
        by_cases c2 : a < b
        · rw [if_pos c2, if_pos c2]
        · rw [if_neg c2, if_neg c2]
    · rw [if_neg c, if_neg c]
theorem fold_spec (S : Int → Bool) : ∀ (r : List Int) (b0 : Int) (f0 : Bool), let R := r.foldl (stepC S) (b0, f0)
    (R.2 = true → ((R.1 = b0 ∧ f0 = true) ∨ (R.1 ∈ r ∧ S R.1 = true)) ∧ (f0 = true → R.1 ≤ b0) ∧ ∀ x ∈ r, S x = true → R.1 ≤ x) ∧ (R.2 = false → R.1 = b0 ∧ f0 = false ∧ ∀ x ∈ r, S x = false)
  | [], b0, f0 => by
    refine ⟨fun h => ⟨.inl ⟨rfl, h⟩, fun _ => Int.le_refl _, fun x hx => by cases hx⟩, fun h => ⟨rfl, h, fun x hx => by cases hx⟩⟩
  | a :: r, b0, f0 => by
    simp only [List.foldl_cons]
    by_cases c : S a = true
    · have key : ∃ b1, stepC S (b0, f0) a = (b1, true) ∧ (b1 = a ∨ (b1 = b0 ∧ f0 = true)) ∧ b1 ≤ a ∧ (f0 = true → b1 ≤ b0) := by
        unfold stepC
        rw [if_pos c]
        cases f0
        · exact ⟨a, by simp, .inl rfl, Int.le_refl _, fun h => by cases h⟩
        · by_cases c2 : a < b0
          · exact ⟨a, by simp [c2], .inl rfl, Int.le_refl _, fun _ => by omega⟩
          · exact ⟨b0, by simp [c2], .inr ⟨rfl, rfl⟩, by omega, fun _ => Int.le_refl _⟩
      obtain ⟨b1, e, h1, h2, h3⟩ := key
      rw [e]
      have ih := fold_spec S r b1 true
      refine ⟨fun h => ?_, fun h => ?_⟩
      · obtain ⟨i1, i2, i3⟩ := ih.1 h
        have i2' := i2 rfl
        refine ⟨?_, fun hf => by have := h3 hf; omega, fun x hx hs => ?_⟩
        · rcases i1 with ⟨i1, _⟩ | ⟨i1, i4⟩
          · rcases h1 with h1 | ⟨h1, hf⟩
            · right; rw [i1, h1]; exact ⟨List.mem_cons_self, c⟩
            · left; exact ⟨i1.trans h1, hf⟩
          · right; exact ⟨List.mem_cons_of_mem _ i1, i4⟩
        · rcases List.mem_cons.mp hx with rfl | hx
          · omega
          · exact i3 x hx hs
      · exact absurd (ih.2 h).2.1 (by decide)
    · have e : stepC S (b0, f0) a = (b0, f0) := by unfold stepC; rw [if_neg c]
      rw [e]
      have ih := fold_spec S r b0 f0
      refine ⟨fun h => ?_, fun h => ?_⟩
      · obtain ⟨i1, i2, i3⟩ := ih.1 h
        refine ⟨?_, i2, fun x hx hs => ?_⟩
        · rcases i1 with i1 | ⟨i1, i4⟩
          · exact .inl i1
          · exact .inr ⟨List.mem_cons_of_mem _ i1, i4⟩
        · rcases List.mem_cons.mp hx with rfl | hx
          · exact absurd hs c
          · exact i3 x hx hs
      · obtain ⟨i1, i2, i3⟩ := ih.2 h
        refine ⟨i1, i2, fun x hx => ?_⟩
        rcases List.mem_cons.mp hx with rfl | hx
        · simpa using c
        · exact i3 x hx
/-- What Compress answers for a record that can be. -/
def compL (op rd rs1 rs2 v : Int) (aq rl : Bool) : Int × Bool := (tryL op rd rs1 rs2 v).foldl (stepC (fun x => sameB (dcd x.toNat) op rd rs1 rs2 v aq rl)) (0, false)
theorem comp_ok (k : Nat) (hk : 2100 ≤ k) (op rd rs1 rs2 v : Int) (aq rl : Bool) (len raw : Int) (h : encode_Check.f op rd rs1 rs2 v aq rl len raw = some 0) :
    encode_Compress.f k op rd rs1 rs2 v aq rl len raw = some (compL op rd rs1 rs2 v aq rl) := by
  unfold encode_Compress.f encode_tries.f
  rw [h, Option.bind_some, if_pos rfl, Option.bind_some]
  have hl := try_len op rd rs1 rs2 v
  have := comp_l0 op rd rs1 rs2 v aq rl (tryL op rd rs1 rs2 v) [] k 0 false (by omega) (by simp; omega) (try_all op rd rs1 rs2 v)
  simpa [compL] using this
theorem comp_bad (k : Nat) (op rd rs1 rs2 v : Int) (aq rl : Bool) (len raw c : Int) (h : encode_Check.f op rd rs1 rs2 v aq rl len raw = some c) (hc : c ≠ 0) :
    encode_Compress.f k op rd rs1 rs2 v aq rl len raw = some (0, false) := by
  unfold encode_Compress.f
  rw [h, Option.bind_some, if_neg hc]
theorem compL_yes (op rd rs1 rs2 v : Int) (aq rl : Bool) (h : (compL op rd rs1 rs2 v aq rl).2 = true) :
    ∃ p : Nat, (compL op rd rs1 rs2 v aq rl).1 = (p : Int) ∧ p < 65536 ∧ p % 4 ≠ 3 ∧ sameB (dcd p) op rd rs1 rs2 v aq rl = true ∧ ∀ x : Nat, (x : Int) ∈ tryL op rd rs1 rs2 v → sameB (dcd x) op rd rs1 rs2 v aq rl = true → p ≤ x := by
  obtain ⟨h1, _, h3⟩ := (fold_spec (fun x => sameB (dcd x.toNat) op rd rs1 rs2 v aq rl) (tryL op rd rs1 rs2 v) 0 false).1 h
  rcases h1 with ⟨_, h1⟩ | ⟨h1, h2⟩
  · cases h1
  · obtain ⟨p, e, e1, e2⟩ := try_all op rd rs1 rs2 v _ h1
    have e' : (compL op rd rs1 rs2 v aq rl).1 = (p : Int) := e
    refine ⟨p, e', e1, e2, ?_, fun x hx hs => ?_⟩
    · have h2' : sameB (dcd ((compL op rd rs1 rs2 v aq rl).1).toNat) op rd rs1 rs2 v aq rl = true := h2
      rw [e', Int.toNat_natCast] at h2'; exact h2'
    · have := h3 (x : Int) hx (by rw [Int.toNat_natCast]; exact hs)
      have : (compL op rd rs1 rs2 v aq rl).1 ≤ (x : Int) := this
      omega
theorem compL_no (op rd rs1 rs2 v : Int) (aq rl : Bool) (h : (compL op rd rs1 rs2 v aq rl).2 = false) :
    (compL op rd rs1 rs2 v aq rl).1 = 0 ∧ ∀ x : Nat, (x : Int) ∈ tryL op rd rs1 rs2 v → sameB (dcd x) op rd rs1 rs2 v aq rl = false := by
  obtain ⟨h1, _, h3⟩ := (fold_spec (fun x => sameB (dcd x.toNat) op rd rs1 rs2 v aq rl) (tryL op rd rs1 rs2 v) 0 false).2 h
  exact ⟨h1, fun x hx => by have := h3 (x : Int) hx; rwa [Int.toNat_natCast] at this⟩
theorem check_tot (op rd rs1 rs2 v : Int) (aq rl : Bool) (len raw : Int) : ∃ c, encode_Check.f op rd rs1 rs2 v aq rl len raw = some c ∧ (c = 0 ∨ c = 60 ∨ c = 61) := by
  have hp := Go.Proofs.YtiibhggjlandmaaDoor.Enc.forms_all op
  unfold Go.Proofs.YtiibhggjlandmaaDoor.Enc.formB at hp
  unfold encode_Check.f
  rcases hz : encode_formOf.f op with _ | ⟨n, b, t⟩
  · rw [hz] at hp; exact absurd hp (by simp)
  · rw [hz] at hp
    rw [Option.bind_some]
    cases t with
    | false => exact ⟨60, by simp, .inr (.inl rfl)⟩
    | true =>
      simp only [Bool.and_eq_true, decide_eq_true_eq] at hp
      obtain ⟨⟨⟨⟨⟨⟨p1, p2⟩, p3⟩, p4⟩, p5⟩, _⟩, _⟩ := hp
      obtain ⟨m, rfl⟩ : ∃ m : Nat, n = (m : Int) := ⟨n.toNat, by omega⟩
      have hm : m < 12 := by omega
      simp only [if_true, if_neg (show ¬ ((m : Int) < 0) by omega), Int.toNat_natCast]
      have hlen : m < Go.Proofs.YtiibhggjlandmaaDoor.PF.hasL.length := hm
      rw [List.getElem?_eq_getElem hlen, Option.bind_some]
      split
      · exact ⟨60, rfl, .inr (.inl rfl)⟩
      split
      · exact ⟨60, rfl, .inr (.inl rfl)⟩
      have st : ∀ i : Fin 12, (match Go.Proofs.YtiibhggjlandmaaDoor.PF.findR (i.val : Int) Go.Proofs.YtiibhggjlandmaaDoor.PF.reachT with | some (_, _, st) => st != 0 | none => true) = true := by decide +kernel
      have st' := st ⟨m, hm⟩
      rcases hf : Go.Proofs.YtiibhggjlandmaaDoor.PF.findR (m : Int) Go.Proofs.YtiibhggjlandmaaDoor.PF.reachT with _ | ⟨lo_, hi_, s_⟩
      · exact ⟨0, rfl, .inl rfl⟩
      · simp only [hf] at st'
        have hs : s_ ≠ 0 := by simpa using st'
        simp only [Go.Proofs.YtiibhggjlandmaaDoor.PF.chkR, if_neg hs]
        split
        · exact ⟨61, rfl, .inr (.inr rfl)⟩
        · split
          · exact ⟨0, rfl, .inl rfl⟩
          · exact ⟨61, rfl, .inr (.inr rfl)⟩
theorem encode_bad (k : Nat) (op rd rs1 rs2 v : Int) (aq rl : Bool) (len raw c : Int) (h : encode_Check.f op rd rs1 rs2 v aq rl len raw = some c) (hc : c ≠ 0) :
    encode_Encode.f k op rd rs1 rs2 v aq rl len raw = some (0, c) := by
  unfold encode_Encode.f
  rw [h, Option.bind_some, if_neg hc]
theorem dcd_tail (p : Nat) (hp : p < 65536) (h3 : p % 4 ≠ 3) : (dcd p).2.2.2.2.2.2.2.1 = 2 ∧ (dcd p).2.2.2.2.2.2.2.2 = (p : Int) := by
  have hd := dcd_some p hp h3
  rcases dcd_ok p hp h3 with ⟨_, h⟩ | ⟨e, _, _, _, h⟩
  · have := Option.some.inj (hd.symm.trans h)
    rw [this]; exact ⟨rfl, rfl⟩
  · have := Option.some.inj (hd.symm.trans h)
    rw [this]
    unfold decN
    split
    · exact ⟨rfl, rfl⟩
    · next f _ =>
      obtain ⟨A, B, C, D, E, F, hs⟩ := fillN_split f.shape e f.op
      rw [hs]; exact ⟨rfl, rfl⟩
theorem and16_3 (p : Nat) (h : p < 65536) : Go.bits .and .u16 (p : Int) 3 = ((p % 4 : Nat) : Int) := by
  show IntKind.u16.wrap ((BitVec.ofInt 16 (p : Int) &&& BitVec.ofInt 16 3).toNat : Int) = _
  have e : (BitVec.ofInt 16 (p : Int)).toNat = p := by rw [BitVec.ofInt_natCast, BitVec.toNat_ofNat]; exact Nat.mod_eq_of_lt (by omega)
  rw [BitVec.toNat_and, e, show (BitVec.ofInt 16 3).toNat = 2 ^ 2 - 1 from rfl, Nat.and_two_pow_sub_one_eq_mod, IntKind.wrap_u16]
  omega
set_option maxRecDepth 100000 in
theorem live_ok : anvillaw06_live.f 2300 = some true := by decide +kernel
end Go.Proofs.YtiibhggjlandmaaDoor.Pure
