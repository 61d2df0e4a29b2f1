/- The program's bus: Peek, Poke. Premise: a bus lies there. -/
import Derived.Test.YtkocfcgdjjdnhaaBusQ
namespace Go.Proofs.Ytkocfcgdjjdnhaa.BW
open Go.RowKit
set_option linter.unusedVariables false
set_option linter.unusedSimpArgs false
theorem info5s : (Try.prog.info? 5).map (·.size) = some 1 := by kernel_rfl
theorem lay_take (cur : List Value) (l : List Int) (a : Nat) (p : List Int) (h : cur.take l.length = u8s l) (hl : a + p.length ≤ l.length) (hc : l.length ≤ cur.length) : (cur.take a ++ u8s p ++ cur.drop (a + p.length)).take l.length = u8s (lay l a p) := by
  have h1 : cur.take a = (u8s l).take a := by rw [← h, List.take_take, Nat.min_eq_left (by omega)]
  have h2 : (cur.drop (a + p.length)).take (l.length - (a + p.length)) = (u8s l).drop (a + p.length) := by rw [← h, List.drop_take]
  have hla : ((u8s l).take a).length = a := by rw [List.length_take, u8s_length]; omega
  rw [h1, List.take_append, List.take_of_length_le (by simp [hla, u8s_length]; omega)]
  rw [show l.length - ((u8s l).take a ++ u8s p).length = l.length - (a + p.length) by rw [List.length_append, hla, u8s_length], h2]
  unfold lay u8s
  simp [List.map_append, List.map_take, List.map_drop]
/-- Bytes copied into a slice with a block of its own. -/
theorem run_copy_bs (w : World) (ty : TypeId) (g n c : Nat) (l p : List Int) (a : Nat) (x : Value) (dl dc : Nat) (hb : Bs w (.slice (some ⟨g, 0, none⟩) n c) l) (hx : Rd w x p) (hp : p ≠ []) (ha : a + p.length ≤ l.length) (hd : dl = l.length - a) :
    ∃ w', (Builtin.copy_ #[22, 22] ty #[.slice (some ⟨g, a, none⟩) dl dc, x]).run Try.prog w = .ok (goInt p.length) w' ∧ Bs w' (.slice (some ⟨g, 0, none⟩) n c) (lay l a p) ∧ Kept [g] w w' := by
  rcases hx with ⟨_, h0⟩ | ⟨c', g', o', rfl, hc⟩
  · exact absurd h0 hp
  rcases hb.at with ⟨h1, _⟩ | ⟨g1, cap, cur, h1, hg, h3, h4, h5, h6⟩
  · cases h1
  obtain ⟨⟨rfl⟩, rfl, rfl⟩ : (g = g1 ∧ True) ∧ n = l.length ∧ c = cap := by cases h1; exact ⟨⟨rfl, trivial⟩, rfl, rfl⟩
  have hcur : cur.toList.length = c := by simpa using h5
  have hr := run_copy_row (P := Try.prog) w 22 22 ty 5 g a dl dc ⟨g', o', none⟩ p.length c' cur 5 (u8s p) Try.underlying22 info5s hg (by rw [u8s_length, hd]; exact (Nat.min_eq_left (by omega)).symm) (rd_news hc) (by rw [u8s_length]; omega) (u8s_one p)
  rw [u8s_length] at hr
  refine ⟨_, hr, ?_, (Kept.refl [g] w).setRow (by simp) _⟩
  have hll := lay_length l a p ha
  refine ⟨by rw [u8s_length, hll]; simp, .inr ⟨g, c, _, by rw [hll], Nat.zero_le _, setRow_heap w g cur _ 5 (0, 0) hg, by rw [hll]; exact h3, h4, ?_, ?_⟩⟩
  · simp only [List.size_toArray, List.length_append, List.length_take, List.length_drop, u8s_length, hcur]; omega
  · rw [hll, Nat.mul_one]
    exact lay_take cur.toList l a p h6 ha (by omega)
theorem wpList_copy_bs {w : World} {ops : Array Oper} {rest : List Oper} {o : Oper} {a : Act} {Q : Exit → Act → World → Prop} (hgd : o.guard = none) (d s : Operand)
    (ho : o.op = .call { callee := .builtin .copy, args := #[d, s], argTypes := #[22, 22] }) (g n c : Nat) (l p : List Int) (at_ : Nat) (x : Value) (dl dc : Nat) (hd : a.eval d = .slice (some ⟨g, at_, none⟩) dl dc) (hs : a.eval s = x) (hb : Bs w (.slice (some ⟨g, 0, none⟩) n c) l) (hx : Rd w x p) (hp : p ≠ []) (ha : at_ + p.length ≤ l.length) (hdl : dl = l.length - at_)
    (h : ∀ w', Hid (Bs w' (.slice (some ⟨g, 0, none⟩) n c) (lay l at_ p)) → Hid (Kept [g] w w') → wpList Try.prog ops Q rest (a.put o.dst (goInt p.length)) w') : wpList Try.prog ops Q (o :: rest) a w :=
  wpList_plain hgd fun _ hK => by
    obtain ⟨w', hr, h1, h2⟩ := run_copy_bs w o.type g n c l p at_ x dl dc hb hx hp ha hdl
    unfold Oper.wp execOp
    simp only [ho, resolve, invoke, builtin, Sem.run_bind, Sem.run_pure, Result.andThen_ok, List.map_toArray, List.map_cons, List.map_nil, hd, hs, hr]
    exact hK _ _ (h w' h1 h2)
section
variable {w : World} {b : Nat} {vr vi vo : Value} {s : St}
/-- What Peek leaves. -/
def PeekPost (w : World) (l : List Int) (code : Int) (e : Ending) (w' : World) : Prop :=
  ∃ A c, e = .returned (.tuple #[.slice A l.length c, .int .i64 code]) ∧ Bs w' (.slice A l.length c) l ∧ (∀ g, (Value.slice A l.length c).ownBlock = some g → w.heap.size ≤ g) ∧ Kept [] w w'
theorem inRam_nat {n : Nat} {addr size : Int} (h : inRam n addr size = true) : ∃ a sz : Nat, addr = 2147483648 + (a : Int) ∧ size = sz ∧ 1 ≤ sz ∧ a + sz ≤ n := by
  unfold inRam at h
  simp only [decide_eq_true_eq, Bool.and_eq_true] at h
  exact ⟨(addr - 2147483648).toNat, size.toNat, by omega, by omega, by omega, by omega⟩
set_option maxHeartbeats 4000000 in
set_option maxRecDepth 100000 in
theorem peek_yes (h : PL w b vr vi vo s) (hs : s.Ok) (a n : Nat) (hn : 1 ≤ n) (hin : a + n ≤ s.ram.length) :
    Calls Try.prog 25 #[.pointer (some ⟨b, 0, none⟩), .int .u64 (2147483648 + (a : Int)), .int .i64 n] w (PeekPost w ((s.ram.drop a).take n) 0) := by
  obtain ⟨g, cap, rfl, hgb, hgl, hc1, hc2⟩ := h.ramAt hs
  have c0 : w.cell? ⟨b, 0, none⟩ = some (.slice (some ⟨g, 0, none⟩) s.ram.length cap) := h.cell 0 _ rfl
  have hr1 := hs.r1
  have HI := Lib.hid (show inRam s.ram.length (2147483648 + (a : Int)) n = true by unfold inRam; simp; omega)
  unfold maxLen at hc2
  have hpl : ((s.ram.drop a).take n).length = n := by simp; omega
  have hrd : Rd w (.slice (some ⟨g, a, none⟩) n (cap - a)) ((s.ram.drop a).take n) := .inr ⟨cap - a, g, a, by rw [hpl], fun i x hx => by
    rw [List.getElem?_take] at hx
    split at hx
    · rw [List.getElem?_drop] at hx; exact h.ram.cell rfl (a + i) x hx
    · cases hx⟩
  have HRD := Lib.hid hrd
  have HPL := Lib.hid hpl
  have hac : ¬ a = cap := by omega
  have hn0 : ¬ (n : Int) = 0 := by omega
  generalize (s.ram.drop a).take n = q at *
  clear h hrd hpl
  go_enter Try.func25, Try.ntmps25
  go_wp2_with (first | (go_at_call 43; refine (holds_any _ b s.ram.length cap g hr1 _ _ c0 (by omega) (by omega) (by omega) (by omega)).mono ?_; rw [HI.out]; rintro e w' ⟨rfl, rfl⟩) | (go_at_call 39; refine (own_any _ _ q HRD.out (by rw [HPL.out]; omega)).mono ?_; rintro e w2 ⟨v', rfl, hb, hn, hk⟩; obtain ⟨A', c', rfl⟩ := hb.shape; have hp : PeekPost w q 0 (.returned (.tuple #[.slice A' q.length c', .int .i64 0])) w2 := (⟨A', c', rfl, hb, hn, hk⟩); have HP := Lib.hid hp; clear hp hb hn hk))
  go_ret2
  exact HP.out
set_option maxHeartbeats 4000000 in
set_option maxRecDepth 100000 in
theorem peek_neg (h : PL w b vr vi vo s) (hs : s.Ok) (addr n : Int) (a0 : 0 ≤ addr) (a1 : addr ≤ 18446744073709551615) (s0 : -9223372036854775808 ≤ n) (s1 : n ≤ 9223372036854775807) (hn : n < 0) :
    Calls Try.prog 25 #[.pointer (some ⟨b, 0, none⟩), .int .u64 addr, .int .i64 n] w (PeekPost w [] 1) := by
  obtain ⟨g, cap, rfl, hgb, hgl, hc1, hc2⟩ := h.ramAt hs
  have c0 : w.cell? ⟨b, 0, none⟩ = some (.slice (some ⟨g, 0, none⟩) s.ram.length cap) := h.cell 0 _ rfl
  have hr1 := hs.r1
  have HP : PeekPost w [] 1 (.returned (.tuple #[.slice none 0 0, .int .i64 1])) w := ⟨none, 0, rfl, Bs.nil w, by simp [Value.ownBlock], Kept.refl _ _⟩
  have HPP := Lib.hid HP
  clear h HP
  go_enter Try.func25, Try.ntmps25
  go_wp2
  go_ret2
  exact HPP.out
set_option maxHeartbeats 4000000 in
set_option maxRecDepth 100000 in
theorem peek_zero (h : PL w b vr vi vo s) (hs : s.Ok) (addr n : Int) (a0 : 0 ≤ addr) (a1 : addr ≤ 18446744073709551615) (s0 : -9223372036854775808 ≤ n) (s1 : n ≤ 9223372036854775807) (hn : n = 0) :
    Calls Try.prog 25 #[.pointer (some ⟨b, 0, none⟩), .int .u64 addr, .int .i64 n] w (PeekPost w [] 0) := by
  obtain ⟨g, cap, rfl, hgb, hgl, hc1, hc2⟩ := h.ramAt hs
  have c0 : w.cell? ⟨b, 0, none⟩ = some (.slice (some ⟨g, 0, none⟩) s.ram.length cap) := h.cell 0 _ rfl
  have hr1 := hs.r1
  have HP : PeekPost w [] 0 (.returned (.tuple #[.slice none 0 0, .int .i64 0])) w := ⟨none, 0, rfl, Bs.nil w, by simp [Value.ownBlock], Kept.refl _ _⟩
  have HPP := Lib.hid HP
  subst hn
  clear h HP
  go_enter Try.func25, Try.ntmps25
  go_wp2
  go_ret2
  exact HPP.out
set_option maxHeartbeats 4000000 in
set_option maxRecDepth 100000 in
theorem peek_out (h : PL w b vr vi vo s) (hs : s.Ok) (addr n : Int) (a0 : 0 ≤ addr) (a1 : addr ≤ 18446744073709551615) (s0 : -9223372036854775808 ≤ n) (s1 : n ≤ 9223372036854775807) (hn : 0 < n) (hi : inRam s.ram.length addr n = false) :
    Calls Try.prog 25 #[.pointer (some ⟨b, 0, none⟩), .int .u64 addr, .int .i64 n] w (PeekPost w [] 30) := by
  obtain ⟨g, cap, rfl, hgb, hgl, hc1, hc2⟩ := h.ramAt hs
  have c0 : w.cell? ⟨b, 0, none⟩ = some (.slice (some ⟨g, 0, none⟩) s.ram.length cap) := h.cell 0 _ rfl
  have hr1 := hs.r1
  have HP : PeekPost w [] 30 (.returned (.tuple #[.slice none 0 0, .int .i64 30])) w := ⟨none, 0, rfl, Bs.nil w, by simp [Value.ownBlock], Kept.refl _ _⟩
  have HPP := Lib.hid HP
  have HI := Lib.hid hi
  clear hi
  clear h HP
  go_enter Try.func25, Try.ntmps25
  go_wp2_with (go_at_call 43; refine (holds_any _ b s.ram.length cap g hr1 _ _ c0 a0 a1 (by omega) s1).mono ?_; rw [HI.out]; rintro e w' ⟨rfl, rfl⟩)
  go_ret2
  exact HPP.out
theorem peek_any (h : PL w b vr vi vo s) (hs : s.Ok) (addr n : Int) (a0 : 0 ≤ addr) (a1 : addr ≤ 18446744073709551615) (s0 : -9223372036854775808 ≤ n) (s1 : n ≤ 9223372036854775807) :
    Calls Try.prog 25 #[.pointer (some ⟨b, 0, none⟩), .int .u64 addr, .int .i64 n] w (PeekPost w (s.peek addr n).1 (s.peek addr n).2) := by
  unfold St.peek
  by_cases h1 : n < 0
  · rw [if_pos h1]; exact peek_neg h hs addr n a0 a1 s0 s1 h1
  rw [if_neg h1]
  by_cases h2 : n = 0
  · rw [if_pos h2]; exact peek_zero h hs addr n a0 a1 s0 s1 h2
  rw [if_neg h2]
  cases h3 : inRam s.ram.length addr n
  · exact peek_out h hs addr n a0 a1 s0 s1 (by omega) h3
  · obtain ⟨a, sz, rfl, rfl, g1, g2⟩ := inRam_nat h3
    simp only [if_true, show (2147483648 + (a : Int) - 2147483648).toNat = a by omega, Int.toNat_natCast]
    exact peek_yes h hs a sz g1 g2
/-- What Poke leaves. -/
def PokePost (w : World) (b : Nat) (vr vi vo : Value) (s : St) (addr : Int) (p : List Int) (e : Ending) (w' : World) : Prop :=
  e = .returned (.int .i64 (s.poke addr p).1) ∧ PL w' b vr vi vo (s.poke addr p).2 ∧ Turn (foot b vr vi vo) (foot b vr vi vo) w w'
set_option maxHeartbeats 4000000 in
set_option maxRecDepth 100000 in
theorem poke_nil (h : PL w b vr vi vo s) (addr : Int) (A : Option Addr) (c : Nat) :
    Calls Try.prog 32 #[.pointer (some ⟨b, 0, none⟩), .int .u64 addr, .slice A 0 c] w (PokePost w b vr vi vo s addr []) := by
  have HP : PokePost w b vr vi vo s addr [] (.returned (.int .i64 0)) w := ⟨by simp [St.poke], by simpa [St.poke] using h, .refl _ _⟩
  have HPP := Lib.hid HP
  clear h HP
  go_enter Try.func32, Try.ntmps32
  go_wp2
  go_ret
  exact HPP.out
set_option maxHeartbeats 4000000 in
set_option maxRecDepth 100000 in
theorem poke_out (h : PL w b vr vi vo s) (hs : s.Ok) (addr : Int) (a0 : 0 ≤ addr) (a1 : addr ≤ 18446744073709551615) (p : List Int) (n : Nat) (hn : n = p.length) (hp : 0 < n) (hl : n ≤ 140737488351232) (A : Option Addr) (c : Nat) (hi : inRam s.ram.length addr p.length = false) :
    Calls Try.prog 32 #[.pointer (some ⟨b, 0, none⟩), .int .u64 addr, .slice A n c] w (PokePost w b vr vi vo s addr p) := by
  have hpn : p ≠ [] := by rintro rfl; simp at hn; omega
  have HP : PokePost w b vr vi vo s addr p (.returned (.int .i64 30)) w := by
    unfold PokePost St.poke; rw [if_neg hpn, hi]; exact ⟨rfl, h, .refl _ _⟩
  obtain ⟨g, cap, rfl, hgb, hgl, hc1, hc2⟩ := h.ramAt hs
  have c0 : w.cell? ⟨b, 0, none⟩ = some (.slice (some ⟨g, 0, none⟩) s.ram.length cap) := h.cell 0 _ rfl
  have hr1 := hs.r1
  rw [← hn] at hi
  have HI := Lib.hid hi
  have HPP := Lib.hid HP
  have hb : ((n : Int) == 0) = false := by simp; omega
  clear h HP hn hpn hi
  go_enter Try.func32, Try.ntmps32
  go_wp2_with (go_at_call 43; refine (holds_any _ b s.ram.length cap g hr1 _ _ c0 a0 a1 (by omega) (by omega)).mono ?_; rw [HI.out]; rintro e w' ⟨rfl, rfl⟩)
  go_ret
  exact HPP.out
set_option maxHeartbeats 4000000 in
set_option maxRecDepth 100000 in
theorem poke_yes (h : PL w b vr vi vo s) (hs : s.Ok) (a : Nat) (p : List Int) (n : Nat) (hn : n = p.length) (hp : 0 < n) (A : Option Addr) (c : Nat) (hrd : Rd w (.slice A n c) p) (hi : a + p.length ≤ s.ram.length) :
    Calls Try.prog 32 #[.pointer (some ⟨b, 0, none⟩), .int .u64 (2147483648 + (a : Int)), .slice A n c] w (PokePost w b vr vi vo s (2147483648 + (a : Int)) p) := by
  have hpn : p ≠ [] := by rintro rfl; simp at hn; omega
  have hir : inRam s.ram.length (2147483648 + (a : Int)) p.length = true := by unfold inRam; simp; omega
  have hpk : s.poke (2147483648 + (a : Int)) p = (0, { s with ram := lay s.ram a p }) := by
    unfold St.poke; rw [if_neg hpn, hir]; simp only [if_true, show (2147483648 + (a : Int) - 2147483648).toNat = a by omega]
  obtain ⟨g, cap, rfl, hgb, hgl, hc1, hc2⟩ := h.ramAt hs
  have c0 : w.cell? ⟨b, 0, none⟩ = some (.slice (some ⟨g, 0, none⟩) s.ram.length cap) := h.cell 0 _ rfl
  have hr1 := hs.r1
  have hr0 := hs.r0
  rw [← hn] at hir
  have HI := Lib.hid hir
  have H := Lib.hid h
  have HPK := Lib.hid hpk
  have HPN := Lib.hid hpn
  have HRD := Lib.hid hrd
  have HN := Lib.hid hn
  have hb : ((n : Int) == 0) = false := by simp; omega
  have hac : ¬ a = cap := by omega
  have hal : a ≤ s.ram.length := by omega
  have hai : a + n ≤ s.ram.length := by omega
  unfold maxLen at hc2
  have hpost : ∀ w2, Bs w2 (.slice (some ⟨g, 0, none⟩) s.ram.length cap) (lay s.ram a p) → Kept [g] w w2 → PokePost w b (.slice (some ⟨g, 0, none⟩) s.ram.length cap) vi vo s (2147483648 + (a : Int)) p (.returned (.int .i64 0)) w2 := by
    intro w2 hb2 hk2
    have hst := h.setRam hb2 hk2 (lay_length _ _ _ hi)
    unfold PokePost; rw [hpk]; exact ⟨rfl, hst.1, hst.2⟩
  have HPO := Lib.hid hpost
  clear h hn hpn hir hpk hrd hpost
  go_enter Try.func32, Try.ntmps32
  go_wp2_with (first | (go_at_call 43; refine (holds_any _ b s.ram.length cap g hr1 _ _ c0 (by omega) (by omega) (by omega) (by omega)).mono ?_; rw [HI.out]; rintro e w' ⟨rfl, rfl⟩) | (refine wpList_copy_bs rfl (.tmp 25) (.tmp 26) rfl g s.ram.length cap s.ram p a (.slice A n c) (s.ram.length - a) (cap - a) ?hd rfl H.out.ram HRD.out HPN.out hi rfl ?_; (case hd => simp [Act.eval]); intro w2 hb2 hk2))
  go_ret
  exact HPO.out _ hb2.out hk2.out
theorem poke_any (h : PL w b vr vi vo s) (hs : s.Ok) (addr : Int) (a0 : 0 ≤ addr) (a1 : addr ≤ 18446744073709551615) (v : Value) (p : List Int) (hr : Rd w v p) (hl : p.length ≤ 140737488351232) :
    Calls Try.prog 32 #[.pointer (some ⟨b, 0, none⟩), .int .u64 addr, v] w (PokePost w b vr vi vo s addr p) := by
  obtain ⟨A, c, rfl⟩ := hr.shape
  by_cases hp : p = []
  · subst hp; exact poke_nil h addr A c
  have hp0 : 0 < p.length := List.length_pos_iff.mpr hp
  cases h3 : inRam s.ram.length addr p.length
  · exact poke_out h hs addr a0 a1 p p.length rfl hp0 hl A c h3
  · obtain ⟨a, sz, rfl, e, g1, g2⟩ := inRam_nat h3
    have : sz = p.length := by omega
    subst this
    exact poke_yes h hs a p p.length rfl hp0 A c hr g2
end
end Go.Proofs.Ytkocfcgdjjdnhaa.BW
