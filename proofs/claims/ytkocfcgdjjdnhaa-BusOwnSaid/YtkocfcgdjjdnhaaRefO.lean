/- The document's bus: Poke. Premise: a bus lies there. -/
import Derived.Test.YtkocfcgdjjdnhaaRefC
import Derived.Test.YtkocfcgdjjdnhaaBusR
namespace Go.Proofs.Ytkocfcgdjjdnhaa.BW
open Go.RowKit
set_option linter.unusedVariables false
set_option linter.unusedSimpArgs false
section
variable {w : World} {b : Nat} {vr vi vo : Value} {s : St}
def RPokePost (w : World) (b : Nat) (vr vi vo : Value) (s : St) (addr : Int) (p : List Int) (e : Ending) (w' : World) : Prop :=
  e = .returned (.int .i64 (s.poke addr p).1) ∧ RL w' b vr vi vo (s.poke addr p).2 ∧ Turn (foot b vr vi vo) (foot b vr vi vo) w w'
theorem r_isram_of (h : RL w b vr vi vo s) (hs : s.Ok) (addr size : Int) (a0 : 0 ≤ addr) (a1 : addr ≤ 18446744073709551615) (s1 : size ≤ 9223372036854775807) (r : Bool) (hr : inRam s.ram.length addr size = r) :
    Calls Try.prog 54 #[.pointer (some ⟨b, 0, none⟩), .int .u64 addr, .int .i64 size] w fun e w' => e = .returned (.bool r) ∧ w = w' := by
  obtain ⟨A, c, rfl⟩ := h.ram.shape
  exact r_isram_is w b s.ram.length c A hs.r1 (h.cell 0 _ rfl) addr size a0 a1 s1 r hr
set_option maxHeartbeats 4000000 in
set_option maxRecDepth 100000 in
theorem r_poke_nil (h : RL w b vr vi vo s) (addr : Int) (A : Option Addr) (c : Nat) :
    Calls Try.prog 50 #[.pointer (some ⟨b, 0, none⟩), .int .u64 addr, .slice A 0 c] w (RPokePost w b vr vi vo s addr []) := by
  have HP := Lib.hid (show RPokePost w b vr vi vo s addr [] (.returned (.int .i64 0)) w from ⟨by simp [St.poke], by simpa [St.poke] using h, .refl _ _⟩)
  clear h
  go_enter Try.func50, Try.ntmps50
  go_wp2
  go_ret
  exact HP.out
set_option maxHeartbeats 4000000 in
set_option maxRecDepth 100000 in
theorem r_poke_out (h : RL w b vr vi vo s) (hs : s.Ok) (addr : Int) (a0 : 0 ≤ addr) (a1 : addr ≤ 18446744073709551615) (p : List Int) (n : Nat) (hn : n = p.length) (hp : 0 < n) (hl : n ≤ 140737488351232) (A : Option Addr) (c : Nat) (hi : inRam s.ram.length addr n = false) :
    Calls Try.prog 50 #[.pointer (some ⟨b, 0, none⟩), .int .u64 addr, .slice A n c] w (RPokePost w b vr vi vo s addr p) := by
  have hne : ¬ p = [] := by rintro rfl; simp at hn; omega
  have HI := Lib.hid (r_isram_of h hs addr n a0 a1 (by omega) false hi)
  have HP := Lib.hid (show RPokePost w b vr vi vo s addr p (.returned (.int .i64 30)) w from by
    have e : s.poke addr p = (30, s) := by unfold St.poke; rw [if_neg hne, ← hn, hi]; rfl
    exact ⟨by rw [e], by rw [e]; exact h, .refl _ _⟩)
  clear h hs hi hn hne
  go_enter Try.func50, Try.ntmps50
  go_wp2_with (go_at_call 54; refine HI.out.mono ?_; rintro e w' ⟨rfl, rfl⟩)
  go_ret
  exact HP.out
theorem take_snoc (p : List Int) (k : Nat) (x : Int) (hx : p[k]? = some x) : p.take k ++ [x] = p.take (k + 1) := by
  rw [List.take_add_one, hx]; rfl
set_option maxHeartbeats 4000000 in
set_option maxRecDepth 100000 in
theorem r_poke_yes (h : RL w b vr vi vo s) (hs : s.Ok) (a : Nat) (p : List Int) (n : Nat) (hn : n = p.length) (hp : 0 < n) (pg po c : Nat) (hrd : ∀ i x, p[i]? = some x → w.cell? ⟨pg, po + i, none⟩ = some (.int .u8 x)) (hpb : Byts p) (hpg : pg ∉ foot b vr vi vo) (hi : a + p.length ≤ s.ram.length) :
    Calls Try.prog 50 #[.pointer (some ⟨b, 0, none⟩), .int .u64 (2147483648 + (a : Int)), .slice (some ⟨pg, po, none⟩) n c] w (RPokePost w b vr vi vo s (2147483648 + (a : Int)) p) := by
  have hr1 := hs.r1
  have hne : ¬ p = [] := by rintro rfl; simp at hn; omega
  have hin : inRam s.ram.length (2147483648 + (a : Int)) n = true := by unfold inRam; simp; omega
  have HI := Lib.hid (r_isram_of h hs (2147483648 + (a : Int)) n (by omega) (by omega) (by omega) true hin)
  have hst : s.poke (2147483648 + (a : Int)) p = (0, { s with ram := lay s.ram a p }) := by
    unfold St.poke; rw [if_neg hne, ← hn, hin, if_pos rfl, show (2147483648 + (a : Int) - 2147483648).toNat = a by omega]
  obtain ⟨g, cap, rfl, hgb, hgl, hc1, hc2⟩ := h.ramAt hs
  have c0 : w.cell? ⟨b, 0, none⟩ = some (.slice (some ⟨g, 0, none⟩) s.ram.length cap) := h.cell 0 _ rfl
  have hlt : b < w.heap.size := h.lt b (by simp [foot])
  have hpgg : pg ≠ g := by rintro rfl; exact hpg (by simp [foot, Value.ownBlock])
  have hpl : n ≤ 65536 := by omega
  have HB := Lib.hid h.ram
  have HRD := Lib.hid hrd
  have HPB := Lib.hid hpb
  have HP := Lib.hid (show ∀ w', Bs w' (.slice (some ⟨g, 0, none⟩) s.ram.length cap) (lay s.ram a p) → Kept [g] w w' → RPokePost w b (.slice (some ⟨g, 0, none⟩) s.ram.length cap) vi vo s (2147483648 + (a : Int)) p (.returned (.int .i64 0)) w' from fun w' q1 q2 => by
    have := h.setRam q1 q2 (lay_length _ _ _ hi)
    exact ⟨by rw [hst], by rw [hst]; exact this.1, this.2⟩)
  generalize s.ram = l at *
  rw [← hn] at hi
  have HN := Lib.hid hn
  have HT := Lib.hid (show p.take n = p by rw [hn, List.take_length])
  clear h hs hst hin hrd hpb hpg hne hn
  go_enter Try.func50, Try.ntmps50
  go_wp2_with (go_at_call 54; refine HI.out.mono ?_; rintro e w' ⟨rfl, rfl⟩)
  go_loopw [8] (fun i wr => ∃ k : Nat, k ≤ n ∧ i = .int .i64 k ∧ Hid (Bs wr (.slice (some ⟨g, 0, none⟩) l.length cap) (lay l a (p.take k))) ∧ Hid (Kept [g] w wr)) (fun i _ => n - (intOf i).toNat)
  case atStart => exact ⟨0, Nat.zero_le _, rfl, by show Bs _ _ _; rw [List.take_zero, lay_nil]; exact HB.out, Kept.refl _ _⟩
  case round =>
    obtain ⟨k, hk, rfl, hb, hkp⟩ := hrel
    by_cases hlt2 : k < n
    · have d0 : wr.cell? ⟨b, 0, none⟩ = some (.slice (some ⟨g, 0, none⟩) l.length cap) := (hkp.out.cell (p := ⟨b, 0, none⟩) hlt (by simpa using hgb.symm)).trans c0
      have hkl : (p.take k).length = k := by rw [List.length_take, ← HN.out]; omega
      have hll : (lay l a (p.take k)).length = l.length := lay_length _ _ _ (by rw [hkl]; omega)
      obtain ⟨x, hx⟩ : ∃ x, (lay l a (p.take k))[a + k]? = some x := ⟨_, List.getElem?_eq_getElem (by rw [hll]; omega)⟩
      obtain ⟨y, hy⟩ : ∃ y, p[k]? = some y := ⟨_, List.getElem?_eq_getElem (by rw [← HN.out]; omega)⟩
      have d1 : wr.cell? ⟨g, a + k, none⟩ = some (.int .u8 x) := hb.out.cell rfl (a + k) x hx
      have d2 : wr.frozen? ⟨g, a + k, none⟩ = false := hb.out.frozen rfl (a + k)
      have e0 := HRD.out k y hy
      have d3 : wr.cell? ⟨pg, po + k, none⟩ = some (.int .u8 y) := (hkp.out.cell (p := ⟨pg, po + k, none⟩) (World.block_lt_of_cell? w _ e0) (by simpa using hpgg)).trans e0
      have y0 := (HPB.out y (List.mem_of_getElem? hy)).1
      have y1 := (HPB.out y (List.mem_of_getElem? hy)).2
      have HLL := Lib.hid hll
      have HKL := Lib.hid hkl
      have HY := Lib.hid hy
      clear hll hx hkl hy e0
      go_wp2
      first | go_region | skip
      go_wp2
      go_roundw
      case rel =>
        go_light
        refine ⟨k + 1, by omega, by go_num, ?_, ?_⟩
        · have h1 := hb.out.set rfl (a + k) y (by rw [HLL.out]; omega)
          have h2 := lay_snoc l a (p.take k) y (by rw [HKL.out]; omega)
          rw [HKL.out, take_snoc p k y HY.out] at h2
          rw [h2] at h1
          exact h1
        · exact ((hkp.out.setCell (fun _ => by simp) _).drew)
      case measure => simp [intOf]; omega
    · obtain rfl : k = n := by omega
      go_wp2
      go_ret
      have hb2 := hb.out
      rw [HT.out] at hb2
      exact HP.out _ hb2 hkp.out
theorem r_poke_any (h : RL w b vr vi vo s) (hs : s.Ok) (addr : Int) (a0 : 0 ≤ addr) (a1 : addr ≤ 18446744073709551615) (v : Value) (p : List Int) (hr : Rd w v p) (hpb : Byts p) (hl : p.length ≤ 140737488351232) (hF : p ≠ [] → ∀ g o n c, v = .slice (some ⟨g, o, none⟩) n c → g ∉ foot b vr vi vo) :
    Calls Try.prog 50 #[.pointer (some ⟨b, 0, none⟩), .int .u64 addr, v] w (RPokePost w b vr vi vo s addr p) := by
  rcases hr with ⟨rfl, rfl⟩ | ⟨c, g, o, rfl, hc⟩
  · exact r_poke_nil h addr none 0
  · cases hp : p with
    | nil => exact r_poke_nil h addr _ c
    | cons x r =>
      rw [← hp]
      have h0 : 0 < p.length := by rw [hp]; simp
      cases hi : inRam s.ram.length addr p.length
      · exact r_poke_out h hs addr a0 a1 p _ rfl h0 hl _ c hi
      · obtain ⟨a, sz, rfl, q1, q2, q3⟩ := inRam_nat hi
        exact r_poke_yes h hs a p _ rfl h0 g o c hc hpb (hF (by rw [hp]; simp) g o _ c rfl) (by omega)
end
end Go.Proofs.Ytkocfcgdjjdnhaa.BW
