/- The program's bus: Store. Premise: a bus lies there. -/
import Derived.Test.YtkocfcgdjjdnhaaBusN
namespace Go.Proofs.Ytkocfcgdjjdnhaa.BW
open Go.RowKit
set_option linter.unusedVariables false
set_option linter.unusedSimpArgs false
section
variable {w : World} {b : Nat} {vr vi vo : Value} {s : St}
/-- What Store leaves. -/
def SPost (w : World) (b : Nat) (vr vi vo : Value) (s : St) (addr size v : Int) (e : Ending) (w' : World) : Prop :=
  ∃ vi' vo', e = .returned (.bool (s.store addr size v).1) ∧ PL w' b vr vi' vo' (s.store addr size v).2 ∧ Turn (foot b vr vi vo) (foot b vr vi' vo') w w'
/-- RAM's bytes turned in place. -/
theorem Lies.setRam {T : TypeId} {cs : Value → Value → Value → St → Array Value} {w w1 : World} {g n c : Nat} {l' : List Int} (h : Lies T cs w b (.slice (some ⟨g, 0, none⟩) n c) vi vo s) (hb : Bs w1 (.slice (some ⟨g, 0, none⟩) n c) l') (hk : Kept [g] w w1) (hl : l'.length = s.ram.length) (hcs : ∀ vr, cs vr vi vo { s with ram := l' } = cs vr vi vo s := by intro _; rfl) :
    Lies T cs w1 b (.slice (some ⟨g, 0, none⟩) n c) vi vo { s with ram := l' } ∧ Turn (foot b (.slice (some ⟨g, 0, none⟩) n c) vi vo) (foot b (.slice (some ⟨g, 0, none⟩) n c) vi vo) w w1 := by
  have hnd := (foot_nodup b (.slice (some ⟨g, 0, none⟩) n c) vi vo).1 h.nod
  obtain ⟨d1, d2, d3, d4, d5, d6⟩ := hnd
  refine ⟨⟨by rw [hcs]; exact hk.row h.blk (by simpa using (d1 g rfl).symm), hb, h.inp.keep hk fun x hx => ?_, h.out.keep hk fun x hx => ?_, h.nod⟩, .of_kept (hk.mono (by simp [foot, Value.ownBlock]))⟩
  · rintro hm; simp at hm; subst hm; exact d4 x rfl hx
  · rintro hm; simp at hm; subst hm; exact d5 x rfl hx
set_option maxHeartbeats 4000000 in
set_option maxRecDepth 100000 in
theorem store_none (h : PL w b vr vi vo s) (hs : s.Ok) (addr size v : Int) (a0 : 0 ≤ addr) (a1 : addr ≤ 18446744073709551615) (s0 : -9223372036854775808 ≤ size) (s1 : size ≤ 9223372036854775807) (h1 : inRamA s.ram.length addr size = false) (h2 : inFin addr size = false) (h3 : inClint addr size = false) (h4 : inUart addr size = false) (hv : s.store addr size v = (false, s)) :
    Calls Try.prog 30 #[.pointer (some ⟨b, 0, none⟩), .int .u64 addr, .int .i64 size, .int .u64 v] w (SPost w b vr vi vo s addr size v) := by
  have q := eql_none
  have A := Lib.hid (at_none h hs addr size a0 a1 s0 s1 h1 h2 h3 h4)
  have H := Lib.hid h
  have HV := Lib.hid hv
  clear h h1 h2 h3 h4 hv
  go_enter Try.func30, Try.ntmps30
  go_wp2_with (go_at_call 46; refine A.out.mono ?_; rintro e w2 ⟨rfl, hb⟩)
  have hp : SPost w b vr vi vo s addr size v (.returned (.bool false)) w2 := by
    unfold SPost; rw [HV.out]; exact ⟨vi, vo, rfl, H.out.keep0 (.of_below hb), .of_kept (.of_below hb)⟩
  go_ret
  exact hp
set_option maxHeartbeats 4000000 in
set_option maxRecDepth 100000 in
theorem store_fin (h : PL w b vr vi vo s) (hs : s.Ok) (v : Int) (v0 : 0 ≤ v) (v1 : v ≤ 18446744073709551615) (hv : s.store 1048576 4 v = (true, s.power v)) :
    Calls Try.prog 30 #[.pointer (some ⟨b, 0, none⟩), .int .u64 1048576, .int .i64 4, .int .u64 v] w (SPost w b vr vi vo s 1048576 4 v) := by
  have q := eql_fin
  have m := m_fin_store ⟨b, 1, none⟩
  have A := Lib.hid (at_fin h hs 1048576 4 (by decide) (by decide) (by decide) (by decide) (inRamA_false (by decide)) (by decide))
  have H := Lib.hid h
  have HV := Lib.hid hv
  clear h hv
  go_enter Try.func30, Try.ntmps30
  go_wp2_with (first | (go_at_call 46; refine A.out.mono ?_; rintro e w2 ⟨rfl, hb⟩; have HB := Lib.hid hb; clear hb) | (go_at_call 119; refine (fin_store_any _ b s.off s.code _ _ v v0 v1 ((H.out.keep0 (.of_below HB.out)).cell 1 _ rfl) ((H.out.keep0 (.of_below HB.out)).cell 2 _ rfl) ((H.out.keep0 (.of_below HB.out)).frozen 1) ((H.out.keep0 (.of_below HB.out)).frozen 2)).mono ?_; rintro e w3 ⟨rfl, hf⟩; have HF := Lib.hid hf; clear hf))
  have h2 := H.out.keep0 (.of_below HB.out)
  have ht := Turn.of_kept (Kept.of_below (F := foot b vr vi vo) HB.out)
  have hp : SPost w b vr vi vo s 1048576 4 v (.returned (.bool true)) w3 := by
    unfold SPost; rw [HV.out]
    have hf := HF.out
    unfold finPost at hf
    unfold St.power
    by_cases c0 : s.off = 0
    · rw [if_pos c0] at hf ⊢
      by_cases c1 : v % 65536 = 21845
      · rw [if_pos c1] at hf ⊢; subst hf
        exact ⟨vi, vo, rfl, h2.set 1 _ rfl, ht.trans (h2.turn 1 _)⟩
      · rw [if_neg c1] at hf ⊢
        by_cases c2 : v % 65536 = 13107
        · rw [if_pos c2] at hf ⊢; subst hf
          have h3 := h2.set 1 (.int .i64 2) (s' := { s with off := 2 }) (cs' := fun vr vi vo s => pCells vr vi vo s) rfl
          exact ⟨vi, vo, rfl, h3.set 2 _ rfl, (ht.trans (h2.turn 1 _)).trans (h3.turn 2 _)⟩
        · rw [if_neg c2] at hf ⊢; subst hf
          exact ⟨vi, vo, rfl, h2, ht⟩
    · rw [if_neg c0] at hf ⊢; subst hf
      exact ⟨vi, vo, rfl, h2, ht⟩
  go_ret
  exact hp
set_option maxHeartbeats 4000000 in
set_option maxRecDepth 100000 in
theorem store_m (h : PL w b vr vi vo s) (hs : s.Ok) (v : Int) (v0 : 0 ≤ v) (v1 : v ≤ 18446744073709551615) (hv : s.store 33554432 4 v = (true, { s with msip := v % 2 })) :
    Calls Try.prog 30 #[.pointer (some ⟨b, 0, none⟩), .int .u64 33554432, .int .i64 4, .int .u64 v] w (SPost w b vr vi vo s 33554432 4 v) := by
  have q := eql_clint
  have m := m_clint_store ⟨b, 3, none⟩
  have A := Lib.hid (at_clint h hs 33554432 4 (by decide) (by decide) (by decide) (by decide) (inRamA_false (by decide)) (by decide) (by decide))
  have H := Lib.hid h
  have HV := Lib.hid hv
  have hlt : b < w.heap.size := h.lt b (by simp [foot])
  clear h hv
  go_enter Try.func30, Try.ntmps30
  go_wp2_with (first | (go_at_call 46; refine A.out.mono ?_; rintro e w2 ⟨rfl, hb⟩; have HB := Lib.hid hb; clear hb) | (go_at_call 122; refine (clint_store_m _ b (s.msip) v hs.m.1 (by have := hs.m.2; omega) v0 v1 (Nat.lt_of_lt_of_le hlt HB.out.size) ((H.out.keep0 (.of_below HB.out)).cell 3 _ rfl) ((H.out.keep0 (.of_below HB.out)).frozen 3)).mono ?_; rintro e w4 ⟨rfl, w3, hb3, rfl⟩; have HB3 := Lib.hid hb3; clear hb3))
  have hk := (Kept.of_below (F := []) HB.out).trans (.of_below (F := []) HB3.out) (by simp)
  have h3 := H.out.keep0 hk
  have hp : SPost w b vr vi vo s 33554432 4 v (.returned (.bool true)) (w3.setCell ⟨b, 3, none⟩ (.int .u32 (v % 2))) := by
    unfold SPost; rw [HV.out]; exact ⟨vi, vo, rfl, h3.set 3 _ rfl, (Turn.of_kept (hk.mono (by simp))).trans (h3.turn 3 _)⟩
  go_ret
  exact hp
set_option maxHeartbeats 4000000 in
set_option maxRecDepth 100000 in
theorem store_c (h : PL w b vr vi vo s) (hs : s.Ok) (v : Int) (v0 : 0 ≤ v) (v1 : v ≤ 18446744073709551615) (hv : s.store 33570816 8 v = (true, { s with cmp := v })) :
    Calls Try.prog 30 #[.pointer (some ⟨b, 0, none⟩), .int .u64 33570816, .int .i64 8, .int .u64 v] w (SPost w b vr vi vo s 33570816 8 v) := by
  have q := eql_clint
  have m := m_clint_store ⟨b, 3, none⟩
  have A := Lib.hid (at_clint h hs 33570816 8 (by decide) (by decide) (by decide) (by decide) (inRamA_false (by decide)) (by decide) (by decide))
  have H := Lib.hid h
  have HV := Lib.hid hv
  have hlt : b < w.heap.size := h.lt b (by simp [foot])
  clear h hv
  go_enter Try.func30, Try.ntmps30
  go_wp2_with (first | (go_at_call 46; refine A.out.mono ?_; rintro e w2 ⟨rfl, hb⟩; have HB := Lib.hid hb; clear hb) | (go_at_call 122; refine (clint_store_c _ b (s.cmp) v hs.c.1 hs.c.2 v0 v1 (Nat.lt_of_lt_of_le hlt HB.out.size) ((H.out.keep0 (.of_below HB.out)).cell 4 _ rfl) ((H.out.keep0 (.of_below HB.out)).frozen 4)).mono ?_; rintro e w4 ⟨rfl, w3, hb3, rfl⟩; have HB3 := Lib.hid hb3; clear hb3))
  have hk := (Kept.of_below (F := []) HB.out).trans (.of_below (F := []) HB3.out) (by simp)
  have h3 := H.out.keep0 hk
  have hp : SPost w b vr vi vo s 33570816 8 v (.returned (.bool true)) (w3.setCell ⟨b, 4, none⟩ (.int .u64 (v))) := by
    unfold SPost; rw [HV.out]; exact ⟨vi, vo, rfl, h3.set 4 _ rfl, (Turn.of_kept (hk.mono (by simp))).trans (h3.turn 4 _)⟩
  go_ret
  exact hp
set_option maxHeartbeats 4000000 in
set_option maxRecDepth 100000 in
theorem store_cl (h : PL w b vr vi vo s) (hs : s.Ok) (v : Int) (v0 : 0 ≤ v) (v1 : v ≤ 18446744073709551615) (hv : s.store 33570816 4 v = (true, { s with cmp := lowOf s.cmp v })) :
    Calls Try.prog 30 #[.pointer (some ⟨b, 0, none⟩), .int .u64 33570816, .int .i64 4, .int .u64 v] w (SPost w b vr vi vo s 33570816 4 v) := by
  have q := eql_clint
  have m := m_clint_store ⟨b, 3, none⟩
  have A := Lib.hid (at_clint h hs 33570816 4 (by decide) (by decide) (by decide) (by decide) (inRamA_false (by decide)) (by decide) (by decide))
  have H := Lib.hid h
  have HV := Lib.hid hv
  have hlt : b < w.heap.size := h.lt b (by simp [foot])
  clear h hv
  go_enter Try.func30, Try.ntmps30
  go_wp2_with (first | (go_at_call 46; refine A.out.mono ?_; rintro e w2 ⟨rfl, hb⟩; have HB := Lib.hid hb; clear hb) | (go_at_call 122; refine (clint_store_cl _ b (s.cmp) v hs.c.1 hs.c.2 v0 v1 (Nat.lt_of_lt_of_le hlt HB.out.size) ((H.out.keep0 (.of_below HB.out)).cell 4 _ rfl) ((H.out.keep0 (.of_below HB.out)).frozen 4)).mono ?_; rintro e w4 ⟨rfl, w3, hb3, rfl⟩; have HB3 := Lib.hid hb3; clear hb3))
  have hk := (Kept.of_below (F := []) HB.out).trans (.of_below (F := []) HB3.out) (by simp)
  have h3 := H.out.keep0 hk
  have hp : SPost w b vr vi vo s 33570816 4 v (.returned (.bool true)) (w3.setCell ⟨b, 4, none⟩ (.int .u64 (lowOf s.cmp v))) := by
    unfold SPost; rw [HV.out]; exact ⟨vi, vo, rfl, h3.set 4 _ rfl, (Turn.of_kept (hk.mono (by simp))).trans (h3.turn 4 _)⟩
  go_ret
  exact hp
set_option maxHeartbeats 4000000 in
set_option maxRecDepth 100000 in
theorem store_ch (h : PL w b vr vi vo s) (hs : s.Ok) (v : Int) (v0 : 0 ≤ v) (v1 : v ≤ 18446744073709551615) (hv : s.store 33570820 4 v = (true, { s with cmp := highOf s.cmp v })) :
    Calls Try.prog 30 #[.pointer (some ⟨b, 0, none⟩), .int .u64 33570820, .int .i64 4, .int .u64 v] w (SPost w b vr vi vo s 33570820 4 v) := by
  have q := eql_clint
  have m := m_clint_store ⟨b, 3, none⟩
  have A := Lib.hid (at_clint h hs 33570820 4 (by decide) (by decide) (by decide) (by decide) (inRamA_false (by decide)) (by decide) (by decide))
  have H := Lib.hid h
  have HV := Lib.hid hv
  have hlt : b < w.heap.size := h.lt b (by simp [foot])
  clear h hv
  go_enter Try.func30, Try.ntmps30
  go_wp2_with (first | (go_at_call 46; refine A.out.mono ?_; rintro e w2 ⟨rfl, hb⟩; have HB := Lib.hid hb; clear hb) | (go_at_call 122; refine (clint_store_ch _ b (s.cmp) v hs.c.1 hs.c.2 v0 v1 (Nat.lt_of_lt_of_le hlt HB.out.size) ((H.out.keep0 (.of_below HB.out)).cell 4 _ rfl) ((H.out.keep0 (.of_below HB.out)).frozen 4)).mono ?_; rintro e w4 ⟨rfl, w3, hb3, rfl⟩; have HB3 := Lib.hid hb3; clear hb3))
  have hk := (Kept.of_below (F := []) HB.out).trans (.of_below (F := []) HB3.out) (by simp)
  have h3 := H.out.keep0 hk
  have hp : SPost w b vr vi vo s 33570820 4 v (.returned (.bool true)) (w3.setCell ⟨b, 4, none⟩ (.int .u64 (highOf s.cmp v))) := by
    unfold SPost; rw [HV.out]; exact ⟨vi, vo, rfl, h3.set 4 _ rfl, (Turn.of_kept (hk.mono (by simp))).trans (h3.turn 4 _)⟩
  go_ret
  exact hp
set_option maxHeartbeats 4000000 in
set_option maxRecDepth 100000 in
theorem store_n (h : PL w b vr vi vo s) (hs : s.Ok) (v : Int) (v0 : 0 ≤ v) (v1 : v ≤ 18446744073709551615) (hv : s.store 33603576 8 v = (true, { s with now := v })) :
    Calls Try.prog 30 #[.pointer (some ⟨b, 0, none⟩), .int .u64 33603576, .int .i64 8, .int .u64 v] w (SPost w b vr vi vo s 33603576 8 v) := by
  have q := eql_clint
  have m := m_clint_store ⟨b, 3, none⟩
  have A := Lib.hid (at_clint h hs 33603576 8 (by decide) (by decide) (by decide) (by decide) (inRamA_false (by decide)) (by decide) (by decide))
  have H := Lib.hid h
  have HV := Lib.hid hv
  have hlt : b < w.heap.size := h.lt b (by simp [foot])
  clear h hv
  go_enter Try.func30, Try.ntmps30
  go_wp2_with (first | (go_at_call 46; refine A.out.mono ?_; rintro e w2 ⟨rfl, hb⟩; have HB := Lib.hid hb; clear hb) | (go_at_call 122; refine (clint_store_n _ b (s.now) v hs.n.1 hs.n.2 v0 v1 (Nat.lt_of_lt_of_le hlt HB.out.size) ((H.out.keep0 (.of_below HB.out)).cell 5 _ rfl) ((H.out.keep0 (.of_below HB.out)).frozen 5)).mono ?_; rintro e w4 ⟨rfl, w3, hb3, rfl⟩; have HB3 := Lib.hid hb3; clear hb3))
  have hk := (Kept.of_below (F := []) HB.out).trans (.of_below (F := []) HB3.out) (by simp)
  have h3 := H.out.keep0 hk
  have hp : SPost w b vr vi vo s 33603576 8 v (.returned (.bool true)) (w3.setCell ⟨b, 5, none⟩ (.int .u64 (v))) := by
    unfold SPost; rw [HV.out]; exact ⟨vi, vo, rfl, h3.set 5 _ rfl, (Turn.of_kept (hk.mono (by simp))).trans (h3.turn 5 _)⟩
  go_ret
  exact hp
set_option maxHeartbeats 4000000 in
set_option maxRecDepth 100000 in
theorem store_nl (h : PL w b vr vi vo s) (hs : s.Ok) (v : Int) (v0 : 0 ≤ v) (v1 : v ≤ 18446744073709551615) (hv : s.store 33603576 4 v = (true, { s with now := lowOf s.now v })) :
    Calls Try.prog 30 #[.pointer (some ⟨b, 0, none⟩), .int .u64 33603576, .int .i64 4, .int .u64 v] w (SPost w b vr vi vo s 33603576 4 v) := by
  have q := eql_clint
  have m := m_clint_store ⟨b, 3, none⟩
  have A := Lib.hid (at_clint h hs 33603576 4 (by decide) (by decide) (by decide) (by decide) (inRamA_false (by decide)) (by decide) (by decide))
  have H := Lib.hid h
  have HV := Lib.hid hv
  have hlt : b < w.heap.size := h.lt b (by simp [foot])
  clear h hv
  go_enter Try.func30, Try.ntmps30
  go_wp2_with (first | (go_at_call 46; refine A.out.mono ?_; rintro e w2 ⟨rfl, hb⟩; have HB := Lib.hid hb; clear hb) | (go_at_call 122; refine (clint_store_nl _ b (s.now) v hs.n.1 hs.n.2 v0 v1 (Nat.lt_of_lt_of_le hlt HB.out.size) ((H.out.keep0 (.of_below HB.out)).cell 5 _ rfl) ((H.out.keep0 (.of_below HB.out)).frozen 5)).mono ?_; rintro e w4 ⟨rfl, w3, hb3, rfl⟩; have HB3 := Lib.hid hb3; clear hb3))
  have hk := (Kept.of_below (F := []) HB.out).trans (.of_below (F := []) HB3.out) (by simp)
  have h3 := H.out.keep0 hk
  have hp : SPost w b vr vi vo s 33603576 4 v (.returned (.bool true)) (w3.setCell ⟨b, 5, none⟩ (.int .u64 (lowOf s.now v))) := by
    unfold SPost; rw [HV.out]; exact ⟨vi, vo, rfl, h3.set 5 _ rfl, (Turn.of_kept (hk.mono (by simp))).trans (h3.turn 5 _)⟩
  go_ret
  exact hp
set_option maxHeartbeats 4000000 in
set_option maxRecDepth 100000 in
theorem store_nh (h : PL w b vr vi vo s) (hs : s.Ok) (v : Int) (v0 : 0 ≤ v) (v1 : v ≤ 18446744073709551615) (hv : s.store 33603580 4 v = (true, { s with now := highOf s.now v })) :
    Calls Try.prog 30 #[.pointer (some ⟨b, 0, none⟩), .int .u64 33603580, .int .i64 4, .int .u64 v] w (SPost w b vr vi vo s 33603580 4 v) := by
  have q := eql_clint
  have m := m_clint_store ⟨b, 3, none⟩
  have A := Lib.hid (at_clint h hs 33603580 4 (by decide) (by decide) (by decide) (by decide) (inRamA_false (by decide)) (by decide) (by decide))
  have H := Lib.hid h
  have HV := Lib.hid hv
  have hlt : b < w.heap.size := h.lt b (by simp [foot])
  clear h hv
  go_enter Try.func30, Try.ntmps30
  go_wp2_with (first | (go_at_call 46; refine A.out.mono ?_; rintro e w2 ⟨rfl, hb⟩; have HB := Lib.hid hb; clear hb) | (go_at_call 122; refine (clint_store_nh _ b (s.now) v hs.n.1 hs.n.2 v0 v1 (Nat.lt_of_lt_of_le hlt HB.out.size) ((H.out.keep0 (.of_below HB.out)).cell 5 _ rfl) ((H.out.keep0 (.of_below HB.out)).frozen 5)).mono ?_; rintro e w4 ⟨rfl, w3, hb3, rfl⟩; have HB3 := Lib.hid hb3; clear hb3))
  have hk := (Kept.of_below (F := []) HB.out).trans (.of_below (F := []) HB3.out) (by simp)
  have h3 := H.out.keep0 hk
  have hp : SPost w b vr vi vo s 33603580 4 v (.returned (.bool true)) (w3.setCell ⟨b, 5, none⟩ (.int .u64 (highOf s.now v))) := by
    unfold SPost; rw [HV.out]; exact ⟨vi, vo, rfl, h3.set 5 _ rfl, (Turn.of_kept (hk.mono (by simp))).trans (h3.turn 5 _)⟩
  go_ret
  exact hp
set_option maxHeartbeats 4000000 in
set_option maxRecDepth 100000 in
theorem store_uart (h : PL w b vr vi vo s) (hs : s.Ok) (reg v : Int) (v0 : 0 ≤ v) (v1 : v ≤ 18446744073709551615) (r0 : 0 ≤ reg) (r1 : reg < 8) (hv : s.store (268435456 + reg) 1 v = (true, s.takes reg v)) :
    Calls Try.prog 30 #[.pointer (some ⟨b, 0, none⟩), .int .u64 (268435456 + reg), .int .i64 1, .int .u64 v] w (SPost w b vr vi vo s (268435456 + reg) 1 v) := by
  have q := eql_uart
  have m := m_uart_store ⟨b, 6, none⟩
  have A := Lib.hid (at_uart h hs (268435456 + reg) 1 (by omega) (by omega) (by decide) (by decide) (inRamA_false (by omega)) (by simp [inFin]) (by simp [inClint, wordAt]) (by simp [inUart]; omega))
  have H := Lib.hid h
  have HV := Lib.hid hv
  clear h hv
  go_enter Try.func30, Try.ntmps30
  go_wp2_with (first | (go_at_call 46; refine A.out.mono ?_; rintro e w2 ⟨rfl, hb⟩; have HB := Lib.hid hb; clear hb) | (go_at_call 111; refine (uart_store_any (H.out.keep0 (.of_below HB.out)) hs reg _ v v0 v1 r0 r1).mono ?_; rintro e w3 ⟨vi', vo', rfl, h3, ht⟩; have H3 := Lib.hid h3; have HT := Lib.hid ht; clear h3 ht))
  have hp : SPost w b vr vi vo s (268435456 + reg) 1 v (.returned (.bool true)) w3 := by
    unfold SPost; rw [HV.out]; exact ⟨vi', vo', rfl, H3.out, (Turn.of_kept ((Kept.of_below (F := foot b vr vi vo) HB.out))).trans HT.out⟩
  go_ret
  exact hp
set_option maxHeartbeats 4000000 in
set_option maxRecDepth 100000 in
theorem store_ram (h : PL w b vr vi vo s) (hs : s.Ok) (a sz : Nat) (v : Int) (v0 : 0 ≤ v) (v1 : v ≤ 18446744073709551615) (hsz : szOk sz = true) (hal : (2147483648 + (a : Int)) % sz = 0) (hin : a + sz ≤ s.ram.length) (hv : s.store (2147483648 + (a : Int)) sz v = (true, { s with ram := lay s.ram a (leOf v sz) })) :
    Calls Try.prog 30 #[.pointer (some ⟨b, 0, none⟩), .int .u64 (2147483648 + (a : Int)), .int .i64 sz, .int .u64 v] w (SPost w b vr vi vo s (2147483648 + (a : Int)) sz v) := by
  have q := eql_ram
  have m := m_ram_store ⟨b, 0, none⟩
  have hsz' : sz = 1 ∨ sz = 2 ∨ sz = 4 ∨ sz = 8 := by simp [szOk] at hsz; omega
  have hr1 := hs.r1
  have A := Lib.hid (at_ram h hs (2147483648 + (a : Int)) sz (by omega) (by omega) (by omega) (by omega) (by unfold inRamA inRam; simp [hsz, hal]; omega))
  obtain ⟨g, cap, rfl, hgb, hgl, hc1, hc2⟩ := h.ramAt hs
  have H := Lib.hid h
  have HV := Lib.hid hv
  have hs8 : sz ≤ 8 := by omega
  clear h hv hsz hal hsz'
  go_enter Try.func30, Try.ntmps30
  go_wp2_with (first | (go_at_call 46; refine A.out.mono ?_; rintro e w2 ⟨rfl, hb⟩; have HB := Lib.hid hb; clear hb) | (go_at_call 116; refine (ram_store_any _ b g cap a sz _ s.ram v 0 v0 v1 hs8 hr1 hin hgb rfl (H.out.keep0 (.of_below HB.out)).ram ((H.out.keep0 (.of_below HB.out)).cell 0 _ rfl) hc1 hc2).mono ?_; rintro e w3 ⟨rfl, hb3, hk3⟩; have HB3 := Lib.hid hb3; have HK3 := Lib.hid hk3; clear hb3 hk3))
  have h2 := H.out.keep0 (.of_below HB.out)
  have hst := h2.setRam HB3.out HK3.out (by rw [lay_length _ _ _ (by rw [leOf_length]; omega)])
  have hp : SPost w b (.slice (some ⟨g, 0, none⟩) s.ram.length cap) vi vo s (2147483648 + (a : Int)) sz v (.returned (.bool true)) w3 := by
    unfold SPost; rw [HV.out]; exact ⟨vi, vo, rfl, hst.1, (Turn.of_kept ((Kept.of_below (F := foot b _ vi vo) HB.out))).trans hst.2⟩
  go_ret
  exact hp
end
end Go.Proofs.Ytkocfcgdjjdnhaa.BW
