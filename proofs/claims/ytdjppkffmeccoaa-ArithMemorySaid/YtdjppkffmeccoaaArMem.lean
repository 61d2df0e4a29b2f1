/- The law ArithMemory: it answers true. Premise: the bytes can be read. -/
import Derived.Test.YtdjppkffmeccoaaAlone
namespace Go.Proofs.Ytdjppkffmeccoaa.BW
open Go.RowKit
set_option linter.unusedVariables false
set_option linter.unusedSimpArgs false
def ownsA (us : List (Value × List Int)) : List Nat := us.flatMap fun u => u.1.ownBlock.toList
/-- Bytes made since w0, each in a block of its own. -/
structure PS (w0 : World) (us : List (Value × List Int)) (w : World) : Prop where
  kept : Kept [] w0 w
  bs : ∀ u ∈ us, Bs w u.1 u.2
  ge : ∀ b ∈ ownsA us, w0.heap.size ≤ b
  nd : (ownsA us).Nodup
section
variable {w0 w w' : World} {us : List (Value × List Int)} {u : Value} {l : List Int}
theorem PS.step (h : PS w0 us w) (hb : Bs w' u l) (hn : ∀ g, u.ownBlock = some g → w.heap.size ≤ g) (hk : Kept [] w w') : PS w0 ((u, l) :: us) w' := by
  have e : ownsA ((u, l) :: us) = u.ownBlock.toList ++ ownsA us := rfl
  refine ⟨h.kept.trans hk (by simp), ?_, ?_, ?_⟩
  · intro x hx
    rcases List.mem_cons.mp hx with rfl | hx
    · exact hb
    · exact (h.bs x hx).keep hk (by simp)
  · intro b hm
    rw [e] at hm
    rcases List.mem_append.mp hm with hm | hm
    · exact Nat.le_trans h.kept.size (hn b (by simpa using hm))
    · exact h.ge b hm
  · rw [e, List.nodup_append]
    refine ⟨by cases u.ownBlock <;> simp, h.nd, fun a ha b hb' he => ?_⟩
    subst he
    obtain ⟨x, hx, hxa⟩ := List.mem_flatMap.mp hb'
    have h1 := (h.bs x hx).lt a (by simpa using hxa)
    have h2 := hn a (by simpa using ha)
    omega
theorem PS.keep (h : PS w0 us w) (hk : Kept [] w w') : PS w0 us w' := ⟨h.kept.trans hk (by simp), fun u hu => (h.bs u hu).keep hk (by simp), h.ge, h.nd⟩
theorem PS.tail {x : Value × List Int} (h : PS w0 (x :: us) w) : PS w0 us w :=
  ⟨h.kept, fun u hu => h.bs u (List.mem_cons_of_mem _ hu), fun b hb => h.ge b (List.mem_append_right _ hb), (List.nodup_append.mp h.nd).2.1⟩
theorem PS.ne {x y : Value × List Int} (h : PS w0 (x :: us) w) (hy : y ∈ us) : ∀ b, x.1.ownBlock = some b → y.1.ownBlock ≠ some b := fun b hb hq =>
  (List.nodup_append.mp h.nd).2.2 b (by simp [hb]) b (List.mem_flatMap.mpr ⟨y, hy, by simp [hq]⟩) rfl
theorem PS.own {x : Value × List Int} (h : PS w0 us w) (hx : x ∈ us) : ∀ b, x.1.ownBlock = some b → w0.heap.size ≤ b := fun b hb => h.ge b (List.mem_flatMap.mpr ⟨x, hx, by simp [hb]⟩)
/-- The row of four that 'alone' is handed. -/
theorem PS.row {z p q o r wt : Value} {lz lp lq lo lr lw : List Int} (h : PS w0 [(z, lz), (wt, lw), (r, lr), (o, lo), (q, lq), (p, lp)] w) :
    Gr w0 wt.ownBlock.toList (.slice (some ⟨w.heap.size, 0, none⟩) 4 4) 4 (fun j => (pick4 p q o r j).ownBlock.toList) (pick4 p q o r) (pick4 lp lq lo lr) (w.alloc (.cells #[p, q, o, r] 22)) := by
  have hw := h.tail
  have hr := hw.tail
  have ho := hr.tail
  have hq := ho.tail
  have nw : ∀ {x : Value × List Int}, x ∈ [(r, lr), (o, lo), (q, lq), (p, lp)] → ∀ b, x.1.ownBlock = some b → w0.heap.size ≤ b ∧ b ∉ wt.ownBlock.toList := fun hx b hb => ⟨hr.own hx b hb, fun hm => hw.ne hx b (by simpa using hm) hb⟩
  refine Gr.ofFour h.kept (fun x hx => (hw.bs (wt, lw) (by simp)).lt x (by simpa using hx)) (hw.bs (p, lp) (by simp)) (hw.bs (q, lq) (by simp)) (hw.bs (o, lo) (by simp)) (hw.bs (r, lr) (by simp))
    (nw (x := (p, lp)) (by simp)) (nw (x := (q, lq)) (by simp)) (nw (x := (o, lo)) (by simp)) (nw (x := (r, lr)) (by simp)) ?_ ?_ ?_
  · intro b hb
    exact ⟨fun e => hq.ne (x := (q, lq)) (y := (p, lp)) (by simp) b e hb, fun e => ho.ne (x := (o, lo)) (y := (p, lp)) (by simp) b e hb, fun e => hr.ne (x := (r, lr)) (y := (p, lp)) (by simp) b e hb⟩
  · intro b hb
    exact ⟨fun e => ho.ne (x := (o, lo)) (y := (q, lq)) (by simp) b e hb, fun e => hr.ne (x := (r, lr)) (y := (q, lq)) (by simp) b e hb⟩
  · intro b hb
    exact fun e => hr.ne (x := (r, lr)) (y := (o, lo)) (by simp) b e hb
theorem pre_rd {g c n : Nat} {l m : List Int} (h : Bs w (.slice (some ⟨g, 0, none⟩) n c) (l ++ m)) : RdW w (.slice (some ⟨g, 0, none⟩) l.length c) l := .inl (.inr ⟨c, g, 0, rfl, fun i x hx => by
    rw [Nat.zero_add]
    exact h.cell rfl i x (by rw [List.getElem?_append_left (List.getElem?_eq_some_iff.mp hx).1]; exact hx)⟩)
end
set_option maxRecDepth 100000 in
theorem u8_not (y : Int) (y0 : 0 ≤ y) (y1 : y ≤ 255) : bits .xor .u8 (if IntKind.u8.signed = true then -1 else IntKind.u8.max) y = 255 - y := by
  have e : (if IntKind.u8.signed = true then (-1 : Int) else IntKind.u8.max) = 255 := rfl
  rw [e, u8_xor 255 y (by decide) (by decide) y0 (by omega)]
  have h : ∀ n : Nat, n < 256 → 255 ^^^ n = 255 - n := by decide
  have h2 := h y.toNat (by omega)
  rw [show (255 : Int).toNat = 255 from rfl, h2]; omega
theorem u64_not_bd (v : Int) (v0 : 0 ≤ v) (v1 : v ≤ 18446744073709551615) : 0 ≤ bits .xor .u64 (if IntKind.u64.signed = true then -1 else IntKind.u64.max) v ∧ bits .xor .u64 (if IntKind.u64.signed = true then -1 else IntKind.u64.max) v ≤ 18446744073709551615 := by
  have e : (if IntKind.u64.signed = true then (-1 : Int) else IntKind.u64.max) = 18446744073709551615 := rfl
  rw [e, u64_xor _ v (by decide) (by decide) v0 (by omega)]
  have h := Nat.xor_lt_two_pow (n := 64) (x := (18446744073709551615 : Int).toNat) (y := v.toNat) (by decide) (by omega)
  omega
theorem lent_shape {w : World} {f : Value} {l : List Int} (h : Bs w f (l ++ marks)) : ∃ g cap, f = .slice (some ⟨g, 0, none⟩) (l.length + 64) cap ∧ l.length + 64 ≤ cap ∧ cap ≤ 9223372036854775807 := by
  have hll : (l ++ marks).length = l.length + 64 := by rw [List.length_append, marks_len]
  rcases h.at with ⟨_, h0⟩ | ⟨g, cap, cur, e, _, h3, h4, _⟩
  · rw [h0] at hll; simp at hll
  · rw [hll] at e h3; exact ⟨g, cap, e, h3, h4⟩
set_option maxHeartbeats 40000000 in
set_option maxRecDepth 100000 in
theorem law_ArithMemory (w : World) (vb : Value) (b : List Int) (v size : Int) (hr : RdW w vb b) (hby : Byts b) (hl : b.length ≤ 140737488351232) (v0 : 0 ≤ v) (v1 : v ≤ 18446744073709551615) (z0 : -9223372036854775808 ≤ size) (z1 : size ≤ 9223372036854775807) :
    Calls Try.prog 3 #[vb, .int .u64 v, .int .i64 size] w fun e w' => e = .returned (.bool true) ∧ Kept [] w w' := by
  obtain ⟨A, c, rfl⟩ := hr.shape
  have HB := Lib.hid hby
  have HR := Lib.hid hr
  have hl2 : b.length ≤ 140737488355328 := by omega
  have HL1 := Lib.hid hl
  have HL2 := Lib.hid hl2
  clear hr hby hl2
  go_enter Try.func3, Try.ntmps3
  go_wp2_with (first
    | (go_at_call 8; refine (lent_any w _ b HR.out HL1.out).mono ?_; rintro e w1 ⟨A1, c1, rfl, hb, hn, hk⟩; obtain ⟨g, cap, hA, hcp1, hcp2⟩ := lent_shape hb; rw [hA] at hb hn ⊢; have HM := Lib.hid (show Mk w w1 _ (b ++ marks) from ⟨hb, hn, hk⟩); have HRP := Lib.hid (pre_rd hb); have HR1 := Lib.hid (HR.out.keep hk); clear hb hn hk hA)
    | (go_at_call 9; refine (take_any _ _ b HRP.out HB.out HL2.out).mono ?_; rintro e wz ⟨rfl, rfl⟩)
    | (go_at_call 10; refine (rtake_any _ _ b HR1.out HB.out HL2.out).mono ?_; rintro e wz ⟨rfl, rfl⟩)
    | (go_at_call 11; refine (kept_any _ _ _ b HM.out.1 HR1.out HL1.out).mono ?_; rintro e wz ⟨rfl, rfl⟩))
  have HMF := Lib.hid (show Mk w w1 (.slice (some ⟨g, 0, none⟩) (b.length + 64) cap) (flipL b 0 ++ marks) from by rw [flipL_zero]; exact HM.out)
  clear HM HRP HR1
  obtain ⟨n, hn⟩ : ∃ n : Nat, b.length = n := ⟨_, rfl⟩
  have HN := Lib.hid hn
  rw [hn] at hl hcp1 HMF ⊢
  clear hn
  go_loopw [9] (fun i wr => ∃ k : Nat, k ≤ n ∧ i = .int .i64 k ∧ Hid (Mk w wr (.slice (some ⟨g, 0, none⟩) (n + 64) cap) (flipL b k ++ marks))) (fun i _ => n - (intOf i).toNat)
  case atStart => exact ⟨0, Nat.zero_le _, rfl, HMF.out⟩
  case round =>
    obtain ⟨k, hk, rfl, hq⟩ := hrel
    have HQ := Lib.hid hq.out
    clear hq HMF
    by_cases hlt : k < n
    · obtain ⟨y, hy⟩ : ∃ y, b[k]? = some y := ⟨_, List.getElem?_eq_getElem (by rw [HN.out]; exact hlt)⟩
      have hfl : (flipL b k).length = n := by rw [flipL_len, HN.out]
      have hyf : (flipL b k ++ marks)[k]? = some y := by rw [List.getElem?_append_left (by rw [hfl]; exact hlt), flipL_at]; exact hy
      have d1 : wr.cell? ⟨g, k, none⟩ = some (.int .u8 y) := HQ.out.1.cell rfl k y hyf
      have d2 : wr.frozen? ⟨g, k, none⟩ = false := HQ.out.1.frozen rfl k
      have y0 := (HB.out y (List.mem_of_getElem? hy)).1
      have y1 := (HB.out y (List.mem_of_getElem? hy)).2
      have HS := Lib.hid (show Mk w (wr.setCell ⟨g, k, none⟩ (.int .u8 (255 - y))) (.slice (some ⟨g, 0, none⟩) (n + 64) cap) (flipL b (k + 1) ++ marks) from by
        have h := HQ.out.set k (255 - y) (by rw [List.length_append, hfl]; omega)
        rw [List.set_append, if_pos (by rw [hfl]; exact hlt), flipL_set b k y hy] at h
        exact h)
      have e8 := u8_not y y0 y1
      clear hy hyf hfl
      go_wp2
      go_roundw
      case rel => go_light; exact ⟨k + 1, by omega, by go_num, HS.out⟩
      case measure => simp [intOf]; omega
    · obtain rfl : k = n := by omega
      have HF := Lib.hid (show RdW wr (.slice (some ⟨g, 0, none⟩) k cap) (flipL b k) from by
        have h := pre_rd HQ.out.1
        rw [flipL_len, HN.out] at h
        exact h)
      have HFB := Lib.hid (flipL_byts b k HB.out)
      have HFL := Lib.hid (show (flipL b k).length ≤ 140737488355328 by rw [flipL_len]; exact HL2.out)
      have HRr := Lib.hid (show RdW wr (.slice A k c) b from by have h := HR.out.keep HQ.out.2.2; rw [HN.out] at h; exact h)
      have HP0 := Lib.hid (show PS w [] wr from ⟨HQ.out.2.2, by simp, by simp [ownsA], by simp [ownsA]⟩)
      have hrk : ∀ {u : World}, Kept [] wr u → RdW u (.slice A k c) b := fun h => HRr.out.keep h
      have HRK := Lib.hid (show ∀ (u : World), Kept [] w u → RdW u (.slice A k c) b from fun u h => by have h2 := HR.out.keep h; rw [HN.out] at h2; exact h2)
      obtain ⟨vn, hvn⟩ : ∃ vn, bits .xor .u64 (if IntKind.u64.signed = true then -1 else IntKind.u64.max) v = vn := ⟨_, rfl⟩
      have n0 : 0 ≤ vn := by rw [← hvn]; exact (u64_not_bd v v0 v1).1
      have n1 : vn ≤ 18446744073709551615 := by rw [← hvn]; exact (u64_not_bd v v0 v1).2
      have HPT := Lib.hid (show k ≤ 8 → putL (takeV b) (k : Int) = b from fun h8 => by have h := put_take b HB.out (by rw [HN.out]; exact h8); rw [HN.out] at h; exact h)
      have HTP8 := Lib.hid (take_put v 8 (by omega) v0 v1)
      have HTP9 := Lib.hid (take_put v 9 (by omega) v0 v1)
      have HTB := Lib.hid (takeV_bd b HB.out)
      clear hrk hlt hk
      have s1 : k ≤ cap := by omega
      have s2 : (k : Int) ≤ (cap : Int) := by omega
      have s3 : decide ((k : Int) ≤ (cap : Int)) = true := decide_eq_true s2
      have s4 : (0 : Int) ≤ (k : Int) := by omega
      have s5 : ¬ (k : Int) < 0 := by omega
      have s6 : ¬ (cap : Int) < (k : Int) := by omega
      have hsl : ∀ u : World, (Instr.slice 22 (.slice (some ⟨g, 0, none⟩) (k + 64) cap) none (some (.int .i64 k)) none).run Try.prog u = .ok (.slice (some ⟨g, 0, none⟩) k cap) u := by intro u; go_simp
      go_upto_region 9 with fail
      have HT1 : ∀ n : Nat, Hid (Calls Try.prog 9 #[.slice (some ⟨g, 0, none⟩) k cap] (wr.drewN n) fun e w'' => e = .returned (.int .u64 (takeV (flipL b k))) ∧ w'' = wr.drewN n) := fun n => Lib.hid ((take_any _ _ _ (HF.out.keep ((Kept.refl [] wr).drewN n)) HFB.out HFL.out).mono fun e w' h => ⟨h.1, h.2.symm⟩)
      have HT2 : ∀ n : Nat, Hid (Calls Try.prog 10 #[.slice (some ⟨g, 0, none⟩) k cap] (wr.drewN n) fun e w'' => e = .returned (.int .u64 (takeV (flipL b k))) ∧ w'' = wr.drewN n) := fun n => Lib.hid ((rtake_any _ _ _ (HF.out.keep ((Kept.refl [] wr).drewN n)) HFB.out HFL.out).mono fun e w' h => ⟨h.1, h.2.symm⟩)
      have HT3 : ∀ n : Nat, Hid (Calls Try.prog 9 #[.slice A k c] (wr.drewN n) fun e w'' => e = .returned (.int .u64 (takeV b)) ∧ w'' = wr.drewN n) := fun n => Lib.hid ((take_any _ _ _ (HRr.out.keep ((Kept.refl [] wr).drewN n)) HB.out HL2.out).mono fun e w' h => ⟨h.1, h.2.symm⟩)
      go_quiet (first
        | (with_reducible exact Calls.quiet_of_same (HT1 _).out)
        | (with_reducible exact Calls.quiet_of_same (HT2 _).out)
        | (with_reducible exact Calls.quiet_of_same (HT3 _).out))
      have HPn := Lib.hid (HP0.out.keep ((Kept.refl [] wr).drewN nq))
      clear HP0
      have HP0 := HPn
      clear HPn HT1 HT2 HT3 HF HFB HFL HRr HQ s1 s2 s3 s4 s5 s6 hsl
      have hkb : (k : Int) ≤ 140737488351232 := by omega
      by_cases h8 : k ≤ 8
      · have e1 : decide ((k : Int) ≤ 8) = true := decide_eq_true (by omega)
        as_aux_lemma =>
        go_wp2_with (first
          | (go_at_call 12; have h0 := HP0.out; refine (put_any _ v size v0 v1 z0 z1).mono ?_; rintro e xa ⟨Aa, ca, rfl, hb, hn, hk⟩; have HPa := Lib.hid (h0.step hb hn hk); clear h0 hb hn hk HP0)
          | (go_at_call 12; have h0 := HPa.out; refine (put_any _ v size v0 v1 z0 z1).mono ?_; rintro e xb ⟨Ab, cb, rfl, hb, hn, hk⟩; have HPb := Lib.hid (h0.step hb hn hk); clear h0 hb hn hk HPa)
          | (go_at_call 12; have h0 := HPb.out; refine (put_any _ vn size n0 n1 z0 z1).mono ?_; rintro e xc ⟨Ac, cc, rfl, hb, hn, hk⟩; have HPc := Lib.hid (h0.step hb hn hk); clear h0 hb hn hk HPb)
          | (go_at_call 12; have h0 := HPc.out; refine (put_any _ v size v0 v1 z0 z1).mono ?_; rintro e xd ⟨Ad, cd, rfl, hb, hn, hk⟩; have HPd := Lib.hid (h0.step hb hn hk); clear h0 hb hn hk HPc)
          | (go_at_call 13; have h0 := HPd.out; refine (rput_any _ v size v0 v1 z0 z1).mono ?_; rintro e xe ⟨Ae, ce, rfl, hb, hn, hk⟩; have h5 := h0.step hb hn hk; have HPe := Lib.hid h5; have HSp := Lib.hid (same_any xe (.slice Aa (putL v size).length ca) (.slice Ae (putL v size).length ce) (putL v size) (Or.inl (h5.bs ((.slice Aa (putL v size).length ca), putL v size) (by simp)).rd) (Or.inl (h5.bs ((.slice Ae (putL v size).length ce), putL v size) (by simp)).rd)); have HSq := Lib.hid (same_any xe (.slice Ab (putL v size).length cb) (.slice Ae (putL v size).length ce) (putL v size) (Or.inl (h5.bs ((.slice Ab (putL v size).length cb), putL v size) (by simp)).rd) (Or.inl (h5.bs ((.slice Ae (putL v size).length ce), putL v size) (by simp)).rd)); have HSr := Lib.hid (same_any xe (.slice Ad (putL v size).length cd) (.slice Ae (putL v size).length ce) (putL v size) (Or.inl (h5.bs ((.slice Ad (putL v size).length cd), putL v size) (by simp)).rd) (Or.inl (h5.bs ((.slice Ae (putL v size).length ce), putL v size) (by simp)).rd)); clear h0 hb hn hk HPd h5)
          | (go_at_call 14; have h0 := HSp.out; (with_reducible refine h0.mono ?_); rintro e wz ⟨rfl, rfl⟩; clear h0)
          | (go_at_call 14; have h0 := HSq.out; (with_reducible refine h0.mono ?_); rintro e wz ⟨rfl, rfl⟩; clear h0)
          | (go_at_call 14; have h0 := HSr.out; (with_reducible refine h0.mono ?_); rintro e wz ⟨rfl, rfl⟩; clear h0)
          | (go_at_call 14; have h0 := HSo.out; (with_reducible refine h0.mono ?_); rintro e wz ⟨rfl, rfl⟩; clear h0)
          | (go_at_call 14; have h0 := HSz.out; (with_reducible refine h0.mono ?_); rintro e wz ⟨rfl, rfl⟩; clear h0)
          | (go_at_call 14; have h0 := HSb.out; (with_reducible refine h0.mono ?_); rintro e wz ⟨rfl, rfl⟩; clear h0)
          | (go_at_call 13; have h0 := HPe.out; refine (rput_any _ vn size n0 n1 z0 z1).mono ?_; rintro e xf ⟨Af, cf, rfl, hb, hn, hk⟩; have h6 := h0.step hb hn hk; have HSo := Lib.hid (same_any xf (.slice Ac (putL vn size).length cc) (.slice Af (putL vn size).length cf) (putL vn size) (Or.inl (h6.bs ((.slice Ac (putL vn size).length cc), putL vn size) (by simp)).rd) (Or.inl (h6.bs ((.slice Af (putL vn size).length cf), putL vn size) (by simp)).rd)); have HG := Lib.hid h6.row; have HW6 := Lib.hid ((h6.bs ((.slice Ae (putL v size).length ce), putL v size) (by simp)).keep ((Kept.refl [] xf).alloc (.cells #[(.slice Aa (putL v size).length ca), (.slice Ab (putL v size).length cb), (.slice Ac (putL vn size).length cc), (.slice Ad (putL v size).length cd)] 22)) (by simp)); clear h0 hb hn hk HPe HSp HSq HSr h6)
          | (go_at_call 15; have h0 := HG.out; refine (alone_any w _ _ _ 4 _ _ _ h0 (allFour _ (by show (putL _ _).length ≤ _; rw [putL_len]; have := putN_le size; omega) (by show (putL _ _).length ≤ _; rw [putL_len]; have := putN_le size; omega) (by show (putL _ _).length ≤ _; rw [putL_len]; have := putN_le size; omega) (by show (putL _ _).length ≤ _; rw [putL_len]; have := putN_le size; omega))).mono ?_; rintro e xh ⟨rfl, hk, hs⟩; have HKh := Lib.hid hk; have HWh := Lib.hid (HW6.out.keepG (fun g hg => hs g (by simpa using hg))); clear h0 hk hs HG HSo HW6)
          | (go_at_call 12; have h0 := HWh.out; refine (put_any _ v size v0 v1 z0 z1).mono ?_; rintro e xi ⟨Ai, ci_, rfl, hb, hn, hk⟩; have HSz := Lib.hid (same_any xi (.slice Ai (putL v size).length ci_) (.slice Ae (putL v size).length ce) (putL v size) (Or.inl hb.rd) (Or.inl (h0.keep hk (by simp)).rd)); have HKi := Lib.hid (HKh.out.trans hk (by simp)); clear h0 hb hn hk HWh HKh)
          | (go_at_call 9; have h0 := HKi.out; have HTK := Lib.hid (take_any _ _ b (HRK.out _ h0) HB.out HL2.out); (with_reducible refine HTK.out.mono ?_); rintro e wz ⟨rfl, rfl⟩; clear h0 HTK)
          | (go_at_call 12; have h0 := HKi.out; refine (put_any _ (takeV b) k HTB.out.1 HTB.out.2 (by omega) (by omega)).mono ?_; rw [HPT.out h8]; rintro e xj ⟨Aj, cj, rfl, hb, hn, hk⟩; have hkj := h0.trans hk (by simp); have HSb := Lib.hid (same_any xj (.slice Aj b.length cj) (.slice A k c) b (Or.inl hb.rd) (HRK.out _ hkj)); have HKj := Lib.hid hkj; clear h0 hb hn hk hkj HKi HSz)
          | (go_at_call 12; have h0 := HKj.out; refine (put_any _ v 8 v0 v1 (by omega) (by omega)).mono ?_; rintro e xk ⟨Ak, ck, rfl, hb, hn, hk⟩; have HTZ := Lib.hid (take_any xk _ (putL v 8) (Or.inl hb.rd) (putL_byts v 8) (by rw [putL_len]; have := putN_le 8; omega)); have HKE := Lib.hid (h0.trans hk (by simp)); clear h0 hb hn hk HKj HSb)
          | (go_at_call 9; have h0 := HTZ.out; (with_reducible refine h0.mono ?_); rw [HTP8.out]; rintro e wz ⟨rfl, rfl⟩; clear h0 HTZ))
        go_ret
        exact ⟨ret_bool (by simp), HKE.out⟩
      · have e1 : decide ((k : Int) ≤ 8) = false := decide_eq_false (by omega)
        as_aux_lemma =>
        go_wp2_with (first
          | (go_at_call 12; have h0 := HP0.out; refine (put_any _ v size v0 v1 z0 z1).mono ?_; rintro e xa ⟨Aa, ca, rfl, hb, hn, hk⟩; have HPa := Lib.hid (h0.step hb hn hk); clear h0 hb hn hk HP0)
          | (go_at_call 12; have h0 := HPa.out; refine (put_any _ v size v0 v1 z0 z1).mono ?_; rintro e xb ⟨Ab, cb, rfl, hb, hn, hk⟩; have HPb := Lib.hid (h0.step hb hn hk); clear h0 hb hn hk HPa)
          | (go_at_call 12; have h0 := HPb.out; refine (put_any _ vn size n0 n1 z0 z1).mono ?_; rintro e xc ⟨Ac, cc, rfl, hb, hn, hk⟩; have HPc := Lib.hid (h0.step hb hn hk); clear h0 hb hn hk HPb)
          | (go_at_call 12; have h0 := HPc.out; refine (put_any _ v size v0 v1 z0 z1).mono ?_; rintro e xd ⟨Ad, cd, rfl, hb, hn, hk⟩; have HPd := Lib.hid (h0.step hb hn hk); clear h0 hb hn hk HPc)
          | (go_at_call 13; have h0 := HPd.out; refine (rput_any _ v size v0 v1 z0 z1).mono ?_; rintro e xe ⟨Ae, ce, rfl, hb, hn, hk⟩; have h5 := h0.step hb hn hk; have HPe := Lib.hid h5; have HSp := Lib.hid (same_any xe (.slice Aa (putL v size).length ca) (.slice Ae (putL v size).length ce) (putL v size) (Or.inl (h5.bs ((.slice Aa (putL v size).length ca), putL v size) (by simp)).rd) (Or.inl (h5.bs ((.slice Ae (putL v size).length ce), putL v size) (by simp)).rd)); have HSq := Lib.hid (same_any xe (.slice Ab (putL v size).length cb) (.slice Ae (putL v size).length ce) (putL v size) (Or.inl (h5.bs ((.slice Ab (putL v size).length cb), putL v size) (by simp)).rd) (Or.inl (h5.bs ((.slice Ae (putL v size).length ce), putL v size) (by simp)).rd)); have HSr := Lib.hid (same_any xe (.slice Ad (putL v size).length cd) (.slice Ae (putL v size).length ce) (putL v size) (Or.inl (h5.bs ((.slice Ad (putL v size).length cd), putL v size) (by simp)).rd) (Or.inl (h5.bs ((.slice Ae (putL v size).length ce), putL v size) (by simp)).rd)); clear h0 hb hn hk HPd h5)
          | (go_at_call 14; have h0 := HSp.out; (with_reducible refine h0.mono ?_); rintro e wz ⟨rfl, rfl⟩; clear h0)
          | (go_at_call 14; have h0 := HSq.out; (with_reducible refine h0.mono ?_); rintro e wz ⟨rfl, rfl⟩; clear h0)
          | (go_at_call 14; have h0 := HSr.out; (with_reducible refine h0.mono ?_); rintro e wz ⟨rfl, rfl⟩; clear h0)
          | (go_at_call 14; have h0 := HSo.out; (with_reducible refine h0.mono ?_); rintro e wz ⟨rfl, rfl⟩; clear h0)
          | (go_at_call 14; have h0 := HSz.out; (with_reducible refine h0.mono ?_); rintro e wz ⟨rfl, rfl⟩; clear h0)
          | (go_at_call 14; have h0 := HSb.out; (with_reducible refine h0.mono ?_); rintro e wz ⟨rfl, rfl⟩; clear h0)
          | (go_at_call 13; have h0 := HPe.out; refine (rput_any _ vn size n0 n1 z0 z1).mono ?_; rintro e xf ⟨Af, cf, rfl, hb, hn, hk⟩; have h6 := h0.step hb hn hk; have HSo := Lib.hid (same_any xf (.slice Ac (putL vn size).length cc) (.slice Af (putL vn size).length cf) (putL vn size) (Or.inl (h6.bs ((.slice Ac (putL vn size).length cc), putL vn size) (by simp)).rd) (Or.inl (h6.bs ((.slice Af (putL vn size).length cf), putL vn size) (by simp)).rd)); have HG := Lib.hid h6.row; have HW6 := Lib.hid ((h6.bs ((.slice Ae (putL v size).length ce), putL v size) (by simp)).keep ((Kept.refl [] xf).alloc (.cells #[(.slice Aa (putL v size).length ca), (.slice Ab (putL v size).length cb), (.slice Ac (putL vn size).length cc), (.slice Ad (putL v size).length cd)] 22)) (by simp)); clear h0 hb hn hk HPe HSp HSq HSr h6)
          | (go_at_call 15; have h0 := HG.out; refine (alone_any w _ _ _ 4 _ _ _ h0 (allFour _ (by show (putL _ _).length ≤ _; rw [putL_len]; have := putN_le size; omega) (by show (putL _ _).length ≤ _; rw [putL_len]; have := putN_le size; omega) (by show (putL _ _).length ≤ _; rw [putL_len]; have := putN_le size; omega) (by show (putL _ _).length ≤ _; rw [putL_len]; have := putN_le size; omega))).mono ?_; rintro e xh ⟨rfl, hk, hs⟩; have HKh := Lib.hid hk; have HWh := Lib.hid (HW6.out.keepG (fun g hg => hs g (by simpa using hg))); clear h0 hk hs HG HSo HW6)
          | (go_at_call 12; have h0 := HWh.out; refine (put_any _ v size v0 v1 z0 z1).mono ?_; rintro e xi ⟨Ai, ci_, rfl, hb, hn, hk⟩; have HSz := Lib.hid (same_any xi (.slice Ai (putL v size).length ci_) (.slice Ae (putL v size).length ce) (putL v size) (Or.inl hb.rd) (Or.inl (h0.keep hk (by simp)).rd)); have HKi := Lib.hid (HKh.out.trans hk (by simp)); clear h0 hb hn hk HWh HKh)
          | (go_at_call 12; have h0 := HKi.out; refine (put_any _ v 9 v0 v1 (by omega) (by omega)).mono ?_; rintro e xk ⟨Ak, ck, rfl, hb, hn, hk⟩; have HTZ := Lib.hid (take_any xk _ (putL v 9) (Or.inl hb.rd) (putL_byts v 9) (by rw [putL_len]; have := putN_le 9; omega)); have HKE := Lib.hid (h0.trans hk (by simp)); clear h0 hb hn hk HKi HSz)
          | (go_at_call 9; have h0 := HTZ.out; (with_reducible refine h0.mono ?_); rw [HTP9.out]; rintro e wz ⟨rfl, rfl⟩; clear h0 HTZ))
        go_ret
        exact ⟨ret_bool (by simp), HKE.out⟩
end Go.Proofs.Ytdjppkffmeccoaa.BW
