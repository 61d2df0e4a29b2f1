/- The statement's word 'alone': four lists, each with blocks of its own. No condition but that. -/
import Derived.Test.YtdjppkffmeccoaaAfour
import Derived.Test.YtdjppkffmeccoaaAcon2
namespace Go.Proofs.Ytdjppkffmeccoaa.BW
open Go.RowKit
set_option linter.unusedVariables false
set_option linter.unusedSimpArgs false
theorem one_at {W : World} {g0 : Nat} {T : TypeId} {u : Value} (h : W.heap.size = g0) : (W.alloc (.cells #[u] T)).cell? ⟨g0, 0, none⟩ = some u := one_atA h
theorem HInv.kept {w1 w : World} {X : List Nat} {vL vG : Value} {n i : Nat} (h : HInv w1 X vL n vG i w) : Kept [] w1 w := by obtain ⟨F, v, l, g, m, hg, _⟩ := h; exact hg.kept
theorem JInv.xl {w1 w : World} {X : List Nat} {vL vG gc : Value} {n i N k : Nat} (h : JInv w1 X vL n vG i gc N k w) : ∀ x ∈ X, x < w.heap.size := by obtain ⟨F, v, l, g, m, hg, _⟩ := h; exact hg.xl
set_option maxHeartbeats 40000000 in
set_option maxRecDepth 100000 in
theorem alone_any (w1 w : World) (X : List Nat) (bL cap : Nat) (F : Nat → List Nat) (v : Nat → Value) (l : Nat → List Int) (hg : Gr w1 X (.slice (some ⟨bL, 0, none⟩) 4 cap) 4 F v l w) (hl : ∀ j, j < 4 → (l j).length ≤ 65536) :
    Calls Try.prog 15 #[.slice (some ⟨bL, 0, none⟩) 4 cap] w fun e w' => e = .returned (.bool true) ∧ Kept [] w1 w' ∧ SameG X w w' := by
  have HF0 := Lib.hid (show FInv w1 X (.slice (some ⟨bL, 0, none⟩) 4 cap) 4 0 0 w ∧ SameG X w w from ⟨⟨F, v, l, hg, hl, by intro j hj; omega, by intro t ht; omega⟩, fun _ _ => rfl⟩)
  clear hg hl
  clear F v l
  go_enter Try.func15, Try.ntmps15
  go_wp2
  go_loopw [3] (fun i wq => ∃ k : Nat, k ≤ 4 ∧ i = .int .i64 k ∧ Hid (FInv w1 X (.slice (some ⟨bL, 0, none⟩) 4 cap) 4 k 0 wq ∧ SameG X w wq)) (fun i _ => 4 - (intOf i).toNat)
  case atStart => exact ⟨0, by omega, rfl, HF0.out⟩
  case round =>
    obtain ⟨k, hk, rfl, hp⟩ := hrel
    have HP := Lib.hid hp.out
    clear hp HF0
    by_cases hlt : k < 4
    · have HLT := Lib.hid hlt
      obtain ⟨A5, N5, c5, bL', cap', e5, d5, hN5, -, -⟩ := HP.out.1.set hlt
      simp only [Value.slice.injEq, Option.some.injEq, Addr.mk.injEq] at e5
      obtain ⟨⟨rfl, -, -⟩, -, rfl⟩ := e5
      clear hN5
      as_aux_lemma =>
      go_wp2
      clear d5
      obtain ⟨wp, rfl⟩ : ∃ wp : World, wp = wr := ⟨_, rfl⟩
      go_loopw [4] (fun kk wq => ∃ m : Nat, kk = .int .i64 m ∧ m ≤ 65536 ∧ Hid (FInv w1 X (.slice (some ⟨bL, 0, none⟩) 4 cap) 4 k m wq ∧ SameG X w wq)) (fun kk _ => 65536 - (intOf kk).toNat)
      case atStart => exact ⟨0, rfl, by omega, HP.out⟩
      case round =>
        obtain ⟨m, rfl, hm, hq⟩ := hrel
        have HQ := Lib.hid hq.out
        clear hq HP
        obtain ⟨A6, N6, c6, bL', cap', e6, d6, hN6, hend, hset⟩ := HQ.out.1.set HLT.out
        simp only [Value.slice.injEq, Option.some.injEq, Addr.mk.injEq] at e6
        obtain ⟨⟨rfl, -, -⟩, -, rfl⟩ := e6
        by_cases hlt2 : m < N6
        · obtain ⟨b, rfl, ⟨y, hy⟩, hfz, hF, hS⟩ := hset hlt2
          have HF := Lib.hid hF
          have HS := Lib.hid hS
          clear hset hend hF hS
          go_wp2
          go_roundw
          case rel =>
            go_light
            exact ⟨m + 1, by go_num, by omega, HF.out, HQ.out.2.trans HS.out⟩
          case measure => simp [intOf]; omega
        · have HE := Lib.hid (hend (by omega))
          clear hset hend
          go_wp2
          go_roundw
          case rel => go_light; exact ⟨k + 1, by omega, by go_num, HE.out, HQ.out.2⟩
          case measure => simp [intOf]; omega
    · obtain rfl : k = 4 := by omega
      rw [show ((4 : Nat) : Int) = 4 from rfl]
      have HH := Lib.hid (show HInv w1 X (.slice (some ⟨bL, 0, none⟩) 4 cap) 4 (.slice none 0 0) 0 wr ∧ SameG X w wr from ⟨HInv.of HP.out.1, HP.out.2⟩)
      clear HP hlt hk
      go_wp2
      obtain ⟨wp, rfl⟩ : ∃ wp : World, wp = wr := ⟨_, rfl⟩
      go_loopw [5, 6] (fun vG i wq => ∃ k : Nat, k ≤ 4 ∧ i = .int .i64 k ∧ Hid (HInv w1 X (.slice (some ⟨bL, 0, none⟩) 4 cap) 4 vG k wq ∧ SameG X w wq)) (fun _ i _ => 4 - (intOf i).toNat)
      case atStart => exact ⟨0, by omega, rfl, HH.out⟩
      case round =>
        obtain ⟨k, hk, rfl, hp⟩ := hrel
        have HP := Lib.hid hp.out
        clear hp HH
        by_cases hlt : k < 4
        · have HLT := Lib.hid hlt
          obtain ⟨A5, N5, c5, bL', cap', e5, d5, hJ⟩ := HP.out.1.start hlt
          simp only [Value.slice.injEq, Option.some.injEq, Addr.mk.injEq] at e5
          obtain ⟨⟨rfl, -, -⟩, -, rfl⟩ := e5
          have HJ := Lib.hid (And.intro hJ HP.out.2)
          clear hJ
          as_aux_lemma =>
          go_wp2
          clear d5
          have hdk : decide ((k : Int) < 4) = true := decide_eq_true (by have := HLT.out; omega)
          rw [hdk]
          clear hdk
          obtain ⟨wq, rfl⟩ : ∃ wq : World, wq = wr := ⟨_, rfl⟩
          go_loopw [7, 8] (fun gc kk wz => ∃ m N : Nat, m ≤ 64 ∧ kk = .int .i64 m ∧ Hid (JInv w1 X (.slice (some ⟨bL, 0, none⟩) 4 cap) 4 u5 k gc N m wz ∧ SameG X w wz)) (fun _ kk _ => 64 - (intOf kk).toNat)
          case atStart => exact ⟨0, _, by omega, rfl, HJ.out⟩
          case round =>
            obtain ⟨m, M, hm, rfl, hq⟩ := hrel
            have HQ := Lib.hid hq.out
            clear hq HJ HP
            obtain ⟨A6, c6, rfl⟩ := HQ.out.1.shape
            have hm0 : m ≤ 1000 := by omega
            have HM0 := Lib.hid hm0
            clear hm0
            by_cases hlt2 : m < 64
            · have HCI := Lib.hid (show JInv w1 X (.slice (some ⟨bL, 0, none⟩) 4 cap) 4 u5 k (.slice A6 M c6) M m (wr.alloc (.cells #[.int .u8 ((k : Int) + 1)] 5)) from HQ.out.1.keep HLT.out ((Kept.refl [] wr).alloc _))
              have HSC := Lib.hid (show (wr.alloc (.cells #[.int .u8 ((k : Int) + 1)] 5)).cell? ⟨wr.heap.size, 0, none⟩ = some (.int .u8 (ci k)) from one_at rfl)
              have HPC := Lib.hid (HQ.out.2.trans (SameG.of_kept (X := X) HQ.out.1.xl ((Kept.refl [] wr).alloc (.cells #[.int .u8 ((k : Int) + 1)] 5)) (by simp)))
              go_wp2_with (first
                | (at_builtin; refine wpList_j_grow rfl _ _ rfl (.slice A6 M c6) wr.heap.size 1 rfl rfl HCI.out HLT.out HM0.out HSC.out ?_; intro A7 c7 w7 hj7 hs7; have HJ7 := Lib.hid hj7; have HP7 := Lib.hid (HPC.out.trans hs7); clear hj7 hs7))
              go_roundw
              case rel => go_light; exact ⟨m + 1, M + 1, by omega, by go_num, HJ7.out, HP7.out⟩
              case measure => simp [intOf]; omega
            · have HCI := Lib.hid (show JInv w1 X (.slice (some ⟨bL, 0, none⟩) 4 cap) 4 u5 k (.slice A6 M c6) M m (wr.alloc (.cells #[.slice A6 M c6] 22)) from HQ.out.1.keep HLT.out ((Kept.refl [] wr).alloc _))
              have HSC := Lib.hid (show (wr.alloc (.cells #[.slice A6 M c6] 22)).cell? ⟨wr.heap.size, 0, none⟩ = some (.slice A6 M c6) from one_at rfl)
              have HPC := Lib.hid (HQ.out.2.trans (SameG.of_kept (X := X) HQ.out.1.xl ((Kept.refl [] wr).alloc (.cells #[.slice A6 M c6] 22)) (by simp)))
              have HTN := Lib.hid (show (4 : Nat) ≤ 1000 by decide)
              go_wp2_with (first
                | (at_builtin; refine wpList_j_add rfl _ _ rfl u5 (.slice A6 M c6) wr.heap.size 1 rfl rfl HCI.out HLT.out HTN.out HM0.out HSC.out ?_; intro A7 c7 w7 hj7 hs7; have HJ7 := Lib.hid hj7; have HP7 := Lib.hid (HPC.out.trans hs7); clear hj7 hs7))
              go_roundw
              case rel => go_light; exact ⟨k + 1, by omega, by go_num, HJ7.out, HP7.out⟩
              case measure => simp [intOf]; omega
        · obtain rfl : k = 4 := by omega
          rw [show ((4 : Nat) : Int) = 4 from rfl]
          obtain ⟨A5, N5, c5, bL', cap', A6, N6, c6, bG, capG, e5, rfl, -, -, -⟩ := HP.out.1.read (k := 0) (i := 0) (by omega)
          simp only [Value.slice.injEq, Option.some.injEq, Addr.mk.injEq] at e5
          obtain ⟨⟨rfl, -, -⟩, -, rfl⟩ := e5
          clear hlt hk
          go_wp2
          obtain ⟨wq, rfl⟩ : ∃ wq : World, wq = wr := ⟨_, rfl⟩
          go_loopw [9] (fun i wz => ∃ k : Nat, k ≤ 4 ∧ i = .int .i64 k ∧ Hid (HInv w1 X (.slice (some ⟨bL, 0, none⟩) 4 cap) 4 (.slice (some ⟨bG, 0, none⟩) 4 capG) 4 wz ∧ SameG X w wz)) (fun i _ => 4 - (intOf i).toNat)
          case atStart => exact ⟨0, by omega, rfl, HP.out⟩
          case round =>
            obtain ⟨k, hk, rfl, hp⟩ := hrel
            clear HP
            have HP := Lib.hid hp.out
            clear hp
            by_cases hlt : k < 4
            · have HLT := Lib.hid hlt
              as_aux_lemma =>
              go_wp2
              obtain ⟨wz, rfl⟩ : ∃ wz : World, wz = wr := ⟨_, rfl⟩
              go_loopw [10] (fun kk wy => ∃ m : Nat, kk = .int .i64 m ∧ m ≤ 100000 ∧ Hid (HInv w1 X (.slice (some ⟨bL, 0, none⟩) 4 cap) 4 (.slice (some ⟨bG, 0, none⟩) 4 capG) 4 wy ∧ SameG X w wy)) (fun kk _ => 100000 - (intOf kk).toNat)
              case atStart => exact ⟨0, rfl, by omega, HP.out⟩
              case round =>
                obtain ⟨m, rfl, hm, hq⟩ := hrel
                clear HP
                have HQ := Lib.hid hq.out
                clear hq
                obtain ⟨A7, N7, c7, bL', cap', A8, N8, c8, bG', capG', e7, e8, d7, d8, hN8, hr7, hr8⟩ := HQ.out.1.read (k := m) HLT.out
                simp only [Value.slice.injEq, Option.some.injEq, Addr.mk.injEq] at e7
                obtain ⟨⟨rfl, -, -⟩, -, rfl⟩ := e7
                simp only [Value.slice.injEq, Option.some.injEq, Addr.mk.injEq] at e8
                obtain ⟨⟨rfl, -, -⟩, -, rfl⟩ := e8
                by_cases hlt2 : m < N8
                · obtain ⟨b8, rfl, q8⟩ := hr8 hlt2
                  unfold ci at q8
                  have e1 : decide ((m : Int) < (N8 : Int)) = true := decide_eq_true (by omega)
                  by_cases hlt3 : m < N7
                  · obtain ⟨b7, rfl, q7⟩ := hr7 hlt3
                    unfold ci at q7
                    have e3 : decide ((m : Int) < (N7 : Int)) = true := decide_eq_true (by omega)
                    clear hr7 hr8
                    go_wp2
                    go_roundw
                    case rel => go_light; exact ⟨m + 1, by go_num, by omega, HQ.out⟩
                    case measure => simp [intOf]; omega
                  · have e3 : decide ((m : Int) < (N7 : Int)) = false := decide_eq_false (by omega)
                    clear hr7 hr8
                    go_wp2
                    go_roundw
                    case rel => go_light; exact ⟨m + 1, by go_num, by omega, HQ.out⟩
                    case measure => simp [intOf]; omega
                · have e1 : decide ((m : Int) < (N8 : Int)) = false := decide_eq_false (by omega)
                  clear hr7 hr8
                  go_wp2
                  go_roundw
                  case rel => go_light; exact ⟨k + 1, by omega, by go_num, HQ.out⟩
                  case measure => simp [intOf]; omega
            · have HE := Lib.hid (And.intro HP.out.1.kept HP.out.2)
              clear HP
              go_wp2
              go_ret
              exact ⟨rfl, HE.out⟩
end Go.Proofs.Ytdjppkffmeccoaa.BW
