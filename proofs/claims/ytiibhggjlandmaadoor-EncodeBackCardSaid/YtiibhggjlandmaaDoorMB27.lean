/- Texts of this claim, put together by a program: PureParA, PureDE. -/
import Derived.Test.YtiibhggjlandmaaDoorMBxPurePar0
import Derived.Test.YtiibhggjlandmaaDoorMBxPurePar1
import Derived.Test.YtiibhggjlandmaaDoorMBxPurePar2
import Derived.Test.YtiibhggjlandmaaDoorMBxPurePar3
import Derived.Test.YtiibhggjlandmaaDoorMBxPurePar4
import Derived.Test.YtiibhggjlandmaaDoorMBxPurePar5
import Derived.Test.YtiibhggjlandmaaDoorMBxPurePar6
import Derived.Test.YtiibhggjlandmaaDoorMBxPurePar7
import Derived.Test.YtiibhggjlandmaaDoorMB15
import Derived.Test.YtiibhggjlandmaaDoorMB18
/- Every parcel is checked. -/
namespace Go.Proofs.YtiibhggjlandmaaDoor.Pure
open Go.RowKit Go.Proofs.YtiibhggjlandmaaDoorW.PrintWords Go.Proofs.YtiibhggjlandmaaDoorW.PrintMore Go.Proofs.YtiibhggjlandmaaDoor.PB Go.Proofs.YtiibhggjlandmaaDoor.PD Go.Proofs.YtiibhggjlandmaaDoor.Mth
theorem okP_all (n : Nat) (h : n < 65536) : okP n = true := by
  by_cases h0 : n < 1024
  · have := allP_get 1024 0 (n - 0) allP_0 (by omega); rwa [show 0 + (n - 0) = n by omega] at this
  by_cases h1 : n < 2048
  · have := allP_get 1024 1024 (n - 1024) allP_1 (by omega); rwa [show 1024 + (n - 1024) = n by omega] at this
  by_cases h2 : n < 3072
  · have := allP_get 1024 2048 (n - 2048) allP_2 (by omega); rwa [show 2048 + (n - 2048) = n by omega] at this
  by_cases h3 : n < 4096
  · have := allP_get 1024 3072 (n - 3072) allP_3 (by omega); rwa [show 3072 + (n - 3072) = n by omega] at this
  by_cases h4 : n < 5120
  · have := allP_get 1024 4096 (n - 4096) allP_4 (by omega); rwa [show 4096 + (n - 4096) = n by omega] at this
  by_cases h5 : n < 6144
  · have := allP_get 1024 5120 (n - 5120) allP_5 (by omega); rwa [show 5120 + (n - 5120) = n by omega] at this
  by_cases h6 : n < 7168
  · have := allP_get 1024 6144 (n - 6144) allP_6 (by omega); rwa [show 6144 + (n - 6144) = n by omega] at this
  by_cases h7 : n < 8192
  · have := allP_get 1024 7168 (n - 7168) allP_7 (by omega); rwa [show 7168 + (n - 7168) = n by omega] at this
  by_cases h8 : n < 9216
  · have := allP_get 1024 8192 (n - 8192) allP_8 (by omega); rwa [show 8192 + (n - 8192) = n by omega] at this
  by_cases h9 : n < 10240
  · have := allP_get 1024 9216 (n - 9216) allP_9 (by omega); rwa [show 9216 + (n - 9216) = n by omega] at this
  by_cases h10 : n < 11264
  · have := allP_get 1024 10240 (n - 10240) allP_10 (by omega); rwa [show 10240 + (n - 10240) = n by omega] at this
  by_cases h11 : n < 12288
  · have := allP_get 1024 11264 (n - 11264) allP_11 (by omega); rwa [show 11264 + (n - 11264) = n by omega] at this
  by_cases h12 : n < 13312
  · have := allP_get 1024 12288 (n - 12288) allP_12 (by omega); rwa [show 12288 + (n - 12288) = n by omega] at this
  by_cases h13 : n < 14336
  · have := allP_get 1024 13312 (n - 13312) allP_13 (by omega); rwa [show 13312 + (n - 13312) = n by omega] at this
  by_cases h14 : n < 15360
  · have := allP_get 1024 14336 (n - 14336) allP_14 (by omega); rwa [show 14336 + (n - 14336) = n by omega] at this
  by_cases h15 : n < 16384
  · have := allP_get 1024 15360 (n - 15360) allP_15 (by omega); rwa [show 15360 + (n - 15360) = n by omega] at this
  by_cases h16 : n < 17408
  · have := allP_get 1024 16384 (n - 16384) allP_16 (by omega); rwa [show 16384 + (n - 16384) = n by omega] at this
  by_cases h17 : n < 18432
  · have := allP_get 1024 17408 (n - 17408) allP_17 (by omega); rwa [show 17408 + (n - 17408) = n by omega] at this
  by_cases h18 : n < 19456
  · have := allP_get 1024 18432 (n - 18432) allP_18 (by omega); rwa [show 18432 + (n - 18432) = n by omega] at this
  by_cases h19 : n < 20480
  · have := allP_get 1024 19456 (n - 19456) allP_19 (by omega); rwa [show 19456 + (n - 19456) = n by omega] at this
  by_cases h20 : n < 21504
  · have := allP_get 1024 20480 (n - 20480) allP_20 (by omega); rwa [show 20480 + (n - 20480) = n by omega] at this
  by_cases h21 : n < 22528
  · have := allP_get 1024 21504 (n - 21504) allP_21 (by omega); rwa [show 21504 + (n - 21504) = n by omega] at this
  by_cases h22 : n < 23552
  · have := allP_get 1024 22528 (n - 22528) allP_22 (by omega); rwa [show 22528 + (n - 22528) = n by omega] at this
  by_cases h23 : n < 24576
  · have := allP_get 1024 23552 (n - 23552) allP_23 (by omega); rwa [show 23552 + (n - 23552) = n by omega] at this
  by_cases h24 : n < 25600
  · have := allP_get 1024 24576 (n - 24576) allP_24 (by omega); rwa [show 24576 + (n - 24576) = n by omega] at this
  by_cases h25 : n < 26624
  · have := allP_get 1024 25600 (n - 25600) allP_25 (by omega); rwa [show 25600 + (n - 25600) = n by omega] at this
  by_cases h26 : n < 27648
  · have := allP_get 1024 26624 (n - 26624) allP_26 (by omega); rwa [show 26624 + (n - 26624) = n by omega] at this
  by_cases h27 : n < 28672
  · have := allP_get 1024 27648 (n - 27648) allP_27 (by omega); rwa [show 27648 + (n - 27648) = n by omega] at this
  by_cases h28 : n < 29696
  · have := allP_get 1024 28672 (n - 28672) allP_28 (by omega); rwa [show 28672 + (n - 28672) = n by omega] at this
  by_cases h29 : n < 30720
  · have := allP_get 1024 29696 (n - 29696) allP_29 (by omega); rwa [show 29696 + (n - 29696) = n by omega] at this
  by_cases h30 : n < 31744
  · have := allP_get 1024 30720 (n - 30720) allP_30 (by omega); rwa [show 30720 + (n - 30720) = n by omega] at this
  by_cases h31 : n < 32768
  · have := allP_get 1024 31744 (n - 31744) allP_31 (by omega); rwa [show 31744 + (n - 31744) = n by omega] at this
  by_cases h32 : n < 33792
  · have := allP_get 1024 32768 (n - 32768) allP_32 (by omega); rwa [show 32768 + (n - 32768) = n by omega] at this
  by_cases h33 : n < 34816
  · have := allP_get 1024 33792 (n - 33792) allP_33 (by omega); rwa [show 33792 + (n - 33792) = n by omega] at this
  by_cases h34 : n < 35840
  · have := allP_get 1024 34816 (n - 34816) allP_34 (by omega); rwa [show 34816 + (n - 34816) = n by omega] at this
  by_cases h35 : n < 36864
  · have := allP_get 1024 35840 (n - 35840) allP_35 (by omega); rwa [show 35840 + (n - 35840) = n by omega] at this
  by_cases h36 : n < 37888
  · have := allP_get 1024 36864 (n - 36864) allP_36 (by omega); rwa [show 36864 + (n - 36864) = n by omega] at this
  by_cases h37 : n < 38912
  · have := allP_get 1024 37888 (n - 37888) allP_37 (by omega); rwa [show 37888 + (n - 37888) = n by omega] at this
  by_cases h38 : n < 39936
  · have := allP_get 1024 38912 (n - 38912) allP_38 (by omega); rwa [show 38912 + (n - 38912) = n by omega] at this
  by_cases h39 : n < 40960
  · have := allP_get 1024 39936 (n - 39936) allP_39 (by omega); rwa [show 39936 + (n - 39936) = n by omega] at this
  by_cases h40 : n < 41984
  · have := allP_get 1024 40960 (n - 40960) allP_40 (by omega); rwa [show 40960 + (n - 40960) = n by omega] at this
  by_cases h41 : n < 43008
  · have := allP_get 1024 41984 (n - 41984) allP_41 (by omega); rwa [show 41984 + (n - 41984) = n by omega] at this
  by_cases h42 : n < 44032
  · have := allP_get 1024 43008 (n - 43008) allP_42 (by omega); rwa [show 43008 + (n - 43008) = n by omega] at this
  by_cases h43 : n < 45056
  · have := allP_get 1024 44032 (n - 44032) allP_43 (by omega); rwa [show 44032 + (n - 44032) = n by omega] at this
  by_cases h44 : n < 46080
  · have := allP_get 1024 45056 (n - 45056) allP_44 (by omega); rwa [show 45056 + (n - 45056) = n by omega] at this
  by_cases h45 : n < 47104
  · have := allP_get 1024 46080 (n - 46080) allP_45 (by omega); rwa [show 46080 + (n - 46080) = n by omega] at this
  by_cases h46 : n < 48128
  · have := allP_get 1024 47104 (n - 47104) allP_46 (by omega); rwa [show 47104 + (n - 47104) = n by omega] at this
  by_cases h47 : n < 49152
  · have := allP_get 1024 48128 (n - 48128) allP_47 (by omega); rwa [show 48128 + (n - 48128) = n by omega] at this
  by_cases h48 : n < 50176
  · have := allP_get 1024 49152 (n - 49152) allP_48 (by omega); rwa [show 49152 + (n - 49152) = n by omega] at this
  by_cases h49 : n < 51200
  · have := allP_get 1024 50176 (n - 50176) allP_49 (by omega); rwa [show 50176 + (n - 50176) = n by omega] at this
  by_cases h50 : n < 52224
  · have := allP_get 1024 51200 (n - 51200) allP_50 (by omega); rwa [show 51200 + (n - 51200) = n by omega] at this
  by_cases h51 : n < 53248
  · have := allP_get 1024 52224 (n - 52224) allP_51 (by omega); rwa [show 52224 + (n - 52224) = n by omega] at this
  by_cases h52 : n < 54272
  · have := allP_get 1024 53248 (n - 53248) allP_52 (by omega); rwa [show 53248 + (n - 53248) = n by omega] at this
  by_cases h53 : n < 55296
  · have := allP_get 1024 54272 (n - 54272) allP_53 (by omega); rwa [show 54272 + (n - 54272) = n by omega] at this
  by_cases h54 : n < 56320
  · have := allP_get 1024 55296 (n - 55296) allP_54 (by omega); rwa [show 55296 + (n - 55296) = n by omega] at this
  by_cases h55 : n < 57344
  · have := allP_get 1024 56320 (n - 56320) allP_55 (by omega); rwa [show 56320 + (n - 56320) = n by omega] at this
  by_cases h56 : n < 58368
  · have := allP_get 1024 57344 (n - 57344) allP_56 (by omega); rwa [show 57344 + (n - 57344) = n by omega] at this
  by_cases h57 : n < 59392
  · have := allP_get 1024 58368 (n - 58368) allP_57 (by omega); rwa [show 58368 + (n - 58368) = n by omega] at this
  by_cases h58 : n < 60416
  · have := allP_get 1024 59392 (n - 59392) allP_58 (by omega); rwa [show 59392 + (n - 59392) = n by omega] at this
  by_cases h59 : n < 61440
  · have := allP_get 1024 60416 (n - 60416) allP_59 (by omega); rwa [show 60416 + (n - 60416) = n by omega] at this
  by_cases h60 : n < 62464
  · have := allP_get 1024 61440 (n - 61440) allP_60 (by omega); rwa [show 61440 + (n - 61440) = n by omega] at this
  by_cases h61 : n < 63488
  · have := allP_get 1024 62464 (n - 62464) allP_61 (by omega); rwa [show 62464 + (n - 62464) = n by omega] at this
  by_cases h62 : n < 64512
  · have := allP_get 1024 63488 (n - 63488) allP_62 (by omega); rwa [show 63488 + (n - 63488) = n by omega] at this
  by_cases h63 : n < 65536
  · have := allP_get 1024 64512 (n - 64512) allP_63 (by omega); rwa [show 64512 + (n - 64512) = n by omega] at this
  omega
end Go.Proofs.YtiibhggjlandmaaDoor.Pure
/- decode against encode in plain numbers: the word of a record that can be is read as that record. No condition. -/
namespace Go.Proofs.YtiibhggjlandmaaDoor.Pure
open Go.RowKit Go.Proofs.YtiibhggjlandmaaDoorW.PrintWords Go.Proofs.YtiibhggjlandmaaDoorW.PrintMore Go.Proofs.YtiibhggjlandmaaDoor.PB Go.Proofs.YtiibhggjlandmaaDoor.PD Go.Proofs.YtiibhggjlandmaaDoor.Mth
open Go.Proofs.YtiibhggjlandmaaDoor.PF (encode_formOf.f encode_Check.f findT formT)
open Go.Proofs.YtiibhggjlandmaaDoor.Enc (W6 fi fb Val immOk encT formN)
set_option linter.unusedVariables false
set_option linter.unusedSimpArgs false
/-- The decoder's shape of an encoder's shape. -/
def shp (n : Nat) : Int := ([0, 1, 2, 3, 4, 7, 5, 6, 8, 9, 10, 10] : List Int).getD n 0
/-- What tells a form apart where the fields are anything. -/
def relF (n B : Nat) (f : Frm) : Bool :=
  (f.code.toNat % 128 != B % 128) || (f.mask == 127) ||
  ((n != 0) && (n != 1) && ((f.code.toNat / 4096 % 8 != B / 4096 % 8) || (f.mask == 28799) ||
    ((n == 6) && (f.mask == 4227887231)) || (((n == 5) || (n == 7)) && ((f.mask == 4227887231) || (f.mask == 4261441663) || (f.mask == 4160778367))) ||
    (((n == 10) || (n == 11)) && ((f.mask == 4160778367) || ((f.mask == 4193284223) && ((n == 11) || (f.code.toNat / 134217728 % 32 != B / 134217728 % 32)))))))
def tabB (op : Int) : Bool :=
  match encode_formOf.f op with
  | some (n, b, true) => (match findF b formsL with
    | some f => (f.op == op) && (f.shape == shp n.toNat) && (f.code == b)
    | none => false) && (n == 9 || formsL.all (relF n.toNat b.toNat))
  | _ => true
set_option maxRecDepth 100000 in
theorem tab_in : ∀ i : Fin 97, tabB (i.val : Int) = true := by decide +kernel
theorem tab_all (op : Int) : tabB op = true := by
  by_cases h : 0 ≤ op ∧ op ≤ 96
  · have := tab_in ⟨op.toNat, by omega⟩
    rwa [show ((op.toNat : Nat) : Int) = op by omega] at this
  · unfold tabB; rw [Go.Proofs.YtiibhggjlandmaaDoor.Enc.formOf_out op h]
theorem k0 (r : Nat) : key 127 r = r % 128 := by simp [key]
theorem k3 (r : Nat) : key 28799 r = r % 128 + r / 4096 % 8 * 4096 := by simp [key]
theorem k6 (r : Nat) : key 4227887231 r = r % 128 + r / 4096 % 8 * 4096 + r / 67108864 % 64 * 67108864 := by simp [key]
theorem k7 (r : Nat) : key 4261441663 r = r % 128 + r / 4096 % 8 * 4096 + r / 33554432 % 128 * 33554432 := by simp [key]
theorem k5 (r : Nat) : key 4160778367 r = r % 128 + r / 4096 % 8 * 4096 + r / 134217728 % 32 * 134217728 := by simp [key]
theorem kL (r : Nat) : key 4193284223 r = r % 128 + r / 4096 % 8 * 4096 + (r / 134217728 % 32 * 134217728 + r / 1048576 % 32 * 1048576) := by simp [key]
theorem kA (r : Nat) : key 4294967295 r = r := by simp [key]
def isM (M : Nat) : Prop := M = 127 ∨ M = 28799 ∨ M = 4227887231 ∨ M = 4261441663 ∨ M = 4160778367 ∨ M = 4294967295 ∨ M = 4193284223
theorem key_c {M : Nat} (h : isM M) (r : Nat) : key M r % 128 = r % 128 := by
  rcases h with rfl | rfl | rfl | rfl | rfl | rfl | rfl
  · rw [k0]; omega
  · rw [k3]; omega
  · rw [k6]; omega
  · rw [k7]; omega
  · rw [k5]; omega
  · rw [kA]
  · rw [kL]; omega
theorem key_f {M : Nat} (h : isM M) (h0 : M ≠ 127) (r : Nat) : key M r / 4096 % 8 = r / 4096 % 8 := by
  rcases h with rfl | rfl | rfl | rfl | rfl | rfl | rfl
  · exact absurd rfl h0
  · rw [k3]; omega
  · rw [k6]; omega
  · rw [k7]; omega
  · rw [k5]; omega
  · rw [kA]
  · rw [kL]; omega
theorem key_5 (r : Nat) : key 4193284223 r / 134217728 % 32 = r / 134217728 % 32 := by
  rw [kL]
  have a1 : r % 128 < 128 := Nat.mod_lt _ (by decide)
  have a2 : r / 4096 % 8 < 8 := Nat.mod_lt _ (by decide)
  have a3 : r / 134217728 % 32 < 32 := Nat.mod_lt _ (by decide)
  have a4 : r / 1048576 % 32 < 32 := Nat.mod_lt _ (by decide)
  generalize r % 128 = a at *
  generalize r / 4096 % 8 = f at *
  generalize r / 134217728 % 32 = t at *
  generalize r / 1048576 % 32 = y at *
  omega
theorem w6_parts (t y x f r c : Nat) (ht : t < 128) (hy : y < 32) (hx : x < 32) (hf : f < 8) (hr : r < 32) (hc : c < 128) :
    W6 t y x f r c % 128 = c ∧ W6 t y x f r c / 128 % 32 = r ∧ W6 t y x f r c / 4096 % 8 = f ∧ W6 t y x f r c / 32768 % 32 = x ∧ W6 t y x f r c / 1048576 % 32 = y ∧ W6 t y x f r c / 33554432 = t ∧ W6 t y x f r c < 4294967296 := by
  unfold W6; refine ⟨by omega, by omega, by omega, by omega, by omega, by omega, by omega⟩
/-- Two words that agree in what a form looks at. -/
theorem same_nat (n B r M C : Nat) (hM : isM M) (hc : r % 128 = B % 128) (hf : n ≠ 0 → n ≠ 1 → r / 4096 % 8 = B / 4096 % 8)
    (h6 : n = 6 → r / 67108864 % 64 = B / 67108864 % 64) (h7 : n = 5 ∨ n = 7 → r / 33554432 % 128 = B / 33554432 % 128) (h5 : n = 10 ∨ n = 11 → r / 134217728 % 32 = B / 134217728 % 32) (hL : n = 11 → r / 1048576 % 32 = B / 1048576 % 32)
    (h : (C % 128 ≠ B % 128 ∨ M = 127) ∨ ((n ≠ 0 ∧ n ≠ 1) ∧ ((((C / 4096 % 8 ≠ B / 4096 % 8 ∨ M = 28799) ∨ (n = 6 ∧ M = 4227887231)) ∨ ((n = 5 ∨ n = 7) ∧ ((M = 4227887231 ∨ M = 4261441663) ∨ M = 4160778367))) ∨
      ((n = 10 ∨ n = 11) ∧ (M = 4160778367 ∨ (M = 4193284223 ∧ (n = 11 ∨ C / 134217728 % 32 ≠ B / 134217728 % 32))))))) :
    key M r = C ↔ key M B = C := by
  rcases h with (h | h) | ⟨⟨n0, n1⟩, h⟩
  · have c1 := key_c hM r
    have c2 := key_c hM B
    constructor <;> intro e
    · rw [e] at c1; exact absurd (c1.trans hc) h
    · rw [e] at c2; exact absurd c2 h
  · rw [h, k0, k0, hc]
  have hf' := hf n0 n1
  by_cases hm : M = 127
  · rw [hm, k0, k0, hc]
  rcases h with (((h | h) | ⟨h, h2⟩) | ⟨h, h2⟩) | ⟨h, h2⟩
  · have f1 := key_f hM hm r
    have f2 := key_f hM hm B
    constructor <;> intro e
    · rw [e] at f1; exact absurd (f1.trans hf') h
    · rw [e] at f2; exact absurd f2 h
  · rw [h, k3, k3, hc, hf']
  · rw [h2, k6, k6, hc, hf', h6 h]
  · have h7' := h7 h
    rcases h2 with (h2 | h2) | h2
    · have e : r / 67108864 % 64 = B / 67108864 % 64 := by clear hc hf hf' h6 h7 h5 hL; omega
      rw [h2, k6, k6, hc, hf', e]
    · rw [h2, k7, k7, hc, hf', h7']
    · have e : r / 134217728 % 32 = B / 134217728 % 32 := by clear hc hf hf' h6 h7 h5 hL; omega
      rw [h2, k5, k5, hc, hf', e]
  · have h5' := h5 h
    rcases h2 with h2 | ⟨h2, h3⟩
    · rw [h2, k5, k5, hc, hf', h5']
    · rcases h3 with h3 | h3
      · rw [h2, kL, kL, hc, hf', h5', hL h3]
      · subst h2
        have c1 := key_5 r
        have c2 := key_5 B
        constructor <;> intro e
        · rw [e] at c1; exact absurd (c1.trans h5') h3
        · rw [e] at c2; exact absurd c2 h3
theorem toN {x : Int} {k : Nat} (h0 : 0 ≤ x) (h : x = (k : Int)) : x.toNat = k := by omega
theorem same_key (n B r : Nat) (hc : r % 128 = B % 128) (hf : n ≠ 0 → n ≠ 1 → r / 4096 % 8 = B / 4096 % 8)
    (h6 : n = 6 → r / 67108864 % 64 = B / 67108864 % 64) (h7 : n = 5 ∨ n = 7 → r / 33554432 % 128 = B / 33554432 % 128) (h5 : n = 10 ∨ n = 11 → r / 134217728 % 32 = B / 134217728 % 32) (hL : n = 11 → r / 1048576 % 32 = B / 1048576 % 32)
    (f : Frm) (h : relF n B f = true) (hm : maskOk f = true) : key f.mask.toNat r = f.code.toNat ↔ key f.mask.toNat B = f.code.toNat := by
  simp only [maskOk, Bool.and_eq_true, Bool.or_eq_true, beq_iff_eq, decide_eq_true_eq] at hm
  obtain ⟨⟨hm, h0⟩, h1⟩ := hm
  have m0 : 0 ≤ f.mask := by clear hf h6 h7 h5 hL h; omega
  have hM : isM f.mask.toNat := by
    unfold isM
    rcases hm with (((((e | e) | e) | e) | e) | e) | e <;> rw [e] <;> decide
  refine same_nat n B r f.mask.toNat f.code.toNat hM hc hf h6 h7 h5 hL ?_
  simp only [relF, Bool.and_eq_true, Bool.or_eq_true, beq_iff_eq, bne_iff_ne, ne_eq] at h
  have q : ∀ k : Nat, f.mask = (k : Int) → f.mask.toNat = k := fun k e => toN m0 e
  rcases h with (h | h) | ⟨n01, h⟩
  · exact .inl (.inl h)
  · exact .inl (.inr (q 127 h))
  · refine .inr ⟨n01, ?_⟩
    rcases h with (((h | h) | ⟨h, h2⟩) | ⟨h, h2⟩) | ⟨h, h2⟩
    · exact .inl (.inl (.inl (.inl h)))
    · exact .inl (.inl (.inl (.inr (q 28799 h))))
    · exact .inl (.inl (.inr ⟨h, q 4227887231 h2⟩))
    · refine .inl (.inr ⟨h, ?_⟩)
      rcases h2 with (h2 | h2) | h2
      · exact .inl (.inl (q 4227887231 h2))
      · exact .inl (.inr (q 4261441663 h2))
      · exact .inr (q 4160778367 h2)
    · refine .inr ⟨h, ?_⟩
      rcases h2 with h2 | ⟨h2, h3⟩
      · exact .inl (q 4160778367 h2)
      · exact .inr ⟨q 4193284223 h2, h3⟩
/-- The parts of the encoder's word. -/
theorem enc_parts (n B rd rs1 rs2 : Nat) (v : Int) (aq rl : Bool) (hv : Val n B rd rs1 rs2 v aq rl) (h9 : n ≠ 9) :
    ∃ t y x f r : Nat, encT n B rd rs1 rs2 v aq rl = W6 t y x f r (B % 128) ∧ t < 128 ∧ y < 32 ∧ x < 32 ∧ f < 8 ∧ r < 32 ∧
      (n ≠ 0 → n ≠ 1 → f = B / 4096 % 8) ∧ (n = 6 → t / 2 = B / 67108864 ∧ t = B / 33554432 + fi v 32 2) ∧ (n = 5 ∨ n = 7 → t = B / 33554432) ∧ (n = 10 ∨ n = 11 → t / 4 = B / 134217728 ∧ t = B / 33554432 + (if aq = true then 2 else 0) + (if rl = true then 1 else 0)) ∧
      (n = 0 → t = fi v 33554432 128 ∧ y = fi v 1048576 32 ∧ x = fi v 32768 32 ∧ f = fi v 4096 8 ∧ r = rd) ∧ (n = 1 → t = fi v 1048576 2 * 64 + fi v 32 64 ∧ y = fi v 2 16 * 2 + fi v 2048 2 ∧ x = fi v 32768 32 ∧ f = fi v 4096 8 ∧ r = rd) ∧
      (n ≠ 0 → n ≠ 1 → x = rs1) ∧ (n = 3 → t = fi v 4096 2 * 64 + fi v 32 64 ∧ y = rs2 ∧ r = fi v 2 16 * 2 + fi v 2048 2) ∧ (n = 4 → t = fi v 32 128 ∧ y = rs2 ∧ r = fi v 1 32) ∧
      (n = 2 ∨ n = 8 → t = fi v 32 128 ∧ y = fi v 1 32 ∧ r = rd) ∧ (n = 6 ∨ n = 7 → y = fi v 1 32 ∧ r = rd) ∧ (n = 5 ∨ n = 10 ∨ n = 11 → y = rs2 ∧ r = rd) := by
  obtain ⟨n12, b32, hf, d, s1, s2, hd, h1, h2, hi, o⟩ := hv
  have e := n12
  have bt : B / 33554432 < 128 := by omega
  have bf : B / 4096 % 8 < 8 := by omega
  have g1 := fb v 32 128 128 rfl (by decide); have g2 := fb v 1 32 32 rfl (by decide); have g3 := fb v 33554432 128 128 rfl (by decide); have g4 := fb v 1048576 32 32 rfl (by decide); have g5 := fb v 32768 32 32 rfl (by decide); have g6 := fb v 4096 8 8 rfl (by decide)
  have g7 := fb v 1048576 2 2 rfl (by decide); have g8 := fb v 32 64 64 rfl (by decide); have g9 := fb v 2 16 16 rfl (by decide); have g10 := fb v 2048 2 2 rfl (by decide); have g11 := fb v 4096 2 2 rfl (by decide); have g12 := fb v 32 2 2 rfl (by decide)
  clear hi hd h1 h2
  have q : n = 0 ∨ n = 1 ∨ n = 2 ∨ n = 3 ∨ n = 4 ∨ n = 5 ∨ n = 6 ∨ n = 7 ∨ n = 8 ∨ n = 10 ∨ n = 11 := by omega
  rcases q with rfl | rfl | rfl | rfl | rfl | rfl | rfl | rfl | rfl | rfl | rfl <;> simp only [formN, Bool.and_eq_true, Bool.or_eq_true, beq_iff_eq, bne_iff_ne] at hf
  · exact ⟨_, _, _, _, _, rfl, g3, g4, g5, g6, d, by simp, by simp, by simp, by simp, fun _ => ⟨rfl, rfl, rfl, rfl, rfl⟩, by simp, by simp, by simp, by simp, by simp, by simp, by simp⟩
  · exact ⟨_, _, _, _, _, rfl, by omega, by omega, g5, g6, d, by simp, by simp, by simp, by simp, by simp, fun _ => ⟨rfl, rfl, rfl, rfl, rfl⟩, by simp, by simp, by simp, by simp, by simp, by simp⟩
  · exact ⟨_, _, _, _, _, rfl, g1, g2, s1, bf, d, by simp, by simp, by simp, by simp, by simp, by simp, by simp, by simp, by simp, fun _ => ⟨rfl, rfl, rfl⟩, by simp, by simp⟩
  · exact ⟨_, _, _, _, _, rfl, by omega, s2, s1, bf, by omega, by simp, by simp, by simp, by simp, by simp, by simp, by simp, fun _ => ⟨rfl, rfl, rfl⟩, by simp, by simp, by simp, by simp⟩
  · exact ⟨_, _, _, _, _, rfl, g1, s2, s1, bf, g2, by simp, by simp, by simp, by simp, by simp, by simp, by simp, by simp, fun _ => ⟨rfl, rfl, rfl⟩, by simp, by simp, by simp⟩
  · obtain ⟨rfl, rfl⟩ : aq = false ∧ rl = false := by rcases o with o | o | o; exact absurd o (by decide); exact absurd o (by decide); exact o
    exact ⟨B / 33554432, rs2, rs1, B / 4096 % 8, rd, rfl, bt, s2, s1, bf, d, by simp, by simp, by simp, by simp, by simp, by simp, by simp, by simp, by simp, by simp, by simp, by simp⟩
  · clear o
    exact ⟨B / 33554432 + fi v 32 2, fi v 1 32, rs1, B / 4096 % 8, rd, rfl, by omega, g2, s1, bf, d, by simp, fun _ => ⟨by omega, rfl⟩, by simp, by simp, by simp, by simp, by simp, by simp, by simp, by simp, by simp, by simp⟩
  · exact ⟨B / 33554432, fi v 1 32, rs1, B / 4096 % 8, rd, rfl, bt, g2, s1, bf, d, by simp, by simp, by simp, by simp, by simp, by simp, by simp, by simp, by simp, by simp, by simp, by simp⟩
  · exact ⟨_, _, _, _, _, rfl, g1, g2, s1, bf, d, by simp, by simp, by simp, by simp, by simp, by simp, by simp, by simp, by simp, fun _ => ⟨rfl, rfl, rfl⟩, by simp, by simp⟩
  · clear o
    have a1 : (if aq = true then 2 else 0 : Nat) ≤ 2 := by cases aq <;> decide
    have a2 : (if rl = true then 1 else 0 : Nat) ≤ 1 := by cases rl <;> decide
    refine ⟨B / 33554432 + (if aq = true then 2 else 0) + (if rl = true then 1 else 0), rs2, rs1, B / 4096 % 8, rd, rfl, ?_, s2, s1, bf, d, by simp, by simp, by simp, fun _ => ⟨?_, rfl⟩, by simp, by simp, by simp, by simp, by simp, by simp, by simp, by simp⟩
    · omega
    · omega
  · clear o
    have a1 : (if aq = true then 2 else 0 : Nat) ≤ 2 := by cases aq <;> decide
    have a2 : (if rl = true then 1 else 0 : Nat) ≤ 1 := by cases rl <;> decide
    refine ⟨B / 33554432 + (if aq = true then 2 else 0) + (if rl = true then 1 else 0), rs2, rs1, B / 4096 % 8, rd, rfl, ?_, s2, s1, bf, d, by simp, by simp, by simp, fun _ => ⟨?_, rfl⟩, by simp, by simp, by simp, by simp, by simp, by simp, by simp, by simp⟩
    · omega
    · omega
/-- The form that a record's word has. -/
theorem find_enc (op : Int) (n B rd rs1 rs2 : Nat) (v : Int) (aq rl : Bool) (hz : encode_formOf.f op = some ((n : Int), (B : Int), true)) (hv : Val n B rd rs1 rs2 v aq rl) (hL : n = 11 → rs2 = 0) :
    encT n B rd rs1 rs2 v aq rl < 4294967296 ∧ encT n B rd rs1 rs2 v aq rl % 4 = 3 ∧ ∃ f, findF ((encT n B rd rs1 rs2 v aq rl : Nat) : Int) formsL = some f ∧ f.op = op ∧ f.shape = shp n ∧ f.code = B := by
  have ht := tab_all op
  unfold tabB at ht
  rw [hz] at ht
  change ((match findF (B : Int) formsL with
    | some f => (f.op == op) && (f.shape == shp (n : Int).toNat) && (f.code == (B : Int))
    | none => false) && ((n : Int) == 9 || formsL.all (relF (n : Int).toNat (B : Int).toNat))) = true at ht
  have b32 := hv.b32
  have hf3 : B % 4 = 3 := by
    have hf := hv.form
    simp only [formN, Bool.and_eq_true, beq_iff_eq] at hf
    exact hf.2
  cases hq : findF (B : Int) formsL with
  | none => rw [hq] at ht; simp at ht
  | some f =>
    rw [hq] at ht
    simp only [Bool.and_eq_true, Bool.or_eq_true, beq_iff_eq, Int.toNat_natCast] at ht
    obtain ⟨⟨⟨t1, t2⟩, t3⟩, t4⟩ := ht
    by_cases h9 : n = 9
    · subst h9
      have e : encT 9 B rd rs1 rs2 v aq rl = B := rfl
      rw [e]
      exact ⟨b32, hf3, f, hq, t1, t2, t3⟩
    · rcases t4 with t4 | t4
      · exact absurd (by omega) h9
      obtain ⟨t, y, x, g, r, he, ht, hy, hx, hg, hr, p1, p6, p7, p5, _, _, _, _, _, _, _, pY⟩ := enc_parts n B rd rs1 rs2 v aq rl hv h9
      have hc : B % 128 < 128 := Nat.mod_lt _ (by decide)
      obtain ⟨w0, w1, w2, w3, w4, w5, w6⟩ := w6_parts t y x g r (B % 128) ht hy hx hg hr hc
      rw [he]
      generalize W6 t y x g r (B % 128) = Z at *
      refine ⟨w6, by omega, f, ?_, t1, t2, t3⟩
      rw [← hq]
      refine findF_same w6 b32 formsL masks_ok fun f' hf' => ?_
      refine same_key n B Z w0 (fun a b => by rw [w2, p1 a b]) (fun a => ?_) (fun a => ?_) (fun a => ?_) (fun a => ?_) f' (List.all_eq_true.mp t4 f' hf') (masks_ok f' hf')
      · have := (p6 a).1; clear p1 p6 p7 p5 pY; omega
      · have := p7 a; clear p1 p6 p7 p5 pY; omega
      · have := (p5 a).1; clear p1 p6 p7 p5 pY; omega
      · have := (pY (.inr (.inr a))).1
        have hz0 := hL a
        have hBy : B / 1048576 % 32 = 0 := by
          have hf := hv.form
          subst a
          simp [formN] at hf
          clear p1 p6 p7 p5 pY; omega
        rw [w4, this, hz0, hBy]
end Go.Proofs.YtiibhggjlandmaaDoor.Pure
