/- DecodeExpands: for every parcel the program's expansion is the document's. No condition. -/
import Derived.Test.YtiibhggjlandmaaPureExpQ0
import Derived.Test.YtiibhggjlandmaaPureExpQ1
import Derived.Test.YtiibhggjlandmaaPureExpQ2
import Derived.Test.YtiibhggjlandmaaPureExpQ3
import Derived.Test.YtiibhggjlandmaaPureExpQ4
import Derived.Test.YtiibhggjlandmaaPureExpQ5
import Derived.Test.YtiibhggjlandmaaPureExpQ6
import Derived.Test.YtiibhggjlandmaaPureExpQ7
namespace Go.Proofs.Ytiibhggjlandmaa.Pure
open Go.RowKit Go.Proofs.YtiibhggjlandmaaW.PrintWords Go.Proofs.YtiibhggjlandmaaW.PrintMore Go.Proofs.Ytiibhggjlandmaa.PD
theorem okE_all (n : Nat) (h : n < 65536) : okE n = true := by
  by_cases h0 : n < 2048
  · have := allE_get 2048 0 (n - 0) allE_0 (by omega); rwa [show 0 + (n - 0) = n by omega] at this
  by_cases h1 : n < 4096
  · have := allE_get 2048 2048 (n - 2048) allE_1 (by omega); rwa [show 2048 + (n - 2048) = n by omega] at this
  by_cases h2 : n < 6144
  · have := allE_get 2048 4096 (n - 4096) allE_2 (by omega); rwa [show 4096 + (n - 4096) = n by omega] at this
  by_cases h3 : n < 8192
  · have := allE_get 2048 6144 (n - 6144) allE_3 (by omega); rwa [show 6144 + (n - 6144) = n by omega] at this
  by_cases h4 : n < 10240
  · have := allE_get 2048 8192 (n - 8192) allE_4 (by omega); rwa [show 8192 + (n - 8192) = n by omega] at this
  by_cases h5 : n < 12288
  · have := allE_get 2048 10240 (n - 10240) allE_5 (by omega); rwa [show 10240 + (n - 10240) = n by omega] at this
  by_cases h6 : n < 14336
  · have := allE_get 2048 12288 (n - 12288) allE_6 (by omega); rwa [show 12288 + (n - 12288) = n by omega] at this
  by_cases h7 : n < 16384
  · have := allE_get 2048 14336 (n - 14336) allE_7 (by omega); rwa [show 14336 + (n - 14336) = n by omega] at this
  by_cases h8 : n < 18432
  · have := allE_get 2048 16384 (n - 16384) allE_8 (by omega); rwa [show 16384 + (n - 16384) = n by omega] at this
  by_cases h9 : n < 20480
  · have := allE_get 2048 18432 (n - 18432) allE_9 (by omega); rwa [show 18432 + (n - 18432) = n by omega] at this
  by_cases h10 : n < 22528
  · have := allE_get 2048 20480 (n - 20480) allE_10 (by omega); rwa [show 20480 + (n - 20480) = n by omega] at this
  by_cases h11 : n < 24576
  · have := allE_get 2048 22528 (n - 22528) allE_11 (by omega); rwa [show 22528 + (n - 22528) = n by omega] at this
  by_cases h12 : n < 26624
  · have := allE_get 2048 24576 (n - 24576) allE_12 (by omega); rwa [show 24576 + (n - 24576) = n by omega] at this
  by_cases h13 : n < 28672
  · have := allE_get 2048 26624 (n - 26624) allE_13 (by omega); rwa [show 26624 + (n - 26624) = n by omega] at this
  by_cases h14 : n < 30720
  · have := allE_get 2048 28672 (n - 28672) allE_14 (by omega); rwa [show 28672 + (n - 28672) = n by omega] at this
  by_cases h15 : n < 32768
  · have := allE_get 2048 30720 (n - 30720) allE_15 (by omega); rwa [show 30720 + (n - 30720) = n by omega] at this
  by_cases h16 : n < 34816
  · have := allE_get 2048 32768 (n - 32768) allE_16 (by omega); rwa [show 32768 + (n - 32768) = n by omega] at this
  by_cases h17 : n < 36864
  · have := allE_get 2048 34816 (n - 34816) allE_17 (by omega); rwa [show 34816 + (n - 34816) = n by omega] at this
  by_cases h18 : n < 38912
  · have := allE_get 2048 36864 (n - 36864) allE_18 (by omega); rwa [show 36864 + (n - 36864) = n by omega] at this
  by_cases h19 : n < 40960
  · have := allE_get 2048 38912 (n - 38912) allE_19 (by omega); rwa [show 38912 + (n - 38912) = n by omega] at this
  by_cases h20 : n < 43008
  · have := allE_get 2048 40960 (n - 40960) allE_20 (by omega); rwa [show 40960 + (n - 40960) = n by omega] at this
  by_cases h21 : n < 45056
  · have := allE_get 2048 43008 (n - 43008) allE_21 (by omega); rwa [show 43008 + (n - 43008) = n by omega] at this
  by_cases h22 : n < 47104
  · have := allE_get 2048 45056 (n - 45056) allE_22 (by omega); rwa [show 45056 + (n - 45056) = n by omega] at this
  by_cases h23 : n < 49152
  · have := allE_get 2048 47104 (n - 47104) allE_23 (by omega); rwa [show 47104 + (n - 47104) = n by omega] at this
  by_cases h24 : n < 51200
  · have := allE_get 2048 49152 (n - 49152) allE_24 (by omega); rwa [show 49152 + (n - 49152) = n by omega] at this
  by_cases h25 : n < 53248
  · have := allE_get 2048 51200 (n - 51200) allE_25 (by omega); rwa [show 51200 + (n - 51200) = n by omega] at this
  by_cases h26 : n < 55296
  · have := allE_get 2048 53248 (n - 53248) allE_26 (by omega); rwa [show 53248 + (n - 53248) = n by omega] at this
  by_cases h27 : n < 57344
  · have := allE_get 2048 55296 (n - 55296) allE_27 (by omega); rwa [show 55296 + (n - 55296) = n by omega] at this
  by_cases h28 : n < 59392
  · have := allE_get 2048 57344 (n - 57344) allE_28 (by omega); rwa [show 57344 + (n - 57344) = n by omega] at this
  by_cases h29 : n < 61440
  · have := allE_get 2048 59392 (n - 59392) allE_29 (by omega); rwa [show 59392 + (n - 59392) = n by omega] at this
  by_cases h30 : n < 63488
  · have := allE_get 2048 61440 (n - 61440) allE_30 (by omega); rwa [show 61440 + (n - 61440) = n by omega] at this
  by_cases h31 : n < 65536
  · have := allE_get 2048 63488 (n - 63488) allE_31 (by omega); rwa [show 63488 + (n - 63488) = n by omega] at this
  omega
set_option linter.unusedSimpArgs false in
theorem DecodeExpands : anvillaw05_DecodeExpands.Pure := by
  intro a0 w0
  have hb : 0 ≤ a0 ∧ a0 < 65536 := by
    simp only [Lit.wf, IntKind.min, IntKind.max, IntKind.signed, IntKind.bits, Bool.and_eq_true, decide_eq_true_eq] at w0
    simp at w0; omega
  obtain ⟨n, rfl⟩ : ∃ n : Nat, a0 = n := ⟨a0.toNat, by omega⟩
  obtain ⟨r, h1, h2⟩ := okE_get (okE_all n (by omega))
  refine ⟨2020, ?_⟩
  unfold anvillaw05_DecodeExpands.f
  rw [F_Expand_f_eq (by decide) (n : Int), h1, h2]
  simp
end Go.Proofs.Ytiibhggjlandmaa.Pure
