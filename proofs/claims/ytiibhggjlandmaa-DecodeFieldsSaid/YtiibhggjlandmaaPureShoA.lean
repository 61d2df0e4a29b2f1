/- Every parcel is checked. -/
import Derived.Test.YtiibhggjlandmaaPureShoQ0
import Derived.Test.YtiibhggjlandmaaPureShoQ1
import Derived.Test.YtiibhggjlandmaaPureShoQ2
import Derived.Test.YtiibhggjlandmaaPureShoQ3
import Derived.Test.YtiibhggjlandmaaPureShoQ4
import Derived.Test.YtiibhggjlandmaaPureShoQ5
import Derived.Test.YtiibhggjlandmaaPureShoQ6
import Derived.Test.YtiibhggjlandmaaPureShoQ7
namespace Go.Proofs.Ytiibhggjlandmaa.Pure
open Go.RowKit Go.Proofs.YtiibhggjlandmaaW.PrintWords Go.Proofs.YtiibhggjlandmaaW.PrintMore Go.Proofs.Ytiibhggjlandmaa.PB Go.Proofs.Ytiibhggjlandmaa.PF Go.Proofs.Ytiibhggjlandmaa.Mth
theorem okS_all (n : Nat) (h : n < 65536) : okS n = true := by
  by_cases h0 : n < 1024
  · have := allS_get 1024 0 (n - 0) allS_0 (by omega); rwa [show 0 + (n - 0) = n by omega] at this
  by_cases h1 : n < 2048
  · have := allS_get 1024 1024 (n - 1024) allS_1 (by omega); rwa [show 1024 + (n - 1024) = n by omega] at this
  by_cases h2 : n < 3072
  · have := allS_get 1024 2048 (n - 2048) allS_2 (by omega); rwa [show 2048 + (n - 2048) = n by omega] at this
  by_cases h3 : n < 4096
  · have := allS_get 1024 3072 (n - 3072) allS_3 (by omega); rwa [show 3072 + (n - 3072) = n by omega] at this
  by_cases h4 : n < 5120
  · have := allS_get 1024 4096 (n - 4096) allS_4 (by omega); rwa [show 4096 + (n - 4096) = n by omega] at this
  by_cases h5 : n < 6144
  · have := allS_get 1024 5120 (n - 5120) allS_5 (by omega); rwa [show 5120 + (n - 5120) = n by omega] at this
  by_cases h6 : n < 7168
  · have := allS_get 1024 6144 (n - 6144) allS_6 (by omega); rwa [show 6144 + (n - 6144) = n by omega] at this
  by_cases h7 : n < 8192
  · have := allS_get 1024 7168 (n - 7168) allS_7 (by omega); rwa [show 7168 + (n - 7168) = n by omega] at this
  by_cases h8 : n < 9216
  · have := allS_get 1024 8192 (n - 8192) allS_8 (by omega); rwa [show 8192 + (n - 8192) = n by omega] at this
  by_cases h9 : n < 10240
  · have := allS_get 1024 9216 (n - 9216) allS_9 (by omega); rwa [show 9216 + (n - 9216) = n by omega] at this
  by_cases h10 : n < 11264
  · have := allS_get 1024 10240 (n - 10240) allS_10 (by omega); rwa [show 10240 + (n - 10240) = n by omega] at this
  by_cases h11 : n < 12288
  · have := allS_get 1024 11264 (n - 11264) allS_11 (by omega); rwa [show 11264 + (n - 11264) = n by omega] at this
  by_cases h12 : n < 13312
  · have := allS_get 1024 12288 (n - 12288) allS_12 (by omega); rwa [show 12288 + (n - 12288) = n by omega] at this
  by_cases h13 : n < 14336
  · have := allS_get 1024 13312 (n - 13312) allS_13 (by omega); rwa [show 13312 + (n - 13312) = n by omega] at this
  by_cases h14 : n < 15360
  · have := allS_get 1024 14336 (n - 14336) allS_14 (by omega); rwa [show 14336 + (n - 14336) = n by omega] at this
  by_cases h15 : n < 16384
  · have := allS_get 1024 15360 (n - 15360) allS_15 (by omega); rwa [show 15360 + (n - 15360) = n by omega] at this
  by_cases h16 : n < 17408
  · have := allS_get 1024 16384 (n - 16384) allS_16 (by omega); rwa [show 16384 + (n - 16384) = n by omega] at this
  by_cases h17 : n < 18432
  · have := allS_get 1024 17408 (n - 17408) allS_17 (by omega); rwa [show 17408 + (n - 17408) = n by omega] at this
  by_cases h18 : n < 19456
  · have := allS_get 1024 18432 (n - 18432) allS_18 (by omega); rwa [show 18432 + (n - 18432) = n by omega] at this
  by_cases h19 : n < 20480
  · have := allS_get 1024 19456 (n - 19456) allS_19 (by omega); rwa [show 19456 + (n - 19456) = n by omega] at this
  by_cases h20 : n < 21504
  · have := allS_get 1024 20480 (n - 20480) allS_20 (by omega); rwa [show 20480 + (n - 20480) = n by omega] at this
  by_cases h21 : n < 22528
  · have := allS_get 1024 21504 (n - 21504) allS_21 (by omega); rwa [show 21504 + (n - 21504) = n by omega] at this
  by_cases h22 : n < 23552
  · have := allS_get 1024 22528 (n - 22528) allS_22 (by omega); rwa [show 22528 + (n - 22528) = n by omega] at this
  by_cases h23 : n < 24576
  · have := allS_get 1024 23552 (n - 23552) allS_23 (by omega); rwa [show 23552 + (n - 23552) = n by omega] at this
  by_cases h24 : n < 25600
  · have := allS_get 1024 24576 (n - 24576) allS_24 (by omega); rwa [show 24576 + (n - 24576) = n by omega] at this
  by_cases h25 : n < 26624
  · have := allS_get 1024 25600 (n - 25600) allS_25 (by omega); rwa [show 25600 + (n - 25600) = n by omega] at this
  by_cases h26 : n < 27648
  · have := allS_get 1024 26624 (n - 26624) allS_26 (by omega); rwa [show 26624 + (n - 26624) = n by omega] at this
  by_cases h27 : n < 28672
  · have := allS_get 1024 27648 (n - 27648) allS_27 (by omega); rwa [show 27648 + (n - 27648) = n by omega] at this
  by_cases h28 : n < 29696
  · have := allS_get 1024 28672 (n - 28672) allS_28 (by omega); rwa [show 28672 + (n - 28672) = n by omega] at this
  by_cases h29 : n < 30720
  · have := allS_get 1024 29696 (n - 29696) allS_29 (by omega); rwa [show 29696 + (n - 29696) = n by omega] at this
  by_cases h30 : n < 31744
  · have := allS_get 1024 30720 (n - 30720) allS_30 (by omega); rwa [show 30720 + (n - 30720) = n by omega] at this
  by_cases h31 : n < 32768
  · have := allS_get 1024 31744 (n - 31744) allS_31 (by omega); rwa [show 31744 + (n - 31744) = n by omega] at this
  by_cases h32 : n < 33792
  · have := allS_get 1024 32768 (n - 32768) allS_32 (by omega); rwa [show 32768 + (n - 32768) = n by omega] at this
  by_cases h33 : n < 34816
  · have := allS_get 1024 33792 (n - 33792) allS_33 (by omega); rwa [show 33792 + (n - 33792) = n by omega] at this
  by_cases h34 : n < 35840
  · have := allS_get 1024 34816 (n - 34816) allS_34 (by omega); rwa [show 34816 + (n - 34816) = n by omega] at this
  by_cases h35 : n < 36864
  · have := allS_get 1024 35840 (n - 35840) allS_35 (by omega); rwa [show 35840 + (n - 35840) = n by omega] at this
  by_cases h36 : n < 37888
  · have := allS_get 1024 36864 (n - 36864) allS_36 (by omega); rwa [show 36864 + (n - 36864) = n by omega] at this
  by_cases h37 : n < 38912
  · have := allS_get 1024 37888 (n - 37888) allS_37 (by omega); rwa [show 37888 + (n - 37888) = n by omega] at this
  by_cases h38 : n < 39936
  · have := allS_get 1024 38912 (n - 38912) allS_38 (by omega); rwa [show 38912 + (n - 38912) = n by omega] at this
  by_cases h39 : n < 40960
  · have := allS_get 1024 39936 (n - 39936) allS_39 (by omega); rwa [show 39936 + (n - 39936) = n by omega] at this
  by_cases h40 : n < 41984
  · have := allS_get 1024 40960 (n - 40960) allS_40 (by omega); rwa [show 40960 + (n - 40960) = n by omega] at this
  by_cases h41 : n < 43008
  · have := allS_get 1024 41984 (n - 41984) allS_41 (by omega); rwa [show 41984 + (n - 41984) = n by omega] at this
  by_cases h42 : n < 44032
  · have := allS_get 1024 43008 (n - 43008) allS_42 (by omega); rwa [show 43008 + (n - 43008) = n by omega] at this
  by_cases h43 : n < 45056
  · have := allS_get 1024 44032 (n - 44032) allS_43 (by omega); rwa [show 44032 + (n - 44032) = n by omega] at this
  by_cases h44 : n < 46080
  · have := allS_get 1024 45056 (n - 45056) allS_44 (by omega); rwa [show 45056 + (n - 45056) = n by omega] at this
  by_cases h45 : n < 47104
  · have := allS_get 1024 46080 (n - 46080) allS_45 (by omega); rwa [show 46080 + (n - 46080) = n by omega] at this
  by_cases h46 : n < 48128
  · have := allS_get 1024 47104 (n - 47104) allS_46 (by omega); rwa [show 47104 + (n - 47104) = n by omega] at this
  by_cases h47 : n < 49152
  · have := allS_get 1024 48128 (n - 48128) allS_47 (by omega); rwa [show 48128 + (n - 48128) = n by omega] at this
  by_cases h48 : n < 50176
  · have := allS_get 1024 49152 (n - 49152) allS_48 (by omega); rwa [show 49152 + (n - 49152) = n by omega] at this
  by_cases h49 : n < 51200
  · have := allS_get 1024 50176 (n - 50176) allS_49 (by omega); rwa [show 50176 + (n - 50176) = n by omega] at this
  by_cases h50 : n < 52224
  · have := allS_get 1024 51200 (n - 51200) allS_50 (by omega); rwa [show 51200 + (n - 51200) = n by omega] at this
  by_cases h51 : n < 53248
  · have := allS_get 1024 52224 (n - 52224) allS_51 (by omega); rwa [show 52224 + (n - 52224) = n by omega] at this
  by_cases h52 : n < 54272
  · have := allS_get 1024 53248 (n - 53248) allS_52 (by omega); rwa [show 53248 + (n - 53248) = n by omega] at this
  by_cases h53 : n < 55296
  · have := allS_get 1024 54272 (n - 54272) allS_53 (by omega); rwa [show 54272 + (n - 54272) = n by omega] at this
  by_cases h54 : n < 56320
  · have := allS_get 1024 55296 (n - 55296) allS_54 (by omega); rwa [show 55296 + (n - 55296) = n by omega] at this
  by_cases h55 : n < 57344
  · have := allS_get 1024 56320 (n - 56320) allS_55 (by omega); rwa [show 56320 + (n - 56320) = n by omega] at this
  by_cases h56 : n < 58368
  · have := allS_get 1024 57344 (n - 57344) allS_56 (by omega); rwa [show 57344 + (n - 57344) = n by omega] at this
  by_cases h57 : n < 59392
  · have := allS_get 1024 58368 (n - 58368) allS_57 (by omega); rwa [show 58368 + (n - 58368) = n by omega] at this
  by_cases h58 : n < 60416
  · have := allS_get 1024 59392 (n - 59392) allS_58 (by omega); rwa [show 59392 + (n - 59392) = n by omega] at this
  by_cases h59 : n < 61440
  · have := allS_get 1024 60416 (n - 60416) allS_59 (by omega); rwa [show 60416 + (n - 60416) = n by omega] at this
  by_cases h60 : n < 62464
  · have := allS_get 1024 61440 (n - 61440) allS_60 (by omega); rwa [show 61440 + (n - 61440) = n by omega] at this
  by_cases h61 : n < 63488
  · have := allS_get 1024 62464 (n - 62464) allS_61 (by omega); rwa [show 62464 + (n - 62464) = n by omega] at this
  by_cases h62 : n < 64512
  · have := allS_get 1024 63488 (n - 63488) allS_62 (by omega); rwa [show 63488 + (n - 63488) = n by omega] at this
  by_cases h63 : n < 65536
  · have := allS_get 1024 64512 (n - 64512) allS_63 (by omega); rwa [show 64512 + (n - 64512) = n by omega] at this
  omega
end Go.Proofs.Ytiibhggjlandmaa.Pure
