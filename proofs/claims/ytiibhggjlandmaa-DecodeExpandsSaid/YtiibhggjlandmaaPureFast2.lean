/- The reference's expansion with its loops in closed form: equal to the printed functions. -/
import Derived.Test.YtiibhggjlandmaaPureFast
namespace Go.Proofs.Ytiibhggjlandmaa.Pure
open Go.RowKit Go.Proofs.YtiibhggjlandmaaW.PrintWords Go.Proofs.YtiibhggjlandmaaW.PrintMore Go.Proofs.Ytiibhggjlandmaa.PD
set_option linter.unusedVariables false
set_option linter.unusedSimpArgs false
def cutS (p hi lo : Int) : Option Int := some (cutC p hi lo)
def sxS (v n : Int) : Option Int := some (sxC v n)
def lowS (v n : Int) : Option Int := some (lowC v n)
def joinS (p : Int) (l : List Int) : Option Int := some (joinC p l 0)
theorem cut_m {k : Nat} (hk : 2000 ≤ k) (a hi lo : Int) (hl : 0 ≤ lo) (hlh : lo ≤ hi) (hh : hi ≤ 31) : anvilref05_cut.f k (a % 4294967296) hi lo = cutS (a % 4294967296) hi lo := cut_eq (by omega) (by omega) (by omega) hl hlh hh
theorem sx_m {k : Nat} (hk : 2000 ≤ k) (v n : Int) (h0 : 0 ≤ n) (h1 : n ≤ 31) : anvilref05_sx.f k v n = sxS v n := sx_eq (by omega) h0 h1
theorem low_m {k : Nat} (hk : 2000 ≤ k) (v n : Int) (h0 : 0 ≤ n) (h1 : n ≤ 32) : anvilref05_low.f k v n = lowS v n := low_eq (by omega) h0 h1
theorem join_m {k : Nat} (hk : 2000 ≤ k) (a : Int) (l : List Int) (hl : l.length ≤ 30) (ho : okL l = true) : anvilref05_join.f k (a % 4294967296) l = joinS (a % 4294967296) l := join_eq (by omega) (by omega) (by omega) hl ho
def F_parts.f (k : Nat) (a0 : Int) : Option (Int × Int × Int × Int × Int × Int × Int × Int) := (cutS ((a0) % 4294967296) 12 12).bind fun t319 => ((cutS ((a0) % 4294967296) 6 2).bind fun t320 => ((cutS ((a0) % 4294967296) 15 13).bind fun t321 => ((cutS ((a0) % 4294967296) 11 7).bind fun t322 => ((cutS ((a0) % 4294967296) 6 2).bind fun t323 => ((cutS ((a0) % 4294967296) 9 7).bind fun t324 => ((cutS ((a0) % 4294967296) 4 2).bind fun t325 => ((sxS (wrap64 ((wrap64 (t319 * 32)) + t320)) 6).bind fun t326 => (some ((a0) % 4294967296, t321, t322, t323, wrap64 (8 + t324), wrap64 (8 + t325), wrap64 ((wrap64 (t319 * 32)) + t320), t326)))))))))
theorem F_parts_f_eq {k : Nat} (hk0 : 2000 ≤ k) (a0 : Int) : anvilref05_parts.f k a0 = F_parts.f k a0 := by
  have hk : 2000 ≤ k := by omega
  unfold anvilref05_parts.f F_parts.f
  simp (disch := decide) only [cut_m hk, sx_m hk, low_m hk, join_m hk]
def F_typeI.f (k : Nat) (a0 : Int) (a1 : Int) (a2 : Int) (a3 : Int) (a4 : Int) : Option (Int) := (lowS a4 12).bind fun t331 => (some ((((t331 * 1048576) % 4294967296) + ((wrap64 ((wrap64 ((wrap64 ((wrap64 (a3 * 32768)) + (wrap64 (a1 * 4096)))) + (wrap64 (a2 * 128)))) + a0)) % 4294967296)) % 4294967296))
theorem F_typeI_f_eq {k : Nat} (hk0 : 2000 ≤ k) (a0 a1 a2 a3 a4 : Int) : anvilref05_typeI.f k a0 a1 a2 a3 a4 = F_typeI.f k a0 a1 a2 a3 a4 := by
  have hk : 2000 ≤ k := by omega
  unfold anvilref05_typeI.f F_typeI.f
  simp (disch := decide) only [cut_m hk, sx_m hk, low_m hk, join_m hk, @F_parts_f_eq _ hk]
def F_typeS.f (k : Nat) (a0 : Int) (a1 : Int) (a2 : Int) (a3 : Int) : Option (Int) := (lowS a3 12).bind fun t332 => (some ((((((((((Int.tdiv t332 32) % 4294967296) * 33554432) % 4294967296) + ((wrap64 ((wrap64 ((wrap64 (a2 * 1048576)) + (wrap64 (a1 * 32768)))) + (wrap64 (a0 * 4096)))) % 4294967296)) % 4294967296) + (((Int.tmod t332 32) * 128) % 4294967296)) % 4294967296) + 35) % 4294967296))
theorem F_typeS_f_eq {k : Nat} (hk0 : 2000 ≤ k) (a0 a1 a2 a3 : Int) : anvilref05_typeS.f k a0 a1 a2 a3 = F_typeS.f k a0 a1 a2 a3 := by
  have hk : 2000 ≤ k := by omega
  unfold anvilref05_typeS.f F_typeS.f
  simp (disch := decide) only [cut_m hk, sx_m hk, low_m hk, join_m hk, @F_parts_f_eq _ hk, @F_typeI_f_eq _ hk]
def F_zero.f (k : Nat) (a0_0 : Int) (a0_1 : Int) (a0_2 : Int) (a0_3 : Int) (a0_4 : Int) (a0_5 : Int) (a0_6 : Int) (a0_7 : Int) : Option (Int × Bool) := (joinS ((a0_0) % 4294967296) (([12, 5, 11, 4, 10, 3, 6, 2, 5, 6] : List Int))).bind fun t337 => ((joinS ((a0_0) % 4294967296) (([12, 5, 11, 4, 10, 3, 6, 7, 5, 6] : List Int))).bind fun t341 => (if a0_1 = 0 then ((joinS ((a0_0) % 4294967296) (([12, 5, 11, 4, 10, 9, 9, 8, 8, 7, 7, 6, 6, 2, 5, 3] : List Int))).bind fun t345 => (if t345 = 0 then (some (0, false)) else ((F_typeI.f k 19 0 a0_5 2 t345).bind fun t346 => (some (t346, true))))) else (if a0_1 = 2 then ((F_typeI.f k 3 2 a0_5 a0_4 t337).bind fun t347 => (some (t347, true))) else (if a0_1 = 3 then ((F_typeI.f k 3 3 a0_5 a0_4 t341).bind fun t348 => (some (t348, true))) else (if a0_1 = 6 then ((F_typeS.f k 2 a0_4 a0_5 t337).bind fun t349 => (some (t349, true))) else (if a0_1 = 7 then ((F_typeS.f k 3 a0_4 a0_5 t341).bind fun t350 => (some (t350, true))) else (some (0, false))))))))
theorem F_zero_f_eq {k : Nat} (hk0 : 2000 ≤ k) (a0_0 a0_1 a0_2 a0_3 a0_4 a0_5 a0_6 a0_7 : Int) : anvilref05_zero.f k a0_0 a0_1 a0_2 a0_3 a0_4 a0_5 a0_6 a0_7 = F_zero.f k a0_0 a0_1 a0_2 a0_3 a0_4 a0_5 a0_6 a0_7 := by
  have hk : 2000 ≤ k := by omega
  unfold anvilref05_zero.f F_zero.f
  simp (disch := decide) only [cut_m hk, sx_m hk, low_m hk, join_m hk, @F_parts_f_eq _ hk, @F_typeI_f_eq _ hk, @F_typeS_f_eq _ hk]
def F_typeU.f (k : Nat) (a0 : Int) (a1 : Int) : Option (Int) := (lowS a1 32).bind fun t351 => (some ((t351 + ((wrap64 ((wrap64 (a0 * 128)) + 55)) % 4294967296)) % 4294967296))
theorem F_typeU_f_eq {k : Nat} (hk0 : 2000 ≤ k) (a0 a1 : Int) : anvilref05_typeU.f k a0 a1 = F_typeU.f k a0 a1 := by
  have hk : 2000 ≤ k := by omega
  unfold anvilref05_typeU.f F_typeU.f
  simp (disch := decide) only [cut_m hk, sx_m hk, low_m hk, join_m hk, @F_parts_f_eq _ hk, @F_typeI_f_eq _ hk, @F_typeS_f_eq _ hk, @F_zero_f_eq _ hk]
def F_middle.f (k : Nat) (a0_0 : Int) (a0_1 : Int) (a0_2 : Int) (a0_3 : Int) (a0_4 : Int) (a0_5 : Int) (a0_6 : Int) (a0_7 : Int) : Option (Int × Bool) := (cutS ((a0_0) % 4294967296) 11 10).bind fun t353 => (if t353 = 0 then ((F_typeI.f k 19 5 a0_4 a0_4 a0_6).bind fun t354 => (some (t354, true))) else (if t353 = 1 then ((F_typeI.f k 19 5 a0_4 a0_4 (wrap64 (1024 + a0_6))).bind fun t355 => (some (t355, true))) else (if t353 = 2 then ((F_typeI.f k 19 7 a0_4 a0_4 a0_7).bind fun t356 => (some (t356, true))) else ((cutS ((a0_0) % 4294967296) 12 12).bind fun t357 => ((cutS ((a0_0) % 4294967296) 6 5).bind fun t358 => (if (wrap64 ((wrap64 (t357 * 4)) + t358)) = 0 then ((anvilref05_typeR.f 51 32 0 a0_4 a0_4 a0_5).bind fun t359 => (some (t359, true))) else (if (wrap64 ((wrap64 (t357 * 4)) + t358)) = 1 then ((anvilref05_typeR.f 51 0 4 a0_4 a0_4 a0_5).bind fun t360 => (some (t360, true))) else (if (wrap64 ((wrap64 (t357 * 4)) + t358)) = 2 then ((anvilref05_typeR.f 51 0 6 a0_4 a0_4 a0_5).bind fun t361 => (some (t361, true))) else (if (wrap64 ((wrap64 (t357 * 4)) + t358)) = 3 then ((anvilref05_typeR.f 51 0 7 a0_4 a0_4 a0_5).bind fun t362 => (some (t362, true))) else (if (wrap64 ((wrap64 (t357 * 4)) + t358)) = 4 then ((anvilref05_typeR.f 59 32 0 a0_4 a0_4 a0_5).bind fun t363 => (some (t363, true))) else (if (wrap64 ((wrap64 (t357 * 4)) + t358)) = 5 then ((anvilref05_typeR.f 59 0 0 a0_4 a0_4 a0_5).bind fun t364 => (some (t364, true))) else (some (0, false)))))))))))))
theorem F_middle_f_eq {k : Nat} (hk0 : 2000 ≤ k) (a0_0 a0_1 a0_2 a0_3 a0_4 a0_5 a0_6 a0_7 : Int) : anvilref05_middle.f k a0_0 a0_1 a0_2 a0_3 a0_4 a0_5 a0_6 a0_7 = F_middle.f k a0_0 a0_1 a0_2 a0_3 a0_4 a0_5 a0_6 a0_7 := by
  have hk : 2000 ≤ k := by omega
  unfold anvilref05_middle.f F_middle.f
  simp (disch := decide) only [cut_m hk, sx_m hk, low_m hk, join_m hk, @F_parts_f_eq _ hk, @F_typeI_f_eq _ hk, @F_typeS_f_eq _ hk, @F_zero_f_eq _ hk, @F_typeU_f_eq _ hk]
def F_typeJ.f (k : Nat) (a0 : Int) : Option (Int) := (lowS a0 21).bind fun t365 => (some ((((((((((((Int.tdiv t365 1048576) % 4294967296) * 2147483648) % 4294967296) + ((((Int.tdiv t365 2) % 4294967296) % 1024) * 2097152)) % 4294967296) + ((((Int.tdiv t365 2048) % 4294967296) % 2) * 1048576)) % 4294967296) + ((((Int.tdiv t365 4096) % 4294967296) % 256) * 4096)) % 4294967296) + 111) % 4294967296))
theorem F_typeJ_f_eq {k : Nat} (hk0 : 2000 ≤ k) (a0 : Int) : anvilref05_typeJ.f k a0 = F_typeJ.f k a0 := by
  have hk : 2000 ≤ k := by omega
  unfold anvilref05_typeJ.f F_typeJ.f
  simp (disch := decide) only [cut_m hk, sx_m hk, low_m hk, join_m hk, @F_parts_f_eq _ hk, @F_typeI_f_eq _ hk, @F_typeS_f_eq _ hk, @F_zero_f_eq _ hk, @F_typeU_f_eq _ hk, @F_middle_f_eq _ hk]
def F_typeB.f (k : Nat) (a0 : Int) (a1 : Int) (a2 : Int) : Option (Int) := (lowS a2 13).bind fun t366 => (some ((((((((((((((Int.tdiv t366 4096) % 4294967296) * 2147483648) % 4294967296) + ((((Int.tdiv t366 32) % 4294967296) % 64) * 33554432)) % 4294967296) + ((wrap64 ((wrap64 (a1 * 32768)) + (wrap64 (a0 * 4096)))) % 4294967296)) % 4294967296) + ((((Int.tdiv t366 2) % 4294967296) % 16) * 256)) % 4294967296) + ((((Int.tdiv t366 2048) % 4294967296) % 2) * 128)) % 4294967296) + 99) % 4294967296))
theorem F_typeB_f_eq {k : Nat} (hk0 : 2000 ≤ k) (a0 a1 a2 : Int) : anvilref05_typeB.f k a0 a1 a2 = F_typeB.f k a0 a1 a2 := by
  have hk : 2000 ≤ k := by omega
  unfold anvilref05_typeB.f F_typeB.f
  simp (disch := decide) only [cut_m hk, sx_m hk, low_m hk, join_m hk, @F_parts_f_eq _ hk, @F_typeI_f_eq _ hk, @F_typeS_f_eq _ hk, @F_zero_f_eq _ hk, @F_typeU_f_eq _ hk, @F_middle_f_eq _ hk, @F_typeJ_f_eq _ hk]
def F_one.j1 : Nat → Bool → Int → Int → Int → Int → Int → Int → Int → Int → Option (Int × Bool)
  | 0, _, _, _, _, _, _, _, _, _ => none
  | k + 1, x63, x368000, x368001, x368002, x368003, x368004, x368005, x368006, x368007 => if x63 = true then ((F_typeU.f k x368002 (wrap64 (x368007 * 4096))).bind fun t377 => (some (t377, true))) else (some (0, false))
theorem F_one_j1_eq {k : Nat} (hk0 : 2000 ≤ k) (y0 : Bool) (y1 : Int) (y2 : Int) (y3 : Int) (y4 : Int) (y5 : Int) (y6 : Int) (y7 : Int) (y8 : Int) : anvilref05_one.j1 (k + 1) y0 y1 y2 y3 y4 y5 y6 y7 y8 = F_one.j1 (k + 1) y0 y1 y2 y3 y4 y5 y6 y7 y8 := by
  have hk : 2000 ≤ k := by omega
  rw [anvilref05_one.j1, F_one.j1]
  simp (disch := decide) only [cut_m hk, sx_m hk, low_m hk, join_m hk, @F_parts_f_eq _ hk, @F_typeI_f_eq _ hk, @F_typeS_f_eq _ hk, @F_zero_f_eq _ hk, @F_typeU_f_eq _ hk, @F_middle_f_eq _ hk, @F_typeJ_f_eq _ hk, @F_typeB_f_eq _ hk]
def F_one.j0 : Nat → Int → Bool → Int → Int → Int → Int → Int → Int → Int → Int → Option (Int × Bool)
  | 0, _, _, _, _, _, _, _, _, _, _ => none
  | k + 1, x5, x53, x368000, x368001, x368002, x368003, x368004, x368005, x368006, x368007 => if x53 = true then ((F_typeI.f k 19 0 2 2 x5).bind fun t376 => (some (t376, true))) else (if x368002 = 2 then (F_one.j1 k false x368000 x368001 x368002 x368003 x368004 x368005 x368006 x368007) else (F_one.j1 k (x368007 != 0) x368000 x368001 x368002 x368003 x368004 x368005 x368006 x368007))
theorem F_one_j0_eq {k : Nat} (hk0 : 2001 ≤ k) (y0 : Int) (y1 : Bool) (y2 : Int) (y3 : Int) (y4 : Int) (y5 : Int) (y6 : Int) (y7 : Int) (y8 : Int) (y9 : Int) : anvilref05_one.j0 (k + 1) y0 y1 y2 y3 y4 y5 y6 y7 y8 y9 = F_one.j0 (k + 1) y0 y1 y2 y3 y4 y5 y6 y7 y8 y9 := by
  have hk : 2000 ≤ k := by omega
  obtain ⟨j, rfl⟩ : ∃ j, k = j + 1 := ⟨k - 1, by omega⟩
  rw [anvilref05_one.j0, F_one.j0]
  simp (disch := decide) only [cut_m hk, sx_m hk, low_m hk, join_m hk, @F_parts_f_eq _ hk, @F_typeI_f_eq _ hk, @F_typeS_f_eq _ hk, @F_zero_f_eq _ hk, @F_typeU_f_eq _ hk, @F_middle_f_eq _ hk, @F_typeJ_f_eq _ hk, @F_typeB_f_eq _ hk, @F_one_j1_eq j (by omega)]
def F_one.f (k : Nat) (a0_0 : Int) (a0_1 : Int) (a0_2 : Int) (a0_3 : Int) (a0_4 : Int) (a0_5 : Int) (a0_6 : Int) (a0_7 : Int) : Option (Int × Bool) := if a0_1 = 0 then ((F_typeI.f k 19 0 a0_2 a0_2 a0_7).bind fun t368 => (some (t368, true))) else (if a0_1 = 1 then (if a0_2 = 0 then (some (0, false)) else ((F_typeI.f k 27 0 a0_2 a0_2 a0_7).bind fun t369 => (some (t369, true)))) else (if a0_1 = 2 then ((F_typeI.f k 19 0 a0_2 0 a0_7).bind fun t370 => (some (t370, true))) else (if a0_1 = 3 then ((joinS ((a0_0) % 4294967296) (([12, 9, 6, 4, 5, 6, 4, 8, 3, 7, 2, 5] : List Int))).bind fun t374 => ((sxS t374 10).bind fun t375 => (if a0_2 = 2 then (F_one.j0 k t375 (t375 != 0) a0_0 a0_1 a0_2 a0_3 a0_4 a0_5 a0_6 a0_7) else (F_one.j0 k t375 false a0_0 a0_1 a0_2 a0_3 a0_4 a0_5 a0_6 a0_7)))) else (if a0_1 = 4 then ((F_middle.f k a0_0 a0_1 a0_2 a0_3 a0_4 a0_5 a0_6 a0_7).bind fun bt378 => (some (bt378.1, bt378.2))) else (if a0_1 = 5 then ((joinS ((a0_0) % 4294967296) (([12, 11, 11, 4, 10, 9, 9, 8, 8, 10, 7, 6, 6, 7, 5, 3, 4, 2, 3, 1, 2, 5] : List Int))).bind fun t383 => ((sxS t383 12).bind fun t384 => ((F_typeJ.f k t384).bind fun t385 => (some (t385, true))))) else ((joinS ((a0_0) % 4294967296) (([12, 8, 11, 4, 10, 3, 6, 7, 5, 6, 4, 2, 3, 1, 2, 5] : List Int))).bind fun t389 => ((sxS t389 9).bind fun t390 => ((F_typeB.f k (wrap64 (a0_1 - 6)) a0_4 t390).bind fun t391 => (some (t391, true))))))))))
theorem F_one_f_eq {k : Nat} (hk0 : 2010 ≤ k) (a0_0 a0_1 a0_2 a0_3 a0_4 a0_5 a0_6 a0_7 : Int) : anvilref05_one.f k a0_0 a0_1 a0_2 a0_3 a0_4 a0_5 a0_6 a0_7 = F_one.f k a0_0 a0_1 a0_2 a0_3 a0_4 a0_5 a0_6 a0_7 := by
  have hk : 2000 ≤ k := by omega
  obtain ⟨j, rfl⟩ : ∃ j, k = j + 1 := ⟨k - 1, by omega⟩
  unfold anvilref05_one.f F_one.f
  simp (disch := decide) only [cut_m hk, sx_m hk, low_m hk, join_m hk, @F_parts_f_eq _ hk, @F_typeI_f_eq _ hk, @F_typeS_f_eq _ hk, @F_zero_f_eq _ hk, @F_typeU_f_eq _ hk, @F_middle_f_eq _ hk, @F_typeJ_f_eq _ hk, @F_typeB_f_eq _ hk, @F_one_j0_eq j (by omega)]
def F_two.j2 : Nat → Bool → Bool → Int → Int → Int → Int → Int → Int → Int → Int → Option (Int × Bool)
  | 0, _, _, _, _, _, _, _, _, _, _ => none
  | k + 1, x5, x72, x393000, x393001, x393002, x393003, x393004, x393005, x393006, x393007 => if x72 = true then ((F_typeI.f k 103 0 0 x393002 0).bind fun t406 => (some (t406, true))) else (if x393002 = 0 then (if x5 = true then (some (1048691, true)) else (some (0, false))) else ((F_typeI.f k 103 0 1 x393002 0).bind fun t407 => (some (t407, true))))
theorem F_two_j2_eq {k : Nat} (hk0 : 2000 ≤ k) (y0 : Bool) (y1 : Bool) (y2 : Int) (y3 : Int) (y4 : Int) (y5 : Int) (y6 : Int) (y7 : Int) (y8 : Int) (y9 : Int) : anvilref05_two.j2 (k + 1) y0 y1 y2 y3 y4 y5 y6 y7 y8 y9 = F_two.j2 (k + 1) y0 y1 y2 y3 y4 y5 y6 y7 y8 y9 := by
  have hk : 2000 ≤ k := by omega
  rw [anvilref05_two.j2, F_two.j2]
  simp (disch := decide) only [cut_m hk, sx_m hk, low_m hk, join_m hk, @F_parts_f_eq _ hk, @F_typeI_f_eq _ hk, @F_typeS_f_eq _ hk, @F_zero_f_eq _ hk, @F_typeU_f_eq _ hk, @F_middle_f_eq _ hk, @F_typeJ_f_eq _ hk, @F_typeB_f_eq _ hk]
def F_two.j1 : Nat → Bool → Bool → Int → Int → Int → Int → Int → Int → Int → Int → Option (Int × Bool)
  | 0, _, _, _, _, _, _, _, _, _, _ => none
  | k + 1, x5, x48, x393000, x393001, x393002, x393003, x393004, x393005, x393006, x393007 => if x48 = true then ((anvilref05_typeR.f 51 0 0 x393002 0 x393003).bind fun t405 => (some (t405, true))) else (if x393003 = 0 then (if x393002 = 0 then (F_two.j2 k x5 false x393000 x393001 x393002 x393003 x393004 x393005 x393006 x393007) else (F_two.j2 k x5 (!x5) x393000 x393001 x393002 x393003 x393004 x393005 x393006 x393007)) else ((anvilref05_typeR.f 51 0 0 x393002 x393002 x393003).bind fun t408 => (some (t408, true))))
theorem F_two_j1_eq {k : Nat} (hk0 : 2001 ≤ k) (y0 : Bool) (y1 : Bool) (y2 : Int) (y3 : Int) (y4 : Int) (y5 : Int) (y6 : Int) (y7 : Int) (y8 : Int) (y9 : Int) : anvilref05_two.j1 (k + 1) y0 y1 y2 y3 y4 y5 y6 y7 y8 y9 = F_two.j1 (k + 1) y0 y1 y2 y3 y4 y5 y6 y7 y8 y9 := by
  have hk : 2000 ≤ k := by omega
  obtain ⟨j, rfl⟩ : ∃ j, k = j + 1 := ⟨k - 1, by omega⟩
  rw [anvilref05_two.j1, F_two.j1]
  simp (disch := decide) only [cut_m hk, sx_m hk, low_m hk, join_m hk, @F_parts_f_eq _ hk, @F_typeI_f_eq _ hk, @F_typeS_f_eq _ hk, @F_zero_f_eq _ hk, @F_typeU_f_eq _ hk, @F_middle_f_eq _ hk, @F_typeJ_f_eq _ hk, @F_typeB_f_eq _ hk, @F_two_j2_eq j (by omega)]
def F_two.j0 : Nat → Int → Bool → Int → Bool → Int → Int → Int → Int → Int → Int → Int → Int → Option (Int × Bool)
  | 0, _, _, _, _, _, _, _, _, _, _, _, _ => none
  | k + 1, x4, x5, x15, x25, x393000, x393001, x393002, x393003, x393004, x393005, x393006, x393007 => if x25 = true then (if x393002 = 0 then (some (0, false)) else (if x393001 = 2 then ((joinS x4 (([12, 5, 6, 4, 5, 3, 4, 2, 3, 7, 2, 6] : List Int))).bind fun t398 => ((F_typeI.f k 3 2 x393002 2 t398).bind fun t399 => (some (t399, true)))) else ((joinS x4 (([12, 5, 6, 4, 5, 3, 4, 8, 3, 7, 2, 6] : List Int))).bind fun t403 => ((F_typeI.f k 3 3 x393002 2 t403).bind fun t404 => (some (t404, true)))))) else (if x15 = 4 then (if x393003 = 0 then (F_two.j1 k x5 false x393000 x393001 x393002 x393003 x393004 x393005 x393006 x393007) else (F_two.j1 k x5 (!x5) x393000 x393001 x393002 x393003 x393004 x393005 x393006 x393007)) else (if x15 = 6 then ((joinS x4 (([12, 5, 11, 4, 10, 3, 9, 2, 8, 7, 7, 6] : List Int))).bind fun t412 => ((F_typeS.f k 2 2 x393003 t412).bind fun t413 => (some (t413, true)))) else (if x15 = 7 then ((joinS x4 (([12, 5, 11, 4, 10, 3, 9, 8, 8, 7, 7, 6] : List Int))).bind fun t417 => ((F_typeS.f k 3 2 x393003 t417).bind fun t418 => (some (t418, true)))) else (some (0, false)))))
theorem F_two_j0_eq {k : Nat} (hk0 : 2002 ≤ k) (y0 : Int) (y1 : Bool) (y2 : Int) (y3 : Bool) (y4 : Int) (y5 : Int) (y6 : Int) (y7 : Int) (y8 : Int) (y9 : Int) (y10 : Int) (y11 : Int) : anvilref05_two.j0 (k + 1) (y0 % 4294967296) y1 y2 y3 y4 y5 y6 y7 y8 y9 y10 y11 = F_two.j0 (k + 1) (y0 % 4294967296) y1 y2 y3 y4 y5 y6 y7 y8 y9 y10 y11 := by
  have hk : 2000 ≤ k := by omega
  obtain ⟨j, rfl⟩ : ∃ j, k = j + 1 := ⟨k - 1, by omega⟩
  rw [anvilref05_two.j0, F_two.j0]
  simp (disch := decide) only [cut_m hk, sx_m hk, low_m hk, join_m hk, @F_parts_f_eq _ hk, @F_typeI_f_eq _ hk, @F_typeS_f_eq _ hk, @F_zero_f_eq _ hk, @F_typeU_f_eq _ hk, @F_middle_f_eq _ hk, @F_typeJ_f_eq _ hk, @F_typeB_f_eq _ hk, @F_two_j1_eq j (by omega)]
def F_two.f (k : Nat) (a0_0 : Int) (a0_1 : Int) (a0_2 : Int) (a0_3 : Int) (a0_4 : Int) (a0_5 : Int) (a0_6 : Int) (a0_7 : Int) : Option (Int × Bool) := (cutS ((a0_0) % 4294967296) 12 12).bind fun t393 => (if a0_1 = 0 then ((F_typeI.f k 19 1 a0_2 a0_2 a0_6).bind fun t394 => (some (t394, true))) else (if a0_1 = 2 then (F_two.j0 k ((a0_0) % 4294967296) (t393 == 1) a0_1 (a0_1 == 2) a0_0 a0_1 a0_2 a0_3 a0_4 a0_5 a0_6 a0_7) else (F_two.j0 k ((a0_0) % 4294967296) (t393 == 1) a0_1 (a0_1 == 3) a0_0 a0_1 a0_2 a0_3 a0_4 a0_5 a0_6 a0_7)))
theorem F_two_f_eq {k : Nat} (hk0 : 2010 ≤ k) (a0_0 a0_1 a0_2 a0_3 a0_4 a0_5 a0_6 a0_7 : Int) : anvilref05_two.f k a0_0 a0_1 a0_2 a0_3 a0_4 a0_5 a0_6 a0_7 = F_two.f k a0_0 a0_1 a0_2 a0_3 a0_4 a0_5 a0_6 a0_7 := by
  have hk : 2000 ≤ k := by omega
  obtain ⟨j, rfl⟩ : ∃ j, k = j + 1 := ⟨k - 1, by omega⟩
  unfold anvilref05_two.f F_two.f
  simp (disch := decide) only [cut_m hk, sx_m hk, low_m hk, join_m hk, @F_parts_f_eq _ hk, @F_typeI_f_eq _ hk, @F_typeS_f_eq _ hk, @F_zero_f_eq _ hk, @F_typeU_f_eq _ hk, @F_middle_f_eq _ hk, @F_typeJ_f_eq _ hk, @F_typeB_f_eq _ hk, @F_two_j0_eq j (by omega)]
def F_Expand.f (k : Nat) (a0 : Int) : Option (Int × Bool) := (F_parts.f k a0).bind fun bt419 => ((cutS ((a0) % 4294967296) 1 0).bind fun t428 => (if t428 = 0 then ((F_zero.f k bt419.1 bt419.2.1 bt419.2.2.1 bt419.2.2.2.1 bt419.2.2.2.2.1 bt419.2.2.2.2.2.1 bt419.2.2.2.2.2.2.1 bt419.2.2.2.2.2.2.2).bind fun bt429 => (some (bt429.1, bt429.2))) else (if t428 = 1 then ((F_one.f k bt419.1 bt419.2.1 bt419.2.2.1 bt419.2.2.2.1 bt419.2.2.2.2.1 bt419.2.2.2.2.2.1 bt419.2.2.2.2.2.2.1 bt419.2.2.2.2.2.2.2).bind fun bt431 => (some (bt431.1, bt431.2))) else (if t428 = 2 then ((F_two.f k bt419.1 bt419.2.1 bt419.2.2.1 bt419.2.2.2.1 bt419.2.2.2.2.1 bt419.2.2.2.2.2.1 bt419.2.2.2.2.2.2.1 bt419.2.2.2.2.2.2.2).bind fun bt433 => (some (bt433.1, bt433.2))) else (some (0, false))))))
theorem F_Expand_f_eq {k : Nat} (hk0 : 2010 ≤ k) (a0 : Int) : anvilref05_Expand.f k a0 = F_Expand.f k a0 := by
  have hk : 2000 ≤ k := by omega
  unfold anvilref05_Expand.f F_Expand.f
  simp (disch := decide) only [cut_m hk, sx_m hk, low_m hk, join_m hk, @F_parts_f_eq _ hk, @F_typeI_f_eq _ hk, @F_typeS_f_eq _ hk, @F_zero_f_eq _ hk, @F_typeU_f_eq _ hk, @F_middle_f_eq _ hk, @F_typeJ_f_eq _ hk, @F_typeB_f_eq _ hk, @F_one_f_eq _ hk0, @F_two_f_eq _ hk0]
end Go.Proofs.Ytiibhggjlandmaa.Pure
