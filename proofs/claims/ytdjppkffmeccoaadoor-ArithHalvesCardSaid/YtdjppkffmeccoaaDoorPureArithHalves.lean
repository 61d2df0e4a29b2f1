/- The pure side of ArithHalves: operations of 32 bits are those of 64 bits on halves. -/
import Derived.Test.YtdjppkffmeccoaaDoorQArithHalvesx2
import Derived.Test.YtdjppkffmeccoaaDoorPureDiv
set_option linter.unusedVariables false
set_option linter.unusedSimpArgs false
namespace Go.Proofs.YtdjppkffmeccoaaDoor.Pure
open Go.RowKit Go.Proofs.YtdjppkffmeccoaaDoorW.PrintWords Go.Proofs.YtdjppkffmeccoaaDoorW.PrintMore Mth PC PL PT QArithHalves

theorem ext_ext (v : Nat) : ext (ext v) = ext v := ext_of (ext_mod v)
theorem half_f (x : Nat) (hx : x < 18446744073709551616) : anvillaw01_half.f (x : Int) = some (ext x : Int) := by
  unfold anvillaw01_half.f ext
  rw [and_low x hx]
  by_cases h : x % 4294967296 < 2147483648
  · rw [if_neg (by omega), if_pos h]
  · rw [if_pos (by omega), if_neg h]
    congr 1
    have e : Go.bits .or .u64 ((x % 4294967296 : Nat) : Int) ((18446744069414584320 : Nat) : Int) = ((x % 4294967296 ||| 18446744069414584320 : Nat) : Int) := bits_or _ _ (by omega) (by decide)
    refine Eq.trans e ?_
    congr 1
    have h2 := Nat.two_pow_add_eq_or_of_lt (show x % 4294967296 < 2 ^ 32 from by rw [p32]; omega) 4294967295
    rw [p32] at h2
    rw [Nat.or_comm, show (18446744069414584320 : Nat) = 4294967296 * 4294967295 from by decide, ← h2, Nat.add_comm]
theorem half_none (b : Nat) (hb : b < 18446744073709551616) : ∃ c : Nat, Go.bits .or .u64 (b : Int) (Go.bits .xor .u64 18446744073709551615 4294967295) = (c : Int) ∧ c % 4294967296 = b % 4294967296 := by
  have e0 : Go.bits .xor .u64 18446744073709551615 4294967295 = ((18446744069414584320 : Nat) : Int) := bits_not 4294967295 (by decide)
  refine ⟨b ||| 18446744069414584320, ?_, ?_⟩
  · rw [e0]; exact bits_or b _ hb (by decide)
  · have := Nat.or_mod_two_pow (a := b) (b := 18446744069414584320) (n := 32)
    rw [p32] at this
    rw [this, show (18446744069414584320 : Nat) % 4294967296 = 0 from by decide, Nat.or_zero]
theorem and31u (b : Nat) (hb : b < 18446744073709551616) : Go.bits .and .u64 (b : Int) 31 = ((b % 32 : Nat) : Int) := by
  have := bits_mask .u64 64 (by decide) (fun n h0 h1 => by rw [IntKind.wrap_u64]; omega) 5 (by omega) (b : Int) (by omega) (by omega)
  simpa using this

theorem u64_some (x : Int) : ∃ d : Nat, IntKind.u64.wrap x = (d : Int) ∧ d < 18446744073709551616 := by
  rw [IntKind.wrap_u64]; exact ⟨(x % 18446744073709551616).toNat, by omega, by omega⟩
theorem divide_some (x y : Nat) : ∃ d : Nat, PC.arith_divide.f (x : Int) (y : Int) = some (d : Int) ∧ d < 18446744073709551616 := by
  by_cases h : wrap64 (y : Int) = 0
  · exact ⟨18446744073709551615, div0 _ _ h, by decide⟩
  · obtain ⟨d, hd, hl⟩ := u64_some (Int.tdiv (wrap64 (x : Int)) (wrap64 (y : Int)))
    exact ⟨d, by rw [divide_eq _ _ h, hd], hl⟩
theorem remain_some (x y : Nat) (hx : x < 18446744073709551616) : ∃ d : Nat, PC.arith_remain.f (x : Int) (y : Int) = some (d : Int) ∧ d < 18446744073709551616 := by
  by_cases h : wrap64 (y : Int) = 0
  · exact ⟨x, by rw [remain_f, if_pos h], hx⟩
  · obtain ⟨d, hd, hl⟩ := u64_some (Int.tmod (wrap64 (x : Int)) (wrap64 (y : Int)))
    exact ⟨d, by rw [remain_eq _ _ h, hd], hl⟩
theorem op66d (x y : Int) (d : Int) (h : PC.arith_divide.f x y = some d) : anvillaw01_op.f 66 x y = some d := op_of 66 66 _ _ _ (by decide) (by decide) (by rw [cop66, h])
theorem op68d (x y : Int) (d : Int) (h : PC.arith_remain.f x y = some d) : anvillaw01_op.f 68 x y = some d := op_of 68 68 _ _ _ (by decide) (by decide) (by rw [cop68, h])
theorem signed_of (a : Nat) : PC.arith_signed.f ((a % 4294967296 : Nat) : Int) = some (ext a : Int) := by
  rw [signed_ext _ (Nat.mod_lt _ (by decide)), ext_of (show a % 4294967296 % 4294967296 = a % 4294967296 by omega)]
theorem r21 (x y z w d : Int) (h1 : PC.arith_signed.f x = some z) (h2 : PC.arith_signed.f y = some w) (h : PC.arith_divide.f z w = some d) : arith_rows_21.f x y = some (d % 4294967296) := by
  unfold arith_rows_21.f
  rw [h1, h2]
  simp only [Option.bind_some, h]
theorem r22 (x y z w d : Int) (h1 : PC.arith_signed.f x = some z) (h2 : PC.arith_signed.f y = some w) (h : PC.arith_remain.f z w = some d) : arith_rows_22.f x y = some (d % 4294967296) := by
  unfold arith_rows_22.f
  rw [h1, h2]
  simp only [Option.bind_some, h]
theorem r23 (x y z w d : Int) (h1 : IntKind.u64.wrap x = z) (h2 : IntKind.u64.wrap y = w) (h : PC.arith_divideU.f z w = some d) : arith_rows_23.f x y = some (d % 4294967296) := by
  unfold arith_rows_23.f
  rw [h1, h2, h]
  rfl
theorem r24 (x y z w d : Int) (h1 : IntKind.u64.wrap x = z) (h2 : IntKind.u64.wrap y = w) (h : PC.arith_remainU.f z w = some d) : arith_rows_24.f x y = some (d % 4294967296) := by
  unfold arith_rows_24.f
  rw [h1, h2, h]
  rfl
theorem mm (d : Nat) : d % 4294967296 % 4294967296 = d % 4294967296 := by omega
theorem op71 (a b d : Nat) (h : PC.arith_divide.f (ext a : Int) (ext b : Int) = some (d : Int)) : anvillaw01_op.f 71 (a : Int) (b : Int) = some (ext d : Int) := by
  have e := cop_half (f := arith_rows_21.f) (a := a) (b := b) (d % 4294967296) (Nat.mod_lt _ (by decide)) (by rw [r21 _ _ _ _ _ (signed_of a) (signed_of b) h, mod32])
  rw [ext_of (mm d)] at e
  exact op_of 71 71 _ _ _ (by decide) (by decide) e
theorem op73 (a b d : Nat) (h : PC.arith_remain.f (ext a : Int) (ext b : Int) = some (d : Int)) : anvillaw01_op.f 73 (a : Int) (b : Int) = some (ext d : Int) := by
  have e := cop_half (f := arith_rows_22.f) (a := a) (b := b) (d % 4294967296) (Nat.mod_lt _ (by decide)) (by rw [r22 _ _ _ _ _ (signed_of a) (signed_of b) h, mod32])
  rw [ext_of (mm d)] at e
  exact op_of 73 73 _ _ _ (by decide) (by decide) e
theorem u64_half (a : Nat) : IntKind.u64.wrap ((a % 4294967296 : Nat) : Int) = ((a % 4294967296 : Nat) : Int) := u64_nat _ (by omega)
def divU (x y : Nat) : Nat := if y = 0 then 18446744073709551615 else x / y
def remU (x y : Nat) : Nat := if y = 0 then x else x % y
theorem divU_lt (x y : Nat) (hx : x < 18446744073709551616) : divU x y < 18446744073709551616 := by
  unfold divU
  split
  · decide
  · exact Nat.lt_of_le_of_lt (Nat.div_le_self _ _) hx
theorem remU_lt (x y : Nat) (hx : x < 18446744073709551616) : remU x y < 18446744073709551616 := by
  unfold remU
  split
  · exact hx
  · exact Nat.lt_of_le_of_lt (Nat.mod_le _ _) hx
theorem divideU_f (x y : Nat) (hx : x < 18446744073709551616) : PC.arith_divideU.f (x : Int) (y : Int) = some (divU x y : Int) := by
  unfold PC.arith_divideU.f divU
  by_cases h : y = 0
  · rw [if_pos (by omega), if_pos h]; rfl
  · rw [if_neg (by omega), if_neg h]
    rw [Int.tdiv_eq_ediv_of_nonneg (by omega), ← Int.natCast_ediv, u64_nat _ (Nat.lt_of_le_of_lt (Nat.div_le_self _ _) hx)]
theorem remainU_f (x y : Nat) : PC.arith_remainU.f (x : Int) (y : Int) = some (remU x y : Int) := by
  unfold PC.arith_remainU.f remU
  by_cases h : y = 0
  · rw [if_pos (by omega), if_pos h]
  · rw [if_neg (by omega), if_neg h]
    rw [Int.tmod_eq_emod_of_nonneg (by omega), ← Int.natCast_emod]
theorem op72 (a b : Nat) : anvillaw01_op.f 72 (a : Int) (b : Int) = some (ext (divU (a % 4294967296) (b % 4294967296)) : Int) := by
  have e := cop_half (f := arith_rows_23.f) (a := a) (b := b) (divU (a % 4294967296) (b % 4294967296) % 4294967296) (Nat.mod_lt _ (by decide)) (by rw [r23 _ _ _ _ _ (u64_half a) (u64_half b) (divideU_f _ _ (by omega)), mod32])
  rw [ext_of (mm _)] at e
  exact op_of 72 72 _ _ _ (by decide) (by decide) e
theorem op74 (a b : Nat) : anvillaw01_op.f 74 (a : Int) (b : Int) = some (ext (remU (a % 4294967296) (b % 4294967296)) : Int) := by
  have e := cop_half (f := arith_rows_24.f) (a := a) (b := b) (remU (a % 4294967296) (b % 4294967296) % 4294967296) (Nat.mod_lt _ (by decide)) (by rw [r24 _ _ _ _ _ (u64_half a) (u64_half b) (remainU_f _ _), mod32])
  rw [ext_of (mm _)] at e
  exact op_of 74 74 _ _ _ (by decide) (by decide) e
theorem op67u (x y : Nat) (hx : x < 18446744073709551616) : anvillaw01_op.f 67 (x : Int) (y : Int) = some (divU x y : Int) :=
  op_of 67 67 _ _ _ (by decide) (by decide) (divideU_f x y hx)
theorem op69u (x y : Nat) : anvillaw01_op.f 69 (x : Int) (y : Int) = some (remU x y : Int) :=
  op_of 69 69 _ _ _ (by decide) (by decide) (remainU_f x y)

/-- An operation of halves: it hangs on the lower halves alone, and what comes out is a half widened. -/
def Half (w : Int) : Prop := ∀ a b : Nat, ∃ s : Nat, ∀ c d : Nat, c % 4294967296 = a % 4294967296 → d % 4294967296 = b % 4294967296 → anvillaw01_op.f w (c : Int) (d : Int) = some (ext s : Int)
theorem sh_mod {b d : Nat} (h : d % 4294967296 = b % 4294967296) : d % 32 = b % 32 := by omega
theorem h45 : Half 45 := fun a b => ⟨a + b, fun c d hc hd => by rw [op45, ext_of (show (c + d) % 4294967296 = (a + b) % 4294967296 by omega)]⟩
theorem h46 : Half 46 := fun a b => ⟨a + (4294967296 - b % 4294967296), fun c d hc hd => by rw [op46, hd, ext_of (show (c + (4294967296 - b % 4294967296)) % 4294967296 = (a + (4294967296 - b % 4294967296)) % 4294967296 by omega)]⟩
theorem h47 : Half 47 := fun a b => ⟨_, fun c d hc hd => by rw [op47, hc, sh_mod hd]⟩
theorem h48 : Half 48 := fun a b => ⟨_, fun c d hc hd => by rw [op48, hc, sh_mod hd]⟩
theorem h49 : Half 49 := fun a b => ⟨sra32 a b, fun c d hc hd => by rw [op49]; unfold sra32; rw [hc, sh_mod hd]⟩
theorem h70 : Half 70 := fun a b => ⟨a * b, fun c d hc hd => by rw [op70, ext_of (show c * d % 4294967296 = a * b % 4294967296 by rw [Nat.mul_mod, hc, hd, ← Nat.mul_mod])]⟩
theorem h71 : Half 71 := fun a b => by
  obtain ⟨s, hs, _⟩ := divide_some (ext a) (ext b)
  exact ⟨s, fun c d hc hd => op71 c d s (by rw [ext_of hc, ext_of hd]; exact hs)⟩
theorem h73 : Half 73 := fun a b => by
  obtain ⟨s, hs, _⟩ := remain_some (ext a) (ext b) (ext_lt a)
  exact ⟨s, fun c d hc hd => op73 c d s (by rw [ext_of hc, ext_of hd]; exact hs)⟩
theorem h72 : Half 72 := fun a b => ⟨_, fun c d hc hd => by rw [op72, hc, hd]⟩
theorem h74 : Half 74 := fun a b => ⟨_, fun c d hc hd => by rw [op74, hc, hd]⟩

theorem ext_w (a : Nat) : wrap64 (ext a : Int) = wrap32 ((a % 4294967296 : Nat) : Int) := by
  unfold ext wrap64 wrap32; split <;> omega
theorem low_of (z : Int) (d : Nat) (h : IntKind.u64.wrap z = (d : Int)) : d % 4294967296 = (z % 4294967296).toNat % 4294967296 := by
  rw [IntKind.wrap_u64] at h; omega
theorem m35 (a b : Nat) : (a + b) % 18446744073709551616 % 4294967296 = (a + b) % 4294967296 := by omega
theorem m36 (a b : Nat) (hb : b < 18446744073709551616) : (a + (18446744073709551616 - b)) % 18446744073709551616 % 4294967296 = (a + (4294967296 - b % 4294967296)) % 4294967296 := by omega
theorem m62 (x : Nat) : x % 18446744073709551616 % 4294967296 = x % 4294967296 := by omega
theorem m64 (b : Nat) : b % 32 % 64 = b % 32 := by omega
theorem m37 (a p : Nat) : a * p % 18446744073709551616 % 4294967296 = a % 4294967296 * p % 4294967296 % 4294967296 := by
  have q : a % 4294967296 * p % 4294967296 = a * p % 4294967296 := Nat.mod_mul_mod ..
  rw [q]; generalize a * p = x; omega
def wordsL : List Int := [45, 46, 47, 48, 49, 70, 71, 72, 73, 74]
section
variable (a b : Nat) (ha : a < 18446744073709551616) (hb : b < 18446744073709551616)
theorem h_step (ha : a < 18446744073709551616) (hb : b < 18446744073709551616) (k i : Nat) (w x y z : Int) (hi : i < 10) (hw : rd wordsL (i : Int) = w) (h : Half w) :
    anvillaw01_ArithHalves.l0 (k + 1) 4294967295 wordsL (i : Int) x (a : Int) (b : Int) y z = anvillaw01_ArithHalves.l0 k 4294967295 wordsL ((i + 1 : Nat) : Int) x (a : Int) (b : Int) y z := by
  have l1 : wordsL.length = 10 := rfl
  obtain ⟨s, hs⟩ := h a b
  obtain ⟨c, hc, hcm⟩ := half_none b hb
  have e1 := hs a b rfl rfl
  have e2 := hs (ext a) (ext b) (ext_mod a) (ext_mod b)
  have e3 := hs (a % 4294967296) c (by omega) hcm
  have e4 := half_f (ext s) (ext_lt s)
  rw [ext_ext] at e4
  simp only [anvillaw01_ArithHalves.l0]
  rw [l1, hw, hc, and_low a ha, if_pos (by omega), if_pos (by omega)]
  simp only [e1, e2, e3, e4, half_f a ha, half_f b hb, Option.bind_some, if_true]
  rw [w64_succ i (by omega)]
end

theorem ArithHalves (a0 a1 a2 a3 a4 : Int) (b0 : -9223372036854775808 ≤ a0) (c0 : a0 ≤ 9223372036854775807) (b1 : 0 ≤ a1) (c1 : a1 ≤ 18446744073709551615) (b2 : 0 ≤ a2) (c2 : a2 ≤ 18446744073709551615) (b3 : -9223372036854775808 ≤ a3) (c3 : a3 ≤ 9223372036854775807) (b4 : -9223372036854775808 ≤ a4) (c4 : a4 ≤ 9223372036854775807) : ∃ k, anvillaw01_ArithHalves.f k a0 a1 a2 a3 a4 = some true := by
  obtain ⟨a, rfl⟩ := Int.eq_ofNat_of_zero_le b1
  obtain ⟨b, rfl⟩ := Int.eq_ofNat_of_zero_le b2
  have ha : a < 18446744073709551616 := by omega
  have hb : b < 18446744073709551616 := by omega
  have la := ext_lt a
  have lb := ext_lt b
  have l32 : b % 32 < 18446744073709551616 := by omega
  have la2 : a % 4294967296 < 18446744073709551616 := by omega
  have lmod : ∀ x : Nat, x % 18446744073709551616 < 18446744073709551616 := fun x => Nat.mod_lt _ (by decide)
  -- sums, differences, products
  have s45 := op45 a b
  have s35 := op35 a b ha hb
  have f35 := half_f _ (lmod (a + b))
  rw [ext_of (m35 a b)] at f35
  have s46 := op46 a b
  have s36 := op36 a b ha hb
  have f36 := half_f _ (lmod (a + (18446744073709551616 - b)))
  rw [ext_of (m36 a b hb)] at f36
  have s70 := op70 a b
  have s62 := op62 a b ha hb
  have f62 := half_f _ (lmod (a * b))
  rw [ext_of (m62 (a * b))] at f62
  -- moves
  have s47 := op47 a b
  have s37 := op37 a (b % 32) ha l32
  rw [m64] at s37
  have f37 := half_f _ (lmod (a * 2 ^ (b % 32)))
  rw [ext_of (m37 a (2 ^ (b % 32)))] at f37
  have s48 := op48 a b
  have s41 := op41 (a % 4294967296) (b % 32) la2 l32
  rw [m64] at s41
  have f41 := half_f (a % 4294967296 / 2 ^ (b % 32)) (Nat.lt_of_le_of_lt (Nat.div_le_self _ _) la2)
  have s49 := op49 a b
  have s42 := op42 (ext a) (b % 32) la l32
  rw [m64] at s42
  obtain ⟨d42, hd42, ld42⟩ := u64_some (wrap64 (ext a : Int) / ((2 ^ (b % 32) : Nat) : Int))
  rw [hd42] at s42
  have f42 := half_f d42 ld42
  have x42 : d42 % 4294967296 = sra32 a b % 4294967296 := by
    rw [ext_w] at hd42
    exact low_of _ _ hd42
  rw [ext_of x42] at f42
  -- quotients
  obtain ⟨d66, h66, l66⟩ := divide_some (ext a) (ext b)
  have s71 := op71 a b d66 h66
  have s66 := op66d _ _ _ h66
  have f66 := half_f d66 l66
  obtain ⟨d68, h68, l68⟩ := remain_some (ext a) (ext b) la
  have s73 := op73 a b d68 h68
  have s68 := op68d _ _ _ h68
  have f68 := half_f d68 l68
  have s72 := op72 a b
  have s67 := op67u (a % 4294967296) (b % 4294967296) la2
  have f67 := half_f (divU (a % 4294967296) (b % 4294967296)) (divU_lt _ _ la2)
  have s74 := op74 a b
  have s69 := op69u (a % 4294967296) (b % 4294967296)
  have f69 := half_f (remU (a % 4294967296) (b % 4294967296)) (remU_lt _ _ la2)
  have hA := half_f a ha
  have hB := half_f b hb
  have g31 := and31u b hb
  have gl := and_low a ha
  have gm := and_low b hb
  have j3 : ∀ k, anvillaw01_ArithHalves.j3 (k + 1) 4294967295 false a0 (a : Int) (b : Int) a3 a4 = some true := fun k => by
    simp only [anvillaw01_ArithHalves.j3, Bool.false_eq_true, if_false, gl, gm, s72, s67, f67, s74, s69, f69, Option.bind_some, if_true, beq_self_eq_true]
  have j2 : ∀ k, anvillaw01_ArithHalves.j2 (k + 2) 4294967295 false a0 (a : Int) (b : Int) a3 a4 = some true := fun k => by
    simp only [anvillaw01_ArithHalves.j2]
    rw [if_neg (by decide)]
    rw [s71, Option.bind_some]
    rw [hA, Option.bind_some]
    rw [hB, Option.bind_some]
    rw [s66, Option.bind_some]
    rw [f66, Option.bind_some]
    rw [if_pos rfl]
    rw [s73, Option.bind_some, Option.bind_some, Option.bind_some]
    rw [s68, Option.bind_some]
    rw [f68, Option.bind_some]
    rw [bne_self_eq_false]
    exact j3 k
  have j1 : ∀ k, anvillaw01_ArithHalves.j1 (k + 3) 4294967295 false a0 (a : Int) (b : Int) a3 a4 = some true := fun k => by
    simp only [anvillaw01_ArithHalves.j1]
    rw [if_neg (by decide)]
    rw [g31, gl]
    rw [s47, Option.bind_some]
    rw [s37, Option.bind_some]
    rw [f37, Option.bind_some]
    rw [if_pos rfl]
    rw [s48, Option.bind_some]
    rw [s41, Option.bind_some]
    rw [f41, Option.bind_some]
    rw [if_pos rfl]
    rw [s49, Option.bind_some]
    rw [hA, Option.bind_some]
    rw [s42, Option.bind_some]
    rw [f42, Option.bind_some]
    rw [bne_self_eq_false]
    exact j2 k
  have fin : ∀ k, anvillaw01_ArithHalves.l0 (k + 4) 4294967295 wordsL ((10 : Nat) : Int) a0 (a : Int) (b : Int) a3 a4 = some true := fun k => by
    have l1 : wordsL.length = 10 := rfl
    simp only [anvillaw01_ArithHalves.l0]
    rw [l1, if_neg (by omega)]
    rw [live_true, Option.bind_some, if_pos rfl]
    rw [s45, Option.bind_some]
    rw [s35, Option.bind_some]
    rw [f35, Option.bind_some]
    rw [if_pos rfl]
    rw [s46, Option.bind_some]
    rw [s36, Option.bind_some]
    rw [f36, Option.bind_some]
    rw [if_pos rfl]
    rw [s70, Option.bind_some]
    rw [s62, Option.bind_some]
    rw [f62, Option.bind_some]
    rw [bne_self_eq_false]
    exact j1 k
  refine ⟨14, ?_⟩
  show anvillaw01_ArithHalves.l0 (13 + 1) 4294967295 wordsL ((0 : Nat) : Int) a0 (a : Int) (b : Int) a3 a4 = some true
  rw [h_step a b ha hb 13 0 45 _ _ _ (by decide) (by decide) h45]
  rw [h_step a b ha hb 12 1 46 _ _ _ (by decide) (by decide) h46]
  rw [h_step a b ha hb 11 2 47 _ _ _ (by decide) (by decide) h47]
  rw [h_step a b ha hb 10 3 48 _ _ _ (by decide) (by decide) h48]
  rw [h_step a b ha hb 9 4 49 _ _ _ (by decide) (by decide) h49]
  rw [h_step a b ha hb 8 5 70 _ _ _ (by decide) (by decide) h70]
  rw [h_step a b ha hb 7 6 71 _ _ _ (by decide) (by decide) h71]
  rw [h_step a b ha hb 6 7 72 _ _ _ (by decide) (by decide) h72]
  rw [h_step a b ha hb 5 8 73 _ _ _ (by decide) (by decide) h73]
  rw [h_step a b ha hb 4 9 74 _ _ _ (by decide) (by decide) h74]
  exact fin 0
end Go.Proofs.YtdjppkffmeccoaaDoor.Pure
