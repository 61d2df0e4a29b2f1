/- The pure side of ArithWhole: upper and lower half are the product. -/
import Derived.Test.YtdjppkffmeccoaaDoorPLx2
import Derived.Test.YtdjppkffmeccoaaDoorPureOps
set_option linter.unusedVariables false
set_option linter.unusedSimpArgs false
namespace Go.Proofs.YtdjppkffmeccoaaDoor.Pure
open Go.RowKit Go.Proofs.YtdjppkffmeccoaaDoorW.PrintWords Go.Proofs.YtdjppkffmeccoaaDoorW.PrintMore Mth PC PL

/-- The upper half of the product, by the products of halves. -/
def hiOf (a b : Int) : Int := (match anvillaw01_product.f a b with | some (x, _) => x | none => 0)
theorem product_f (a b : Int) : anvillaw01_product.f a b = some (hiOf a b, IntKind.u64.wrap (a * b)) := rfl
/-- Both ways to add up the middle are the same. -/
theorem mul_f (a b : Int) (ha : 0 ≤ a) (hb : 0 ≤ b) : PL.bits_Mul64.f a b = some (hiOf a b, IntKind.u64.wrap (a * b)) := by
  have e : PL.bits_Mul64.f a b = anvillaw01_product.f a b := by
    unfold PL.bits_Mul64.f anvillaw01_product.f
    congr 2
    rw [Int.add_comm (Go.bits .and .u64 (IntKind.u64.wrap ((IntKind.u64.wrap ((a / 4294967296) * (Go.bits .and .u64 b 4294967295))) + ((IntKind.u64.wrap ((Go.bits .and .u64 a 4294967295) * (Go.bits .and .u64 b 4294967295))) / 4294967296))) 4294967295)]
  rw [e, product_f]
theorem mul_c (a b : Int) : PC.bits_Mul64.f a b = PL.bits_Mul64.f a b := rfl

theorem mixed_c (a b : Int) : PC.arith_WideMixed.f a b = PL.arith_WideMixed.f a b := rfl
theorem signed_c (a b : Int) : PC.arith_WideSigned.f a b = PL.arith_WideSigned.f a b := rfl
def mixedOf (a b : Int) : Int := if a / 9223372036854775808 = 1 then IntKind.u64.wrap (hiOf a b - b) else hiOf a b
def signedOf (a b : Int) : Int := if b / 9223372036854775808 = 1 then IntKind.u64.wrap (mixedOf a b - a) else mixedOf a b
theorem mixed_f (a b : Int) (ha : 0 ≤ a) (hb : 0 ≤ b) : PL.arith_WideMixed.f a b = some (mixedOf a b, IntKind.u64.wrap (a * b)) := by
  unfold PL.arith_WideMixed.f mixedOf
  rw [mul_f a b ha hb]
  simp only [Option.bind_some]
  split <;> rfl
theorem signed_f (a b : Int) (ha : 0 ≤ a) (hb : 0 ≤ b) : PL.arith_WideSigned.f a b = some (signedOf a b, IntKind.u64.wrap (a * b)) := by
  unfold PL.arith_WideSigned.f signedOf
  rw [mixed_f a b ha hb]
  simp only [Option.bind_some]
  split <;> rfl
theorem op63 (a b : Int) (ha : 0 ≤ a) (hb : 0 ≤ b) : anvillaw01_op.f 63 a b = some (signedOf a b) :=
  op_of 63 63 _ _ _ (by decide) (by decide) (by
    show arith_rows_17.f a b = _
    unfold arith_rows_17.f
    rw [signed_c, signed_f a b ha hb]; rfl)
theorem op64 (a b : Int) (ha : 0 ≤ a) (hb : 0 ≤ b) : anvillaw01_op.f 64 a b = some (mixedOf a b) :=
  op_of 64 64 _ _ _ (by decide) (by decide) (by
    show arith_rows_18.f a b = _
    unfold arith_rows_18.f
    rw [mixed_c, mixed_f a b ha hb]; rfl)
theorem op65 (a b : Int) (ha : 0 ≤ a) (hb : 0 ≤ b) : anvillaw01_op.f 65 a b = some (hiOf a b) :=
  op_of 65 65 _ _ _ (by decide) (by decide) (by
    show arith_rows_19.f a b = _
    unfold arith_rows_19.f PC.arith_Wide.f
    rw [mul_c, mul_f a b ha hb]; rfl)
theorem op62i (a b : Int) : anvillaw01_op.f 62 a b = some (IntKind.u64.wrap (a * b)) :=
  op_of 62 62 _ _ _ (by decide) (by decide) rfl

theorem ArithWhole (a0 a1 a2 a3 a4 : Int) (b0 : -9223372036854775808 ≤ a0) (c0 : a0 ≤ 9223372036854775807) (b1 : 0 ≤ a1) (c1 : a1 ≤ 18446744073709551615) (b2 : 0 ≤ a2) (c2 : a2 ≤ 18446744073709551615) (b3 : -9223372036854775808 ≤ a3) (c3 : a3 ≤ 9223372036854775807) (b4 : -9223372036854775808 ≤ a4) (c4 : a4 ≤ 9223372036854775807) : ∃ k, anvillaw01_ArithWhole.f k a0 a1 a2 a3 a4 = some true := by
  have p := product_f a1 a2
  have m := mul_f a1 a2 b1 b2
  have o65 := op65 a1 a2 b1 b2
  have o64 := op64 a1 a2 b1 b2
  have o63 := op63 a1 a2 b1 b2
  have o62 := op62i a1 a2
  have wm := mixed_f a1 a2 b1 b2
  have ws := signed_f a1 a2 b1 b2
  have j3 : ∀ k, anvillaw01_ArithWhole.j3 (k + 1) (mixedOf a1 a2) (signedOf a1 a2) false a0 a1 a2 a3 a4 = some true := fun k => by
    simp only [anvillaw01_ArithWhole.j3, Bool.false_eq_true, if_false, o64, o63, Option.bind_some, if_true]
    simp
  have j2 : ∀ k, anvillaw01_ArithWhole.j2 (k + 2) (IntKind.u64.wrap (a1 * a2)) (mixedOf a1 a2) (signedOf a1 a2) a0 a1 a2 a3 a4 = some true := fun k => by
    simp only [anvillaw01_ArithWhole.j2, wm, ws, Option.bind_some, if_true, bne_self_eq_false]
    exact j3 k
  have j1 : ∀ k, anvillaw01_ArithWhole.j1 (k + 3) (IntKind.u64.wrap (a1 * a2)) (mixedOf a1 a2) a0 a1 a2 a3 a4 = some true := fun k => by
    have h2 := j2 k
    unfold signedOf at h2
    simp only [anvillaw01_ArithWhole.j1, anvillaw01_negative.f, Option.bind_some, beq_iff_eq]
    split
    · rw [if_pos (by assumption)] at h2; exact h2
    · rw [if_neg (by assumption)] at h2; exact h2
  have j0 : ∀ k, anvillaw01_ArithWhole.j0 (k + 4) (hiOf a1 a2) (IntKind.u64.wrap (a1 * a2)) false a0 a1 a2 a3 a4 = some true := fun k => by
    have h1 := j1 k
    unfold mixedOf at h1
    simp only [anvillaw01_ArithWhole.j0, Bool.false_eq_true, if_false, anvillaw01_negative.f, Option.bind_some, beq_iff_eq]
    split
    · rw [if_pos (by assumption)] at h1; exact h1
    · rw [if_neg (by assumption)] at h1; exact h1
  refine ⟨4, ?_⟩
  unfold anvillaw01_ArithWhole.f PL.arith_Wide.f
  simp only [p, m, live_true, o65, o62, Option.bind_some, if_true, bne_self_eq_false]
  exact j0 0
end Go.Proofs.YtdjppkffmeccoaaDoor.Pure
