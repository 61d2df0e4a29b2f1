/- What the operations of two registers answer, on numbers. -/
import Derived.Test.YtdjppkffmeccoaaDoorPLx1
import Derived.Test.YtdjppkffmeccoaaDoorMth
set_option linter.unusedVariables false
set_option linter.unusedSimpArgs false
namespace Go.Proofs.YtdjppkffmeccoaaDoor.Pure
open Go.RowKit Go.Proofs.YtdjppkffmeccoaaDoorW.PrintWords Go.Proofs.YtdjppkffmeccoaaDoorW.PrintMore Mth PC PL

theorem p64 : (2 : Nat) ^ 64 = 18446744073709551616 := by decide
theorem p32 : (2 : Nat) ^ 32 = 4294967296 := by decide
theorem p63 : (2 : Nat) ^ (64 - 1) = 9223372036854775808 := by decide
theorem p31 : (2 : Nat) ^ (32 - 1) = 2147483648 := by decide
theorem i64p : (2 : Int) ^ 64 = 18446744073709551616 := by decide
theorem i32p : (2 : Int) ^ 32 = 4294967296 := by decide

/-- An operation of two registers, by its row. -/
theorem op_of (k t : Int) (a b r : Int) (h1 : creg k = t) (h2 : known t = true) (h : cop t a b = some r) : anvillaw01_op.f k a b = some r := by
  unfold anvillaw01_op.f arith_Compute.f
  rw [h1, if_pos h2, h]
  simp
theorem imm_pair (f t a b : Int) (h : creg f = creg t) : anvillaw01_op.f f a b = anvillaw01_op.f t a b := by
  unfold anvillaw01_op.f arith_Compute.f
  rw [h]
theorem live_true : anvillaw01_live.f = some true := by decide +kernel

theorem and63 (b : Nat) (hb : b < 18446744073709551616) : Go.bits .and .u64 (b : Int) 63 = ((b % 64 : Nat) : Int) := by
  have := bits_mask .u64 64 (by decide) (fun n h0 h1 => by rw [IntKind.wrap_u64]; omega) 6 (by omega) (b : Int) (by omega) (by omega)
  simpa using this
theorem and31 (b : Nat) (hb : b < 4294967296) : Go.bits .and .u32 (b : Int) 31 = ((b % 32 : Nat) : Int) := by
  have := bits_mask .u32 32 (by decide) (fun n h0 h1 => by rw [IntKind.wrap_u32]; omega) 5 (by omega) (b : Int) (by omega) (by omega)
  simpa using this

theorem op35 (a b : Nat) (ha : a < 18446744073709551616) (hb : b < 18446744073709551616) : anvillaw01_op.f 35 (a : Int) (b : Int) = some (((a + b) % 18446744073709551616 : Nat) : Int) :=
  op_of 35 35 _ _ _ (by decide) (by decide) (by show arith_rows_1.f _ _ = _; unfold arith_rows_1.f; rw [← Int.natCast_add, u64_any])
theorem op36 (a b : Nat) (ha : a < 18446744073709551616) (hb : b < 18446744073709551616) : anvillaw01_op.f 36 (a : Int) (b : Int) = some (((a + (18446744073709551616 - b)) % 18446744073709551616 : Nat) : Int) :=
  op_of 36 36 _ _ _ (by decide) (by decide) (by show arith_rows_2.f _ _ = _; unfold arith_rows_2.f; congr 1; rw [IntKind.wrap_u64]; omega)
theorem op37 (a b : Nat) (ha : a < 18446744073709551616) (hb : b < 18446744073709551616) : anvillaw01_op.f 37 (a : Int) (b : Int) = some ((a * 2 ^ (b % 64) % 18446744073709551616 : Nat) : Int) :=
  op_of 37 37 _ _ _ (by decide) (by decide) (by
    show arith_rows_3.f _ _ = _
    unfold arith_rows_3.f
    rw [and63 b hb, if_pos (by omega)]
    congr 1
    have e : shl .u64 (a : Int) ((b % 64 : Nat) : Int) = IntKind.u64.wrap ((a * 2 ^ (b % 64) : Nat) : Int) := by
      unfold shl
      rw [Int.toNat_natCast, Nat.min_eq_left (by simp [IntKind.bits]; omega)]; simp
    rw [e, u64_any])
theorem op41 (a b : Nat) (ha : a < 18446744073709551616) (hb : b < 18446744073709551616) : anvillaw01_op.f 41 (a : Int) (b : Int) = some ((a / 2 ^ (b % 64) : Nat) : Int) :=
  op_of 41 41 _ _ _ (by decide) (by decide) (by
    show arith_rows_4.f _ _ = _
    unfold arith_rows_4.f
    rw [and63 b hb, if_pos (by omega), shr_nat, Nat.min_eq_left (by omega)])
theorem op42 (a b : Nat) (ha : a < 18446744073709551616) (hb : b < 18446744073709551616) : anvillaw01_op.f 42 (a : Int) (b : Int) = some (IntKind.u64.wrap (wrap64 (a : Int) / ((2 ^ (b % 64) : Nat) : Int))) :=
  op_of 42 42 _ _ _ (by decide) (by decide) (by
    show arith_rows_5.f _ _ = _
    unfold arith_rows_5.f
    rw [and63 b hb, if_pos (by omega)]
    congr 2
    unfold shr
    rw [Int.toNat_natCast, Nat.min_eq_left (by simp [IntKind.bits]; omega)]; simp)
theorem op38 (a b : Nat) (ha : a < 18446744073709551616) (hb : b < 18446744073709551616) : anvillaw01_op.f 38 (a : Int) (b : Int) = some (if wrap64 (a : Int) < wrap64 (b : Int) then 1 else 0) :=
  op_of 38 38 _ _ _ (by decide) (by decide) (by
    show arith_rows_6.f _ _ = _
    unfold arith_rows_6.f arith_truth.f
    by_cases h : wrap64 (a : Int) < wrap64 (b : Int) <;> simp [h])
theorem op39 (a b : Nat) (ha : a < 18446744073709551616) (hb : b < 18446744073709551616) : anvillaw01_op.f 39 (a : Int) (b : Int) = some (if a < b then 1 else 0) :=
  op_of 39 39 _ _ _ (by decide) (by decide) (by
    show arith_rows_7.f _ _ = _
    unfold arith_rows_7.f arith_truth.f
    by_cases h : a < b <;> simp [h])
theorem op40 (a b : Nat) (ha : a < 18446744073709551616) (hb : b < 18446744073709551616) : anvillaw01_op.f 40 (a : Int) (b : Int) = some ((a ^^^ b : Nat) : Int) :=
  op_of 40 40 _ _ _ (by decide) (by decide) (by show arith_rows_8.f _ _ = _; unfold arith_rows_8.f; rw [bits_xor a b ha hb])
theorem op43 (a b : Nat) (ha : a < 18446744073709551616) (hb : b < 18446744073709551616) : anvillaw01_op.f 43 (a : Int) (b : Int) = some ((a ||| b : Nat) : Int) :=
  op_of 43 43 _ _ _ (by decide) (by decide) (by show arith_rows_9.f _ _ = _; unfold arith_rows_9.f; rw [bits_or a b ha hb])
theorem op44 (a b : Nat) (ha : a < 18446744073709551616) (hb : b < 18446744073709551616) : anvillaw01_op.f 44 (a : Int) (b : Int) = some ((a &&& b : Nat) : Int) :=
  op_of 44 44 _ _ _ (by decide) (by decide) (by show arith_rows_10.f _ _ = _; unfold arith_rows_10.f; rw [bits_and a b ha hb])
theorem op62 (a b : Nat) (ha : a < 18446744073709551616) (hb : b < 18446744073709551616) : anvillaw01_op.f 62 (a : Int) (b : Int) = some ((a * b % 18446744073709551616 : Nat) : Int) :=
  op_of 62 62 _ _ _ (by decide) (by decide) (by show arith_rows_16.f _ _ = _; unfold arith_rows_16.f; rw [← Int.natCast_mul, u64_any])

theorem mod32 (a : Nat) : (a : Int) % 4294967296 = ((a % 4294967296 : Nat) : Int) := by omega
/-- The lower half, its sign widened. -/
def ext (v : Nat) : Nat := if v % 4294967296 < 2147483648 then v % 4294967296 else v % 4294967296 + 18446744069414584320
theorem ext_lt (v : Nat) : ext v < 18446744073709551616 := by unfold ext; split <;> omega
theorem ext_mod (v : Nat) : ext v % 4294967296 = v % 4294967296 := by unfold ext; split <;> omega
theorem ext_of {a b : Nat} (h : a % 4294967296 = b % 4294967296) : ext a = ext b := by unfold ext; rw [h]
theorem signed_ext (v : Nat) (h : v < 4294967296) : PC.arith_signed.f (v : Int) = some (ext v : Int) := by
  unfold PC.arith_signed.f ext
  congr 1
  rw [IntKind.wrap_u64]
  unfold wrap64 wrap32
  split <;> omega
/-- An operation of halves, by its row. -/
theorem cop_half {f : Int → Int → Option Int} {a b : Nat} (s : Nat) (hs : s < 4294967296) (h : f ((a % 4294967296 : Nat) : Int) ((b % 4294967296 : Nat) : Int) = some (s : Int)) :
    ((f ((a : Int) % 4294967296) ((b : Int) % 4294967296)).bind fun s => PC.arith_signed.f s) = some (ext s : Int) := by
  rw [mod32, mod32, h]
  exact signed_ext s hs

theorem op45 (a b : Nat) : anvillaw01_op.f 45 (a : Int) (b : Int) = some (ext (a + b) : Int) :=
  op_of 45 45 _ _ _ (by decide) (by decide) ((cop_half (f := arith_rows_11.f) ((a + b) % 4294967296) (by omega) (by unfold arith_rows_11.f; congr 1; omega)).trans (by rw [ext_of (show (a + b) % 4294967296 % 4294967296 = (a + b) % 4294967296 by omega)]))
theorem op46 (a b : Nat) : anvillaw01_op.f 46 (a : Int) (b : Int) = some (ext (a + (4294967296 - b % 4294967296)) : Int) :=
  op_of 46 46 _ _ _ (by decide) (by decide) ((cop_half (f := arith_rows_12.f) ((a + (4294967296 - b % 4294967296)) % 4294967296) (by omega) (by unfold arith_rows_12.f; congr 1; omega)).trans (by rw [ext_of (show (a + (4294967296 - b % 4294967296)) % 4294967296 % 4294967296 = (a + (4294967296 - b % 4294967296)) % 4294967296 by omega)]))
theorem op47 (a b : Nat) : anvillaw01_op.f 47 (a : Int) (b : Int) = some (ext (a % 4294967296 * 2 ^ (b % 32) % 4294967296) : Int) :=
  op_of 47 47 _ _ _ (by decide) (by decide) (cop_half (f := arith_rows_13.f) (a % 4294967296 * 2 ^ (b % 32) % 4294967296) (Nat.mod_lt _ (by decide)) (by
    unfold arith_rows_13.f
    rw [and31 _ (Nat.mod_lt _ (by decide)), if_pos (by omega), show b % 4294967296 % 32 = b % 32 from by omega]
    congr 1
    have e : shl .u32 ((a % 4294967296 : Nat) : Int) ((b % 32 : Nat) : Int) = IntKind.u32.wrap ((a % 4294967296 * 2 ^ (b % 32) : Nat) : Int) := by
      unfold shl
      rw [Int.toNat_natCast, Nat.min_eq_left (by simp [IntKind.bits]; omega)]; simp
    rw [e, IntKind.wrap_u32]
    generalize a % 4294967296 * 2 ^ (b % 32) = x
    omega))
theorem op48 (a b : Nat) : anvillaw01_op.f 48 (a : Int) (b : Int) = some (ext (a % 4294967296 / 2 ^ (b % 32)) : Int) :=
  op_of 48 48 _ _ _ (by decide) (by decide) (cop_half (f := arith_rows_14.f) (a % 4294967296 / 2 ^ (b % 32)) (Nat.lt_of_le_of_lt (Nat.div_le_self _ _) (Nat.mod_lt _ (by decide))) (by
    unfold arith_rows_14.f
    rw [and31 _ (Nat.mod_lt _ (by decide)), if_pos (by omega), show b % 4294967296 % 32 = b % 32 from by omega]
    congr 1
    unfold shr
    rw [Int.toNat_natCast, Nat.min_eq_left (by simp [IntKind.bits]; omega)]; simp))
/-- A half moved down, its sign comes in. -/
def sra32 (a b : Nat) : Nat := ((wrap32 ((a % 4294967296 : Nat) : Int) / ((2 ^ (b % 32) : Nat) : Int)) % 4294967296).toNat
theorem op49 (a b : Nat) : anvillaw01_op.f 49 (a : Int) (b : Int) = some (ext (sra32 a b) : Int) :=
  op_of 49 49 _ _ _ (by decide) (by decide) (cop_half (f := arith_rows_15.f) (sra32 a b) (by unfold sra32; omega) (by
    unfold arith_rows_15.f
    rw [and31 _ (Nat.mod_lt _ (by decide)), if_pos (by omega), show b % 4294967296 % 32 = b % 32 from by omega]
    congr 1
    have e : shr .i32 (wrap32 ((a % 4294967296 : Nat) : Int)) ((b % 32 : Nat) : Int) = wrap32 ((a % 4294967296 : Nat) : Int) / ((2 ^ (b % 32) : Nat) : Int) := by
      unfold shr
      rw [Int.toNat_natCast, Nat.min_eq_left (by simp [IntKind.bits]; omega)]; simp
    rw [e]; unfold sra32
    omega))
theorem op70 (a b : Nat) : anvillaw01_op.f 70 (a : Int) (b : Int) = some (ext (a * b) : Int) :=
  op_of 70 70 _ _ _ (by decide) (by decide) ((cop_half (f := arith_rows_20.f) ((a % 4294967296) * (b % 4294967296) % 4294967296) (Nat.mod_lt _ (by decide)) (by unfold arith_rows_20.f; congr 1)).trans (by rw [ext_of (show a % 4294967296 * (b % 4294967296) % 4294967296 % 4294967296 = a * b % 4294967296 by rw [Nat.mod_mod, ← Nat.mul_mod])]))
end Go.Proofs.YtdjppkffmeccoaaDoor.Pure
