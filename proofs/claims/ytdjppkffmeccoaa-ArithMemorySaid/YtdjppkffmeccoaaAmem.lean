/- Take and Put, their plain parts. No condition. -/
import Derived.Test.YtdjppkffmeccoaaAbase
namespace Go.Proofs.Ytdjppkffmeccoaa.BW
open Go.RowKit
set_option linter.unusedVariables false
set_option linter.unusedSimpArgs false
theorem leOf_leVal : ∀ l : List Int, Byts l → leOf (leVal l) l.length = l
  | [], _ => rfl
  | b :: r, h => by
    have hb := h b (by simp)
    rw [leVal, List.length_cons, leOf, show (b + 256 * leVal r) % 256 = b by omega, show (b + 256 * leVal r) / 256 = leVal r by omega, leOf_leVal r (fun n hn => h n (by simp [hn]))]
theorem leOf_byts : ∀ (n : Nat) (v : Int), Byts (leOf v n)
  | 0, v => by intro x hx; simp [leOf] at hx
  | n + 1, v => by
    intro x hx
    rw [leOf] at hx
    rcases List.mem_cons.mp hx with rfl | hx
    · omega
    · exact leOf_byts n _ x hx
/-- How many bytes Put makes. -/
def putN (size : Int) : Nat := (min (max size 0) 8).toNat
theorem putN_le (size : Int) : putN size ≤ 8 := by unfold putN; omega
def putL (v size : Int) : List Int := leOf v (putN size)
theorem putL_len (v size : Int) : (putL v size).length = putN size := leOf_length v _
theorem putL_byts (v size : Int) : Byts (putL v size) := leOf_byts _ v
def takeV (l : List Int) : Int := leVal (l.take 8)
theorem takeV_bd (l : List Int) (h : Byts l) : 0 ≤ takeV l ∧ takeV l ≤ 18446744073709551615 := by
  have h1 := leVal_bd (l.take 8) (fun n hn => h n (List.mem_of_mem_take hn))
  have h2 : (l.take 8).length ≤ 8 := by rw [List.length_take]; omega
  have h3 : ∀ n : Nat, n < 9 → (256 : Int) ^ n ≤ 18446744073709551616 := by decide
  have h4 := h3 (l.take 8).length (by omega)
  unfold takeV
  omega
theorem put_take (l : List Int) (h : Byts l) (hl : l.length ≤ 8) : putL (takeV l) l.length = l := by
  unfold putL takeV
  rw [List.take_of_length_le hl, show putN (l.length : Int) = l.length by unfold putN; omega]
  exact leOf_leVal l h
theorem take_put (v size : Int) (h : 8 ≤ size) (v0 : 0 ≤ v) (v1 : v ≤ 18446744073709551615) : takeV (putL v size) = v := by
  unfold putL takeV
  rw [show putN size = 8 by unfold putN; omega, List.take_of_length_le (by rw [leOf_length]; omega), leVal_leOf]
  exact Int.emod_eq_of_lt v0 (by show v < 18446744073709551616; omega)
def marks : List Int := (List.range 64).map fun (i : Nat) => 200 + (i : Int) % 7
theorem marks_len : marks.length = 64 := by simp [marks]
theorem marks_byts : Byts marks := by
  intro x hx
  simp only [marks, List.mem_map] at hx
  obtain ⟨i, _, rfl⟩ := hx
  omega
theorem marks_get (i : Nat) (h : i < 64) : marks[i]? = some (200 + (i : Int) % 7) := by simp [marks, h]
/-- The first k bytes turned. -/
def flipL (l : List Int) (k : Nat) : List Int := (l.take k).map (255 - ·) ++ l.drop k
theorem flipL_zero (l : List Int) : flipL l 0 = l := by simp [flipL]
theorem flipL_len (l : List Int) (k : Nat) : (flipL l k).length = l.length := by simp [flipL]; omega
theorem flipL_at (l : List Int) (k : Nat) : (flipL l k)[k]? = l[k]? := by
  unfold flipL
  by_cases h : k ≤ l.length
  · rw [List.getElem?_append_right (by simp; omega), List.getElem?_drop]
    congr 1; simp; omega
  · rw [List.getElem?_eq_none (by simp; omega), List.getElem?_eq_none (by omega)]
theorem flipL_set (l : List Int) (k : Nat) (x : Int) (hx : l[k]? = some x) : (flipL l k).set k (255 - x) = flipL l (k + 1) := by
  have hk : k < l.length := (List.getElem?_eq_some_iff.mp hx).1
  have hxe : l[k] = x := (List.getElem?_eq_some_iff.mp hx).2
  apply List.ext_getElem?
  intro i
  rw [List.getElem?_set]
  unfold flipL
  by_cases h1 : k = i
  · subst h1
    rw [if_pos rfl, if_pos (by simp; omega), List.getElem?_append_left (by simp; omega)]
    simp [hx]
  · rw [if_neg h1]
    by_cases h2 : i < k
    · rw [List.getElem?_append_left (by simp; omega), List.getElem?_append_left (by simp; omega)]
      simp [List.getElem?_take, h2, show i < k + 1 by omega]
    · rw [List.getElem?_append_right (by simp; omega), List.getElem?_append_right (by simp; omega), List.getElem?_drop, List.getElem?_drop]
      congr 1; simp; omega
theorem flipL_byts (l : List Int) (k : Nat) (h : Byts l) : Byts (flipL l k) := by
  intro x hx
  simp only [flipL, List.mem_append, List.mem_map] at hx
  rcases hx with ⟨y, hy, rfl⟩ | hx
  · have := h y (List.mem_of_mem_take hy); omega
  · exact h x (List.mem_of_mem_drop hx)
end Go.Proofs.Ytdjppkffmeccoaa.BW
