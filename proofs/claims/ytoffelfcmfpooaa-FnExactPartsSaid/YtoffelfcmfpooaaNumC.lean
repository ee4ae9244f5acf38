/-
  Fixed and ReadFixed (impl and spec) as plain functions. Conditions: a string's length is an int.
-/
import Derived.Test.YtoffelfcmfpooaaNumB
namespace Go.Proofs.Ytoffelfcmfpooaa
open Go.RowKit

def fixedL : Nat → Nat → List UInt8
  | 0, _ => []
  | k + 1, n => fixedL k (n / 256) ++ [UInt8.ofNat (n % 256)]
theorem fixedL_length : ∀ (k n : Nat), (fixedL k n).length = k
  | 0, _ => rfl
  | k + 1, n => by simp [fixedL, fixedL_length k]
theorem fixedL_top : ∀ (k n : Nat), fixedL (k + 1) (n % 256 ^ (k + 1)) = UInt8.ofNat (n / 256 ^ k % 256) :: fixedL k (n % 256 ^ k) := by
  intro k
  induction k with
  | zero => intro n; simp [fixedL]
  | succ k ih =>
    intro n
    rw [fixedL]
    have a1 : n % 256 ^ (k + 1 + 1) / 256 = (n / 256) % 256 ^ (k + 1) := by
      rw [Nat.pow_succ 256 (k+1), Nat.mul_comm, Nat.mod_mul_right_div_self]
    have a2 : n % 256 ^ (k + 1 + 1) % 256 = n % 256 := by
      rw [Nat.pow_succ 256 (k+1), Nat.mod_mul_left_mod]
    have a3 : n % 256 ^ (k + 1) / 256 = (n / 256) % 256 ^ k := by
      rw [Nat.pow_succ, Nat.mul_comm, Nat.mod_mul_right_div_self]
    have a4 : n % 256 ^ (k + 1) % 256 = n % 256 := by
      rw [Nat.pow_succ, Nat.mod_mul_left_mod]
    rw [a1, a2, ih (n / 256), List.cons_append]
    congr 1
    · rw [Nat.div_div_eq_div_mul, Nat.pow_succ, Nat.mul_comm]
    · rw [fixedL, a3, a4]
theorem fixed_step (j width n : Nat) (h : j + 1 ≤ width) :
    (List.map u8v (List.replicate (j + 1) 0 ++ fixedL (width - (j + 1)) (n % 256 ^ (width - (j + 1))))).set j (.int .u8 ((((n / 256 ^ (width - (j + 1))) % 256 : Nat) : Int))) =
      List.map u8v (List.replicate j 0 ++ fixedL (width - j) (n % 256 ^ (width - j))) := by
  obtain ⟨k, hk⟩ : ∃ k, width = j + 1 + k := ⟨width - (j + 1), by omega⟩
  subst hk
  have e1 : j + 1 + k - (j + 1) = k := by omega
  have e2 : j + 1 + k - j = k + 1 := by omega
  rw [e1, e2, fixedL_top k n]
  rw [List.replicate_succ', List.append_assoc, List.map_append, List.map_append]
  rw [List.set_append_right _ _ (by simp)]
  simp only [List.length_map, List.length_replicate, Nat.sub_self, List.singleton_append, List.map_cons, List.set_cons_zero]
  congr 2
  simp [u8v]
def fixedF (n width : Int) : List UInt8 := if 1 ≤ width ∧ width ≤ 7 ∧ 0 ≤ n ∧ n < 256 ^ width.toNat then fixedL width.toNat n.toNat else []
theorem cast_256 (k : Nat) : ((256 ^ k : Nat) : Int) = (256 : Int) ^ k := Int.natCast_pow 256 k
theorem fixedF_nat {n width : Nat} (h1 : 1 ≤ width) (h2 : width ≤ 7) (h3 : n < 256 ^ width) : fixedF (n : Int) (width : Int) = fixedL width n := by
  have : (n : Int) < 256 ^ width := by rw [← cast_256]; exact Int.ofNat_lt.2 h3
  rw [fixedF, if_pos ⟨by omega, by omega, by omega, by rw [Int.toNat_natCast]; exact this⟩]
  rw [Int.toNat_natCast, Int.toNat_natCast]
theorem fixedF_big {n width : Nat} (h3 : ¬ n < 256 ^ width) : fixedF (n : Int) (width : Int) = [] := by
  have : ¬ ((n : Int) < 256 ^ width) := by rw [← cast_256]; intro h; exact h3 (Int.ofNat_lt.1 h)
  rw [fixedF, if_neg (fun h => this (by have := h.2.2.2; rw [Int.toNat_natCast] at this; exact this))]
theorem pow_le_56 (width : Nat) (h2 : width ≤ 7) : (2:Int)^(8*width) ≤ 72057594037927936 ∧ 1 ≤ (2:Int)^(8*width) := by
  have : width = 0 ∨ width = 1 ∨ width = 2 ∨ width = 3 ∨ width = 4 ∨ width = 5 ∨ width = 6 ∨ width = 7 := by omega
  rcases this with rfl|rfl|rfl|rfl|rfl|rfl|rfl|rfl <;> decide
theorem wrap_pow (width : Nat) (h2 : width ≤ 7) : wrap64 (2^(8*width)) = 2^(8*width) :=
  IntWalk.wrap64_in _ (by have := pow_le_56 width h2; omega)
theorem pow_256 (width : Nat) : ((256 ^ width : Nat) : Int) = 2^(8*width) := by
  rw [Int.pow_mul]; simp






























































































































































attribute [irreducible] fixedF
end Go.Proofs.Ytoffelfcmfpooaa
