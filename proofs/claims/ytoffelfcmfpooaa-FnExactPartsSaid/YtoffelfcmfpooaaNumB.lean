/-
  Var and Fixed (impl and spec) as plain functions on numbers. Conditions: none.
-/
import Derived.Test.YtoffelfcmfpooaaNum
namespace Go.Proofs.Ytoffelfcmfpooaa
open Go.RowKit

def varL (n : Nat) : List UInt8 := if n < 128 then [UInt8.ofNat n] else UInt8.ofNat (128 + n % 128) :: varL (n / 128)
termination_by n
decreasing_by omega
theorem varL_lt {n : Nat} (h : n < 128) : varL n = [UInt8.ofNat n] := by rw [varL, if_pos h]
theorem varL_ge {n : Nat} (h : ¬ n < 128) : varL n = UInt8.ofNat (128 + n % 128) :: varL (n / 128) := by rw [varL, if_neg h]
theorem varL_length : ∀ (k n : Nat), n < 128 ^ (k + 1) → (varL n).length ≤ k + 1
  | 0, n, h => by rw [varL_lt (by omega)]; simp
  | k + 1, n, h => by
    by_cases hn : n < 128
    · rw [varL_lt hn]; simp
    · rw [varL_ge hn, List.length_cons]
      have := varL_length k (n / 128) (by rw [Nat.pow_succ] at h; omega)
      omega
theorem varL_length7 {n : Nat} (h : n ≤ 562949953421311) : (varL n).length ≤ 7 := varL_length 6 n (by omega)
def varF (n : Int) : List UInt8 := if 0 ≤ n ∧ n ≤ 562949953421311 then varL n.toNat else []
theorem varF_nat {n : Nat} (h : n ≤ 562949953421311) : varF (n : Int) = varL n := by rw [varF, if_pos (by omega)]; simp
theorem varF_length (n : Int) : (varF n).length ≤ 7 := by
  unfold varF
  split
  · exact varL_length7 (by omega)
  · simp
theorem byte_of {x : Int} {n : Nat} (h : x = (n : Int)) (h2 : n < 256) : Value.int .u8 x = u8v (UInt8.ofNat n) := by
  subst h
  simp only [u8v, UInt8.toNat_ofNat']
  congr 2
  omega

theorem one1 {v : Value} (h : v.oneCell' = true) : ∀ u ∈ #[v].toList, u.oneCell' = true := by
  intro u hu
  simp only [List.mem_singleton] at hu
  rw [hu]
  exact h
theorem own_snoc {w : World} {base : Nat} {e : TypeId} {v : Value} {acc : List UInt8} {x : Int} (h : w.ownsRow base e 1 v (acc.length + 1) (acc.map u8v ++ #[Value.int .u8 x].toList)) (b : UInt8) (hx : x = (b.toNat : Int)) :
    w.ownsRow base e 1 v (acc ++ [b]).length ((acc ++ [b]).map u8v) := by
  subst hx
  rw [List.map_append, List.length_append]
  exact h
theorem ofNat_toNat {n : Nat} (h : n < 256) : (((UInt8.ofNat n).toNat : Nat) : Int) = (n : Int) := by
  rw [UInt8.toNat_ofNat']
  omega

theorem or_128 (a : Nat) (h : a < 128) : bits .or .i64 (a : Int) 128 = ((128 + a : Nat) : Int) := by
  rw [show (128 : Int) = ((128 : Nat) : Int) from rfl, i64_or_nat a 128 (by omega) (by omega)]
  congr 1
  have h1 := Nat.two_pow_add_eq_or_of_lt (i := 7) (b := a) (by omega) 1
  rw [Nat.or_comm]
  simpa using h1.symm




























































































end Go.Proofs.Ytoffelfcmfpooaa
