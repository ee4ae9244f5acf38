/-
  What slices.Compact leaves of a row of Ids, from its beginning on. Plain.
-/
import Derived.Test.YtbdblfpepnoafaaOrd
namespace Go.Proofs.Ytbdblfpepnoafaa
open Go.RowKit

theorem compactF_cons {a b : IdD} {r : List IdD} : compactF (a :: b :: r) = if a = b then compactF (b :: r) else a :: compactF (b :: r) := by rw [compactF]
theorem compactF_one (a : IdD) : compactF [a] = [a] := by rw [compactF]
theorem compactF_snoc (x y : IdD) : ∀ xs : List IdD, compactF (xs ++ [x, y]) = if x = y then compactF (xs ++ [x]) else compactF (xs ++ [x]) ++ [y]
  | [] => by
    show compactF [x, y] = if x = y then compactF [x] else compactF [x] ++ [y]
    rw [compactF_cons, compactF_one, compactF_one]
    split
    · rename_i h; rw [h]
    · rfl
  | [a] => by
    show compactF [a, x, y] = if x = y then compactF [a, x] else compactF [a, x] ++ [y]
    rw [compactF_cons, compactF_cons (a := a) (b := x) (r := []), compactF_cons (a := x) (b := y) (r := []), compactF_one, compactF_one]
    by_cases h1 : a = x <;> by_cases h2 : x = y <;> simp [h1, h2]
  | a :: b :: r => by
    have ih := compactF_snoc x y (b :: r)
    simp only [List.cons_append] at ih ⊢
    rw [compactF_cons, compactF_cons (a := a), ih]
    by_cases h1 : a = b <;> by_cases h2 : x = y <;> simp [h1, h2]
/-- one element more -/
theorem compactF_take {xs : List IdD} {m : Nat} (h0 : 0 < m) (hm : m < xs.length) : compactF (xs.take (m + 1)) = if xs[m - 1] = xs[m] then compactF (xs.take m) else compactF (xs.take m) ++ [xs[m]] := by
  obtain ⟨k, rfl⟩ : ∃ k, m = k + 1 := ⟨m - 1, by omega⟩
  have h := compactF_snoc xs[k] xs[k + 1] (xs.take k)
  have e1 : xs.take k ++ [xs[k], xs[k + 1]] = xs.take (k + 1 + 1) := by
    have a1 := List.take_succ_eq_append_getElem hm
    have a2 := List.take_succ_eq_append_getElem (show k < xs.length by omega)
    rw [a1, a2, List.append_assoc]
    rfl
  have e2 : xs.take k ++ [xs[k]] = xs.take (k + 1) := (List.take_succ_eq_append_getElem (show k < xs.length by omega)).symm
  rw [e1, e2] at h
  simpa using h
theorem compactF_len : ∀ (xs : List IdD), (compactF xs).length ≤ xs.length
  | [] => by rw [compactF]; exact Nat.le_refl _
  | [a] => by rw [compactF]; exact Nat.le_refl _
  | a :: b :: r => by
    have := compactF_len (b :: r)
    rw [compactF_cons]
    split
    · simp only [List.length_cons] at *; omega
    · simp only [List.length_cons] at *; omega

end Go.Proofs.Ytbdblfpepnoafaa
