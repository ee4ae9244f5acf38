/-
  How many marks a datum takes, by its weight. No condition.
-/
import Derived.Test.YtbdblfpepnoafaaTy
namespace Go.Proofs.Ytbdblfpepnoafaa
open Go.RowKit
theorem cts_const {α : Type} {f : α → Nat} {m : Nat} (h : ∀ x, f x = m) : ∀ xs : List α, cts f xs = m * xs.length
  | [] => by simp [cts]
  | x :: xs => by rw [cts, h, cts_const h xs, List.length_cons, Nat.mul_succ]; omega







end Go.Proofs.Ytbdblfpepnoafaa
