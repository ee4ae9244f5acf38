/-
  How many marks a datum takes, by its weight. No condition.
-/
import Derived.Test.YtifdkjddiohahaaTy
namespace Go.Proofs.Ytifdkjddiohahaa
open Go.RowKit
theorem cts_const {α : Type} {f : α → Nat} {m : Nat} (h : ∀ x, f x = m) : ∀ xs : List α, cts f xs = m * xs.length
  | [] => by simp [cts]
  | x :: xs => by rw [cts, h, cts_const h xs, List.length_cons, Nat.mul_succ]; omega

theorem LogD.cntT_le (x : LogD) : x.cntT ≤ 2 * x.c.wt := by
  have h0 : x.c.wt = x.segs.length + (cat SegD.c x.segs).wt + 0 := rfl
  have h1 : x.cntT = cts SegD.cnt x.segs := rfl
  rw [h1, cts_const (f := SegD.cnt) (m := 2) (fun _ => rfl)]
  omega

end Go.Proofs.Ytifdkjddiohahaa
