/-
  The laws' helpers on slices of strings: marks laid, marks held, two slices alike. Conditions: as each contract names them.
-/
import Derived.Test.YtinacpjelephoaaDec
import Derived.Test.YtinacpjelephoaaUnframe
namespace Go.Proofs.Ytinacpjelephoaa
open Go.RowKit

def markL (k : Nat) : List UInt8 := 109 :: decN k
def marks (k n : Nat) : List (List UInt8) := (List.range n).map fun i => markL (k + i)
theorem marks_length (k n : Nat) : (marks k n).length = n := by simp [marks]
theorem marks_succ (k n : Nat) : marks k (n + 1) = marks k n ++ [markL (k + n)] := by simp [marks, List.range_succ]
theorem marks_get (k n i : Nat) (h : i < n) : (marks k n)[i]? = some (markL (k + i)) := by
  simp [marks, List.getElem?_map, List.getElem?_range h]
theorem Below.grownBy' {w w' : World} (h : Below w.heap.size w w') (r : Option Nat) : w.grownBy w' r := ⟨h.os, h.tape, h.output, h.size, fun i hi _ => h.block i hi⟩
theorem marks_step (k n j : Nat) (xs : List (List UInt8)) (hn : n = xs.length) (h : j < n) :
    ((marks k j ++ xs.drop j).map strv).set j (strv (markL (k + j))) = (marks k (j + 1) ++ xs.drop (j + 1)).map strv := by
  subst hn
  rw [List.map_append, List.set_append_right _ _ (by simp [marks_length]), List.length_map, marks_length, Nat.sub_self, List.drop_eq_getElem_cons h, marks_succ, List.map_cons, List.set_cons_zero, List.append_assoc, List.map_append, List.singleton_append, List.map_cons]
/-- a slice value that holds these cells -/
def SlR (w : World) (size : Nat) (v : Value) (n : Nat) (xs : List Value) : Prop := ∃ A c, v = .slice A n c ∧ Reads w size A n xs
theorem SlR.of_own {w : World} {base size : Nat} {e : TypeId} {v : Value} {n : Nat} {xs : List Value} (h : w.ownsRow base e size v n xs) : SlR w size v n xs := by
  have h2 := h.2
  rcases h2 with ⟨rfl, rfl⟩ | ⟨g, cap, cur, rfl, _⟩
  · exact ⟨none, 0, rfl, Reads.of_own h⟩
  · exact ⟨_, _, rfl, Reads.of_own h⟩
theorem SlR.below {w w' : World} {size : Nat} {v : Value} {n : Nat} {xs : List Value} (h : SlR w size v n xs) (hb : Below w.heap.size w w') : SlR w' size v n xs := by
  obtain ⟨A, c, rfl, h⟩ := h
  exact ⟨A, c, rfl, h.below hb⟩
attribute [local irreducible] markL marks dB




























































































































































































end Go.Proofs.Ytinacpjelephoaa
