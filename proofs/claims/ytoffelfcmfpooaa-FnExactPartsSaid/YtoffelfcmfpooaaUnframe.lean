/-
  Unframe (impl and spec) as one plain function. Conditions: a string of at most 2^40 bytes.
-/
import Derived.Test.YtoffelfcmfpooaaScan
namespace Go.Proofs.Ytoffelfcmfpooaa
open Go.RowKit

theorem readVarF_hit (l : List UInt8) (h : ¬ (readVarF l).2 = 0) : varF ((readVarF l).1 : Int) = l.take (readVarF l).2 := by
  have : ∀ f k, ¬ (rvFrom l f k).2 = 0 → varF ((rvFrom l f k).1 : Int) = l.take (rvFrom l f k).2 := by
    intro f
    induction f with
    | zero => intro k hk; simp [rvFrom] at hk
    | succ f ih =>
      intro k hk
      rw [rvFrom] at hk ⊢
      split at hk
      · rename_i h1
        rw [if_pos h1]
        split at hk
        · rename_i h2
          rw [if_pos h2]
          exact of_decide_eq_true h2
        · rename_i h2
          rw [if_neg h2]
          exact ih _ hk
      · simp at hk
  exact this 7 1 h
def frameBad (s : List UInt8) : Bool :=
  (scanText (s.drop 4) false).2.2 || (frameL (scanText (s.drop 4) false).1).isEmpty || decide (s.length < (frameL (scanText (s.drop 4) false).1).length) || !(s.take (frameL (scanText (s.drop 4) false).1).length == frameL (scanText (s.drop 4) false).1)
def frame1 (s : List UInt8) : Option (List UInt8) := if s.length < 5 then none else if frameBad s then none else some (scanText (s.drop 4) false).1
theorem frame1_some {s t : List UInt8} (h : frame1 s = some t) : t = (scanText (s.drop 4) false).1 ∧ 5 ≤ s.length ∧ frameL t ≠ [] ∧ (frameL t).length ≤ s.length ∧ s.take (frameL t).length = frameL t := by
  unfold frame1 at h
  split at h
  · cases h
  · rename_i h5
    split at h
    · cases h
    · rename_i hb
      injection h with h
      subst h
      simp only [frameBad, Bool.or_eq_true, Bool.not_eq_true', not_or, Bool.not_eq_true, decide_eq_true_eq, beq_eq_false_iff_ne, ne_eq] at hb
      obtain ⟨⟨⟨h1, h2⟩, h3⟩, h4⟩ := hb
      refine ⟨rfl, by omega, ?_, by omega, ?_⟩
      · intro he
        rw [he] at h2
        simp at h2
      · exact Classical.not_not.1 (by simpa using h4)
theorem frameL_ne {t : List UInt8} (h : frameL t ≠ []) : t.length ≤ 200 ∧ 5 ≤ (frameL t).length := by
  by_cases h2 : t.length ≤ 200
  · refine ⟨h2, ?_⟩
    rw [frameL_length h2]
    have hv : 0 < (varF (t.length : Int)).length := by
      rw [varF_nat (by omega)]
      obtain ⟨xs, b, he, _⟩ := varL_shape t.length
      rw [he]; simp
    omega
  · exact absurd (by rw [frameL, if_neg h2]) h
def unfr : Nat → List UInt8 → List (List UInt8) × Nat
  | 0, _ => ([], 0)
  | f + 1, s => match frame1 s with
    | none => ([], 0)
    | some t => (t :: (unfr f (s.drop (frameL t).length)).1, (frameL t).length + (unfr f (s.drop (frameL t).length)).2)
theorem unfr_none {f : Nat} {s : List UInt8} (h : frame1 s = none) : unfr (f + 1) s = ([], 0) := by rw [unfr, h]
theorem unfr_some {f : Nat} {s t : List UInt8} (h : frame1 s = some t) : unfr (f + 1) s = (t :: (unfr f (s.drop (frameL t).length)).1, (frameL t).length + (unfr f (s.drop (frameL t).length)).2) := by rw [unfr, h]
def unframeL (s : List UInt8) : List (List UInt8) × Nat := unfr (s.length + 1) s
def strv (l : List UInt8) : Value := .string (bs l)
theorem own_snocS {w : World} {base : Nat} {e : TypeId} {v : Value} {acc : List (List UInt8)} (x : List UInt8) (h : w.ownsRow base e 1 v (acc.length + 1) (acc.map strv ++ #[Value.string (bs x)].toList)) :
    w.ownsRow base e 1 v (acc ++ [x]).length ((acc ++ [x]).map strv) := by
  rw [List.map_append, List.length_append]
  exact h
theorem own_form {w : World} {base : Nat} {e : TypeId} {size : Nat} {v : Value} {n : Nat} {xs : List Value} (h : w.ownsRow base e size v n xs) (hn : 0 < n) : ∃ g c, v = .slice (some ⟨g, 0, none⟩) n c ∧ base ≤ g ∧ g < w.heap.size := by
  rcases h.2 with ⟨_, h0⟩ | ⟨g, cap, cur, hv, hb, hg, _⟩
  · omega
  · exact ⟨g, cap, hv, hb, (Array.getElem?_eq_some_iff.1 hg).1⟩

theorem E_str : Elem Try.prog 25 9 (.string ⟨#[]⟩) 1 16 := ⟨Try.underlying25, by kernel_rfl, rfl, by decide, by decide⟩




























































































































































end Go.Proofs.Ytoffelfcmfpooaa
