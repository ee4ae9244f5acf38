/-
  Frames: what is laid is read back; what a row of frames leaves off may be cut off. Plain.
-/
import Derived.Test.YtifdkjddiohahaaParse
namespace Go.Proofs.Ytifdkjddiohahaa
open Go.RowKit
theorem frameL_eq {t : List UInt8} (h : t.length ≤ 200) : frameL t = fixedL 4 (crcL (sizedL t)) ++ sizedL t := by rw [frameL, if_pos h]
theorem frame1_lay {t x : List UInt8} (h : frameL t ≠ []) : frame1 (frameL t ++ x) = some t := by
  obtain ⟨h200, h5⟩ := frameL_ne h
  have he := frameL_eq h200
  have hd : (frameL t ++ x).drop 4 = sizedL t ++ x := by
    rw [he, List.append_assoc, List.drop_left' (by rw [fixedL_length])]
  have hs := scanText_sized t x (by omega)
  have hne : (frameL t).isEmpty = false := by cases hf : frameL t with | nil => exact absurd hf h | cons _ _ => rfl
  have hb : frameBad (frameL t ++ x) = false := by
    unfold frameBad
    rw [hd, hs]
    simp [hne]
  rw [frame1, if_neg (by simp; omega), hb, hd, hs]
  simp
theorem unfr_nil (f : Nat) : unfr f [] = ([], 0) := by
  cases f with
  | zero => rfl
  | succ f => exact unfr_none (by rw [frame1, if_pos (by simp)])
theorem unfr_end_le : ∀ (f : Nat) (s : List UInt8), (unfr f s).2 ≤ s.length
  | 0, s => by simp [unfr]
  | f + 1, s => by
    cases h : frame1 s with
    | none => rw [unfr_none h]; simp
    | some t =>
      obtain ⟨_, _, _, hle, _⟩ := frame1_some h
      have := unfr_end_le f (s.drop (frameL t).length)
      rw [List.length_drop] at this
      rw [unfr_some h]
      simp only []
      omega
theorem unfr_take : ∀ (f : Nat) (s : List UInt8), unfr f (s.take (unfr f s).2) = unfr f s
  | 0, s => by simp [unfr]
  | f + 1, s => by
    cases h : frame1 s with
    | none => rw [unfr_none h]; simp only [List.take_zero]; exact unfr_nil _
    | some t =>
      obtain ⟨_, _, hne, hle, htk⟩ := frame1_some h
      have ih := unfr_take f (s.drop (frameL t).length)
      have hcut : s.take ((frameL t).length + (unfr f (s.drop (frameL t).length)).2) = frameL t ++ (s.drop (frameL t).length).take (unfr f (s.drop (frameL t).length)).2 := by
        conv => lhs; rw [← List.take_append_drop (frameL t).length s, htk]
        rw [List.take_append, List.take_of_length_le (by omega)]
        simp
      have hE : (unfr (f + 1) s).2 = (frameL t).length + (unfr f (s.drop (frameL t).length)).2 := by rw [unfr_some h]
      rw [hE, hcut, unfr_some (frame1_lay hne), List.drop_left' rfl, ih, unfr_some h]
end Go.Proofs.Ytifdkjddiohahaa
