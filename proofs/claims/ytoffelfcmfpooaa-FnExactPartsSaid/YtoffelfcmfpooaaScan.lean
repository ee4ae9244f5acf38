/-
  The scanner's cut and text, and the reference's l4Vars and l4Take, as plain functions. Conditions: lengths are ints; a list read has at most 2^30 numbers.
-/
import Derived.Test.YtoffelfcmfpooaaFrame
namespace Go.Proofs.Ytoffelfcmfpooaa
open Go.RowKit

theorem scanNum_len (rest : List UInt8) (bad : Bool) : (scanNum rest bad).2.1.length ≤ rest.length ∧ (scanNum rest bad).1 ≤ 562949953421311 := by
  unfold scanNum
  split
  · exact ⟨Nat.le_refl _, by simp⟩
  · exact ⟨by simp, (readVarF_le rest).2.2⟩
def scanText (rest : List UInt8) (bad : Bool) : List UInt8 × List UInt8 × Bool := scanCut (scanNum rest bad).2.1 (scanNum rest bad).2.2 ((scanNum rest bad).1 : Int)
theorem scanCut_len (rest : List UInt8) (bad : Bool) (n : Int) : (scanCut rest bad n).2.1.length ≤ rest.length ∧ (scanCut rest bad n).1.length ≤ rest.length := by
  unfold scanCut
  split
  · exact ⟨Nat.le_refl _, by simp⟩
  · exact ⟨by simp, by simp [List.length_take]; omega⟩
theorem scanText_len (rest : List UInt8) (bad : Bool) : (scanText rest bad).2.1.length ≤ rest.length ∧ (scanText rest bad).1.length ≤ rest.length := by
  have h1 := scanNum_len rest bad
  have h2 := scanCut_len (scanNum rest bad).2.1 (scanNum rest bad).2.2 ((scanNum rest bad).1 : Int)
  exact ⟨Nat.le_trans h2.1 h1.1, Nat.le_trans h2.2 h1.1⟩


































































def l4V (s : List UInt8) : Nat → Int → List Nat × Int
  | 0, at_ => ([], at_)
  | n + 1, at_ => if at_ < 0 ∨ at_ > s.length then ([], -1) else
      if (readVarF (s.drop at_.toNat)).2 = 0 then ([], -1) else
        ((readVarF (s.drop at_.toNat)).1 :: (l4V s n (at_ + (readVarF (s.drop at_.toNat)).2)).1, (l4V s n (at_ + (readVarF (s.drop at_.toNat)).2)).2)
theorem l4V_bad (s : List UInt8) (n : Nat) (at_ : Int) (h : at_ < 0 ∨ at_ > s.length) : l4V s (n + 1) at_ = ([], -1) := by rw [l4V, if_pos h]
theorem l4V_zero (s : List UInt8) (n : Nat) (at_ : Int) (h : ¬ (at_ < 0 ∨ at_ > s.length)) (h2 : (readVarF (s.drop at_.toNat)).2 = 0) : l4V s (n + 1) at_ = ([], -1) := by rw [l4V, if_neg h, if_pos h2]
theorem l4V_next (s : List UInt8) (n : Nat) (at_ : Int) (h : ¬ (at_ < 0 ∨ at_ > s.length)) (h2 : ¬ (readVarF (s.drop at_.toNat)).2 = 0) :
    l4V s (n + 1) at_ = ((readVarF (s.drop at_.toNat)).1 :: (l4V s n (at_ + (readVarF (s.drop at_.toNat)).2)).1, (l4V s n (at_ + (readVarF (s.drop at_.toNat)).2)).2) := by
  rw [l4V, if_neg h, if_neg h2]
def natv (n : Nat) : Value := .int .i64 (n : Int)
theorem own_snocN {w : World} {base : Nat} {e : TypeId} {v : Value} {acc : List Nat} {x : Int} (h : w.ownsRow base e 1 v (acc.length + 1) (acc.map natv ++ #[Value.int .i64 x].toList)) (b : Nat) (hx : x = (b : Int)) :
    w.ownsRow base e 1 v (acc ++ [b]).length ((acc ++ [b]).map natv) := by
  subst hx
  rw [List.map_append, List.length_append]
  exact h
theorem readVarF_drop (s : List UInt8) (a : Nat) (h : a ≤ s.length) : a + (readVarF (s.drop a)).2 ≤ s.length := by
  have := (readVarF_le (s.drop a)).2.1
  rw [List.length_drop] at this
  omega
theorem l4V_range (s : List UInt8) : ∀ (n : Nat) (at_ : Int), -1 ≤ at_ → (at_ ≤ s.length ∨ 0 < n) → -1 ≤ (l4V s n at_).2 ∧ ((l4V s n at_).2 ≤ s.length)
  | 0, at_, h1, h2 => ⟨h1, by rw [l4V]; omega⟩
  | n + 1, at_, h1, h2 => by
    by_cases h : at_ < 0 ∨ at_ > s.length
    · rw [l4V_bad s n at_ h]; exact ⟨Int.le_refl _, by show (-1 : Int) ≤ _; omega⟩
    · by_cases h0 : (readVarF (s.drop at_.toNat)).2 = 0
      · rw [l4V_zero s n at_ h h0]; exact ⟨Int.le_refl _, by show (-1 : Int) ≤ _; omega⟩
      · rw [l4V_next s n at_ h h0]
        have := readVarF_drop s at_.toNat (by omega)
        exact l4V_range s n _ (by omega) (Or.inl (by omega))
theorem l4V_len (s : List UInt8) : ∀ (n : Nat) (at_ : Int), (l4V s n at_).1.length ≤ n ∧ (0 ≤ (l4V s n at_).2 → (l4V s n at_).1.length = n) ∧ ∀ x ∈ (l4V s n at_).1, x ≤ 562949953421311
  | 0, at_ => ⟨by simp [l4V], by simp [l4V], by simp [l4V]⟩
  | n + 1, at_ => by
    by_cases h : at_ < 0 ∨ at_ > s.length
    · rw [l4V_bad s n at_ h]; exact ⟨by simp, by intro h; simp at h, by simp⟩
    · by_cases h0 : (readVarF (s.drop at_.toNat)).2 = 0
      · rw [l4V_zero s n at_ h h0]; exact ⟨by simp, by intro h; simp at h, by simp⟩
      · rw [l4V_next s n at_ h h0]
        obtain ⟨a, b, c⟩ := l4V_len s n (at_ + (readVarF (s.drop at_.toNat)).2)
        refine ⟨by simp only [List.length_cons]; omega, fun hx => by simp only [List.length_cons]; have := b hx; omega, ?_⟩
        intro x hx
        rcases List.mem_cons.1 hx with rfl | hx
        · exact (readVarF_le _).2.2
        · exact c x hx
































































































end Go.Proofs.Ytoffelfcmfpooaa
