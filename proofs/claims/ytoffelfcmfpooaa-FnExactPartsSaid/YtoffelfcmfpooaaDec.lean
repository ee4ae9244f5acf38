/-
  Dec (impl and spec) as the plain function decL. Conditions: the argument is an int.
-/
import Derived.Test.YtoffelfcmfpooaaNumB
namespace Go.Proofs.Ytoffelfcmfpooaa
open Go.RowKit

def dB (k : Nat) : UInt8 := UInt8.ofNat (48 + k)
theorem dB_toNat {k : Nat} (h : k < 10) : (dB k).toNat = 48 + k := by
  unfold dB
  rw [UInt8.toNat_ofNat']
  omega
def decN (m : Nat) : List UInt8 := if m = 0 then [] else decN (m / 10) ++ [dB (m % 10)]
termination_by m
decreasing_by omega
theorem decN_zero : decN 0 = [] := by rw [decN]; rfl
theorem decN_pos {m : Nat} (h : 0 < m) : decN m = decN (m / 10) ++ [dB (m % 10)] := by rw [decN, if_neg (by omega)]
theorem decN_length : ∀ (k m : Nat), m < 10 ^ k → (decN m).length ≤ k
  | 0, m, h => by
    have : m = 0 := by simpa using h
    rw [this, decN_zero]; simp
  | k + 1, m, h => by
    rcases Nat.eq_zero_or_pos m with rfl | hp
    · rw [decN_zero]; simp
    · rw [decN_pos hp, List.length_append]
      have := decN_length k (m / 10) (by rw [Nat.pow_succ] at h; omega)
      simp only [List.length_cons, List.length_nil]
      omega
theorem decN_19 {m : Nat} (h : m ≤ 9223372036854775808) : (decN m).length ≤ 19 := decN_length 19 m (by omega)
def decL (n : Int) : List UInt8 := if n = 0 then [48] else if n < 0 then 45 :: decN n.natAbs else decN n.natAbs
theorem decL_zero : decL 0 = [48] := rfl
theorem decL_pos {m : Nat} (h : 0 < m) : decL (m : Int) = decN m := by rw [decL, if_neg (by omega), if_neg (by omega)]; rfl
theorem decL_neg {m : Nat} (h : 0 < m) : decL (-(m : Int)) = 45 :: decN m := by rw [decL, if_neg (by omega), if_pos (by omega), Int.natAbs_neg]; rfl
theorem decL_length {n : Int} (h : i64ok n) : (decL n).length ≤ 20 := by
  unfold decL
  obtain ⟨h1, h2⟩ := h
  have := decN_19 (m := n.natAbs) (by omega)
  split
  · simp
  · split
    · simp only [List.length_cons]; omega
    · omega
theorem tmod_neg (m : Nat) : Int.tmod (-(m : Int)) 10 = -((m % 10 : Nat) : Int) := by rw [Int.neg_tmod]; rfl
theorem tdiv_neg (m : Nat) : Int.tdiv (-(m : Int)) 10 = -((m / 10 : Nat) : Int) := by rw [Int.neg_tdiv]; rfl
/-- the row after the first i swaps of L -/
def Swapped (L X : List UInt8) (i : Nat) : Prop := X.length = L.length ∧ ∀ k, k < L.length → X.getD k 0 = if k < i ∨ L.length - i ≤ k then L.getD (L.length - 1 - k) 0 else L.getD k 0
theorem Swapped.start (L : List UInt8) : Swapped L L 0 := ⟨rfl, fun k hk => by rw [if_neg (by omega)]⟩
theorem getD_set (l : List UInt8) (i k : Nat) (v : UInt8) (hi : i < l.length) : (l.set i v).getD k 0 = if k = i then v else l.getD k 0 := by
  rw [List.getD_eq_getElem?_getD, List.getD_eq_getElem?_getD, List.getElem?_set]
  by_cases h : i = k
  · subst h
    simp [hi]
  · rw [if_neg h, if_neg (by omega)]
theorem Swapped.step {L X : List UInt8} {i : Nat} (h : Swapped L X i) (hi : i + 1 < L.length - i) : Swapped L ((X.set i (X.getD (L.length - 1 - i) 0)).set (L.length - 1 - i) (X.getD i 0)) (i + 1) := by
  obtain ⟨h1, h2⟩ := h
  refine ⟨by simp [h1], fun k hk => ?_⟩
  rw [getD_set _ _ _ _ (by rw [List.length_set, h1]; omega), getD_set _ _ _ _ (by rw [h1]; omega)]
  by_cases hk1 : k = L.length - 1 - i
  · rw [if_pos hk1, h2 i (by omega), if_neg (by omega), if_pos (by omega)]
    congr 1
    omega
  · rw [if_neg hk1]
    by_cases hk2 : k = i
    · rw [if_pos hk2, h2 _ (by omega), if_neg (by omega), if_pos (by omega)]
      congr 1
      omega
    · rw [if_neg hk2, h2 k hk]
      by_cases hk3 : k < i ∨ L.length - i ≤ k
      · rw [if_pos hk3, if_pos (by omega)]
      · rw [if_neg hk3, if_neg (by omega)]
theorem Swapped.done {L X : List UInt8} {i : Nat} (h : Swapped L X i) (hi : L.length ≤ i + i + 1) : X = L.reverse := by
  obtain ⟨h1, h2⟩ := h
  refine List.ext_getElem (by simp [h1]) fun k hk hk' => ?_
  have hkL : k < L.length := by omega
  have e1 : X.getD k 0 = X[k] := by rw [List.getD_eq_getElem?_getD, List.getElem?_eq_getElem hk]; rfl
  have e2 : L.getD (L.length - 1 - k) 0 = L[L.length - 1 - k] := by rw [List.getD_eq_getElem?_getD, List.getElem?_eq_getElem (by omega)]; rfl
  rw [← e1, h2 k hkL, List.getElem_reverse, ← e2]
  split
  · rfl
  · congr 1
    omega
theorem set_u8v (X : List UInt8) (i : Nat) (b : UInt8) : (X.map u8v).set i (u8v b) = (X.set i b).map u8v := by rw [List.map_set]
theorem own_lit1' {w : World} {e : TypeId} {x : Int} (b : UInt8) (hx : x = (b.toNat : Int)) : (w.alloc (.cells #[.int .u8 x] e)).ownsRow 0 e 1 (.slice (some ⟨w.heap.size, 0, none⟩) 1 1) 1 ([b].map u8v) := by
  subst hx
  exact World.ownsRow_lit w #[u8v b] 1 (Nat.zero_le _) (by simp [maxLen]) rfl
theorem own_form' {w : World} {base : Nat} {e : TypeId} {size : Nat} {v : Value} {n : Nat} {xs : List Value} (h : w.ownsRow base e size v n xs) (hn : 0 < n) : ∃ g c, v = .slice (some ⟨g, 0, none⟩) n c ∧ base ≤ g ∧ g < w.heap.size := by
  rcases h.2 with ⟨_, h0⟩ | ⟨g, cap, cur, hv, hb, hg, _⟩
  · omega
  · exact ⟨g, cap, hv, hb, (Array.getElem?_eq_some_iff.1 hg).1⟩
attribute [local irreducible] decL dB





























































































































































































































































































end Go.Proofs.Ytoffelfcmfpooaa
