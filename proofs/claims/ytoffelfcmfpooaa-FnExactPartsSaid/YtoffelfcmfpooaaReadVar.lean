/-
  ReadVar (impl and spec) as one plain function. Conditions: a string's length is an int.
-/
import Derived.Test.YtoffelfcmfpooaaNumB
namespace Go.Proofs.Ytoffelfcmfpooaa
open Go.RowKit

def leN : List UInt8 → Nat
  | [] => 0
  | b :: l => b.toNat % 128 + 128 * leN l
theorem leN_lt : ∀ l : List UInt8, leN l < 128 ^ l.length
  | [] => by simp [leN]
  | b :: l => by
    have := leN_lt l
    rw [leN, List.length_cons, Nat.pow_succ]
    omega
theorem leN_snoc : ∀ (l : List UInt8) (b : UInt8), leN (l ++ [b]) = leN l + b.toNat % 128 * 128 ^ l.length
  | [], b => by simp [leN]
  | c :: l, b => by
    rw [List.cons_append, leN, leN, leN_snoc l b, List.length_cons, Nat.pow_succ]
    have e : b.toNat % 128 * (128 ^ l.length * 128) = 128 * (b.toNat % 128 * 128 ^ l.length) := by
      rw [← Nat.mul_assoc, Nat.mul_comm]
    rw [e]
    omega
theorem leN_take (l : List UInt8) (i : Nat) (h : i < l.length) : leN (l.take (i + 1)) = leN (l.take i) + l[i].toNat % 128 * 128 ^ i := by
  rw [List.take_succ_eq_append_getElem h, leN_snoc, List.length_take, Nat.min_eq_left (by omega)]
def rvHit (l : List UInt8) (k : Nat) : Bool := decide (varF (leN (l.take k)) = l.take k)
def rvFrom (l : List UInt8) : Nat → Nat → Nat × Nat
  | 0, _ => (0, 0)
  | f + 1, k => if k ≤ l.length then (if rvHit l k then (leN (l.take k), k) else rvFrom l f (k + 1)) else (0, 0)
def readVarF (l : List UInt8) : Nat × Nat := rvFrom l 7 1
/-- all bytes but the last are high, the last is low -/
def VShape (l : List UInt8) : Prop := ∃ xs b, l = xs ++ [b] ∧ (∀ c ∈ xs, 128 ≤ c.toNat) ∧ b.toNat < 128
theorem varL_shape (n : Nat) : VShape (varL n) := by
  induction n using Nat.strongRecOn with
  | _ n ih =>
    by_cases h : n < 128
    · rw [varL_lt h]
      exact ⟨[], _, rfl, by simp, by rw [UInt8.toNat_ofNat']; omega⟩
    · rw [varL_ge h]
      obtain ⟨xs, b, he, h1, h2⟩ := ih (n / 128) (by omega)
      refine ⟨UInt8.ofNat (128 + n % 128) :: xs, b, by rw [he]; rfl, ?_, h2⟩
      intro c hc
      rcases List.mem_cons.1 hc with rfl | hc
      · rw [UInt8.toNat_ofNat']; omega
      · exact h1 c hc
theorem rvHit_shape {l : List UInt8} {k : Nat} (hk : 1 ≤ k) (hl : k ≤ l.length) (h : rvHit l k = true) : VShape (l.take k) := by
  have he : varF (leN (l.take k)) = l.take k := of_decide_eq_true h
  unfold varF at he
  split at he
  · rw [← he]; exact varL_shape _
  · have : (l.take k).length = 0 := by rw [← he]; rfl
    rw [List.length_take] at this
    omega
theorem shape_at {l : List UInt8} {k j : Nat} (hl : k ≤ l.length) (h : VShape (l.take k)) (hj : j < k) : (l[j]'(by omega)).toNat < 128 ↔ j + 1 = k := by
  obtain ⟨xs, b, he, h1, h2⟩ := h
  have hlen : xs.length + 1 = k := by
    have := congrArg List.length he
    simp only [List.length_take, List.length_append, List.length_singleton] at this
    omega
  have hget : (xs ++ [b])[j]? = some (l[j]'(by omega)) := by
    rw [← he, List.getElem?_take_of_lt hj, List.getElem?_eq_getElem (by omega)]
  by_cases hjx : j < xs.length
  · rw [List.getElem?_append_left hjx, List.getElem?_eq_getElem hjx] at hget
    injection hget with hget
    have := h1 xs[j] (List.getElem_mem _)
    rw [← hget]
    constructor
    · intro h; omega
    · intro h; omega
  · have hj2 : j = xs.length := by omega
    subst hj2
    rw [List.getElem?_append_right (Nat.le_refl _)] at hget
    simp at hget
    rw [← hget]
    constructor
    · intro _; omega
    · intro _; exact h2
theorem rvFrom_skip {l : List UInt8} : ∀ (f k : Nat), 1 ≤ k → (∃ (j : Nat) (h : j < l.length), j + 1 < k ∧ l[j].toNat < 128) → rvFrom l f k = (0, 0)
  | 0, _, _, _ => rfl
  | f + 1, k, hk, hx => by
    obtain ⟨j, hj, hjk, hlow⟩ := hx
    rw [rvFrom]
    split
    · rename_i hkl
      rw [if_neg (fun hh => ?_)]
      · exact rvFrom_skip f (k + 1) (by omega) ⟨j, hj, by omega, hlow⟩
      · have := (shape_at hkl (rvHit_shape hk hkl hh) (show j < k by omega)).1 hlow
        omega
    · rfl
/-- the state of the search behind i high bytes -/
theorem rv_high {l : List UInt8} (i : Nat) (hi : i < 7) (h : ∀ (j : Nat) (hj : j < l.length), j < i → 128 ≤ l[j].toNat) (hil : i ≤ l.length) : readVarF l = rvFrom l (7 - i) (i + 1) := by
  induction i with
  | zero => rfl
  | succ i ih =>
    rw [ih (by omega) (fun j hj hji => h j hj (by omega)) (by omega)]
    rw [show 7 - i = (7 - (i + 1)) + 1 by omega, rvFrom, if_pos (by omega), if_neg]
    intro hh
    have := (shape_at (by omega) (rvHit_shape (by omega) (by omega) hh) (show i < i + 1 by omega)).2 rfl
    have := h i (by omega) (by omega)
    omega
theorem rv_short {l : List UInt8} (i : Nat) (hi : i ≤ 7) (h : ∀ (j : Nat) (hj : j < l.length), j < i → 128 ≤ l[j].toNat) (hil : i = l.length ∨ i = 7) (hil2 : i ≤ l.length) : readVarF l = (0, 0) := by
  by_cases h7 : i = 7
  · subst h7
    rw [rv_high 6 (by omega) (fun j hj hji => h j hj (by omega)) (by omega), rvFrom, if_pos (by omega), if_neg]
    · rfl
    · intro hh
      have := (shape_at (by omega) (rvHit_shape (by omega) (by omega) hh) (show 6 < 7 by omega)).2 rfl
      have := h 6 (by omega) (by omega)
      omega
  · rw [rv_high i (by omega) h (by omega), show 7 - i = (6 - i) + 1 by omega, rvFrom, if_neg (by omega)]
theorem rv_low {l : List UInt8} (i : Nat) (hi : i < 7) (hil : i < l.length) (h : ∀ (j : Nat) (hj : j < l.length), j < i → 128 ≤ l[j].toNat) (hlow : l[i].toNat < 128) :
    readVarF l = if rvHit l (i + 1) then (leN (l.take (i + 1)), i + 1) else (0, 0) := by
  rw [rv_high i hi h (by omega), show 7 - i = (6 - i) + 1 by omega, rvFrom, if_pos (by omega)]
  split
  · rfl
  · exact rvFrom_skip _ _ (by omega) ⟨i, hil, by omega, hlow⟩
theorem readVarF_le (l : List UInt8) : (readVarF l).2 ≤ 7 ∧ (readVarF l).2 ≤ l.length ∧ (readVarF l).1 ≤ 562949953421311 := by
  have : ∀ f k, f + k ≤ 8 → (rvFrom l f k).2 ≤ 7 ∧ (rvFrom l f k).2 ≤ l.length ∧ (rvFrom l f k).1 ≤ 562949953421311 := by
    intro f
    induction f with
    | zero => intro k _; exact ⟨by simp [rvFrom], by simp [rvFrom], by simp [rvFrom]⟩
    | succ f ih =>
      intro k hk
      rw [rvFrom]
      split
      · split
        · have h1 := leN_lt (l.take k)
          have h2 : 128 ^ (l.take k).length ≤ 128 ^ 7 := Nat.pow_le_pow_right (by omega) (by rw [List.length_take]; omega)
          have h3 : (128 : Nat) ^ 7 = 562949953421312 := by decide
          exact ⟨by show k ≤ 7; omega, by assumption, by show leN _ ≤ _; omega⟩
        · exact ih (k + 1) (by omega)
      · exact ⟨by simp, by simp, by simp⟩
  exact this 7 1 (by omega)
theorem u8_and127 (b : Nat) (hb : b < 256) : bits .and .u8 (b : Int) 127 = ((b % 128 : Nat) : Int) := by
  show IntKind.u8.wrap ((BitVec.ofInt 8 (b : Int) &&& BitVec.ofInt 8 127).toNat : Int) = _
  have e1 : (BitVec.ofInt 8 (b : Int)).toNat = b := by rw [BitVec.ofInt_natCast, BitVec.toNat_ofNat]; exact Nat.mod_eq_of_lt (by omega)
  have e2 : (BitVec.ofInt 8 (127 : Int)).toNat = 127 := rfl
  rw [BitVec.toNat_and, e1, e2, Nat.and_two_pow_sub_one_eq_mod b 7, IntKind.wrap_u8]
  omega
theorem pow_128 (k : Nat) : (2 : Nat) ^ (7 * k) = 128 ^ k := by rw [Nat.pow_mul]
theorem rv_step (q b k : Nat) (hq : q < 128 ^ k) (hb : b < 256) (hk : k < 7) :
    bits .or .i64 (q : Int) (wrap64 (wrap64 (bits .and .u8 (b : Int) 127) * 2 ^ (7 * k))) = ((q + b % 128 * 128 ^ k : Nat) : Int) := by
  have h3 : 128 ^ k ≤ 128 ^ 6 := Nat.pow_le_pow_right (by omega) (by omega)
  have h4 : (128 : Nat) ^ 6 = 4398046511104 := by decide
  have h5 : b % 128 * 128 ^ k ≤ 127 * 4398046511104 := Nat.mul_le_mul (by omega) (by omega)
  have hp : (2 : Int) ^ (7 * k) = ((128 ^ k : Nat) : Int) := by
    rw [← pow_128, Int.natCast_pow]; rfl
  rw [u8_and127 b hb, IntWalk.wrap64_in ((b % 128 : Nat) : Int) (by omega), hp, ← Int.natCast_mul, IntWalk.wrap64_in _ (by omega)]
  rw [i64_or_nat q _ (by omega) (by omega)]
  congr 1
  have h1 := Nat.two_pow_add_eq_or_of_lt (i := 7 * k) (b := q) (by rw [pow_128]; exact hq) (b % 128)
  rw [pow_128, Nat.mul_comm (128 ^ k)] at h1
  rw [Nat.or_comm, ← h1, Nat.add_comm]














































































































































































































end Go.Proofs.Ytoffelfcmfpooaa
