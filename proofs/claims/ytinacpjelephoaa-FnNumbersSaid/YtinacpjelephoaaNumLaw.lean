/-
  What is made of a number is read as it. Plain.
-/
import Derived.Test.YtinacpjelephoaaReadVar
import Derived.Test.YtinacpjelephoaaNumD
import Derived.Test.YtinacpjelephoaaReadDec
import Derived.Test.YtinacpjelephoaaUnhex
namespace Go.Proofs.Ytinacpjelephoaa
open Go.RowKit
theorem varL_ne (n : Nat) : varL n ≠ [] := by
  obtain ⟨xs, b, he, _⟩ := varL_shape n
  rw [he]; simp
theorem varF_nil {n : Int} : varF n = [] ↔ ¬ (0 ≤ n ∧ n ≤ 562949953421311) := by
  unfold varF
  split
  · rename_i h
    exact ⟨fun e => absurd e (varL_ne _), fun e => absurd h e⟩
  · rename_i h
    exact ⟨fun _ => h, fun _ => rfl⟩
theorem leN_varL (n : Nat) : leN (varL n) = n := by
  induction n using Nat.strongRecOn with
  | _ n ih =>
    by_cases h : n < 128
    · rw [varL_lt h, leN, leN, UInt8.toNat_ofNat']
      omega
    · rw [varL_ge h, leN, ih (n / 128) (by omega), UInt8.toNat_ofNat']
      omega
theorem readVar_back {n : Nat} (h : n ≤ 562949953421311) (tail : List UInt8) : readVarF (varL n ++ tail) = (n, (varL n).length) := by
  have h7 := varL_length7 h
  have hle := leN_varL n
  have hv := varF_nat h
  obtain ⟨xs, b, he, h1, h2⟩ := varL_shape n
  have hlen : (varL n).length = xs.length + 1 := by rw [he]; simp
  have hl : (varL n ++ tail) = xs ++ b :: tail := by rw [he]; simp
  have htk : (varL n ++ tail).take (xs.length + 1) = varL n := by rw [← hlen, List.take_left']; rfl
  have hll : (varL n ++ tail).length = xs.length + 1 + tail.length := by rw [List.length_append, hlen]
  have hat : ∀ (j : Nat) (hj : j < (varL n ++ tail).length), j < xs.length → 128 ≤ (varL n ++ tail)[j].toNat := by
    intro j hj hjx
    have : (varL n ++ tail)[j] = xs[j] := by
      simp only [hl]
      rw [List.getElem_append_left hjx]
    rw [this]
    exact h1 _ (List.getElem_mem hjx)
  have hlow : ((varL n ++ tail)[xs.length]'(by omega)).toNat < 128 := by
    have : (varL n ++ tail)[xs.length]'(by omega) = b := by
      simp only [hl]
      rw [List.getElem_append_right (Nat.le_refl _)]
      simp
    rw [this]
    exact h2
  rw [rv_low xs.length (by omega) (by omega) hat hlow, htk, hle, hlen, if_pos]
  unfold rvHit
  rw [htk, hle, hv]
  simp
theorem readVar_hit (l : List UInt8) : (readVarF l).2 = 0 ∨ varF ((readVarF l).1 : Int) = l.take (readVarF l).2 := by
  have : ∀ f k, (rvFrom l f k).2 = 0 ∨ varF ((rvFrom l f k).1 : Int) = l.take (rvFrom l f k).2 := by
    intro f
    induction f with
    | zero => intro k; exact .inl rfl
    | succ f ih =>
      intro k
      rw [rvFrom]
      split
      · split
        · rename_i hh
          exact .inr (of_decide_eq_true hh)
        · exact ih (k + 1)
      · exact .inl rfl
  exact this 7 1
theorem readN_fixed : ∀ (k n : Nat), n < 256 ^ k → readN (fixedL k n) = n
  | 0, n, h => by
    have : n = 0 := by simpa using h
    subst this; rfl
  | k + 1, n, h => by
    have ih := readN_fixed k (n / 256) (by rw [Nat.pow_succ] at h; omega)
    rw [fixedL, readN, List.foldl_append]
    show (fixedL k (n / 256)).foldl _ 0 * 256 + (UInt8.ofNat (n % 256)).toNat = n
    have e : (fixedL k (n / 256)).foldl (fun n b => n * 256 + b.toNat) 0 = n / 256 := ih
    rw [e, UInt8.toNat_ofNat']
    omega
theorem pow_256_7 : (256 : Nat) ^ 7 = 72057594037927936 := by decide
theorem fixed7_yes {n : Nat} (h : n < 72057594037927936) (tail : List UInt8) : (fixedF (n : Int) 7).length = 7 ∧ readFixedF (fixedF (n : Int) 7 ++ tail) 7 = (n, true) := by
  have h2 : n < 256 ^ 7 := by rw [pow_256_7]; exact h
  have e : fixedF (n : Int) 7 = fixedL 7 n := fixedF_nat (width := 7) (by decide) (by decide) h2
  rw [e]
  have hl := fixedL_length 7 n
  refine ⟨hl, ?_⟩
  unfold readFixedF
  rw [if_pos ⟨by omega, by omega, by rw [List.length_append, hl]; omega⟩]
  rw [show (7 : Int).toNat = 7 from rfl, List.take_left' hl, readN_fixed 7 n h2]
theorem fixed7_no {n : Int} (h : n < 0 ∨ 72057594037927936 ≤ n) : fixedF n 7 = [] := by
  unfold fixedF
  rw [if_neg]
  rintro ⟨_, _, h3, h4⟩
  have e : (256 : Int) ^ (7 : Int).toNat = 72057594037927936 := by decide
  rw [e] at h4
  omega
theorem valL_decN : ∀ (f m : Nat), m ≤ f → valL (decN m) = m
  | 0, m, h => by
    have : m = 0 := by omega
    rw [this, decN_zero]; rfl
  | f + 1, m, h => by
    rcases Nat.eq_zero_or_pos m with rfl | hp
    · rw [decN_zero]; rfl
    · have hd : dig (dB (m % 10)) = true := dig_yes (by rw [dB_toNat (by omega)]; omega) (by rw [dB_toNat (by omega)]; omega)
      rw [decN_pos hp, valL_snoc, valL_decN f (m / 10) (by omega), vstep, if_pos hd, dB_toNat (by omega)]
      omega
theorem decN_long : ∀ (k m : Nat), 10 ^ k ≤ m → k + 1 ≤ (decN m).length
  | 0, m, h => decN_ne (by omega)
  | k + 1, m, h => by
    have hp : 0 < m := Nat.lt_of_lt_of_le (Nat.pow_pos (by omega)) h
    rw [decN_pos hp, List.length_append]
    have := decN_long k (m / 10) (by rw [Nat.pow_succ] at h; omega)
    simp only [List.length_cons, List.length_nil]
    omega
theorem decN_head {m : Nat} (h : 0 < m) : (decN m).head? ≠ some 45 := by
  intro e
  have hd := decN_dig m m (Nat.le_refl _)
  cases hm : decN m with
  | nil => rw [hm] at e; cases e
  | cons b r =>
    rw [hm] at e hd
    injection e with e
    subst e
    simp only [List.all_cons, Bool.and_eq_true] at hd
    exact absurd hd.1 (by decide)
theorem cntL_take {l : List UInt8} (h : l.all dig = true) (k : Nat) : cntL (l.take k) = min k l.length := by
  rw [cntL_all, List.length_take]
  rw [List.all_eq_true] at h ⊢
  exact fun x hx => h x (List.mem_of_mem_take hx)
theorem readDec_pos {m : Nat} (hm : 0 < m) : readDecF (decL (m : Int)) = if m < 1000000000 then ((m : Int), true) else (0, false) := by
  have hd := decN_dig m m (Nat.le_refl _)
  rw [decL_pos hm]
  unfold readDecF
  rw [cntL_take hd]
  by_cases h : m < 1000000000
  · rw [if_pos (c := m < 1000000000) h]
    have hl := decN_length 9 m (by omega)
    have ht : (decN m).take 11 = decN m := List.take_of_length_le (by omega)
    have hs : sgnL (decN m) (valL (decN m)) = (m : Int) := by
      rw [sgnL, if_neg (decN_head hm), valL_decN m m (Nat.le_refl _)]
    rw [ht, hs, if_neg]
    rw [decL_pos hm]
    simp
    omega
  · rw [if_neg (c := m < 1000000000) h]
    have hl := decN_long 9 m (by omega)
    rw [if_pos (Or.inl (by omega))]
theorem readDec_neg {m : Nat} (hm : 0 < m) : readDecF (decL (-(m : Int))) = if m < 1000000000 then (-(m : Int), true) else (0, false) := by
  have hd := decN_dig m m (Nat.le_refl _)
  rw [decL_neg hm]
  unfold readDecF
  have hc : cntL ((45 :: decN m).take 11) = min 10 (decN m).length := by
    rw [List.take_succ_cons, cntL_minus, cntL_take hd]
  rw [hc]
  by_cases h : m < 1000000000
  · rw [if_pos (c := m < 1000000000) h]
    have hl := decN_length 9 m (by omega)
    have ht : (45 :: decN m).take 11 = 45 :: decN m := List.take_of_length_le (by simp only [List.length_cons]; omega)
    have hs : sgnL (45 :: decN m) (valL (45 :: decN m)) = -(m : Int) := by
      rw [sgnL, if_pos (show (45 :: decN m).head? = some 45 from rfl), valL_minus, valL_decN m m (Nat.le_refl _)]
    rw [ht, hs, if_neg]
    rw [decL_neg hm]
    simp
    omega
  · rw [if_neg (c := m < 1000000000) h]
    have hl := decN_long 9 m (by omega)
    rw [if_pos (Or.inl (by omega))]
theorem readDec_back (n : Int) : (-1000000000 < n ∧ n < 1000000000 → readDecF (decL n) = (n, true)) ∧ (¬ (-1000000000 < n ∧ n < 1000000000) → (readDecF (decL n)).2 = false) := by
  rcases Int.lt_trichotomy n 0 with h | h | h
  · obtain ⟨m, rfl⟩ : ∃ m : Nat, n = -(m : Int) := ⟨n.natAbs, by omega⟩
    rw [readDec_neg (by omega)]
    refine ⟨fun hr => by rw [if_pos (by omega)], fun hr => by rw [if_neg (by omega)]⟩
  · subst h
    exact ⟨fun _ => by decide, fun h => absurd (by omega) h⟩
  · obtain ⟨m, rfl⟩ : ∃ m : Nat, n = (m : Int) := ⟨n.natAbs, by omega⟩
    rw [readDec_pos (by omega)]
    refine ⟨fun hr => by rw [if_pos (by omega)], fun hr => by rw [if_neg (by omega)]⟩
theorem unhex_hex : ∀ l : List UInt8, unhexL (hexL l) = some l
  | [] => rfl
  | b :: l => by
    have hb := b.toNat_lt
    have e : hexL (b :: l) = hexD (b.toNat / 16) :: hexD (b.toNat % 16) :: hexL l := rfl
    have h1 := hexVal_hexD (b.toNat / 16) (by omega)
    have h2 := hexVal_hexD (b.toNat % 16) (by omega)
    rw [e, unhexL, h1, h2, if_neg (by omega), unhex_hex l]
    simp only [Option.map_some, Int.toNat_natCast]
    congr 2
    apply UInt8.toNat_inj.1
    rw [UInt8.toNat_ofNat']
    omega
theorem unhexR_hex (l : List UInt8) : unhexR (hexL l) = (l, true) := by
  unfold unhexR
  rw [unhex_hex]
end Go.Proofs.Ytinacpjelephoaa
