/-
  What is laid is read back: numbers, texts. Plain.
-/
import Derived.Test.YtinacpjelephoaaUnframeS
namespace Go.Proofs.Ytinacpjelephoaa
open Go.RowKit

theorem leN_varL (n : Nat) : leN (varL n) = n := by
  induction n using Nat.strongRecOn with
  | _ n ih =>
    by_cases h : n < 128
    · rw [varL_lt h]
      simp only [leN, UInt8.toNat_ofNat']
      omega
    · rw [varL_ge h]
      simp only [leN, UInt8.toNat_ofNat', ih (n / 128) (by omega)]
      omega
theorem varL_pos (n : Nat) : 1 ≤ (varL n).length := by
  obtain ⟨xs, b, he, _⟩ := varL_shape n
  rw [he]; simp
theorem readVarF_varL (n : Nat) (hn : n ≤ 562949953421311) (t : List UInt8) : readVarF (varL n ++ t) = (n, (varL n).length) := by
  have h7 := varL_length7 hn
  have hl := leN_varL n
  have hf := varF_nat hn
  obtain ⟨xs, b, he, h1, h2⟩ := varL_shape n
  rw [he] at h7 hl hf ⊢
  have hlen : (xs ++ [b]).length = xs.length + 1 := by simp
  have htk : (xs ++ [b] ++ t).take (xs.length + 1) = xs ++ [b] := by rw [← hlen, List.take_left']; rfl
  have hr := rv_low (l := xs ++ [b] ++ t) xs.length (by omega) (by simp) (fun j hj hji => by
    rw [List.getElem_append_left (by simp; omega), List.getElem_append_left (by omega)]
    exact h1 _ (List.getElem_mem _)) (by
    rw [List.getElem_append_left (by simp), List.getElem_append_right (by omega)]
    simpa using h2)
  have hit : rvHit (xs ++ [b] ++ t) (xs.length + 1) = true := by
    unfold rvHit
    rw [htk, hl, hf]
    simp
  rw [hr, hit, if_pos rfl, htk, hl, hlen]
theorem varF_pos {n : Int} (h : 0 ≤ n ∧ n ≤ 562949953421311) : 1 ≤ (varF n).length := by
  rw [varF, if_pos h]; exact varL_pos _
theorem readVarF_varF {n : Int} (h : 0 ≤ n ∧ n ≤ 562949953421311) (t : List UInt8) : readVarF (varF n ++ t) = (n.toNat, (varF n).length) := by
  rw [varF, if_pos h]; exact readVarF_varL _ (by omega) t
theorem scanNum_varF {n : Int} (h : 0 ≤ n ∧ n ≤ 562949953421311) (t : List UInt8) : scanNum (varF n ++ t) false = (n.toNat, t, false) := by
  have hr := readVarF_varF h t
  have hp := varF_pos h
  unfold scanNum
  rw [hr, if_neg (fun hh => hh.elim (fun h => by cases h) (fun h => by have h2 : (varF n).length = 0 := h; omega))]
  simp
theorem scanText_sized (l t : List UInt8) (h : l.length ≤ 562949953421311) : scanText (sizedL l ++ t) false = (l, t, false) := by
  unfold scanText sizedL
  rw [List.append_assoc, scanNum_varF (by omega)]
  unfold scanCut
  simp only [Int.toNat_natCast]
  rw [if_neg (by simp; omega)]
  simp
theorem scanCut_take (l t : List UInt8) (n : Int) (h : n = (l.length : Int)) : scanCut (l ++ t) false n = (l, t, false) := by
  subst h
  unfold scanCut
  rw [if_neg (by simp; omega)]
  simp
/-- at a place of a text -/
theorem l4V_step (a t : List UInt8) (n : Int) (k : Nat) (h : 0 ≤ n ∧ n ≤ 562949953421311) :
    l4V (a ++ (varF n ++ t)) (k + 1) (a.length : Int) = (n.toNat :: (l4V (a ++ (varF n ++ t)) k ((a ++ varF n).length : Int)).1, (l4V (a ++ (varF n ++ t)) k ((a ++ varF n).length : Int)).2) := by
  have hp := varF_pos h
  have hd : (a ++ (varF n ++ t)).drop ((a.length : Int)).toNat = varF n ++ t := by simp
  rw [l4V, if_neg (by simp; omega), hd, readVarF_varF h, if_neg (fun hh => by have h2 : (varF n).length = 0 := hh; omega)]
  simp only [List.length_append]
  rw [show ((a.length : Int) + ((varF n).length : Nat)) = ((a.length + (varF n).length : Nat) : Int) by omega]
theorem l4V_one (a t : List UInt8) (n : Int) (h : 0 ≤ n ∧ n ≤ 562949953421311) : l4V (a ++ (varF n ++ t)) 1 (a.length : Int) = ([n.toNat], ((a ++ varF n).length : Int)) := by
  rw [l4V_step a t n 0 h]; rfl
theorem l4T_sized (a l t : List UInt8) (h : l.length ≤ 562949953421311) : l4T (a ++ (sizedL l ++ t)) (a.length : Int) = (l, ((a ++ sizedL l).length : Int)) := by
  have hv := l4V_one a (l ++ t) (l.length : Int) (by omega)
  have e : a ++ (sizedL l ++ t) = a ++ (varF (l.length : Int) ++ (l ++ t)) := by simp [sizedL]
  rw [← e] at hv
  rw [Int.toNat_natCast] at hv
  rw [l4T_3 hv (by simp [sizedL]; omega)]
  have hd : (a ++ (sizedL l ++ t)).drop (a ++ varF (l.length : Int)).length = l ++ t := by
    rw [e, ← List.append_assoc, List.drop_left']; rfl
  rw [hd]
  simp [sizedL]
  omega
end Go.Proofs.Ytinacpjelephoaa
