/-
  ReadDec (impl and spec) as one plain function. Conditions: a string of at most 2^40 bytes.
-/
import Derived.Test.YtinacpjelephoaaDec
namespace Go.Proofs.Ytinacpjelephoaa
open Go.RowKit

def dig (b : UInt8) : Bool := decide (48 ≤ b.toNat) && decide (b.toNat ≤ 57)
def vstep (n : Nat) (b : UInt8) : Nat := if dig b = true then 10 * n + (b.toNat - 48) else n
def valL (l : List UInt8) : Nat := l.foldl vstep 0
def cntL (l : List UInt8) : Nat := (l.filter dig).length
theorem valL_snoc (l : List UInt8) (b : UInt8) : valL (l ++ [b]) = vstep (valL l) b := by simp [valL, List.foldl_append]
theorem cntL_snoc (l : List UInt8) (b : UInt8) : cntL (l ++ [b]) = cntL l + if dig b = true then 1 else 0 := by
  simp only [cntL, List.filter_append, List.length_append]
  congr 1
  by_cases h : dig b = true <;> simp [h]
theorem dig_yes {b : UInt8} (h1 : 48 ≤ b.toNat) (h2 : b.toNat ≤ 57) : dig b = true := by simp [dig, h1, h2]
theorem dig_no {b : UInt8} (h : ¬ (48 ≤ b.toNat ∧ b.toNat ≤ 57)) : dig b = false := by
  cases hd : dig b with
  | false => rfl
  | true => simp [dig] at hd; omega
theorem vstep_foldl_lt : ∀ (l : List UInt8) (n k : Nat), n < 10 ^ k → l.foldl vstep n < 10 ^ (k + l.length)
  | [], n, k, h => h
  | b :: l, n, k, h => by
    rw [List.foldl_cons, List.length_cons, show k + (l.length + 1) = (k + 1) + l.length by omega]
    refine vstep_foldl_lt l _ _ ?_
    rw [Nat.pow_succ]
    unfold vstep
    split
    · rename_i hd
      simp [dig] at hd
      omega
    · omega
theorem valL_lt (l : List UInt8) : valL l < 10 ^ l.length := by
  have := vstep_foldl_lt l 0 0 (by omega)
  simpa [valL] using this
theorem valL_11 (l : List UInt8) (h : l.length ≤ 11) : valL l ≤ 99999999999 := by
  have h1 := valL_lt l
  have h2 : 10 ^ l.length ≤ 10 ^ 11 := Nat.pow_le_pow_right (by omega) h
  have h3 : (10 : Nat) ^ 11 = 100000000000 := rfl
  omega
theorem cntL_le (l : List UInt8) : cntL l ≤ l.length := List.length_filter_le _ _
theorem cntL_all {l : List UInt8} (h : l.all dig = true) : cntL l = l.length := by
  rw [cntL, List.filter_eq_self.2]
  intro a ha
  exact List.all_eq_true.1 h a ha
theorem take_snoc (l : List UInt8) (k : Nat) (h : k < l.length) : l.take (k + 1) = l.take k ++ [l[k]] := List.take_succ_eq_append_getElem h
theorem decN_dig : ∀ (f m : Nat), m ≤ f → (decN m).all dig = true
  | 0, m, h => by
    have : m = 0 := by omega
    rw [this, decN_zero]; rfl
  | f + 1, m, h => by
    rcases Nat.eq_zero_or_pos m with rfl | hp
    · rw [decN_zero]; rfl
    · rw [decN_pos hp, List.all_append, decN_dig f (m / 10) (by omega), List.all_cons, List.all_nil, dig_yes]
      · rfl
      · rw [dB_toNat (by omega)]; omega
      · rw [dB_toNat (by omega)]; omega
theorem decN_ne {m : Nat} (h : 0 < m) : 1 ≤ (decN m).length := by
  rw [decN_pos h, List.length_append]
  simp
def sgnL (l : List UInt8) (n : Nat) : Int := if l.head? = some 45 then -(n : Int) else (n : Int)
def readDecF (l : List UInt8) : Int × Bool :=
  if 9 < cntL (l.take 11) ∨ 10 < l.length ∨ decL (sgnL l (valL (l.take 11))) ≠ l then (0, false) else (sgnL l (valL (l.take 11)), true)
def atL (l : List UInt8) : Nat := if l.head? = some 45 then 1 else 0
def ireadDecF (l : List UInt8) : Int × Bool :=
  if ¬ (1 ≤ l.length - atL l ∧ l.length - atL l ≤ 9) ∨ (l.drop (atL l)).all dig = false ∨ decL (sgnL l (valL (l.drop (atL l)))) ≠ l then (0, false) else (sgnL l (valL (l.drop (atL l))), true)
theorem valL_minus (l : List UInt8) : valL (45 :: l) = valL l := rfl
theorem cntL_minus (l : List UInt8) : cntL (45 :: l) = cntL l := rfl
theorem ireadDecF_eq (l : List UInt8) : ireadDecF l = readDecF l := by
  unfold ireadDecF readDecF
  by_cases h10 : 10 < l.length
  · rw [if_pos (c := _ ∨ 10 < l.length ∨ _) (Or.inr (Or.inl h10)), if_pos]
    left
    unfold atL
    split <;> omega
  · have ht : l.take 11 = l := List.take_of_length_le (by omega)
    rw [ht]
    by_cases hm : l.head? = some 45
    · obtain ⟨b, rfl⟩ : ∃ b, l = 45 :: b := by
        cases l with
        | nil => simp at hm
        | cons c b => simp at hm; exact ⟨b, by rw [hm]⟩
      have ha : atL (45 :: b) = 1 := by unfold atL; rw [if_pos hm]
      have hs : ∀ n, sgnL (45 :: b) n = -(n : Int) := fun n => by unfold sgnL; rw [if_pos hm]
      simp only [ha, hs, List.drop_succ_cons, List.drop_zero, valL_minus, cntL_minus, List.length_cons] at h10 ⊢
      by_cases he : decL (-(valL b : Int)) = 45 :: b
      · have hv : 0 < valL b := by
          rcases Nat.eq_zero_or_pos (valL b) with h0 | h0
          · rw [h0] at he
            exact absurd he (by rw [show (-((0 : Nat) : Int)) = 0 from rfl, decL_zero]; simp)
          · exact h0
        have hb : decN (valL b) = b := by rw [decL_neg hv] at he; exact List.tail_eq_of_cons_eq he
        have h1 := decN_ne hv
        have h2 := decN_dig _ _ (Nat.le_refl (valL b))
        rw [hb] at h1 h2
        have h3 := cntL_le b
        rw [if_neg, if_neg]
        · simp [he]; omega
        · simp [he, h2]; omega
      · rw [if_pos (Or.inr (Or.inr he)), if_pos (Or.inr (Or.inr he))]
    · have ha : atL l = 0 := by unfold atL; rw [if_neg hm]
      have hs : ∀ n, sgnL l n = (n : Int) := fun n => by unfold sgnL; rw [if_neg hm]
      simp only [ha, hs, List.drop_zero, Nat.sub_zero]
      by_cases he : decL (valL l : Int) = l
      · have h12 : 1 ≤ l.length ∧ l.all dig = true := by
          rcases Nat.eq_zero_or_pos (valL l) with h0 | h0
          · rw [h0, show ((0 : Nat) : Int) = 0 from rfl, decL_zero] at he
            rw [← he]
            exact ⟨by simp, by decide⟩
          · rw [decL_pos h0] at he
            have h1 := decN_ne h0
            have h2 := decN_dig _ _ (Nat.le_refl (valL l))
            rw [he] at h1 h2
            exact ⟨h1, h2⟩
        have h3 := cntL_all h12.2
        by_cases h9 : l.length ≤ 9
        · rw [if_neg, if_neg]
          · simp [he, h3]; omega
          · simp [he, h12.2]; omega
        · rw [if_pos (Or.inl (by omega)), if_pos (Or.inl (by omega))]
      · rw [if_pos (Or.inr (Or.inr he)), if_pos (Or.inr (Or.inr he))]
theorem head_45 {l : List UInt8} (h0 : 0 < l.length) (h : l[0].toNat = 45) : l.head? = some 45 := by
  cases l with
  | nil => simp at h0
  | cons b r => simp at h ⊢; exact UInt8.toNat_inj.1 h
theorem head_no {l : List UInt8} (h0 : 0 < l.length) (h : l[0].toNat ≠ 45) : l.head? ≠ some 45 := by
  cases l with
  | nil => simp at h0
  | cons b r => simp at h ⊢; intro hb; exact h (by rw [hb]; rfl)
attribute [local irreducible] decL readDecF ireadDecF valL cntL vstep dig sgnL atL












































































































































































































































theorem drop_take_snoc (l : List UInt8) (A j : Nat) (hA : A ≤ j) (h : j < l.length) : (l.drop A).take (j + 1 - A) = (l.drop A).take (j - A) ++ [l[j]] := by
  rw [show j + 1 - A = (j - A) + 1 by omega, List.take_succ_eq_append_getElem (by rw [List.length_drop]; omega)]
  congr 2
  rw [List.getElem_drop]
  congr 1
  omega
theorem all_no (l : List UInt8) (A j : Nat) (hA : A ≤ j) (h : j < l.length) (hd : dig l[j] = false) : (l.drop A).all dig = false := by
  rw [List.all_eq_false]
  refine ⟨l[j], ?_, by rw [hd]; simp⟩
  rw [List.mem_iff_getElem]
  refine ⟨j - A, by rw [List.length_drop]; omega, ?_⟩
  rw [List.getElem_drop]
  congr 1
  omega
set_option maxRecDepth 100000 in
set_option maxHeartbeats 4000000 in
theorem iReadDec_any (l : List UInt8) (w : World) (h63 : l.length ≤ 1099511627776) :
    Calls Try.prog 12 #[.string (bs l)] w fun e w' => e = .returned (.tuple #[.int .i64 (readDecF l).1, .bool (readDecF l).2]) ∧ Below w.heap.size w w' := by
  rw [← ireadDecF_eq]
  have hRf : ireadDecF l = if ¬ (1 ≤ l.length - atL l ∧ l.length - atL l ≤ 9) ∨ (l.drop (atL l)).all dig = false ∨ decL (sgnL l (valL (l.drop (atL l)))) ≠ l then (0, false) else (sgnL l (valL (l.drop (atL l))), true) := by unfold ireadDecF; rfl
  generalize ireadDecF l = R at *
  rcases Nat.eq_zero_or_pos l.length with h0 | h0
  · have hr : R = (0, false) := by
      rw [hRf, if_pos]
      left
      omega
    have HR := Lib.hid hr; clear hr hRf
    go_enter Try.func12, Try.ntmps12
    go_wp2_with (go_at_call 32; refine (within_no _ _ _ _ (by omega)).mono ?_; rintro e w' ⟨rfl, rfl⟩)
    all_goals go_ret2
    all_goals exact ⟨ret_eq (by rw [HR.out]; rfl), Below.refl _ _⟩
  · by_cases hm : l[0].toNat = 45
    · have ha : atL l = 1 := by unfold atL; rw [if_pos (head_45 h0 hm)]
      have hs : ∀ n, sgnL l n = -(n : Int) := fun n => by unfold sgnL; rw [if_pos (head_45 h0 hm)]
      simp only [ha, hs] at hRf
      have HRf := Lib.hid hRf; clear hRf ha hs
      go_enter Try.func12, Try.ntmps12
      by_cases hw : 1 ≤ (l.length : Int) - 1 ∧ (l.length : Int) - 1 ≤ 9
      · have hlen : l.length - 1 ≤ 9 ∧ 1 ≤ l.length := by omega
        go_wp2_with (go_at_call 32; refine (within_yes _ _ _ _ hw).mono ?_; rintro e w' ⟨rfl, rfl⟩)
        go_loop [5, 6] (fun n i => ∃ j : Nat, 1 ≤ j ∧ j ≤ l.length ∧ i = .int .i64 (j : Int) ∧ n = .int .i64 (valL ((l.drop 1).take (j - 1)) : Int) ∧ ((l.drop 1).take (j - 1)).all dig = true) (fun _ i => l.length - (intOf i).toNat)
        case atStart => exact ⟨1, Nat.le_refl _, hlen.2, rfl, by unfold valL; rfl, rfl⟩
        case round =>
          obtain ⟨j, hAj, hj, rfl, rfl, hall⟩ := hrel
          have hv := valL_11 ((l.drop 1).take (j - 1)) (by rw [List.length_take, List.length_drop]; omega)
          by_cases hlt : j < l.length
          · have hsn := drop_take_snoc l 1 j hAj hlt
            have e1 := valL_snoc ((l.drop 1).take (j - 1)) l[j]
            rw [← hsn] at e1
            have hb : l[j].toNat < 256 := l[j].toNat_lt
            by_cases hd : 48 ≤ l[j].toNat ∧ l[j].toNat ≤ 57
            · have hall2 : ((l.drop 1).take (j + 1 - 1)).all dig = true := by rw [hsn, List.all_append, hall, List.all_cons, dig_yes hd.1 hd.2]; rfl
              generalize valL ((l.drop 1).take (j - 1)) = n at *
              have e3 : vstep n l[j] = 10 * n + (l[j].toNat - 48) := by unfold vstep; rw [if_pos (dig_yes hd.1 hd.2)]
              rw [e3] at e1
              obtain ⟨hd1, hd2⟩ := hd
              have E1 := Lib.hid e1; clear e1 e3 hsn hall
              have E2 := Lib.hid hall2; clear hall2
              go_wp2
              exact ⟨⟨j + 1, by omega, by omega, by go_num, by rw [E1.out]; refine congrArg (Value.int .i64) ?_; omega, E2.out⟩, by simp only [intOf]; omega⟩
            · have hall2 := all_no l 1 j hAj hlt (dig_no hd)
              have hr : R = (0, false) := by rw [HRf.out, if_pos (Or.inr (Or.inl hall2))]
              have HR := Lib.hid hr; clear hr hall2 hall e1 hsn
              generalize valL ((l.drop 1).take (j - 1)) = n at *
              by_cases hd1 : 48 ≤ l[j].toNat
              · have hd2 : 57 < l[j].toNat := by omega
                clear hd
                go_wp2
                all_goals go_ret2
                all_goals exact ⟨ret_eq (by rw [HR.out]; rfl), Below.refl _ _⟩
              · clear hd
                go_wp2
                all_goals go_ret2
                all_goals exact ⟨ret_eq (by rw [HR.out]; rfl), Below.refl _ _⟩
          · have hjl : j = l.length := by omega
            have ht : (l.drop 1).take (j - 1) = l.drop 1 := List.take_of_length_le (by rw [List.length_drop]; omega)
            rw [ht] at hv hall ⊢
            have hrf := HRf.out
            clear HRf ht
            generalize valL (l.drop 1) = N at *
            have hcall := fun W => iDec_any (-(N : Int)) W ⟨by omega, by omega⟩
            generalize hD : decL (-(N : Int)) = D at *
            have HD := Lib.hid hcall; clear hcall hD
            by_cases c3 : D = l
            · have hr : R = (-(N : Int), true) := by rw [hrf, if_neg (fun h => h.elim (fun h => h (by omega)) (fun h => h.elim (fun h => by rw [hall] at h; cases h) (fun h => h c3)))]
              have HR := Lib.hid hr; clear hr hrf hall
              have ht : (D == l) = true := by simpa using c3
              clear c3
              go_wp2_with (go_at_call 13; refine (HD.out _).mono ?_; rintro e w9 ⟨rfl, hb9⟩; have B9 := Lib.hid hb9; clear hb9)
              all_goals go_ret2
              all_goals exact ⟨ret_eq (by rw [HR.out]; rfl), B9.out⟩
            · have hr : R = (0, false) := by rw [hrf, if_pos (Or.inr (Or.inr c3))]
              have HR := Lib.hid hr; clear hr hrf hall
              have ht : (D == l) = false := by simpa using c3
              clear c3
              go_wp2_with (go_at_call 13; refine (HD.out _).mono ?_; rintro e w9 ⟨rfl, hb9⟩; have B9 := Lib.hid hb9; clear hb9)
              all_goals go_ret2
              all_goals exact ⟨ret_eq (by rw [HR.out]; rfl), B9.out⟩
      · have hr : R = (0, false) := by rw [HRf.out, if_pos (Or.inl (by omega))]
        have HR := Lib.hid hr; clear hr HRf
        go_wp2_with (go_at_call 32; refine (within_no _ _ _ _ hw).mono ?_; rintro e w' ⟨rfl, rfl⟩)
        all_goals go_ret2
        all_goals exact ⟨ret_eq (by rw [HR.out]; rfl), Below.refl _ _⟩
    · have ha : atL l = 0 := by unfold atL; rw [if_neg (head_no h0 hm)]
      have hs : ∀ n, sgnL l n = (n : Int) := fun n => by unfold sgnL; rw [if_neg (head_no h0 hm)]
      simp only [ha, hs] at hRf
      have HRf := Lib.hid hRf; clear hRf ha hs
      go_enter Try.func12, Try.ntmps12
      by_cases hw : 1 ≤ (l.length : Int) - 0 ∧ (l.length : Int) - 0 ≤ 9
      · have hlen : l.length - 0 ≤ 9 ∧ 0 ≤ l.length := by omega
        go_wp2_with (go_at_call 32; refine (within_yes _ _ _ _ hw).mono ?_; rintro e w' ⟨rfl, rfl⟩)
        go_loop [5, 6] (fun n i => ∃ j : Nat, 0 ≤ j ∧ j ≤ l.length ∧ i = .int .i64 (j : Int) ∧ n = .int .i64 (valL ((l.drop 0).take (j - 0)) : Int) ∧ ((l.drop 0).take (j - 0)).all dig = true) (fun _ i => l.length - (intOf i).toNat)
        case atStart => exact ⟨0, Nat.le_refl _, hlen.2, rfl, by unfold valL; rfl, rfl⟩
        case round =>
          obtain ⟨j, hAj, hj, rfl, rfl, hall⟩ := hrel
          have hv := valL_11 ((l.drop 0).take (j - 0)) (by rw [List.length_take, List.length_drop]; omega)
          by_cases hlt : j < l.length
          · have hsn := drop_take_snoc l 0 j hAj hlt
            have e1 := valL_snoc ((l.drop 0).take (j - 0)) l[j]
            rw [← hsn] at e1
            have hb : l[j].toNat < 256 := l[j].toNat_lt
            by_cases hd : 48 ≤ l[j].toNat ∧ l[j].toNat ≤ 57
            · have hall2 : ((l.drop 0).take (j + 1 - 0)).all dig = true := by rw [hsn, List.all_append, hall, List.all_cons, dig_yes hd.1 hd.2]; rfl
              generalize valL ((l.drop 0).take (j - 0)) = n at *
              have e3 : vstep n l[j] = 10 * n + (l[j].toNat - 48) := by unfold vstep; rw [if_pos (dig_yes hd.1 hd.2)]
              rw [e3] at e1
              obtain ⟨hd1, hd2⟩ := hd
              have E1 := Lib.hid e1; clear e1 e3 hsn hall
              have E2 := Lib.hid hall2; clear hall2
              go_wp2
              exact ⟨⟨j + 1, by omega, by omega, by go_num, by rw [E1.out]; refine congrArg (Value.int .i64) ?_; omega, E2.out⟩, by simp only [intOf]; omega⟩
            · have hall2 := all_no l 0 j hAj hlt (dig_no hd)
              have hr : R = (0, false) := by rw [HRf.out, if_pos (Or.inr (Or.inl hall2))]
              have HR := Lib.hid hr; clear hr hall2 hall e1 hsn
              generalize valL ((l.drop 0).take (j - 0)) = n at *
              by_cases hd1 : 48 ≤ l[j].toNat
              · have hd2 : 57 < l[j].toNat := by omega
                clear hd
                go_wp2
                all_goals go_ret2
                all_goals exact ⟨ret_eq (by rw [HR.out]; rfl), Below.refl _ _⟩
              · clear hd
                go_wp2
                all_goals go_ret2
                all_goals exact ⟨ret_eq (by rw [HR.out]; rfl), Below.refl _ _⟩
          · have hjl : j = l.length := by omega
            have ht : (l.drop 0).take (j - 0) = l.drop 0 := List.take_of_length_le (by rw [List.length_drop]; omega)
            rw [ht] at hv hall ⊢
            have hrf := HRf.out
            clear HRf ht
            generalize valL (l.drop 0) = N at *
            have hcall := fun W => iDec_any ((N : Int)) W ⟨by omega, by omega⟩
            generalize hD : decL ((N : Int)) = D at *
            have HD := Lib.hid hcall; clear hcall hD
            by_cases c3 : D = l
            · have hr : R = ((N : Int), true) := by rw [hrf, if_neg (fun h => h.elim (fun h => h (by omega)) (fun h => h.elim (fun h => by rw [hall] at h; cases h) (fun h => h c3)))]
              have HR := Lib.hid hr; clear hr hrf hall
              have ht : (D == l) = true := by simpa using c3
              clear c3
              go_wp2_with (go_at_call 13; refine (HD.out _).mono ?_; rintro e w9 ⟨rfl, hb9⟩; have B9 := Lib.hid hb9; clear hb9)
              all_goals go_ret2
              all_goals exact ⟨ret_eq (by rw [HR.out]; rfl), B9.out⟩
            · have hr : R = (0, false) := by rw [hrf, if_pos (Or.inr (Or.inr c3))]
              have HR := Lib.hid hr; clear hr hrf hall
              have ht : (D == l) = false := by simpa using c3
              clear c3
              go_wp2_with (go_at_call 13; refine (HD.out _).mono ?_; rintro e w9 ⟨rfl, hb9⟩; have B9 := Lib.hid hb9; clear hb9)
              all_goals go_ret2
              all_goals exact ⟨ret_eq (by rw [HR.out]; rfl), B9.out⟩
      · have hr : R = (0, false) := by rw [HRf.out, if_pos (Or.inl (by omega))]
        have HR := Lib.hid hr; clear hr HRf
        go_wp2_with (go_at_call 32; refine (within_no _ _ _ _ hw).mono ?_; rintro e w' ⟨rfl, rfl⟩)
        all_goals go_ret2
        all_goals exact ⟨ret_eq (by rw [HR.out]; rfl), Below.refl _ _⟩

end Go.Proofs.Ytinacpjelephoaa
