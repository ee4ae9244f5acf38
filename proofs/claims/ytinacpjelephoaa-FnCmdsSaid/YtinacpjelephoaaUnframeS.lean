/-
  The reference's l4Take and Unframe as the same plain functions. Conditions: a string of at most 2^40 bytes.
-/
import Derived.Test.YtinacpjelephoaaUnframe
namespace Go.Proofs.Ytinacpjelephoaa
open Go.RowKit

def l4T (s : List UInt8) (at_ : Int) : List UInt8 × Int :=
  if (l4V s 1 at_).2 < 0 ∨ (((l4V s 1 at_).1.headD 0 : Nat) : Int) > s.length - (l4V s 1 at_).2 then ([], -1)
  else ((s.drop (l4V s 1 at_).2.toNat).take ((l4V s 1 at_).1.headD 0), (l4V s 1 at_).2 + ((l4V s 1 at_).1.headD 0 : Nat))
theorem l4T_1 {s : List UInt8} {at_ : Int} (h : (l4V s 1 at_).2 < 0) : l4T s at_ = ([], -1) := if_pos (Or.inl h)
theorem l4T_2 {s : List UInt8} {at_ : Int} {x k : Nat} (h : l4V s 1 at_ = ([x], (k : Int))) (hb : (x : Int) > s.length - (k : Int)) : l4T s at_ = ([], -1) := by
  unfold l4T
  rw [h]
  exact if_pos (Or.inr hb)
theorem l4T_3 {s : List UInt8} {at_ : Int} {x k : Nat} (h : l4V s 1 at_ = ([x], (k : Int))) (hb : ¬ (x : Int) > s.length - (k : Int)) : l4T s at_ = ((s.drop k).take x, (k : Int) + (x : Int)) := by
  unfold l4T
  rw [h]
  exact if_neg (fun hh => hh.elim (fun h1 => by have : (0 : Int) ≤ (k : Int) := by omega
                                                exact absurd h1 (by omega)) hb)
theorem l4T_len (s : List UInt8) (at_ : Int) : (l4T s at_).1.length ≤ s.length := by
  unfold l4T
  split
  · simp
  · simp only [List.length_take, List.length_drop]; omega
theorem l4T_range (s : List UInt8) (at_ : Int) (h : -1 ≤ at_) : -1 ≤ (l4T s at_).2 ∧ (l4T s at_).2 ≤ s.length := by
  have := l4V_range s 1 at_ h (Or.inr (by omega))
  unfold l4T
  split
  · exact ⟨Int.le_refl _, by show (-1 : Int) ≤ _; omega⟩
  · exact ⟨by show (-1 : Int) ≤ _ + _; omega, by show _ + _ ≤ _; omega⟩
theorem l4T_ge (s : List UInt8) (at_ : Int) : (l4T s at_).2 < 0 ∨ at_ ≤ (l4T s at_).2 := by
  unfold l4T
  split
  · exact Or.inl (by decide)
  · rename_i h
    have hk : at_ ≤ (l4V s 1 at_).2 := by
      by_cases hb : at_ < 0 ∨ at_ > s.length
      · rw [l4V_bad s 0 _ hb] at h
        exact absurd (Or.inl (by decide)) h
      · by_cases h0 : (readVarF (s.drop at_.toNat)).2 = 0
        · rw [l4V_zero s 0 _ hb h0] at h
          exact absurd (Or.inl (by decide)) h
        · rw [l4V_next s 0 _ hb h0]
          show at_ ≤ at_ + _
          omega
    right
    show at_ ≤ _ + _
    omega

set_option maxRecDepth 100000 in
set_option maxHeartbeats 800000 in
theorem l4Take_any (s : List UInt8) (at_ : Int) (w : World) (h63 : (s.length : Int) ≤ 4611686018427387904) (hat : -1 ≤ at_ ∧ at_ ≤ 4611686018427387910) :
    Calls Try.prog 43 #[.string (bs s), .int .i64 at_] w fun e w' => e = .returned (.tuple #[.string (bs (l4T s at_).1), .int .i64 (l4T s at_).2]) ∧ Below w.heap.size w w' := by
  have hr := l4V_range s 1 at_ hat.1 (Or.inr (by omega))
  obtain ⟨hl1, hl2, hl3⟩ := l4V_len s 1 at_
  have hT1 := @l4T_1 s at_
  have hT2 := @l4T_2 s at_
  have hT3 := @l4T_3 s at_
  generalize hR : l4V s 1 at_ = R at *
  obtain ⟨L, k⟩ := R
  have HR := Lib.hid hR; clear hR
  simp only at hr hl1 hl2 hl3 hT1
  have hcall := l4Vars_any s at_ 1 w h63 hat (by omega)
  rw [HR.out] at hcall
  by_cases hk : k < 0
  · have hT := hT1 hk
    have HT := Lib.hid hT; clear hT hl1 hl2 hl3 hT1 hT2 hT3
    have HC := Lib.hid hcall; clear hcall
    go_enter Try.func43, Try.ntmps43
    go_wp2_with fail
    refine HC.out.mono ?_; rintro e w1 ⟨v, rfl, hown, hb1⟩
    have HO := Lib.hid hown; clear hown
    have B1 := Lib.hid hb1; clear hb1
    go_wp2
    go_ret2
    exact ⟨ret_eq (by rw [HT.out]; rfl), B1.out⟩
  · have hlen : L.length = 1 := hl2 (by omega)
    obtain ⟨x, rfl⟩ : ∃ x, L = [x] := by
      match L, hlen with
      | [x], _ => exact ⟨x, rfl⟩
    have hx : x ≤ 562949953421311 := hl3 x (by simp)
    obtain ⟨K, rfl⟩ := Int.eq_ofNat_of_zero_le (show 0 ≤ k by omega)
    clear hl1 hl2 hl3 hlen hk
    have HC := Lib.hid hcall; clear hcall
    by_cases hbig : (x : Int) > s.length - (K : Int)
    · have hT := hT2 rfl hbig
      have HT := Lib.hid hT; clear hT hT1 hT2 hT3
      go_enter Try.func43, Try.ntmps43
      go_wp2_with fail
      refine HC.out.mono ?_; rintro e w1 ⟨v, rfl, hown, hb1⟩
      obtain ⟨g, c, rfl, hg1, hg2⟩ := own_form hown (by simp)
      have hc := hown.cellAt 0 (by simp)
      simp only [List.map_cons, List.map_nil, List.getElem?_cons_zero, natv] at hc
      have HO := Lib.hid hown; clear hown
      have B1 := Lib.hid hb1; clear hb1
      go_wp2
      go_ret2
      exact ⟨ret_eq (by rw [HT.out]; rfl), B1.out⟩
    · have hT := hT3 rfl hbig
      have HT := Lib.hid hT; clear hT hT1 hT2 hT3
      go_enter Try.func43, Try.ntmps43
      go_wp2_with fail
      refine HC.out.mono ?_; rintro e w1 ⟨v, rfl, hown, hb1⟩
      obtain ⟨g, c, rfl, hg1, hg2⟩ := own_form hown (by simp)
      have hc := hown.cellAt 0 (by simp)
      simp only [List.map_cons, List.map_nil, List.getElem?_cons_zero, natv] at hc
      have HO := Lib.hid hown; clear hown
      have B1 := Lib.hid hb1; clear hb1
      have hc1 : (0 : Int) ≤ (K : Int) ∧ (K : Int) ≤ (K : Int) + (x : Int) ∧ (K : Int) + (x : Int) ≤ (s.length : Int) := by omega
      go_wp2
      refine wp_region_x 15 [0, 1, 2, 3, 4, 5, 6, 7, 8, 9, 10, 11, 12, 13, 14] (by kernel_rfl) (by kernel_rfl) ?_
      iterate 15 (refine wpX_quiet rfl (by kernel_rfl) rfl ?_; go_wp2; refine ⟨rfl, ?_⟩)
      refine wpX_nil ?_
      simp only [List.drop_succ_cons, List.drop_zero]
      go_wp2
      go_ret2
      refine ⟨ret_eq (by rw [HT.out]; try simp), B1.out.drew⟩

/-- what the reference's Unframe asks at a place is what the program's frameAt asks there -/
theorem l4T_frame (s : List UInt8) (A : Nat) (hA : A ≤ s.length) :
    (frame1 (s.drop A) = none ∧ ((l4T s ((A : Int) + 4)).2 < 0 ∨ frameL (l4T s ((A : Int) + 4)).1 = [] ∨ frameL (l4T s ((A : Int) + 4)).1 ≠ (s.drop A).take ((l4T s ((A : Int) + 4)).2.toNat - A))) ∨
    (frame1 (s.drop A) = some (l4T s ((A : Int) + 4)).1 ∧ 0 ≤ (l4T s ((A : Int) + 4)).2 ∧ (l4T s ((A : Int) + 4)).2 = (A : Int) + (frameL (l4T s ((A : Int) + 4)).1).length ∧ frameL (l4T s ((A : Int) + 4)).1 ≠ [] ∧
      frameL (l4T s ((A : Int) + 4)).1 = (s.drop A).take ((l4T s ((A : Int) + 4)).2.toNat - A) ∧ (l4T s ((A : Int) + 4)).2 ≤ s.length) := by
  have neg : (l4T s ((A : Int) + 4)).2 = -1 → (scanText ((s.drop A).drop 4) false).2.2 = true → (frame1 (s.drop A) = none ∧ ((l4T s ((A : Int) + 4)).2 < 0 ∨ frameL (l4T s ((A : Int) + 4)).1 = [] ∨ frameL (l4T s ((A : Int) + 4)).1 ≠ (s.drop A).take ((l4T s ((A : Int) + 4)).2.toNat - A))) := fun h1 h2 => by
    refine ⟨?_, Or.inl (by omega)⟩
    unfold frame1
    split
    · rfl
    · have : frameBad (s.drop A) = true := by unfold frameBad; rw [h2]; simp
      rw [if_pos this]
  have hdd : (s.drop A).drop 4 = s.drop (A + 4) := List.drop_drop
  by_cases hlen : (A : Int) + 4 > s.length
  · refine Or.inl (neg ?_ ?_)
    · rw [l4T_1 (by rw [l4V_bad s 0 _ (Or.inr hlen)]; decide)]
    · rw [hdd, List.drop_of_length_le (by omega)]
      rfl
  · have hnb : ¬ ((A : Int) + 4 < 0 ∨ (A : Int) + 4 > s.length) := by omega
    have htn : ((A : Int) + 4).toNat = A + 4 := by omega
    by_cases h0 : (readVarF (s.drop (A + 4))).2 = 0
    · refine Or.inl (neg ?_ ?_)
      · rw [l4T_1 (by rw [l4V_zero s 0 _ hnb (by rw [htn]; exact h0)]; decide)]
      · rw [hdd]
        simp [scanText, scanNum, h0, scanCut]
    · have hv : l4V s 1 ((A : Int) + 4) = ([(readVarF (s.drop (A + 4))).1], (A : Int) + 4 + (readVarF (s.drop (A + 4))).2) := by
        rw [l4V_next s 0 _ hnb (by rw [htn]; exact h0), htn]
        rfl
      have hhit := readVarF_hit (s.drop (A + 4)) h0
      have hle := readVarF_le (s.drop (A + 4))
      have hdr := readVarF_drop s (A + 4) (by omega)
      have hsn : scanNum (s.drop (A + 4)) false = ((readVarF (s.drop (A + 4))).1, (s.drop (A + 4)).drop (readVarF (s.drop (A + 4))).2, false) := by
        rw [scanNum, if_neg (by simp [h0])]
      have hT2 := @l4T_2 s ((A : Int) + 4) (readVarF (s.drop (A + 4))).1 (A + 4 + (readVarF (s.drop (A + 4))).2) (by rw [hv]; congr 1)
      have hT3 := @l4T_3 s ((A : Int) + 4) (readVarF (s.drop (A + 4))).1 (A + 4 + (readVarF (s.drop (A + 4))).2) (by rw [hv]; congr 1)
      have hS : scanText ((s.drop A).drop 4) false = scanCut (s.drop (A + 4 + (readVarF (s.drop (A + 4))).2)) false ((readVarF (s.drop (A + 4))).1 : Int) := by
        rw [hdd, scanText, hsn]
        simp only [List.drop_drop]
      generalize hrr : readVarF (s.drop (A + 4)) = r at *
      obtain ⟨n, k⟩ := r
      simp only at *
      by_cases hbig : (n : Int) > s.length - ((A + 4 + k : Nat) : Int)
      · have hT := hT2 hbig
        refine Or.inl (neg (by rw [hT]) ?_)
        rw [hS, scanCut, if_pos (Or.inr (by rw [List.length_drop]; omega))]
      · have hT := hT3 hbig
        rw [scanCut, if_neg (by rw [List.length_drop]; simp; omega)] at hS
        simp only [Int.toNat_natCast] at hS
        rw [hT]
        simp only
        generalize ht : (s.drop (A + 4 + k)).take n = t at *
        have htl : t.length = n := by rw [← ht, List.length_take, List.length_drop]; omega
        have hto : (((A + 4 + k : Nat) : Int) + n).toNat - A = 4 + k + n := by omega
        rw [hto]
        have hvl : (varF (t.length : Int)).length = k := by
          rw [htl, hhit, List.length_take, List.length_drop]; omega
        have hfb : frameBad (s.drop A) = ((frameL t).isEmpty || decide ((s.drop A).length < (frameL t).length) || !((s.drop A).take (frameL t).length == frameL t)) := by
          unfold frameBad
          rw [hS]
          simp
        by_cases he : frameL t = []
        · left
          refine ⟨?_, Or.inr (Or.inl he)⟩
          unfold frame1
          split
          · rfl
          · rw [if_pos (by rw [hfb, he]; rfl)]
        · obtain ⟨h200, hge⟩ := frameL_ne he
          have hFl : (frameL t).length = 4 + k + n := by rw [frameL_length h200, hvl, htl]
          have hne : (frameL t).isEmpty = false := by cases hx : frameL t with
            | nil => exact absurd hx he
            | cons _ _ => rfl
          have hlt : decide ((s.drop A).length < (frameL t).length) = false := by rw [hFl, List.length_drop]; exact decide_eq_false (by omega)
          by_cases heq : frameL t = (s.drop A).take (4 + k + n)
          · right
            refine ⟨?_, by omega, by rw [hFl]; omega, he, heq, by omega⟩
            unfold frame1
            rw [if_neg (by rw [List.length_drop]; omega), hfb, hne, hlt, hFl, ← heq, hS, beq_self_eq_true]
            rfl
          · left
            refine ⟨?_, Or.inr (Or.inr heq)⟩
            unfold frame1
            split
            · rfl
            · rw [if_pos]
              rw [hfb, hFl]
              have : ((s.drop A).take (4 + k + n) == frameL t) = false := by simpa using fun h => heq h.symm
              rw [this]
              simp
theorem unframeL_eq (s : List UInt8) : unframeL s = unfr (s.length + 1) s := rfl
attribute [local irreducible] frameL l4T unfr unframeL


















































































































































































end Go.Proofs.Ytinacpjelephoaa
