/-
  The reference's l4Take and Unframe as the same plain functions. Conditions: a string of at most 2^40 bytes.
  What is laid is read back: numbers, texts. Plain.
  Commands as text: impl.ShowCmd and spec.ShowCmd. Conditions: a bound on the sizes.
  A command read back from its text, by the scanner and by places: plain laws. Plain.
  A command read: impl.ReadCmd. Condition: a bound on the size.
  A command read by places: spec.ReadCmd. Condition: a bound on the size.
  Commands that the reference draws: they are there, and not great. Conditions: a code of at most 2^20 bytes.
  Commands that the reference draws, right ones and spoilt ones: they are there, and not great. Conditions: a code of at most 2^20 bytes.
-/
import Derived.Test.YtonaacdefidomaaGreatBA
import Derived.Test.YtonaacdefidomaaGreatBB
import Derived.Test.YtonaacdefidomaaGreatBD
import Derived.Test.YtonaacdefidomaaGreatBE
set_option linter.unusedVariables false
set_option linter.unusedSimpArgs false
namespace Go.Proofs.YtonaacdefidomaaGreat
open Go.RowKit

def l4T (s : List UInt8) (at_ : Int) : List UInt8 × Int :=
  if (l4V s 1 at_).2 < 0 ∨ (((l4V s 1 at_).1.headD 0 : Nat) : Int) > s.length - (l4V s 1 at_).2 then ([], -1)
  else ((s.drop (l4V s 1 at_).2.toNat).take ((l4V s 1 at_).1.headD 0), (l4V s 1 at_).2 + ((l4V s 1 at_).1.headD 0 : Nat))
theorem l4T_1 {s : List UInt8} {at_ : Int} (h : (l4V s 1 at_).2 < 0) : l4T s at_ = ([], -1) := if_pos (Or.inl h)
theorem l4T_2 {s : List UInt8} {at_ : Int} {x k : Nat} (h : l4V s 1 at_ = ([x], (k : Int))) (hb : (x : Int) > s.length - (k : Int)) : l4T s at_ = ([], -1) := by
  unfold l4T
  rw [h]
  exact if_pos (Or.inr hb)
theorem l4T_3 {s : List UInt8} {at_ : Int} {x k : Nat} (h : l4V s 1 at_ = ([x], (k : Int))) (hb : ¬ (x : Int) > s.length - (k : Int)) : l4T s at_ = ((s.drop k).take x, (k : Int) + (x : Int)) := by
  unfold l4T
  rw [h]
  exact if_neg (fun hh => hh.elim (fun h1 => by have : (0 : Int) ≤ (k : Int) := by omega
                                                exact absurd h1 (by omega)) hb)
theorem l4T_len (s : List UInt8) (at_ : Int) : (l4T s at_).1.length ≤ s.length := by
  unfold l4T
  split
  · simp
  · simp only [List.length_take, List.length_drop]; omega
theorem l4T_range (s : List UInt8) (at_ : Int) (h : -1 ≤ at_) : -1 ≤ (l4T s at_).2 ∧ (l4T s at_).2 ≤ s.length := by
  have := l4V_range s 1 at_ h (Or.inr (by omega))
  unfold l4T
  split
  · exact ⟨Int.le_refl _, by show (-1 : Int) ≤ _; omega⟩
  · exact ⟨by show (-1 : Int) ≤ _ + _; omega, by show _ + _ ≤ _; omega⟩
theorem l4T_ge (s : List UInt8) (at_ : Int) : (l4T s at_).2 < 0 ∨ at_ ≤ (l4T s at_).2 := by
  unfold l4T
  split
  · exact Or.inl (by decide)
  · rename_i h
    have hk : at_ ≤ (l4V s 1 at_).2 := by
      by_cases hb : at_ < 0 ∨ at_ > s.length
      · rw [l4V_bad s 0 _ hb] at h
        exact absurd (Or.inl (by decide)) h
      · by_cases h0 : (readVarF (s.drop at_.toNat)).2 = 0
        · rw [l4V_zero s 0 _ hb h0] at h
          exact absurd (Or.inl (by decide)) h
        · rw [l4V_next s 0 _ hb h0]
          show at_ ≤ at_ + _
          omega
    right
    show at_ ≤ _ + _
    omega






































































/-- what the reference's Unframe asks at a place is what the program's frameAt asks there -/
theorem l4T_frame (s : List UInt8) (A : Nat) (hA : A ≤ s.length) :
    (frame1 (s.drop A) = none ∧ ((l4T s ((A : Int) + 4)).2 < 0 ∨ frameL (l4T s ((A : Int) + 4)).1 = [] ∨ frameL (l4T s ((A : Int) + 4)).1 ≠ (s.drop A).take ((l4T s ((A : Int) + 4)).2.toNat - A))) ∨
    (frame1 (s.drop A) = some (l4T s ((A : Int) + 4)).1 ∧ 0 ≤ (l4T s ((A : Int) + 4)).2 ∧ (l4T s ((A : Int) + 4)).2 = (A : Int) + (frameL (l4T s ((A : Int) + 4)).1).length ∧ frameL (l4T s ((A : Int) + 4)).1 ≠ [] ∧
      frameL (l4T s ((A : Int) + 4)).1 = (s.drop A).take ((l4T s ((A : Int) + 4)).2.toNat - A) ∧ (l4T s ((A : Int) + 4)).2 ≤ s.length) := by
  have neg : (l4T s ((A : Int) + 4)).2 = -1 → (scanText ((s.drop A).drop 4) false).2.2 = true → (frame1 (s.drop A) = none ∧ ((l4T s ((A : Int) + 4)).2 < 0 ∨ frameL (l4T s ((A : Int) + 4)).1 = [] ∨ frameL (l4T s ((A : Int) + 4)).1 ≠ (s.drop A).take ((l4T s ((A : Int) + 4)).2.toNat - A))) := fun h1 h2 => by
    refine ⟨?_, Or.inl (by omega)⟩
    unfold frame1
    split
    · rfl
    · have : frameBad (s.drop A) = true := by unfold frameBad; rw [h2]; simp
      rw [if_pos this]
  have hdd : (s.drop A).drop 4 = s.drop (A + 4) := List.drop_drop
  by_cases hlen : (A : Int) + 4 > s.length
  · refine Or.inl (neg ?_ ?_)
    · rw [l4T_1 (by rw [l4V_bad s 0 _ (Or.inr hlen)]; decide)]
    · rw [hdd, List.drop_of_length_le (by omega)]
      rfl
  · have hnb : ¬ ((A : Int) + 4 < 0 ∨ (A : Int) + 4 > s.length) := by omega
    have htn : ((A : Int) + 4).toNat = A + 4 := by omega
    by_cases h0 : (readVarF (s.drop (A + 4))).2 = 0
    · refine Or.inl (neg ?_ ?_)
      · rw [l4T_1 (by rw [l4V_zero s 0 _ hnb (by rw [htn]; exact h0)]; decide)]
      · rw [hdd]
        simp [scanText, scanNum, h0, scanCut]
    · have hv : l4V s 1 ((A : Int) + 4) = ([(readVarF (s.drop (A + 4))).1], (A : Int) + 4 + (readVarF (s.drop (A + 4))).2) := by
        rw [l4V_next s 0 _ hnb (by rw [htn]; exact h0), htn]
        rfl
      have hhit := readVarF_hit (s.drop (A + 4)) h0
      have hle := readVarF_le (s.drop (A + 4))
      have hdr := readVarF_drop s (A + 4) (by omega)
      have hsn : scanNum (s.drop (A + 4)) false = ((readVarF (s.drop (A + 4))).1, (s.drop (A + 4)).drop (readVarF (s.drop (A + 4))).2, false) := by
        rw [scanNum, if_neg (by simp [h0])]
      have hT2 := @l4T_2 s ((A : Int) + 4) (readVarF (s.drop (A + 4))).1 (A + 4 + (readVarF (s.drop (A + 4))).2) (by rw [hv]; congr 1)
      have hT3 := @l4T_3 s ((A : Int) + 4) (readVarF (s.drop (A + 4))).1 (A + 4 + (readVarF (s.drop (A + 4))).2) (by rw [hv]; congr 1)
      have hS : scanText ((s.drop A).drop 4) false = scanCut (s.drop (A + 4 + (readVarF (s.drop (A + 4))).2)) false ((readVarF (s.drop (A + 4))).1 : Int) := by
        rw [hdd, scanText, hsn]
        simp only [List.drop_drop]
      generalize hrr : readVarF (s.drop (A + 4)) = r at *
      obtain ⟨n, k⟩ := r
      simp only at *
      by_cases hbig : (n : Int) > s.length - ((A + 4 + k : Nat) : Int)
      · have hT := hT2 hbig
        refine Or.inl (neg (by rw [hT]) ?_)
        rw [hS, scanCut, if_pos (Or.inr (by rw [List.length_drop]; omega))]
      · have hT := hT3 hbig
        rw [scanCut, if_neg (by rw [List.length_drop]; simp; omega)] at hS
        simp only [Int.toNat_natCast] at hS
        rw [hT]
        simp only
        generalize ht : (s.drop (A + 4 + k)).take n = t at *
        have htl : t.length = n := by rw [← ht, List.length_take, List.length_drop]; omega
        have hto : (((A + 4 + k : Nat) : Int) + n).toNat - A = 4 + k + n := by omega
        rw [hto]
        have hvl : (varF (t.length : Int)).length = k := by
          rw [htl, hhit, List.length_take, List.length_drop]; omega
        have hfb : frameBad (s.drop A) = ((frameL t).isEmpty || decide ((s.drop A).length < (frameL t).length) || !((s.drop A).take (frameL t).length == frameL t)) := by
          unfold frameBad
          rw [hS]
          simp
        by_cases he : frameL t = []
        · left
          refine ⟨?_, Or.inr (Or.inl he)⟩
          unfold frame1
          split
          · rfl
          · rw [if_pos (by rw [hfb, he]; rfl)]
        · obtain ⟨h200, hge⟩ := frameL_ne he
          have hFl : (frameL t).length = 4 + k + n := by rw [frameL_length h200, hvl, htl]
          have hne : (frameL t).isEmpty = false := by cases hx : frameL t with
            | nil => exact absurd hx he
            | cons _ _ => rfl
          have hlt : decide ((s.drop A).length < (frameL t).length) = false := by rw [hFl, List.length_drop]; exact decide_eq_false (by omega)
          by_cases heq : frameL t = (s.drop A).take (4 + k + n)
          · right
            refine ⟨?_, by omega, by rw [hFl]; omega, he, heq, by omega⟩
            unfold frame1
            rw [if_neg (by rw [List.length_drop]; omega), hfb, hne, hlt, hFl, ← heq, hS, beq_self_eq_true]
            rfl
          · left
            refine ⟨?_, Or.inr (Or.inr heq)⟩
            unfold frame1
            split
            · rfl
            · rw [if_pos]
              rw [hfb, hFl]
              have : ((s.drop A).take (4 + k + n) == frameL t) = false := by simpa using fun h => heq h.symm
              rw [this]
              simp
theorem unframeL_eq (s : List UInt8) : unframeL s = unfr (s.length + 1) s := rfl
attribute [local irreducible] frameL l4T unfr unframeL


















































































































































































end Go.Proofs.YtonaacdefidomaaGreat
namespace Go.Proofs.YtonaacdefidomaaGreat
open Go.RowKit

theorem leN_varL (n : Nat) : leN (varL n) = n := by
  induction n using Nat.strongRecOn with
  | _ n ih =>
    by_cases h : n < 128
    · rw [varL_lt h]
      simp only [leN, UInt8.toNat_ofNat']
      omega
    · rw [varL_ge h]
      simp only [leN, UInt8.toNat_ofNat', ih (n / 128) (by omega)]
      omega
theorem varL_pos (n : Nat) : 1 ≤ (varL n).length := by
  obtain ⟨xs, b, he, _⟩ := varL_shape n
  rw [he]; simp
theorem readVarF_varL (n : Nat) (hn : n ≤ 562949953421311) (t : List UInt8) : readVarF (varL n ++ t) = (n, (varL n).length) := by
  have h7 := varL_length7 hn
  have hl := leN_varL n
  have hf := varF_nat hn
  obtain ⟨xs, b, he, h1, h2⟩ := varL_shape n
  rw [he] at h7 hl hf ⊢
  have hlen : (xs ++ [b]).length = xs.length + 1 := by simp
  have htk : (xs ++ [b] ++ t).take (xs.length + 1) = xs ++ [b] := by rw [← hlen, List.take_left']; rfl
  have hr := rv_low (l := xs ++ [b] ++ t) xs.length (by omega) (by simp) (fun j hj hji => by
    rw [List.getElem_append_left (by simp; omega), List.getElem_append_left (by omega)]
    exact h1 _ (List.getElem_mem _)) (by
    rw [List.getElem_append_left (by simp), List.getElem_append_right (by omega)]
    simpa using h2)
  have hit : rvHit (xs ++ [b] ++ t) (xs.length + 1) = true := by
    unfold rvHit
    rw [htk, hl, hf]
    simp
  rw [hr, hit, if_pos rfl, htk, hl, hlen]
theorem varF_pos {n : Int} (h : 0 ≤ n ∧ n ≤ 562949953421311) : 1 ≤ (varF n).length := by
  rw [varF, if_pos h]; exact varL_pos _
theorem readVarF_varF {n : Int} (h : 0 ≤ n ∧ n ≤ 562949953421311) (t : List UInt8) : readVarF (varF n ++ t) = (n.toNat, (varF n).length) := by
  rw [varF, if_pos h]; exact readVarF_varL _ (by omega) t
theorem scanNum_varF {n : Int} (h : 0 ≤ n ∧ n ≤ 562949953421311) (t : List UInt8) : scanNum (varF n ++ t) false = (n.toNat, t, false) := by
  have hr := readVarF_varF h t
  have hp := varF_pos h
  unfold scanNum
  rw [hr, if_neg (fun hh => hh.elim (fun h => by cases h) (fun h => by have h2 : (varF n).length = 0 := h; omega))]
  simp
theorem scanText_sized (l t : List UInt8) (h : l.length ≤ 562949953421311) : scanText (sizedL l ++ t) false = (l, t, false) := by
  unfold scanText sizedL
  rw [List.append_assoc, scanNum_varF (by omega)]
  unfold scanCut
  simp only [Int.toNat_natCast]
  rw [if_neg (by simp; omega)]
  simp
theorem scanCut_take (l t : List UInt8) (n : Int) (h : n = (l.length : Int)) : scanCut (l ++ t) false n = (l, t, false) := by
  subst h
  unfold scanCut
  rw [if_neg (by simp; omega)]
  simp
/-- at a place of a text -/
theorem l4V_step (a t : List UInt8) (n : Int) (k : Nat) (h : 0 ≤ n ∧ n ≤ 562949953421311) :
    l4V (a ++ (varF n ++ t)) (k + 1) (a.length : Int) = (n.toNat :: (l4V (a ++ (varF n ++ t)) k ((a ++ varF n).length : Int)).1, (l4V (a ++ (varF n ++ t)) k ((a ++ varF n).length : Int)).2) := by
  have hp := varF_pos h
  have hd : (a ++ (varF n ++ t)).drop ((a.length : Int)).toNat = varF n ++ t := by simp
  rw [l4V, if_neg (by simp; omega), hd, readVarF_varF h, if_neg (fun hh => by have h2 : (varF n).length = 0 := hh; omega)]
  simp only [List.length_append]
  rw [show ((a.length : Int) + ((varF n).length : Nat)) = ((a.length + (varF n).length : Nat) : Int) by omega]
theorem l4V_one (a t : List UInt8) (n : Int) (h : 0 ≤ n ∧ n ≤ 562949953421311) : l4V (a ++ (varF n ++ t)) 1 (a.length : Int) = ([n.toNat], ((a ++ varF n).length : Int)) := by
  rw [l4V_step a t n 0 h]; rfl
theorem l4T_sized (a l t : List UInt8) (h : l.length ≤ 562949953421311) : l4T (a ++ (sizedL l ++ t)) (a.length : Int) = (l, ((a ++ sizedL l).length : Int)) := by
  have hv := l4V_one a (l ++ t) (l.length : Int) (by omega)
  have e : a ++ (sizedL l ++ t) = a ++ (varF (l.length : Int) ++ (l ++ t)) := by simp [sizedL]
  rw [← e] at hv
  rw [Int.toNat_natCast] at hv
  rw [l4T_3 hv (by simp [sizedL]; omega)]
  have hd : (a ++ (sizedL l ++ t)).drop (a ++ varF (l.length : Int)).length = l ++ t := by
    rw [e, ← List.append_assoc, List.drop_left']; rfl
  rw [hd]
  simp [sizedL]
  omega
end Go.Proofs.YtonaacdefidomaaGreat
namespace Go.Proofs.YtonaacdefidomaaGreat
open Go.RowKit

def showH (c : CmdD) : List UInt8 := varF c.kind ++ (varF c.client ++ (varF c.no ++ (varF c.n ++ (sizedL c.set ++ (sizedL c.name ++ (sizedL c.tag ++ varF (c.chunks.length : Int)))))))
def showCmdL (c : CmdD) : List UInt8 := if cmdOkB c = true then showH c ++ c.chunks.flatten else []
theorem flat_take (xs : List (List UInt8)) (j : Nat) (h : j < xs.length) : (xs.take (j + 1)).flatten = (xs.take j).flatten ++ xs[j] := by
  rw [List.take_succ_eq_append_getElem h, List.flatten_append]; simp
theorem flat_len (xs : List (List UInt8)) : xs.flatten.length = (cat strC xs).wt := by rw [strs_wt, List.length_flatten]
theorem flat_take_le (xs : List (List UInt8)) (j : Nat) : (xs.take j).flatten.length ≤ xs.flatten.length := by
  conv => rhs; rw [← List.take_append_drop j xs]
  rw [List.flatten_append, List.length_append]; omega






















































































































































































































































































































































































































attribute [irreducible] showCmdL

end Go.Proofs.YtonaacdefidomaaGreat
namespace Go.Proofs.YtonaacdefidomaaGreat
open Go.RowKit
theorem inB_tc {lo hi x : Int} (h : inB lo hi x = true) : lo ≤ x ∧ x ≤ hi := by simpa [inB] using h
theorem scanNum_eat (r : List UInt8) (b : Bool) : (scanNum r b).2.1.length ≤ r.length ∧ ((scanNum r b).2.2 = false → b = false ∧ (scanNum r b).2.1.length + 1 ≤ r.length) ∧ ((scanNum r b).2.2 = true → (scanNum r b).1 = 0) := by
  have hle := (readVarF_le r).2.1
  unfold scanNum
  split
  · exact ⟨Nat.le_refl _, (fun h => by cases h), fun _ => rfl⟩
  · rename_i h
    simp only [not_or] at h
    refine ⟨by simp, fun _ => ⟨by simpa using h.1, ?_⟩, fun h => by cases h⟩
    simp only [List.length_drop]
    have := h.2
    omega
theorem scanCut_eat (r : List UInt8) (b : Bool) (n : Int) : (scanCut r b n).1.length + (scanCut r b n).2.1.length ≤ r.length ∧ ((scanCut r b n).2.2 = false → b = false) := by
  unfold scanCut
  split
  · exact ⟨by simp, fun h => by cases h⟩
  · rename_i h
    simp only [not_or] at h
    exact ⟨by simp only [List.length_take, List.length_drop]; omega, fun _ => by simpa using h.1⟩
theorem scanText_eat (r : List UInt8) (b : Bool) : (scanText r b).1.length + (scanText r b).2.1.length ≤ r.length ∧ ((scanText r b).2.2 = false → b = false ∧ (scanText r b).1.length + (scanText r b).2.1.length + 1 ≤ r.length) := by
  have h1 := scanNum_eat r b
  have h2 := scanCut_eat (scanNum r b).2.1 (scanNum r b).2.2 ((scanNum r b).1 : Int)
  unfold scanText
  refine ⟨by omega, fun h => ?_⟩
  have h3 := h1.2.1 (h2.2 h)
  exact ⟨h3.1, by omega⟩
def cutsL : Nat → List UInt8 → Bool → List (List UInt8) × List UInt8 × Bool
  | 0, r, b => ([], r, b)
  | n + 1, r, b => ((scanCut r b 8).1 :: (cutsL n (scanCut r b 8).2.1 (scanCut r b 8).2.2).1, (cutsL n (scanCut r b 8).2.1 (scanCut r b 8).2.2).2)
theorem cutsL_eat : ∀ (n : Nat) (r : List UInt8) (b : Bool), (cutsL n r b).1.flatten.length + (cutsL n r b).2.1.length ≤ r.length ∧ (cutsL n r b).1.length = n
  | 0, r, b => ⟨by simp [cutsL], rfl⟩
  | n + 1, r, b => by
    have h1 := scanCut_eat r b 8
    have h2 := cutsL_eat n (scanCut r b 8).2.1 (scanCut r b 8).2.2
    simp only [cutsL, List.flatten_cons, List.length_append, List.length_cons]
    omega
theorem cutsL_flat : ∀ (xs : List (List UInt8)), (∀ x ∈ xs, x.length = 8) → cutsL xs.length xs.flatten false = (xs, [], false)
  | [], _ => rfl
  | x :: xs, h => by
    have h8 := h x (by simp)
    have h1 := scanCut_take x xs.flatten 8 (by omega)
    have ih := cutsL_flat xs (fun y hy => h y (List.mem_cons_of_mem _ hy))
    simp only [List.length_cons, List.flatten_cons, cutsL, h1, ih]

/-- what a right command's parts are bounded by -/
theorem cmdOk_bounds {c : CmdD} (h : cmdOkB c = true) : (0 ≤ c.kind ∧ c.kind ≤ 7) ∧ (0 ≤ c.client ∧ c.client ≤ 9) ∧ (0 ≤ c.no ∧ c.no ≤ 1000) ∧ (0 ≤ c.n ∧ c.n ≤ 9) ∧ c.set.length ≤ 8 ∧ c.name.length ≤ 8 ∧ c.tag.length ≤ 8 ∧ c.chunks.length ≤ 4 ∧ ∀ x ∈ c.chunks, x.length = 8 := by
  have wd : ∀ (s : List UInt8) (b : Bool), wordIfB s b = true → s.length ≤ 8 := fun s b hh => by
    unfold wordIfB at hh
    split at hh
    · simp only [wordB, Bool.and_eq_true] at hh
      have := inB_tc hh.1
      omega
    · simp only [decide_eq_true_eq] at hh
      rw [hh]; simp
  unfold cmdOkB at h
  split at h
  · simp only [cmdSame, decide_eq_true_eq] at h
    subst h
    simp [zeroCmd]
  · rename_i hk
    simp only [Bool.and_eq_true, Bool.or_eq_true, beq_iff_eq] at h
    obtain ⟨h1, h2, h3, h4, h5, h6, h7, h8⟩ := h
    have h1 := inB_tc h1
    have h2 := inB_tc h2
    have h3 := inB_tc h3
    refine ⟨by omega, by omega, by omega, ?_, wd _ _ h4, wd _ _ h5, wd _ _ h6, ?_⟩
    · rcases h7 with h7 | ⟨_, h7⟩
      · omega
      · exact inB_tc h7
    · split at h8
      · simp only [Bool.and_eq_true] at h8
        have h9 := inB_tc h8.1
        exact ⟨by omega, fun x hx => by have := List.all_eq_true.1 h8.2 x hx; simpa using this⟩
      · simp only [beq_iff_eq] at h8
        have h9 : c.chunks = [] := List.eq_nil_of_length_eq_zero (by omega)
        rw [h9]; simp
theorem showH_pos (c : CmdD) (h : cmdOkB c = true) : showH c ≠ [] := by
  obtain ⟨h1, _⟩ := cmdOk_bounds h
  have := varF_pos (n := c.kind) (by omega)
  intro e
  rw [showH] at e
  have := congrArg List.length e
  simp only [List.length_append, List.length_nil] at this
  omega
def parseC (s : List UInt8) : CmdD × Bool :=
  let k := scanNum s false
  let cl := scanNum k.2.1 k.2.2
  let no := scanNum cl.2.1 cl.2.2
  let n := scanNum no.2.1 no.2.2
  let st := scanText n.2.1 n.2.2
  let nm := scanText st.2.1 st.2.2
  let tg := scanText nm.2.1 nm.2.2
  let m := scanNum tg.2.1 tg.2.2
  let ch := if m.1 ≤ 4 then cutsL m.1 m.2.1 m.2.2 else ([], m.2.1, m.2.2)
  (⟨(k.1 : Int), (cl.1 : Int), (no.1 : Int), st.1, nm.1, tg.1, (n.1 : Int), ch.1⟩, ch.2.2)
theorem parseC_show {c : CmdD} (h : cmdOkB c = true) : parseC (showCmdL c) = (c, false) := by
  obtain ⟨h1, h2, h3, h4, h5, h6, h7, h8, h9⟩ := cmdOk_bounds h
  have hs : showCmdL c = varF c.kind ++ (varF c.client ++ (varF c.no ++ (varF c.n ++ (sizedL c.set ++ (sizedL c.name ++ (sizedL c.tag ++ (varF (c.chunks.length : Int) ++ c.chunks.flatten))))))) := by
    rw [showCmdL, if_pos h, showH]
    simp only [List.append_assoc]
  rw [hs]
  unfold parseC
  simp only [scanNum_varF (show 0 ≤ c.kind ∧ c.kind ≤ 562949953421311 by omega), scanNum_varF (show 0 ≤ c.client ∧ c.client ≤ 562949953421311 by omega), scanNum_varF (show 0 ≤ c.no ∧ c.no ≤ 562949953421311 by omega), scanNum_varF (show 0 ≤ c.n ∧ c.n ≤ 562949953421311 by omega),
    scanText_sized c.set _ (by omega), scanText_sized c.name _ (by omega), scanText_sized c.tag _ (by omega), scanNum_varF (show 0 ≤ (c.chunks.length : Int) ∧ (c.chunks.length : Int) ≤ 562949953421311 by omega), Int.toNat_natCast, h8, if_true, cutsL_flat c.chunks h9]
  rw [Int.toNat_of_nonneg h1.1, Int.toNat_of_nonneg h2.1, Int.toNat_of_nonneg h3.1, Int.toNat_of_nonneg h4.1]
theorem wt_cmd (c : CmdD) : c.c.wt = c.set.length + (c.name.length + (c.tag.length + (c.chunks.length + c.chunks.flatten.length + 0))) := by rw [flat_len]; rfl
theorem parseC_wt (s : List UInt8) : (parseC s).1.c.wt ≤ s.length := by
  rw [wt_cmd]
  unfold parseC
  simp only []
  have e1 := scanNum_eat s false
  generalize scanNum s false = k at *
  have e2 := scanNum_eat k.2.1 k.2.2
  generalize scanNum k.2.1 k.2.2 = cl at *
  have e3 := scanNum_eat cl.2.1 cl.2.2
  generalize scanNum cl.2.1 cl.2.2 = no at *
  have e4 := scanNum_eat no.2.1 no.2.2
  generalize scanNum no.2.1 no.2.2 = n at *
  have e5 := scanText_eat n.2.1 n.2.2
  generalize scanText n.2.1 n.2.2 = st at *
  have e6 := scanText_eat st.2.1 st.2.2
  generalize scanText st.2.1 st.2.2 = nm at *
  have e7 := scanText_eat nm.2.1 nm.2.2
  generalize scanText nm.2.1 nm.2.2 = tg at *
  have e8 := scanNum_eat tg.2.1 tg.2.2
  generalize scanNum tg.2.1 tg.2.2 = m at *
  split
  · rename_i hm
    have e9 := cutsL_eat m.1 m.2.1 m.2.2
    generalize cutsL m.1 m.2.1 m.2.2 = ch at *
    by_cases hb : m.2.2 = true
    · have := e8.2.2 hb
      omega
    · have hb : m.2.2 = false := by simpa using hb
      obtain ⟨g7, l8⟩ := e8.2.1 hb
      obtain ⟨g6, l7⟩ := e7.2 g7
      obtain ⟨g5, l6⟩ := e6.2 g6
      obtain ⟨g4, l5⟩ := e5.2 g5
      obtain ⟨g3, l4⟩ := e4.2.1 g4
      obtain ⟨g2, l3⟩ := e3.2.1 g3
      obtain ⟨g1, l2⟩ := e2.2.1 g2
      obtain ⟨_, l1⟩ := e1.2.1 g1
      omega
  · simp only [List.length_nil, List.flatten_nil]
    omega
/-- the command of which s is the text, if there is one -/
def fReadCmd (s : List UInt8) : CmdD × Bool := if s ≠ [] ∧ showCmdL (parseC s).1 = s then ((parseC s).1, true) else (zeroCmd, false)
theorem show_ne {c : CmdD} {s : List UInt8} (h : showCmdL c = s) (hs : s ≠ []) : cmdOkB c = true := by
  cases hc : cmdOkB c with
  | true => rfl
  | false => rw [showCmdL, hc] at h; exact absurd h.symm hs
theorem readCmd_yes {c : CmdD} {s : List UInt8} (h : showCmdL c = s) (hs : s ≠ []) : fReadCmd s = (c, true) := by
  have hb := parseC_show (show_ne h hs)
  rw [h] at hb
  unfold fReadCmd
  rw [hb, if_pos ⟨hs, h⟩]
theorem readCmd_no {s : List UInt8} (h : ∀ c, cmdOkB c = true → showCmdL c ≠ s) : fReadCmd s = (zeroCmd, false) := by
  unfold fReadCmd
  rw [if_neg]
  rintro ⟨h1, h2⟩
  exact h _ (show_ne h2 h1) h2
/-- impl's last test -/
theorem readCmd_i1 {s : List UInt8} (h : (parseC s).2 = true ∨ s = [] ∨ showCmdL (parseC s).1 ≠ s) : fReadCmd s = (zeroCmd, false) := by
  refine readCmd_no fun c hc hs => ?_
  have hb := parseC_show hc
  rw [hs] at hb
  rcases h with h | h | h
  · rw [hb] at h; cases h
  · subst h
    rw [showCmdL, if_pos hc] at hs
    have := showH_pos c hc
    exact this (List.append_eq_nil_iff.1 hs).1
  · rw [hb] at h; exact h hs
theorem readCmd_i2 {s : List UInt8} (h2 : s ≠ []) (h3 : showCmdL (parseC s).1 = s) : fReadCmd s = ((parseC s).1, true) := readCmd_yes h3 h2
/-! by places -/
def chunksAt (s : List UInt8) (a : Nat) : Nat → List (List UInt8)
  | 0 => []
  | n + 1 => chunksAt s a n ++ [(s.drop (a + 8 * n)).take 8]
theorem chunksAt_length (s : List UInt8) (a : Nat) : ∀ n, (chunksAt s a n).length = n
  | 0 => rfl
  | n + 1 => by rw [chunksAt, List.length_append, chunksAt_length s a n]; rfl
theorem flat8 : ∀ (l : List (List UInt8)), (∀ x ∈ l, x.length = 8) → l.flatten.length = 8 * l.length
  | [], _ => rfl
  | y :: l, hh => by rw [List.flatten_cons, List.length_append, flat8 l (fun z hz => hh z (List.mem_cons_of_mem _ hz)), hh y (by simp), List.length_cons]; omega
theorem chunksAt_take {s p : List UInt8} {xs : List (List UInt8)} (hs : s = p ++ xs.flatten) (h8 : ∀ x ∈ xs, x.length = 8) : ∀ n, n ≤ xs.length → chunksAt s p.length n = xs.take n
  | 0, _ => rfl
  | n + 1, h => by
    have hn : n < xs.length := h
    have hd : s.drop (p.length + 8 * n) = xs[n] ++ (xs.drop (n + 1)).flatten := by
      rw [hs, ← List.drop_drop, List.drop_left' rfl]
      conv => lhs; rw [← List.take_append_drop n xs, List.flatten_append]
      rw [List.drop_left' (by rw [flat8 _ (fun x hx => h8 x (List.mem_of_mem_take hx)), List.length_take, Nat.min_eq_left (by omega)]), List.drop_eq_getElem_cons hn, List.flatten_cons]
    rw [chunksAt, chunksAt_take hs h8 n (by omega), hd, List.take_left' (h8 _ (List.getElem_mem hn)), List.take_succ_eq_append_getElem hn]
theorem chunksAt_flat {s p : List UInt8} {xs : List (List UInt8)} (hs : s = p ++ xs.flatten) (h8 : ∀ x ∈ xs, x.length = 8) : chunksAt s p.length xs.length = xs := by
  rw [chunksAt_take hs h8 _ (Nat.le_refl _), List.take_length]
def placeC (s : List UInt8) : CmdD :=
  let l := l4V s 4 0
  let a := l4T s l.2
  let b := l4T s a.2
  let t := l4T s b.2
  let n := l4V s 1 t.2
  ⟨((l.1.getD 0 0 : Nat) : Int), ((l.1.getD 1 0 : Nat) : Int), ((l.1.getD 2 0 : Nat) : Int), a.1, b.1, t.1, ((l.1.getD 3 0 : Nat) : Int), chunksAt s n.2.toNat (n.1.getD 0 0)⟩
theorem placeC_show {c : CmdD} (h : cmdOkB c = true) : 0 ≤ (l4V (showCmdL c) 4 0).2 ∧ (∃ m, l4V (showCmdL c) 1 (l4T (showCmdL c) (l4T (showCmdL c) (l4T (showCmdL c) (l4V (showCmdL c) 4 0).2).2).2).2 = ([c.chunks.length], m) ∧ 0 ≤ m ∧ ((showCmdL c).length : Int) = m + 8 * c.chunks.length) ∧ placeC (showCmdL c) = c := by
  obtain ⟨h1, h2, h3, h4, h5, h6, h7, h8, h9⟩ := cmdOk_bounds h
  obtain ⟨s, hs⟩ : ∃ s, s = showCmdL c := ⟨_, rfl⟩
  rw [← hs]
  rw [showCmdL, if_pos h, showH] at hs
  have b1 : 0 ≤ c.kind ∧ c.kind ≤ 562949953421311 := by omega
  have b2 : 0 ≤ c.client ∧ c.client ≤ 562949953421311 := by omega
  have b3 : 0 ≤ c.no ∧ c.no ≤ 562949953421311 := by omega
  have b4 : 0 ≤ c.n ∧ c.n ≤ 562949953421311 := by omega
  have b8 : 0 ≤ (c.chunks.length : Int) ∧ (c.chunks.length : Int) ≤ 562949953421311 := by omega
  have s1 := l4V_step [] (varF c.client ++ (varF c.no ++ (varF c.n ++ (sizedL c.set ++ (sizedL c.name ++ (sizedL c.tag ++ (varF (c.chunks.length : Int) ++ c.chunks.flatten))))))) c.kind 3 b1
  have s2 := l4V_step (varF c.kind) (varF c.no ++ (varF c.n ++ (sizedL c.set ++ (sizedL c.name ++ (sizedL c.tag ++ (varF (c.chunks.length : Int) ++ c.chunks.flatten)))))) c.client 2 b2
  have s3 := l4V_step (varF c.kind ++ varF c.client) (varF c.n ++ (sizedL c.set ++ (sizedL c.name ++ (sizedL c.tag ++ (varF (c.chunks.length : Int) ++ c.chunks.flatten))))) c.no 1 b3
  have s4 := l4V_one (varF c.kind ++ varF c.client ++ varF c.no) (sizedL c.set ++ (sizedL c.name ++ (sizedL c.tag ++ (varF (c.chunks.length : Int) ++ c.chunks.flatten)))) c.n b4
  have t1 := l4T_sized (varF c.kind ++ varF c.client ++ varF c.no ++ varF c.n) c.set (sizedL c.name ++ (sizedL c.tag ++ (varF (c.chunks.length : Int) ++ c.chunks.flatten))) (by omega)
  have t2 := l4T_sized (varF c.kind ++ varF c.client ++ varF c.no ++ varF c.n ++ sizedL c.set) c.name (sizedL c.tag ++ (varF (c.chunks.length : Int) ++ c.chunks.flatten)) (by omega)
  have t3 := l4T_sized (varF c.kind ++ varF c.client ++ varF c.no ++ varF c.n ++ sizedL c.set ++ sizedL c.name) c.tag (varF (c.chunks.length : Int) ++ c.chunks.flatten) (by omega)
  have s5 := l4V_one (varF c.kind ++ varF c.client ++ varF c.no ++ varF c.n ++ sizedL c.set ++ sizedL c.name ++ sizedL c.tag) c.chunks.flatten (c.chunks.length : Int) b8
  have hch := chunksAt_flat (s := s) (p := varF c.kind ++ varF c.client ++ varF c.no ++ varF c.n ++ sizedL c.set ++ sizedL c.name ++ sizedL c.tag ++ varF (c.chunks.length : Int)) (xs := c.chunks) (by rw [hs]; simp only [List.append_assoc]) h9
  have hlen : s.length = (varF c.kind ++ varF c.client ++ varF c.no ++ varF c.n ++ sizedL c.set ++ sizedL c.name ++ sizedL c.tag ++ varF (c.chunks.length : Int)).length + 8 * c.chunks.length := by
    rw [hs, ← flat8 c.chunks h9]
    simp only [List.length_append]
    omega
  simp only [List.append_assoc] at hs
  simp only [List.append_assoc, List.nil_append] at s1 s2 s3 s4 t1 t2 t3 s5 hch hlen
  simp only [← hs] at s1 s2 s3 s4 t1 t2 t3 s5
  rw [show ((([] : List UInt8).length : Nat) : Int) = 0 from rfl] at s1
  rw [s4] at s3
  rw [s3] at s2
  rw [s2] at s1
  simp only [] at s1
  unfold placeC
  simp only [s1, t1, t2, t3, s5]
  refine ⟨by omega, ⟨_, by rw [Int.toNat_natCast], by omega, by omega⟩, ?_⟩
  simp only [List.getD_cons_zero, List.getD_cons_succ, Int.toNat_natCast, hch]
  rw [Int.toNat_of_nonneg h1.1, Int.toNat_of_nonneg h2.1, Int.toNat_of_nonneg h3.1, Int.toNat_of_nonneg h4.1]
/-- every way out of the reference but the last one -/
theorem readCmd_s1 {s : List UInt8} (h : (l4V s 4 0).2 < 0) : fReadCmd s = (zeroCmd, false) := readCmd_no fun c hc hs => by
  have := (placeC_show hc).1
  rw [hs] at this
  omega
theorem readCmd_s2 {s : List UInt8} {n : Nat} {m : Int} (hv : l4V s 1 (l4T s (l4T s (l4T s (l4V s 4 0).2).2).2).2 = ([n], m)) (h : 4 < n ∨ ¬ (s.length : Int) = m + 8 * n) : fReadCmd s = (zeroCmd, false) := readCmd_no fun c hc hs => by
  obtain ⟨_, ⟨m', he, _, hl⟩, _⟩ := placeC_show hc
  have h8 := (cmdOk_bounds hc).2.2.2.2.2.2.2.1
  rw [hs, hv] at he
  rw [hs] at hl
  injection he with he1 he2
  injection he1 with he1
  subst he1 he2
  rcases h with h | h
  · omega
  · exact h hl
theorem readCmd_s3 {s : List UInt8} (hv : (l4V s 1 (l4T s (l4T s (l4T s (l4V s 4 0).2).2).2).2).2 < 0) : fReadCmd s = (zeroCmd, false) := readCmd_no fun c hc hs => by
  obtain ⟨_, ⟨m', he, hm, hl⟩, _⟩ := placeC_show hc
  rw [hs] at he
  rw [he] at hv
  simp only [] at hv
  omega
theorem readCmd_s4 {s : List UInt8} (h : showCmdL (placeC s) ≠ s) : fReadCmd s = (zeroCmd, false) := readCmd_no fun c hc hs => by
  obtain ⟨_, _, hp⟩ := placeC_show hc
  rw [hs] at hp
  rw [hp] at h
  exact h hs
theorem readCmd_s5 {s : List UInt8} (hs : s ≠ []) (h : showCmdL (placeC s) = s) : fReadCmd s = (placeC s, true) := readCmd_yes h hs

end Go.Proofs.YtonaacdefidomaaGreat
namespace Go.Proofs.YtonaacdefidomaaGreat
open Go.RowKit

theorem Mine.grownAt {w w' : World} {base g b : Nat} {d : Cs} {cs : List Value} (h : Mine w g d cs) (hg : w.grownBy w' (some b)) (hb : ¬ g ≤ b) (hbase : base ≤ g) : Mine w' base d cs :=
  let ⟨F, h1, h2⟩ := h
  ⟨F, h1, h2.keep0 fun k hk => ⟨Nat.le_trans hbase (h2.in k hk).1, hg.block k (h2.in k hk).2 (fun e => by injection e with e; have := (h2.in k hk).1; omega)⟩⟩
theorem zeroCmd_mine (w : World) (base : Nat) : Mine w base zeroCmd.c [.int .i64 0, .int .i64 0, .int .i64 0, .string (bs []), .string (bs []), .string (bs []), .int .i64 0, .slice none 0 0] :=
  ⟨_, nodup_own _, CmdD.shutO (x := zeroCmd) (Own.strs_mk rfl ⟨by simp [zeroCmd], .inl ⟨rfl, rfl⟩⟩)⟩
theorem cmd_mine {w : World} {base : Nat} {c : CmdD} {A : Option Addr} {k : Nat} (h : w.ownsRow base 9 1 (.slice A c.chunks.length k) c.chunks.length (c.chunks.map strv)) : Mine w base c.c [.int .i64 c.kind, .int .i64 c.client, .int .i64 c.no, .string (bs c.set), .string (bs c.name), .string (bs c.tag), .int .i64 c.n, .slice A c.chunks.length k] :=
  ⟨_, nodup_own _, CmdD.shutO (Own.strs_mk rfl h)⟩

























































































































































































































































































































































































































































































































































end Go.Proofs.YtonaacdefidomaaGreat
namespace Go.Proofs.YtonaacdefidomaaGreat
open Go.RowKit

theorem _root_.Go.World.ownsRow.keptBelow {w w' : World} {base e sz n : Nat} {v : Value} {xs : List Value} (h : w.ownsRow base e sz v n xs) (hb : Below w.heap.size w w') : w'.ownsRow base e sz v n xs :=
  ownsRow_keep h (fun b hk => ⟨(h.lt b hk).1, hb.block b (h.lt b hk).2⟩)
theorem bReadCmd (s : List UInt8) (h : s.length ≤ 1048576) : (fReadCmd s).1.c.wt ≤ 4611686018427387 ∧ (fReadCmd s).1.cntT ≤ 4611686018427387 := by
  have key : ∀ c : CmdD, c.c.wt ≤ 1048576 → c.c.wt ≤ 4611686018427387 ∧ c.cntT ≤ 4611686018427387 := fun c hc => by
    have h1 : c.cntT = cts (fun _ => 1) c.chunks := rfl
    have h2 : cts (fun _ : List UInt8 => 1) c.chunks = c.chunks.length := cts_one _
    have h3 := wt_cmd c
    omega
  refine key _ ?_
  unfold fReadCmd
  split
  · exact Nat.le_trans (parseC_wt s) h
  · exact Nat.zero_le _
theorem l4V_adv (s : List UInt8) : ∀ (n : Nat) (at_ : Int), 0 ≤ (l4V s n at_).2 → at_ + n ≤ (l4V s n at_).2 ∧ 0 ≤ at_
  | 0, at_, h => by simp only [l4V] at h ⊢; omega
  | n + 1, at_, h => by
    by_cases hb : at_ < 0 ∨ at_ > s.length
    · rw [l4V_bad s n _ hb] at h; simp at h
    · by_cases h0 : (readVarF (s.drop at_.toNat)).2 = 0
      · rw [l4V_zero s n _ hb h0] at h; simp at h
      · rw [l4V_next s n _ hb h0] at h ⊢
        have := l4V_adv s n _ h
        simp only [] at this ⊢
        omega
theorem l4T_adv (s : List UInt8) (at_ : Int) (h : 0 ≤ (l4T s at_).2) : at_ + 1 + (l4T s at_).1.length ≤ (l4T s at_).2 ∧ 0 ≤ at_ := by
  unfold l4T at h ⊢
  split at h
  · simp at h
  · rename_i hc
    rw [if_neg hc]
    have hc1 : 0 ≤ (l4V s 1 at_).2 := Int.not_lt.1 fun hh => hc (.inl hh)
    have := l4V_adv s 1 at_ hc1
    simp only [List.length_take, List.length_drop]
    omega
theorem placeC_wt {s : List UInt8} {l : List Nat} {ta tb tt : List UInt8} {p0 p1 p2 p3 p4 : Int} {n : Nat} (hV : l4V s 4 0 = (l, p0)) (hA : l4T s p0 = (ta, p1)) (hB : l4T s p1 = (tb, p2)) (hT : l4T s p2 = (tt, p3)) (hN : l4V s 1 p3 = ([n], p4))
    (h4 : 0 ≤ p4) (hn : n ≤ 4) (hl : (s.length : Int) = p4 + 8 * n) : (placeC s).c.wt ≤ s.length := by
  have e4 := l4V_adv s 1 p3 (by rw [hN]; exact h4)
  rw [hN] at e4
  have e3 := l4T_adv s p2 (by rw [hT]; exact e4.2)
  rw [hT] at e3
  have e2 := l4T_adv s p1 (by rw [hB]; exact e3.2)
  rw [hB] at e2
  have e1 := l4T_adv s p0 (by rw [hA]; exact e2.2)
  rw [hA] at e1
  have e0 := l4V_adv s 4 0 (by rw [hV]; exact e1.2)
  rw [hV] at e0
  rw [wt_cmd]
  unfold placeC
  simp only [hV, hA, hB, hT, hN, List.getD_cons_zero] at *
  have hf : ∀ k, (chunksAt s p4.toNat k).flatten.length ≤ 8 * k := fun k => by
    induction k with
    | zero => simp [chunksAt]
    | succ k ih =>
      rw [chunksAt, List.flatten_append, List.length_append]
      simp only [List.flatten_cons, List.flatten_nil, List.append_nil, List.length_take]
      omega
  have := hf n
  have hk := chunksAt_length s p4.toNat n
  omega





















































































































































































































































































































end Go.Proofs.YtonaacdefidomaaGreat
namespace Go.Proofs.YtonaacdefidomaaGreat
open Go.RowKit

theorem reads_new_strs (v : World) (cs : Array Value) (e : Nat) (L : List (List UInt8)) (hc : cs.toList = L.map strv) : Reads (v.alloc (.cells cs e)) 1 (some ⟨v.heap.size, 0, none⟩) L.length (L.map strv) := by
  rw [← hc]
  refine Reads.new ?_
  have := congrArg List.length hc
  simpa using this
theorem reads_new_strs2 (v : World) (cs : Array Value) (e g : Nat) (L : List (List UInt8)) (hc : cs.toList = L.map strv) (hg : g = v.heap.size) : Reads (v.alloc (.cells cs e)) 1 (some ⟨g, 0, none⟩) L.length (L.map strv) := by
  subst hg
  exact reads_new_strs v cs e L hc
theorem reads_new_ints2 (v : World) (cs : Array Value) (e g : Nat) (L : List Int) (hc : cs.toList = L.map (Value.int .i64)) (hg : g = v.heap.size) : Reads (v.alloc (.cells cs e)) 1 (some ⟨g, 0, none⟩) L.length (L.map (Value.int .i64)) := by
  subst hg
  exact reads_new_ints v cs e L hc
set_option maxRecDepth 100000 in
set_option maxHeartbeats 1000000 in
theorem l1Pick_x (B g : Nat) (xs : List UInt8) (s : DSt) (L : List (List UInt8)) (g2 n c : Nat) (w : World) (hc : Cur B g xs s w) (hn : n = L.length) (h0 : 1 ≤ n) (h1 : n ≤ 256) (hg2 : g2 ≠ g) (hr : Reads w 1 (some ⟨g2, 0, none⟩) n (L.map strv)) :
    Calls Tryz.prog 49 #[.pointer (some ⟨g, 0, none⟩), .slice (some ⟨g2, 0, none⟩) n c] w fun e w' => ∃ l s', l ∈ L ∧ e = .returned (.string (bs l)) ∧ Cur B g xs s' w' ∧ w.grownBy w' (some g) := by
  have H1 := Lib.hid (fun w hc => l1Below_x B g n xs s w hc (by omega) (by omega))
  have hlt := belowF_lt xs n s (by omega)
  generalize belowF xs n s = R at *
  obtain ⟨rv, rs⟩ := R
  simp only [] at hlt
  have HR := Lib.hid hr; clear hr
  have HN := Lib.hid hn; clear hn
  go_enter Tryz.func49, Tryz.ntmps49
  go_wp2_with fail
  refine (H1.out _ hc).mono ?_
  rintro e w2 ⟨rfl, hc2, hg⟩
  have hrv : rv < L.length := by have := HN.out; omega
  have hcell : w2.cell? ⟨g2, rv, none⟩ = some (.string (bs L[rv])) := by
    obtain ⟨ad, e, hcs⟩ := HR.out.2 (by omega)
    injection e with e
    subst e
    have h2 := hcs rv (strv L[rv]) (by rw [List.getElem?_map, List.getElem?_eq_getElem hrv]; rfl)
    rw [add_plain, Nat.zero_add] at h2
    have hb := World.block_lt_of_cell? _ _ h2
    rw [World.cell?_of_block (hg.block _ hb (fun e => hg2 (by injection e)))]
    exact h2
  have HM := Lib.hid (List.getElem_mem hrv)
  have HC := Lib.hid hc2; clear hc2
  have HG := Lib.hid hg; clear hg
  generalize L[rv] = val at *
  go_wp2
  go_ret
  exact ⟨val, rs, HM.out, ret_eq rfl, HC.out, HG.out⟩

theorem grown_setNew {w V : World} {g gx f : Nat} {v : Value} (h : w.grownBy V (some g)) (hx : w.heap.size ≤ gx) : w.grownBy (V.setCell ⟨gx, f, none⟩ v) (some g) :=
  grownBy_trans_new h (grown_set V gx f v) (fun k hk => .inr (by injection hk with hk; omega))
theorem grown_New {w V V' : World} {g gx : Nat} (h : w.grownBy V (some g)) (k : V.grownBy V' (some gx)) (hx : w.heap.size ≤ gx) : w.grownBy V' (some g) :=
  grownBy_trans_new h k (fun k hk => .inr (by injection hk with hk; omega))
theorem short_len (l : List UInt8) : (shortL l).length ≤ 8 := by unfold shortL; simp; omega
/-- a command that is drawn is not great -/
def SmallC (q : Nat) (d : CmdD) : Prop := d.set.length ≤ 10 ∧ d.name.length ≤ 10 ∧ d.tag.length ≤ 10 ∧ d.chunks.length ≤ q ∧ d.chunks.flatten.length ≤ 10 * q
theorem small_c {q : Nat} {kd cl no nn : Int} {st nm tg : List UInt8} {ch : List (List UInt8)} (h1 : st.length ≤ 10) (h2 : nm.length ≤ 10) (h3 : tg.length ≤ 10) (h4 : ch.length ≤ q) (h5 : ch.flatten.length ≤ 10 * q) : SmallC q ⟨kd, cl, no, st, nm, tg, nn, ch⟩ := ⟨h1, h2, h3, h4, h5⟩
theorem SmallC.wt {d : CmdD} (h : SmallC 5 d) : d.c.wt ≤ 200 := by
  obtain ⟨h1, h2, h3, h4, h5⟩ := h
  rw [wt_cmd]
  omega
theorem load_slice {P : Program} {t e : TypeId} {ad : Addr} (hu : P.underlying t = some (.slice e)) (w : World) : (Instr.loadAt t (.pointer (some ad))).run P w = (Sem.load .plain ad Sem.pure : Sem Value).run P w := by
  have h : (isAgg t).run P w = .ok false w := by
    unfold Go.isAgg
    simp [Sem.run_bind, run_underlying hu, Result.andThen]
  unfold Instr.loadAt Instr.sureAddr loadVar
  simp only [Sem.run_bind, Sem.run_pure, Result.andThen, h]
  rfl
theorem l1Below_e (B g n : Nat) (xs : List UInt8) (s : DSt) (w : World) (hc : Cur B g xs s w) (h1 : 1 ≤ n) (h2 : n ≤ 1000000000) :
    Calls Tryz.prog 31 #[.pointer (some ⟨g, 0, none⟩), .int .i64 (n : Int)] w fun e w' => ∃ k s', k < n ∧ e = .returned (.int .i64 (k : Int)) ∧ Cur B g xs s' w' ∧ w.grownBy w' (some g) :=
  (l1Below_x B g n xs s w hc h1 h2).mono (fun _ _ h => ⟨_, _, belowF_lt xs n s h1, h.1, h.2.1, h.2.2⟩)
theorem l1Once_e (B g n : Nat) (xs : List UInt8) (s : DSt) (w : World) (hc : Cur B g xs s w) (h1 : 1 ≤ n) (h2 : n ≤ 1000000000) :
    Calls Tryz.prog 45 #[.pointer (some ⟨g, 0, none⟩), .int .i64 (n : Int)] w fun e w' => ∃ b s', e = .returned (.bool b) ∧ Cur B g xs s' w' ∧ w.grownBy w' (some g) :=
  (l1Once_x B g n xs s w hc h1 h2).mono (fun _ _ h => ⟨_, _, h.1, h.2.1, h.2.2⟩)
theorem l1Text_e (B g most : Nat) (xs : List UInt8) (s : DSt) (w : World) (hc : Cur B g xs s w) (hm : most ≤ 1000) :
    Calls Tryz.prog 50 #[.pointer (some ⟨g, 0, none⟩), .int .i64 (most : Int)] w fun e w' => ∃ l s', l.length ≤ most ∧ e = .returned (.string (bs l)) ∧ Cur B g xs s' w' ∧ w.grownBy w' (some g) :=
  (l1Text_x B g most xs s w hc hm).mono (fun _ _ h => ⟨_, _, textF_len xs most s, h.1, h.2.1, h.2.2⟩)
theorem l1PickInt_e (B g : Nat) (xs : List UInt8) (s : DSt) (L : List Int) (g2 n c : Nat) (w : World) (hc : Cur B g xs s w) (hn : n = L.length) (h0 : 1 ≤ n) (h1 : n ≤ 256) (hg2 : g2 ≠ g) (hr : Reads w 1 (some ⟨g2, 0, none⟩) n (L.map (Value.int .i64))) :
    Calls Tryz.prog 48 #[.pointer (some ⟨g, 0, none⟩), .slice (some ⟨g2, 0, none⟩) n c] w fun e w' => ∃ v s', e = .returned (.int .i64 v) ∧ Cur B g xs s' w' ∧ w.grownBy w' (some g) :=
  (l1PickInt_x B g xs s L g2 n c w hc hn h0 h1 hg2 hr).mono (fun _ _ h => ⟨_, _, h.1, h.2.1, h.2.2⟩)
structure CmdPost (q B g : Nat) (xs : List UInt8) (w : World) (e : Ending) (w' : World) : Prop where
  out : ∃ (d : CmdD) (cs : List Value) (s' : DSt), e = .returned (.agg cs.toArray) ∧ SmallC q d ∧ Mine w' w.heap.size d.c cs ∧ Cur B g xs s' w' ∧ w.grownBy w' (some g)
/-- where the drawing of a command stands: the zero command, the command that is drawn, the cursor -/
structure RSt (B g : Nat) (xs : List UInt8) (w0 : World) (gx : Nat) (L : List Value) (s : DSt) (w : World) : Prop where
  zb : Blk w w0.heap.size 29 [.int .i64 0, .int .i64 0, .int .i64 0, .string (bs []), .string (bs []), .string (bs []), .int .i64 0, .slice none 0 0].toArray
  cb : Blk w gx 29 L.toArray
  gr : w0.grownBy w (some g)
  gb : gx + 1 ≤ w.heap.size
  cu : Cur B g xs s w
  g1 : w0.heap.size + 1 ≤ gx
  gl : g < w0.heap.size
section
variable {B g gx : Nat} {xs : List UInt8} {w0 w w' : World} {L : List Value} {s s' : DSt}
theorem RSt.call (h : RSt B g xs w0 gx L s w) (hc : Cur B g xs s' w') (hg : w.grownBy w' (some g)) : RSt B g xs w0 gx L s' w' :=
  ⟨h.zb.grown hg (by have := h.gl; omega), h.cb.grown hg (by have := h.gl; have := h.g1; omega), grown_trans h.gr hg, Nat.le_trans h.gb hg.size, hc, h.g1, h.gl⟩
theorem RSt.set (h : RSt B g xs w0 gx L s w) (f : Nat) (v : Value) : RSt B g xs w0 gx (L.set f v) s (w.setCell ⟨gx, f, none⟩ v) :=
  ⟨Blk.setOther h.zb (a := ⟨gx, f, none⟩) (by have := h.g1; show gx ≠ _; omega) v, blk_put0 h.cb f v, grown_setNew h.gr (by have := h.g1; omega), by rw [setCell_size]; exact h.gb, h.cu.keep (grown_set w gx f v) (fun k hk => by injection hk with hk; have := h.g1; have := h.gl; omega), h.g1, h.gl⟩
theorem RSt.own {r : Option Nat} (h : RSt B g xs w0 gx L s w) (hg : w.grownBy w' r) (hr : ∀ k, r = some k → k ≠ gx ∧ w0.heap.size + 1 ≤ k) : RSt B g xs w0 gx L s w' :=
  ⟨h.zb.keep (hg.block _ h.zb.lt (fun e => by have := (hr _ e.symm).2; omega)), h.cb.keep (hg.block _ h.cb.lt (fun e => (hr _ e.symm).1 rfl)), grownBy_trans_new h.gr hg (fun k hk => .inr (by have := (hr _ hk).2; omega)), Nat.le_trans h.gb hg.size, h.cu.keep hg (fun k hk => by have := (hr _ hk).2; have := h.gl; omega), h.g1, h.gl⟩
theorem RSt.fresh {r : Option Nat} (h : RSt B g xs w0 gx L s w) (hg : w.grownBy w' r) (hr : ∀ k, r = some k → gx < k) : RSt B g xs w0 gx L s w' :=
  h.own hg (fun k hk => by have := hr k hk; have := h.g1; omega)
theorem RSt.alloc (h : RSt B g xs w0 gx L s w) (o : Obj) : RSt B g xs w0 gx L s (w.alloc o) := h.fresh (grown_alloc w o) (fun k hk => by cases hk)
theorem RSt.drew (h : RSt B g xs w0 gx L s w) : RSt B g xs w0 gx L s w.drew := h.fresh (r := none) ⟨rfl, rfl, rfl, Nat.le_refl _, fun _ _ _ => rfl⟩ (fun k hk => by cases hk)
theorem RSt.below (h : RSt B g xs w0 gx L s w) (hb : Below w.heap.size w w') : RSt B g xs w0 gx L s w' := h.fresh (r := none) ⟨hb.os, hb.tape, hb.output, hb.size, fun k hk _ => hb.block k hk⟩ (fun k hk => by cases hk)
end
set_option maxRecDepth 100000 in
set_option maxHeartbeats 8000000 in
theorem l4Right_x (B g : Nat) (xs : List UInt8) (s : DSt) (w : World) (hc : Cur B g xs s w) :
    Calls Tryz.prog 46 #[.pointer (some ⟨g, 0, none⟩)] w (CmdPost 4 B g xs w) := by
  have hgl := hc.lt
  have H1 := Lib.hid (fun w hc => l1Below_x B g 7 xs s w hc (by omega) (by omega))
  have hk7 := belowF_lt xs 7 s (by omega)
  generalize belowF xs 7 s = R1 at *
  obtain ⟨b1, s1⟩ := R1
  have H2 := Lib.hid (fun w hc => l1Below_x B g 3 xs s1 w hc (by omega) (by omega))
  have hk3 := belowF_lt xs 3 s1 (by omega)
  simp only [] at H1 hk7
  generalize belowF xs 3 s1 = R2 at *
  obtain ⟨b2, s2⟩ := R2
  have H3 := Lib.hid (fun w hc => l1Below_x B g 6 xs s2 w hc (by omega) (by omega))
  have hk6 := belowF_lt xs 6 s2 (by omega)
  simp only [] at H2 hk3
  generalize belowF xs 6 s2 = R3 at *
  obtain ⟨b3, s3⟩ := R3
  have H4 := Lib.hid (fun w hc => l1Once_x B g 4 xs s3 w hc (by omega) (by omega))
  simp only [] at H3 hk6
  generalize onceF xs 4 s3 = R4 at *
  obtain ⟨oc, s4⟩ := R4
  simp only [] at H4
  go_enter Tryz.func46, Tryz.ntmps46
  go_wp2_with fail
  refine (H1.out _ (hc.keep (grown_alloc w _) (fun k hk => by cases hk))).mono ?_
  rintro e w1 ⟨rfl, hc1, hg1⟩
  have ZB := Lib.hid (show Blk w1 w.heap.size 29 [.int .i64 0, .int .i64 0, .int .i64 0, .string (bs []), .string (bs []), .string (bs []), .int .i64 0, .slice none 0 0].toArray from (blk_new w _ _).grown hg1 (by omega))
  have GR := Lib.hid (show w.grownBy w1 (some g) from grown_trans (grown_weak (grown_alloc w _)) hg1)
  have HZ := Lib.hid (show w.heap.size + 1 ≤ w1.heap.size from Nat.le_trans (by simp) hg1.size)
  have HC := Lib.hid hc1; clear hc1 hg1 hc
  go_wp2_with fail
  refine (H2.out _ HC.out).mono ?_
  rintro e w2 ⟨rfl, hc1, hg1⟩
  have X := Lib.hid (ZB.out.grown hg1 (by omega)); clear ZB
  have ZB := Lib.hid X.out; clear X
  have X := Lib.hid (grown_trans GR.out hg1); clear GR
  have GR := Lib.hid X.out; clear X
  have X := Lib.hid (Nat.le_trans HZ.out hg1.size); clear HZ
  have HZ := Lib.hid X.out; clear X
  clear HC
  have HC := Lib.hid hc1; clear hc1 hg1
  go_wp2_with fail
  refine (H3.out _ HC.out).mono ?_
  rintro e w3 ⟨rfl, hc1, hg1⟩
  have X := Lib.hid (ZB.out.grown hg1 (by omega)); clear ZB
  have ZB := Lib.hid X.out; clear X
  have X := Lib.hid (grown_trans GR.out hg1); clear GR
  have GR := Lib.hid X.out; clear X
  have X := Lib.hid (Nat.le_trans HZ.out hg1.size); clear HZ
  have HZ := Lib.hid X.out; clear X
  clear HC
  have HC := Lib.hid hc1; clear hc1 hg1
  obtain ⟨gx, hgx⟩ : ∃ x, x = w3.heap.size := ⟨_, rfl⟩
  have HGX := Lib.hid (show w.heap.size + 1 ≤ gx by rw [hgx]; exact HZ.out)
  have HGE := Lib.hid hgx; clear hgx
  go_wp2_with (first | ((with_reducible show wpList _ _ _ ({ dst := _, op := Op.store 29 _ _, type := _, pos := _, after := _, guard := _ } :: _) _ _); go_must (refine wpList_store_row _ w3.heap.size 29 0 [.int .i64 (1 + (b1 : Int)), .int .i64 (1 + (b2 : Int)), .int .i64 (1 + (b3 : Int)), .string (bs []), .string (bs []), .string (bs []), .int .i64 0, .slice none 0 0] [] [.int .i64 0, .int .i64 0, .int .i64 0, .string (bs []), .string (bs []), .string (bs []), .int .i64 0, .slice none 0 0] [] _ rfl rfl agg_Cmd (blk_new w3 _ _) rfl rfl rfl (by simp [Value.oneCell']) ?_; intro w4 hsb hg; rw [← HGE.out] at hsb hg ⊢; have CB := Lib.hid (show Blk w4 gx 29 [.int .i64 (1 + (b1 : Int)), .int .i64 (1 + (b2 : Int)), .int .i64 (1 + (b3 : Int)), .string (bs []), .string (bs []), .string (bs []), .int .i64 0, .slice none 0 0].toArray by simpa using hsb); clear hsb; have X := Lib.hid ((ZB.out.alloc _).grown hg (by have := HGX.out; omega)); clear ZB; have ZB := Lib.hid X.out; clear X; have X := Lib.hid ((HC.out.keep (grown_alloc w3 _) (fun k hk => by cases hk)).keep hg (fun k hk => by injection hk with hk; have := HGX.out; omega)); clear HC; have HC := Lib.hid X.out; clear X; have X := Lib.hid (grown_New (grown_trans GR.out (grown_weak (grown_alloc w3 _))) hg (by have := HGX.out; omega)); clear GR; have GR := Lib.hid X.out; clear X; have HGB := Lib.hid (show gx + 1 ≤ w4.heap.size from Nat.le_trans (by rw [HGE.out]; simp) hg.size); clear hg)) | fail)
  obtain ⟨kd, hkd⟩ : ∃ kd : Int, kd = 1 + (b1 : Int) := ⟨_, rfl⟩
  obtain ⟨cl, hcl⟩ : ∃ kd : Int, kd = 1 + (b2 : Int) := ⟨_, rfl⟩
  obtain ⟨no, hno⟩ : ∃ kd : Int, kd = 1 + (b3 : Int) := ⟨_, rfl⟩
  rw [← hkd, ← hcl, ← hno] at CB
  clear hkd hcl hno hk7 hk3 hk6
  clear H1 H2 H3 HZ HGE
  refine (H4.out _ HC.out).mono ?_
  rintro e w5 ⟨rfl, hc1, hg1⟩
  have X := Lib.hid (ZB.out.grown hg1 (by omega)); clear ZB
  have ZB := Lib.hid X.out; clear X
  have X := Lib.hid (grown_trans GR.out hg1); clear GR
  have GR := Lib.hid X.out; clear X
  have X := Lib.hid (CB.out.grown hg1 (by have := HGX.out; omega)); clear CB
  have CB := Lib.hid X.out; clear X
  have X := Lib.hid (Nat.le_trans HGB.out hg1.size); clear HGB
  have HGB := Lib.hid X.out; clear X
  clear HC
  have HC := Lib.hid hc1; clear hc1 hg1
  clear H4
  have R := Lib.hid (show RSt B g xs w gx [.int .i64 kd, .int .i64 cl, .int .i64 no, .string (bs []), .string (bs []), .string (bs []), .int .i64 0, .slice none 0 0] s4 w5 from ⟨ZB.out, CB.out, GR.out, HGB.out, HC.out, HGX.out, hgl⟩)
  clear ZB CB GR HGB HC HGX
  have HPa := Lib.hid (fun w s g2 c hc hg hr => l1Pick_x B g xs s [ [97], [98], [97, 98] ] g2 3 c w hc rfl (by omega) (by omega) hg hr)
  have HPx := Lib.hid (fun w s g2 c hc hg hr => l1Pick_x B g xs s [ [120], [121], [122] ] g2 3 c w hc rfl (by omega) (by omega) hg hr)
  have HPk := Lib.hid (fun w s g2 c hc hg hr => l1Pick_x B g xs s [ [107, 101, 101, 112], [116] ] g2 2 c w hc rfl (by omega) (by omega) hg hr)
  have HB3 := Lib.hid (fun w s hc => l1Below_e B g 3 xs s w hc (by omega) (by omega))
  have HB4 := Lib.hid (fun w s hc => l1Below_e B g 4 xs s w hc (by omega) (by omega))
  cases oc with
  | true =>
    have f0 := R.out.cb.frozen 0
    have c0 := blk_cell0 R.out.cb 0 rfl
    have X := Lib.hid (show RSt B g xs w gx [.int .i64 3, .int .i64 cl, .int .i64 no, .string (bs []), .string (bs []), .string (bs []), .int .i64 0, .slice none 0 0] s4 (w5.setCell ⟨gx, 0, none⟩ (.int .i64 3)) from R.out.set 0 (.int .i64 3)); clear R
    have R := Lib.hid X.out; clear X
    go_wp2_with fail
    refine (HPa.out _ _ _ _ (R.out.alloc _).cu (by have h1 := R.out.gb; have h2 := R.out.g1; have h3 := R.out.gl; (try rw [setCell_size] at h1); omega) (reads_new_strs2 _ _ _ _ [ [97], [98], [97, 98] ] rfl (by first | rfl | rw [setCell_size]))).mono ?_
    rintro e v5 ⟨st, t5, hm, rfl, hc1, hg1⟩
    have hst : st.length ≤ 10 := by
      clear HPa HPx HPk HB3 HB4 R
      simp only [List.mem_cons, List.not_mem_nil, or_false] at hm
      rcases hm with rfl | rfl | rfl <;> simp
    clear hm
    have X := Lib.hid ((R.out.alloc _).call hc1 hg1); clear R hc1 hg1
    try clear f0
    clear c0
    have f0 := X.out.cb.frozen 3
    have c0 := blk_cell0 X.out.cb 0 rfl
    have c1 := blk_cell0 X.out.cb 3 rfl
    have R := Lib.hid (show RSt B g xs w gx [.int .i64 3, .int .i64 cl, .int .i64 no, .string (bs st), .string (bs []), .string (bs []), .int .i64 0, .slice none 0 0] t5 (v5.setCell ⟨gx, 3, none⟩ (.string (bs st))) from X.out.set 3 (.string (bs st)))
    clear X
    go_wp2_with fail
    refine (HPx.out _ _ _ _ (R.out.alloc _).cu (by have h1 := R.out.gb; have h2 := R.out.g1; have h3 := R.out.gl; (try rw [setCell_size] at h1); omega) (reads_new_strs2 _ _ _ _ [ [120], [121], [122] ] rfl (by first | rfl | rw [setCell_size]))).mono ?_
    rintro e v6 ⟨nm, t6, hm, rfl, hc1, hg1⟩
    have hnm : nm.length ≤ 10 := by
      clear HPa HPx HPk HB3 HB4 R
      simp only [List.mem_cons, List.not_mem_nil, or_false] at hm
      rcases hm with rfl | rfl | rfl <;> simp
    clear hm
    have X := Lib.hid ((R.out.alloc _).call hc1 hg1); clear R hc1 hg1
    clear f0 c0 c1
    have f0 := X.out.cb.frozen 4
    have c0 := blk_cell0 X.out.cb 0 rfl
    have c1 := blk_cell0 X.out.cb 4 rfl
    have R := Lib.hid (show RSt B g xs w gx [.int .i64 3, .int .i64 cl, .int .i64 no, .string (bs st), .string (bs nm), .string (bs []), .int .i64 0, .slice none 0 0] t6 (v6.setCell ⟨gx, 4, none⟩ (.string (bs nm))) from X.out.set 4 (.string (bs nm)))
    clear X
    go_wp2_with fail
    refine (HB3.out _ _ R.out.cu).mono ?_
    rintro e v7 ⟨n, t7, hn, rfl, hc1, hg1⟩
    have X := Lib.hid (R.out.call hc1 hg1); clear R hc1 hg1 f0 c0 c1
    have R := Lib.hid X.out; clear X
    go_wp2_with fail
    go_loopw [4] (fun ii wr => ∃ (j m : Nat) (sj : DSt) (A : Option Addr) (k : Nat) (ch : List (List UInt8)), ch.length = m ∧ m + j ≤ 3 ∧ ch.flatten.length ≤ 8 * m ∧ ii = .int .i64 (j : Int) ∧ RSt B g xs w gx [.int .i64 3, .int .i64 cl, .int .i64 no, .string (bs st), .string (bs nm), .string (bs []), .int .i64 0, .slice A m k] sj wr ∧ wr.ownsRow (gx + 1) 9 1 (.slice A m k) m (ch.map strv)) (fun ii _ => (intOf ii).toNat)
    case atStart => exact ⟨n + 1, 0, t7, none, 0, [], rfl, by omega, by simp, by go_num, R.out, ⟨by simp, .inl ⟨rfl, rfl⟩⟩⟩
    case round =>
      obtain ⟨j, m, sj, A, k, ch, hm, hjc, hfl, rfl, hR, hown⟩ := hrel
      clear R
      have R := Lib.hid hR; clear hR
      have HO := Lib.hid hown; clear hown
      by_cases hj0 : 0 < j
      · have hd1 : (0 : Int) < (j : Int) := by omega
        have hcx : wr.cell? ⟨gx, 7, none⟩ = some (.slice A m k) := blk_cell0 R.out.cb 7 rfl
        go_wp2
        refine wp_region_l (fun v => v.cell? ⟨gx, 7, none⟩ = some (.slice A m k)) 9 [0, 1, 2] [3, 4, 5, 6, 7, 8] [9, 10, 11] (by kernel_rfl) (by kernel_rfl) hcx ?_
        refine wpCr_bare rfl (by kernel_rfl) rfl rfl ?_; go_wp2; refine ⟨rfl, ?_⟩
        refine wpCr_step rfl (.slice A m k) (fun w' hw' => run_load1 rfl rfl (fun v => load_slice (e := 9) (by kernel_rfl) v) hw') ?_
        refine wpCr_bare rfl (by kernel_rfl) rfl rfl ?_; go_wp2; refine ⟨rfl, ?_⟩
        refine wpCr_nil ?_
        refine wpCz_step rfl ?_
        go_wp2_with fail
        refine (HB4.out _ _ R.out.drew.cu).mono ?_
        rintro e v9 ⟨b, t9, hb, rfl, hc1, hg1⟩
        have HO2 := Lib.hid (ownsRow_keep (base' := gx + 1) HO.out (w' := v9) (fun k hk => ⟨(HO.out.lt k hk).1, hg1.block k (HO.out.lt k hk).2 (fun e => by have h1 := (HO.out.lt k hk).1; have h2 := R.out.g1; have h3 := R.out.gl; injection e with e; omega)⟩))
        have X := Lib.hid (R.out.drew.call hc1 hg1); clear R hc1 hg1 HO hcx
        go_wp2_with fail
        refine ⟨blk_cell0 X.out.cb 7 rfl, ?_⟩
        refine wpCz_step rfl ?_
        go_wp2_with fail
        refine ⟨blk_cell0 X.out.cb 7 rfl, ?_⟩
        refine wpCz_step rfl ?_
        go_wp2_with fail
        have R := Lib.hid (X.out.alloc (.cells #[.int .u8 (b : Int)] 5))
        have HO3 := Lib.hid (HO2.out.alloc (.cells #[.int .u8 (b : Int)] 5))
        have HBO := Lib.hid (own_built v9 w.heap.size b #[.int .u8 (b : Int)] X.out.gr.size rfl (by omega)); clear X HO2
        refine ⟨blk_cell0 R.out.cb 7 rfl, ?_⟩
        refine wpCz_step rfl ?_
        go_wp2_with (first
          | (refine wpList_bytes_own _ rfl 22 9 _ rfl 5 E_u8.ht Tryz.underlying5 Tryz.underlying9 w.heap.size _ _ [UInt8.ofNat b] rfl (by exact HBO.out) ?_)
          | fail)
        clear HBO
        refine ⟨blk_cell0 R.out.cb 7 rfl, ?_⟩
        refine wpCz_step rfl ?_
        go_wp2_with fail
        refine (sShort_any [UInt8.ofNat b] _ (by simp)).mono ?_
        rintro e v10 ⟨rfl, hb10⟩
        have hshl := short_len [UInt8.ofNat b]
        obtain ⟨sh, hsh⟩ : ∃ sh, sh = shortL [UInt8.ofNat b] := ⟨_, rfl⟩
        rw [← hsh] at hshl ⊢
        clear hsh
        have X := Lib.hid (R.out.below hb10); clear R
        have HO2 := Lib.hid (HO3.out.keptBelow hb10); clear HO3 hb10
        go_wp2_with fail
        refine ⟨blk_cell0 X.out.cb 7 rfl, ?_⟩
        refine wpCz_step rfl ?_
        go_wp2_with fail
        have R := Lib.hid (X.out.alloc (.cells #[.string (bs sh)] 9))
        have HO3 := Lib.hid (HO2.out.alloc (.cells #[.string (bs sh)] 9)); clear X HO2
        refine ⟨blk_cell0 R.out.cb 7 rfl, ?_⟩
        refine wpCz_nil ?_
        simp only [pickOps, List.getElem?_toArray, List.getElem?_cons_succ, List.getElem?_cons_zero]
        go_wp2_with (first | (at_builtin; go_must (refine wpList_app E_str _ rfl _ _ rfl (gx + 1) _ m _ rfl HO3.out _ _ _ _ rfl (Reads.new rfl) (one1 rfl) (by omega) R.out.gb ?_; intro vv w3 hown3 hg3 hat3; obtain ⟨Av, kv, rfl, _⟩ := SlR.of_own hown3; have hgb3 : ∀ k', (Value.slice A m k).ownBlock = some k' → gx < k' := (fun k' hk => by have := (HO3.out.lt k' hk).1; omega); have R3 := Lib.hid (R.out.fresh hg3 hgb3); have hq3 := blk_cell0 R3.out.cb 7 rfl; have hfz3 := R3.out.cb.frozen 7; have HO4 := Lib.hid hown3; clear hown3 hg3 hgb3 hat3)) | fail)
        refine ⟨trivial, ?_⟩
        go_wp2_with fail
        exact ⟨⟨j - 1, m + 1, t9, Av, kv, ch ++ [sh], by simp [hm], by omega, by rw [List.flatten_append, List.length_append]; simp only [List.flatten_cons, List.flatten_nil, List.append_nil]; omega, by go_num, R3.out.set 7 _, by rw [List.map_append]; exact ownsRow_keep HO4.out (fun k' hk => ⟨(HO4.out.lt k' hk).1, Below.heap_setCell _ _ _ _ (fun e => by have h1 := (HO4.out.lt k' hk).1; have e2 : k' = gx := e; omega)⟩)⟩, by simp only [intOf]; omega⟩
      · have hj00 : j = 0 := by omega
        subst hj00 hm
        have hd1 : ¬ (0 : Int) < ((0 : Nat) : Int) := by omega
        go_wp2_with (first | ((with_reducible show wpList _ _ _ ({ dst := _, op := Op.load 29 _, type := _, pos := _, after := _, guard := _ } :: _) _ _); refine wpList_load_row _ ⟨gx, 0, none⟩ rfl [.int .i64 3, .int .i64 cl, .int .i64 no, .string (bs st), .string (bs nm), .string (bs []), .int .i64 0, .slice A ch.length k] agg_Cmd rfl (blk_cells R.out.cb) ?_) | ((with_reducible show wpList _ _ _ ({ dst := _, op := Op.store 29 _ _, type := _, pos := _, after := _, guard := _ } :: _) _ _); go_must (refine wpList_store_row _ w.heap.size 29 0 [.int .i64 3, .int .i64 cl, .int .i64 no, .string (bs st), .string (bs nm), .string (bs []), .int .i64 0, .slice A ch.length k] [] [.int .i64 0, .int .i64 0, .int .i64 0, .string (bs []), .string (bs []), .string (bs []), .int .i64 0, .slice none 0 0] [] _ rfl rfl agg_Cmd R.out.zb rfl rfl rfl (by simp [Value.oneCell']) ?_; intro v10 hzb hzg)) | fail)
        skip
        exact bodyPost_cell rfl ⟨w.heap.size, 0, none⟩ rfl [.int .i64 3, .int .i64 cl, .int .i64 no, .string (bs st), .string (bs nm), .string (bs []), .int .i64 0, .slice A ch.length k] agg_Cmd rfl (blk_cells hzb) rfl ⟨⟨⟨3, cl, no, st, nm, [], 0, ch⟩, _, _, rfl, small_c (by assumption) (by assumption) (by simp) (by omega) (by omega), cmd_mine (c := ⟨3, cl, no, st, nm, [], 0, ch⟩) (ownsRow_keep (base' := w.heap.size) HO.out (fun k' hk => ⟨by have h1 := (HO.out.lt k' hk).1; have h2 := R.out.g1; omega, hzg.block k' (HO.out.lt k' hk).2 (fun e => by have h1 := (HO.out.lt k' hk).1; have h2 := R.out.g1; injection e with e; omega)⟩)), R.out.cu.keep hzg (fun k hk => by injection hk with hk; omega), grown_New R.out.gr hzg (Nat.le_refl _)⟩⟩
  | false =>
    by_cases hk3 : kd = 3
    · subst hk3
      have c0 := blk_cell0 R.out.cb 0 rfl
      go_wp2_with fail
      refine (HPa.out _ _ _ _ (R.out.alloc _).cu (by have h1 := R.out.gb; have h2 := R.out.g1; have h3 := R.out.gl; (try rw [setCell_size] at h1); omega) (reads_new_strs2 _ _ _ _ [ [97], [98], [97, 98] ] rfl (by first | rfl | rw [setCell_size]))).mono ?_
      rintro e v5 ⟨st, t5, hm, rfl, hc1, hg1⟩
      have hst : st.length ≤ 10 := by
        clear HPa HPx HPk HB3 HB4 R
        simp only [List.mem_cons, List.not_mem_nil, or_false] at hm
        rcases hm with rfl | rfl | rfl <;> simp
      clear hm
      have X := Lib.hid ((R.out.alloc _).call hc1 hg1); clear R hc1 hg1
      try clear f0
      clear c0
      have f0 := X.out.cb.frozen 3
      have c0 := blk_cell0 X.out.cb 0 rfl
      have c1 := blk_cell0 X.out.cb 3 rfl
      have R := Lib.hid (show RSt B g xs w gx [.int .i64 3, .int .i64 cl, .int .i64 no, .string (bs st), .string (bs []), .string (bs []), .int .i64 0, .slice none 0 0] t5 (v5.setCell ⟨gx, 3, none⟩ (.string (bs st))) from X.out.set 3 (.string (bs st)))
      clear X
      go_wp2_with fail
      refine (HPx.out _ _ _ _ (R.out.alloc _).cu (by have h1 := R.out.gb; have h2 := R.out.g1; have h3 := R.out.gl; (try rw [setCell_size] at h1); omega) (reads_new_strs2 _ _ _ _ [ [120], [121], [122] ] rfl (by first | rfl | rw [setCell_size]))).mono ?_
      rintro e v6 ⟨nm, t6, hm, rfl, hc1, hg1⟩
      have hnm : nm.length ≤ 10 := by
        clear HPa HPx HPk HB3 HB4 R
        simp only [List.mem_cons, List.not_mem_nil, or_false] at hm
        rcases hm with rfl | rfl | rfl <;> simp
      clear hm
      have X := Lib.hid ((R.out.alloc _).call hc1 hg1); clear R hc1 hg1
      clear f0 c0 c1
      have f0 := X.out.cb.frozen 4
      have c0 := blk_cell0 X.out.cb 0 rfl
      have c1 := blk_cell0 X.out.cb 4 rfl
      have R := Lib.hid (show RSt B g xs w gx [.int .i64 3, .int .i64 cl, .int .i64 no, .string (bs st), .string (bs nm), .string (bs []), .int .i64 0, .slice none 0 0] t6 (v6.setCell ⟨gx, 4, none⟩ (.string (bs nm))) from X.out.set 4 (.string (bs nm)))
      clear X
      go_wp2_with fail
      refine (HB3.out _ _ R.out.cu).mono ?_
      rintro e v7 ⟨n, t7, hn, rfl, hc1, hg1⟩
      have X := Lib.hid (R.out.call hc1 hg1); clear R hc1 hg1 f0 c0 c1
      have R := Lib.hid X.out; clear X
      go_wp2_with fail
      go_loopw [4] (fun ii wr => ∃ (j m : Nat) (sj : DSt) (A : Option Addr) (k : Nat) (ch : List (List UInt8)), ch.length = m ∧ m + j ≤ 3 ∧ ch.flatten.length ≤ 8 * m ∧ ii = .int .i64 (j : Int) ∧ RSt B g xs w gx [.int .i64 3, .int .i64 cl, .int .i64 no, .string (bs st), .string (bs nm), .string (bs []), .int .i64 0, .slice A m k] sj wr ∧ wr.ownsRow (gx + 1) 9 1 (.slice A m k) m (ch.map strv)) (fun ii _ => (intOf ii).toNat)
      case atStart => exact ⟨n + 1, 0, t7, none, 0, [], rfl, by omega, by simp, by go_num, R.out, ⟨by simp, .inl ⟨rfl, rfl⟩⟩⟩
      case round =>
        obtain ⟨j, m, sj, A, k, ch, hm, hjc, hfl, rfl, hR, hown⟩ := hrel
        clear R
        have R := Lib.hid hR; clear hR
        have HO := Lib.hid hown; clear hown
        by_cases hj0 : 0 < j
        · have hd1 : (0 : Int) < (j : Int) := by omega
          have hcx : wr.cell? ⟨gx, 7, none⟩ = some (.slice A m k) := blk_cell0 R.out.cb 7 rfl
          go_wp2
          refine wp_region_l (fun v => v.cell? ⟨gx, 7, none⟩ = some (.slice A m k)) 9 [0, 1, 2] [3, 4, 5, 6, 7, 8] [9, 10, 11] (by kernel_rfl) (by kernel_rfl) hcx ?_
          refine wpCr_bare rfl (by kernel_rfl) rfl rfl ?_; go_wp2; refine ⟨rfl, ?_⟩
          refine wpCr_step rfl (.slice A m k) (fun w' hw' => run_load1 rfl rfl (fun v => load_slice (e := 9) (by kernel_rfl) v) hw') ?_
          refine wpCr_bare rfl (by kernel_rfl) rfl rfl ?_; go_wp2; refine ⟨rfl, ?_⟩
          refine wpCr_nil ?_
          refine wpCz_step rfl ?_
          go_wp2_with fail
          refine (HB4.out _ _ R.out.drew.cu).mono ?_
          rintro e v9 ⟨b, t9, hb, rfl, hc1, hg1⟩
          have HO2 := Lib.hid (ownsRow_keep (base' := gx + 1) HO.out (w' := v9) (fun k hk => ⟨(HO.out.lt k hk).1, hg1.block k (HO.out.lt k hk).2 (fun e => by have h1 := (HO.out.lt k hk).1; have h2 := R.out.g1; have h3 := R.out.gl; injection e with e; omega)⟩))
          have X := Lib.hid (R.out.drew.call hc1 hg1); clear R hc1 hg1 HO hcx
          go_wp2_with fail
          refine ⟨blk_cell0 X.out.cb 7 rfl, ?_⟩
          refine wpCz_step rfl ?_
          go_wp2_with fail
          refine ⟨blk_cell0 X.out.cb 7 rfl, ?_⟩
          refine wpCz_step rfl ?_
          go_wp2_with fail
          have R := Lib.hid (X.out.alloc (.cells #[.int .u8 (b : Int)] 5))
          have HO3 := Lib.hid (HO2.out.alloc (.cells #[.int .u8 (b : Int)] 5))
          have HBO := Lib.hid (own_built v9 w.heap.size b #[.int .u8 (b : Int)] X.out.gr.size rfl (by omega)); clear X HO2
          refine ⟨blk_cell0 R.out.cb 7 rfl, ?_⟩
          refine wpCz_step rfl ?_
          go_wp2_with (first
            | (refine wpList_bytes_own _ rfl 22 9 _ rfl 5 E_u8.ht Tryz.underlying5 Tryz.underlying9 w.heap.size _ _ [UInt8.ofNat b] rfl (by exact HBO.out) ?_)
            | fail)
          clear HBO
          refine ⟨blk_cell0 R.out.cb 7 rfl, ?_⟩
          refine wpCz_step rfl ?_
          go_wp2_with fail
          refine (sShort_any [UInt8.ofNat b] _ (by simp)).mono ?_
          rintro e v10 ⟨rfl, hb10⟩
          have hshl := short_len [UInt8.ofNat b]
          obtain ⟨sh, hsh⟩ : ∃ sh, sh = shortL [UInt8.ofNat b] := ⟨_, rfl⟩
          rw [← hsh] at hshl ⊢
          clear hsh
          have X := Lib.hid (R.out.below hb10); clear R
          have HO2 := Lib.hid (HO3.out.keptBelow hb10); clear HO3 hb10
          go_wp2_with fail
          refine ⟨blk_cell0 X.out.cb 7 rfl, ?_⟩
          refine wpCz_step rfl ?_
          go_wp2_with fail
          have R := Lib.hid (X.out.alloc (.cells #[.string (bs sh)] 9))
          have HO3 := Lib.hid (HO2.out.alloc (.cells #[.string (bs sh)] 9)); clear X HO2
          refine ⟨blk_cell0 R.out.cb 7 rfl, ?_⟩
          refine wpCz_nil ?_
          simp only [pickOps, List.getElem?_toArray, List.getElem?_cons_succ, List.getElem?_cons_zero]
          go_wp2_with (first | (at_builtin; go_must (refine wpList_app E_str _ rfl _ _ rfl (gx + 1) _ m _ rfl HO3.out _ _ _ _ rfl (Reads.new rfl) (one1 rfl) (by omega) R.out.gb ?_; intro vv w3 hown3 hg3 hat3; obtain ⟨Av, kv, rfl, _⟩ := SlR.of_own hown3; have hgb3 : ∀ k', (Value.slice A m k).ownBlock = some k' → gx < k' := (fun k' hk => by have := (HO3.out.lt k' hk).1; omega); have R3 := Lib.hid (R.out.fresh hg3 hgb3); have hq3 := blk_cell0 R3.out.cb 7 rfl; have hfz3 := R3.out.cb.frozen 7; have HO4 := Lib.hid hown3; clear hown3 hg3 hgb3 hat3)) | fail)
          refine ⟨trivial, ?_⟩
          go_wp2_with fail
          exact ⟨⟨j - 1, m + 1, t9, Av, kv, ch ++ [sh], by simp [hm], by omega, by rw [List.flatten_append, List.length_append]; simp only [List.flatten_cons, List.flatten_nil, List.append_nil]; omega, by go_num, R3.out.set 7 _, by rw [List.map_append]; exact ownsRow_keep HO4.out (fun k' hk => ⟨(HO4.out.lt k' hk).1, Below.heap_setCell _ _ _ _ (fun e => by have h1 := (HO4.out.lt k' hk).1; have e2 : k' = gx := e; omega)⟩)⟩, by simp only [intOf]; omega⟩
        · have hj00 : j = 0 := by omega
          subst hj00 hm
          have hd1 : ¬ (0 : Int) < ((0 : Nat) : Int) := by omega
          go_wp2_with (first | ((with_reducible show wpList _ _ _ ({ dst := _, op := Op.load 29 _, type := _, pos := _, after := _, guard := _ } :: _) _ _); refine wpList_load_row _ ⟨gx, 0, none⟩ rfl [.int .i64 3, .int .i64 cl, .int .i64 no, .string (bs st), .string (bs nm), .string (bs []), .int .i64 0, .slice A ch.length k] agg_Cmd rfl (blk_cells R.out.cb) ?_) | ((with_reducible show wpList _ _ _ ({ dst := _, op := Op.store 29 _ _, type := _, pos := _, after := _, guard := _ } :: _) _ _); go_must (refine wpList_store_row _ w.heap.size 29 0 [.int .i64 3, .int .i64 cl, .int .i64 no, .string (bs st), .string (bs nm), .string (bs []), .int .i64 0, .slice A ch.length k] [] [.int .i64 0, .int .i64 0, .int .i64 0, .string (bs []), .string (bs []), .string (bs []), .int .i64 0, .slice none 0 0] [] _ rfl rfl agg_Cmd R.out.zb rfl rfl rfl (by simp [Value.oneCell']) ?_; intro v10 hzb hzg)) | fail)
          skip
          exact bodyPost_cell rfl ⟨w.heap.size, 0, none⟩ rfl [.int .i64 3, .int .i64 cl, .int .i64 no, .string (bs st), .string (bs nm), .string (bs []), .int .i64 0, .slice A ch.length k] agg_Cmd rfl (blk_cells hzb) rfl ⟨⟨⟨3, cl, no, st, nm, [], 0, ch⟩, _, _, rfl, small_c (by assumption) (by assumption) (by simp) (by omega) (by omega), cmd_mine (c := ⟨3, cl, no, st, nm, [], 0, ch⟩) (ownsRow_keep (base' := w.heap.size) HO.out (fun k' hk => ⟨by have h1 := (HO.out.lt k' hk).1; have h2 := R.out.g1; omega, hzg.block k' (HO.out.lt k' hk).2 (fun e => by have h1 := (HO.out.lt k' hk).1; have h2 := R.out.g1; injection e with e; omega)⟩)), R.out.cu.keep hzg (fun k hk => by injection hk with hk; omega), grown_New R.out.gr hzg (Nat.le_refl _)⟩⟩
    by_cases hk7 : kd = 7
    · subst hk7
      have c0 := blk_cell0 R.out.cb 0 rfl
      go_wp2_with (first | ((with_reducible show wpList _ _ _ ({ dst := _, op := Op.load 29 _, type := _, pos := _, after := _, guard := _ } :: _) _ _); refine wpList_load_row _ ⟨gx, 0, none⟩ rfl [.int .i64 7, .int .i64 cl, .int .i64 no, .string (bs []), .string (bs []), .string (bs []), .int .i64 0, .slice none 0 0] agg_Cmd rfl (blk_cells R.out.cb) ?_) | ((with_reducible show wpList _ _ _ ({ dst := _, op := Op.store 29 _ _, type := _, pos := _, after := _, guard := _ } :: _) _ _); go_must (refine wpList_store_row _ w.heap.size 29 0 [.int .i64 7, .int .i64 cl, .int .i64 no, .string (bs []), .string (bs []), .string (bs []), .int .i64 0, .slice none 0 0] [] [.int .i64 0, .int .i64 0, .int .i64 0, .string (bs []), .string (bs []), .string (bs []), .int .i64 0, .slice none 0 0] [] _ rfl rfl agg_Cmd R.out.zb rfl rfl rfl (by simp [Value.oneCell']) ?_; intro v10 hzb hzg)) | fail)
      skip
      exact bodyPost_cell rfl ⟨w.heap.size, 0, none⟩ rfl [.int .i64 7, .int .i64 cl, .int .i64 no, .string (bs []), .string (bs []), .string (bs []), .int .i64 0, .slice none 0 0] agg_Cmd rfl (blk_cells hzb) rfl ⟨⟨⟨7, cl, no, [], [], [], 0, []⟩, _, _, rfl, small_c (by first | assumption | simp) (by first | assumption | simp) (by first | assumption | simp) (by simp) (by simp), cmd_mine (c := ⟨7, cl, no, [], [], [], 0, []⟩) ⟨by simp, .inl ⟨rfl, rfl⟩⟩, R.out.cu.keep hzg (fun k hk => by injection hk with hk; omega), grown_New R.out.gr hzg (Nat.le_refl _)⟩⟩
    by_cases hk4 : kd = 4
    · subst hk4
      have c0 := blk_cell0 R.out.cb 0 rfl
      go_wp2_with fail
      refine (HPa.out _ _ _ _ (R.out.alloc _).cu (by have h1 := R.out.gb; have h2 := R.out.g1; have h3 := R.out.gl; (try rw [setCell_size] at h1); omega) (reads_new_strs2 _ _ _ _ [ [97], [98], [97, 98] ] rfl (by first | rfl | rw [setCell_size]))).mono ?_
      rintro e v5 ⟨st, t5, hm, rfl, hc1, hg1⟩
      have hst : st.length ≤ 10 := by
        clear HPa HPx HPk HB3 HB4 R
        simp only [List.mem_cons, List.not_mem_nil, or_false] at hm
        rcases hm with rfl | rfl | rfl <;> simp
      clear hm
      have X := Lib.hid ((R.out.alloc _).call hc1 hg1); clear R hc1 hg1
      try clear f0
      clear c0
      have f0 := X.out.cb.frozen 3
      have c0 := blk_cell0 X.out.cb 0 rfl
      have c1 := blk_cell0 X.out.cb 3 rfl
      have R := Lib.hid (show RSt B g xs w gx [.int .i64 4, .int .i64 cl, .int .i64 no, .string (bs st), .string (bs []), .string (bs []), .int .i64 0, .slice none 0 0] t5 (v5.setCell ⟨gx, 3, none⟩ (.string (bs st))) from X.out.set 3 (.string (bs st)))
      clear X
      go_wp2_with fail
      refine (HPx.out _ _ _ _ (R.out.alloc _).cu (by have h1 := R.out.gb; have h2 := R.out.g1; have h3 := R.out.gl; (try rw [setCell_size] at h1); omega) (reads_new_strs2 _ _ _ _ [ [120], [121], [122] ] rfl (by first | rfl | rw [setCell_size]))).mono ?_
      rintro e v6 ⟨nm, t6, hm, rfl, hc1, hg1⟩
      have hnm : nm.length ≤ 10 := by
        clear HPa HPx HPk HB3 HB4 R
        simp only [List.mem_cons, List.not_mem_nil, or_false] at hm
        rcases hm with rfl | rfl | rfl <;> simp
      clear hm
      have X := Lib.hid ((R.out.alloc _).call hc1 hg1); clear R hc1 hg1
      clear f0 c0 c1
      have f0 := X.out.cb.frozen 4
      have c0 := blk_cell0 X.out.cb 0 rfl
      have c1 := blk_cell0 X.out.cb 4 rfl
      have R := Lib.hid (show RSt B g xs w gx [.int .i64 4, .int .i64 cl, .int .i64 no, .string (bs st), .string (bs nm), .string (bs []), .int .i64 0, .slice none 0 0] t6 (v6.setCell ⟨gx, 4, none⟩ (.string (bs nm))) from X.out.set 4 (.string (bs nm)))
      clear X
      go_wp2_with fail
      refine (HPk.out _ _ _ _ (R.out.alloc _).cu (by have h1 := R.out.gb; have h2 := R.out.g1; have h3 := R.out.gl; (try rw [setCell_size] at h1); omega) (reads_new_strs2 _ _ _ _ [ [107, 101, 101, 112], [116] ] rfl (by first | rfl | rw [setCell_size]))).mono ?_
      rintro e v7 ⟨tg, t7, hm, rfl, hc1, hg1⟩
      have htg : tg.length ≤ 10 := by
        clear HPa HPx HPk HB3 HB4 R
        simp only [List.mem_cons, List.not_mem_nil, or_false] at hm
        rcases hm with rfl | rfl <;> simp
      clear hm
      have X := Lib.hid ((R.out.alloc _).call hc1 hg1); clear R hc1 hg1
      clear f0 c0 c1
      have f0 := X.out.cb.frozen 5
      have c0 := blk_cell0 X.out.cb 0 rfl
      have c1 := blk_cell0 X.out.cb 5 rfl
      have R := Lib.hid (show RSt B g xs w gx [.int .i64 4, .int .i64 cl, .int .i64 no, .string (bs st), .string (bs nm), .string (bs tg), .int .i64 0, .slice none 0 0] t7 (v7.setCell ⟨gx, 5, none⟩ (.string (bs tg))) from X.out.set 5 (.string (bs tg)))
      clear X
      go_wp2_with (first | ((with_reducible show wpList _ _ _ ({ dst := _, op := Op.load 29 _, type := _, pos := _, after := _, guard := _ } :: _) _ _); refine wpList_load_row _ ⟨gx, 0, none⟩ rfl [.int .i64 4, .int .i64 cl, .int .i64 no, .string (bs st), .string (bs nm), .string (bs tg), .int .i64 0, .slice none 0 0] agg_Cmd rfl (blk_cells R.out.cb) ?_) | ((with_reducible show wpList _ _ _ ({ dst := _, op := Op.store 29 _ _, type := _, pos := _, after := _, guard := _ } :: _) _ _); go_must (refine wpList_store_row _ w.heap.size 29 0 [.int .i64 4, .int .i64 cl, .int .i64 no, .string (bs st), .string (bs nm), .string (bs tg), .int .i64 0, .slice none 0 0] [] [.int .i64 0, .int .i64 0, .int .i64 0, .string (bs []), .string (bs []), .string (bs []), .int .i64 0, .slice none 0 0] [] _ rfl rfl agg_Cmd R.out.zb rfl rfl rfl (by simp [Value.oneCell']) ?_; intro v10 hzb hzg)) | fail)
      skip
      exact bodyPost_cell rfl ⟨w.heap.size, 0, none⟩ rfl [.int .i64 4, .int .i64 cl, .int .i64 no, .string (bs st), .string (bs nm), .string (bs tg), .int .i64 0, .slice none 0 0] agg_Cmd rfl (blk_cells hzb) rfl ⟨⟨⟨4, cl, no, st, nm, tg, 0, []⟩, _, _, rfl, small_c (by first | assumption | simp) (by first | assumption | simp) (by first | assumption | simp) (by simp) (by simp), cmd_mine (c := ⟨4, cl, no, st, nm, tg, 0, []⟩) ⟨by simp, .inl ⟨rfl, rfl⟩⟩, R.out.cu.keep hzg (fun k hk => by injection hk with hk; omega), grown_New R.out.gr hzg (Nat.le_refl _)⟩⟩
    by_cases hk5 : kd = 5
    · subst hk5
      have c0 := blk_cell0 R.out.cb 0 rfl
      go_wp2_with fail
      refine (HPa.out _ _ _ _ (R.out.alloc _).cu (by have h1 := R.out.gb; have h2 := R.out.g1; have h3 := R.out.gl; (try rw [setCell_size] at h1); omega) (reads_new_strs2 _ _ _ _ [ [97], [98], [97, 98] ] rfl (by first | rfl | rw [setCell_size]))).mono ?_
      rintro e v5 ⟨st, t5, hm, rfl, hc1, hg1⟩
      have hst : st.length ≤ 10 := by
        clear HPa HPx HPk HB3 HB4 R
        simp only [List.mem_cons, List.not_mem_nil, or_false] at hm
        rcases hm with rfl | rfl | rfl <;> simp
      clear hm
      have X := Lib.hid ((R.out.alloc _).call hc1 hg1); clear R hc1 hg1
      try clear f0
      clear c0
      have f0 := X.out.cb.frozen 3
      have c0 := blk_cell0 X.out.cb 0 rfl
      have c1 := blk_cell0 X.out.cb 3 rfl
      have R := Lib.hid (show RSt B g xs w gx [.int .i64 5, .int .i64 cl, .int .i64 no, .string (bs st), .string (bs []), .string (bs []), .int .i64 0, .slice none 0 0] t5 (v5.setCell ⟨gx, 3, none⟩ (.string (bs st))) from X.out.set 3 (.string (bs st)))
      clear X
      go_wp2_with fail
      refine (HB4.out _ _ R.out.cu).mono ?_
      rintro e v6 ⟨nn, t6, hnn, rfl, hc1, hg1⟩
      have X := Lib.hid (R.out.call hc1 hg1); clear R hc1 hg1 f0 c0 c1
      have f0 := X.out.cb.frozen 6
      have c0 := blk_cell0 X.out.cb 0 rfl
      have c1 := blk_cell0 X.out.cb 6 rfl
      have R := Lib.hid (show RSt B g xs w gx [.int .i64 5, .int .i64 cl, .int .i64 no, .string (bs st), .string (bs []), .string (bs []), .int .i64 (nn : Int), .slice none 0 0] t6 (v6.setCell ⟨gx, 6, none⟩ (.int .i64 (nn : Int))) from X.out.set 6 (.int .i64 (nn : Int)))
      clear X
      go_wp2_with (first | ((with_reducible show wpList _ _ _ ({ dst := _, op := Op.load 29 _, type := _, pos := _, after := _, guard := _ } :: _) _ _); refine wpList_load_row _ ⟨gx, 0, none⟩ rfl [.int .i64 5, .int .i64 cl, .int .i64 no, .string (bs st), .string (bs []), .string (bs []), .int .i64 (nn : Int), .slice none 0 0] agg_Cmd rfl (blk_cells R.out.cb) ?_) | ((with_reducible show wpList _ _ _ ({ dst := _, op := Op.store 29 _ _, type := _, pos := _, after := _, guard := _ } :: _) _ _); go_must (refine wpList_store_row _ w.heap.size 29 0 [.int .i64 5, .int .i64 cl, .int .i64 no, .string (bs st), .string (bs []), .string (bs []), .int .i64 (nn : Int), .slice none 0 0] [] [.int .i64 0, .int .i64 0, .int .i64 0, .string (bs []), .string (bs []), .string (bs []), .int .i64 0, .slice none 0 0] [] _ rfl rfl agg_Cmd R.out.zb rfl rfl rfl (by simp [Value.oneCell']) ?_; intro v10 hzb hzg)) | fail)
      skip
      exact bodyPost_cell rfl ⟨w.heap.size, 0, none⟩ rfl [.int .i64 5, .int .i64 cl, .int .i64 no, .string (bs st), .string (bs []), .string (bs []), .int .i64 (nn : Int), .slice none 0 0] agg_Cmd rfl (blk_cells hzb) rfl ⟨⟨⟨5, cl, no, st, [], [], (nn : Int), []⟩, _, _, rfl, small_c (by first | assumption | simp) (by first | assumption | simp) (by first | assumption | simp) (by simp) (by simp), cmd_mine (c := ⟨5, cl, no, st, [], [], (nn : Int), []⟩) ⟨by simp, .inl ⟨rfl, rfl⟩⟩, R.out.cu.keep hzg (fun k hk => by injection hk with hk; omega), grown_New R.out.gr hzg (Nat.le_refl _)⟩⟩
    have b7 : (kd != 7) = true := by simpa using hk7
    have b3 : (kd == 3) = false := by simpa using hk3
    have b4 : (kd == 4) = false := by simpa using hk4
    have b5 : (kd == 5) = false := by simpa using hk5
    clear hk3 hk7 hk4 hk5
    have c0 := blk_cell0 R.out.cb 0 rfl
    go_wp2_with fail
    refine (HPa.out _ _ _ _ (R.out.alloc _).cu (by have h1 := R.out.gb; have h2 := R.out.g1; have h3 := R.out.gl; (try rw [setCell_size] at h1); omega) (reads_new_strs2 _ _ _ _ [ [97], [98], [97, 98] ] rfl (by first | rfl | rw [setCell_size]))).mono ?_
    rintro e v5 ⟨st, t5, hm, rfl, hc1, hg1⟩
    have hst : st.length ≤ 10 := by
      clear HPa HPx HPk HB3 HB4 R
      simp only [List.mem_cons, List.not_mem_nil, or_false] at hm
      rcases hm with rfl | rfl | rfl <;> simp
    clear hm
    have X := Lib.hid ((R.out.alloc _).call hc1 hg1); clear R hc1 hg1
    try clear f0
    clear c0
    have f0 := X.out.cb.frozen 3
    have c0 := blk_cell0 X.out.cb 0 rfl
    have c1 := blk_cell0 X.out.cb 3 rfl
    have R := Lib.hid (show RSt B g xs w gx [.int .i64 kd, .int .i64 cl, .int .i64 no, .string (bs st), .string (bs []), .string (bs []), .int .i64 0, .slice none 0 0] t5 (v5.setCell ⟨gx, 3, none⟩ (.string (bs st))) from X.out.set 3 (.string (bs st)))
    clear X
    go_wp2_with (first | ((with_reducible show wpList _ _ _ ({ dst := _, op := Op.load 29 _, type := _, pos := _, after := _, guard := _ } :: _) _ _); refine wpList_load_row _ ⟨gx, 0, none⟩ rfl [.int .i64 kd, .int .i64 cl, .int .i64 no, .string (bs st), .string (bs []), .string (bs []), .int .i64 0, .slice none 0 0] agg_Cmd rfl (blk_cells R.out.cb) ?_) | ((with_reducible show wpList _ _ _ ({ dst := _, op := Op.store 29 _ _, type := _, pos := _, after := _, guard := _ } :: _) _ _); go_must (refine wpList_store_row _ w.heap.size 29 0 [.int .i64 kd, .int .i64 cl, .int .i64 no, .string (bs st), .string (bs []), .string (bs []), .int .i64 0, .slice none 0 0] [] [.int .i64 0, .int .i64 0, .int .i64 0, .string (bs []), .string (bs []), .string (bs []), .int .i64 0, .slice none 0 0] [] _ rfl rfl agg_Cmd R.out.zb rfl rfl rfl (by simp [Value.oneCell']) ?_; intro v10 hzb hzg)) | fail)
    skip
    exact bodyPost_cell rfl ⟨w.heap.size, 0, none⟩ rfl [.int .i64 kd, .int .i64 cl, .int .i64 no, .string (bs st), .string (bs []), .string (bs []), .int .i64 0, .slice none 0 0] agg_Cmd rfl (blk_cells hzb) rfl ⟨⟨⟨kd, cl, no, st, [], [], 0, []⟩, _, _, rfl, small_c (by first | assumption | simp) (by first | assumption | simp) (by first | assumption | simp) (by simp) (by simp), cmd_mine (c := ⟨kd, cl, no, st, [], [], 0, []⟩) ⟨by simp, .inl ⟨rfl, rfl⟩⟩, R.out.cu.keep hzg (fun k hk => by injection hk with hk; omega), grown_New R.out.gr hzg (Nat.le_refl _)⟩⟩

end Go.Proofs.YtonaacdefidomaaGreat
namespace Go.Proofs.YtonaacdefidomaaGreat
open Go.RowKit

set_option maxRecDepth 100000 in
set_option maxHeartbeats 8000000 in
theorem l4Cmd_x (B g : Nat) (xs : List UInt8) (s : DSt) (w : World) (hc : Cur B g xs s w) :
    Calls Tryz.prog 24 #[.pointer (some ⟨g, 0, none⟩)] w (CmdPost 5 B g xs w) := by
  have hgl := hc.lt
  have H12 := Lib.hid (fun w s hc => l1Once_e B g 12 xs s w hc (by omega) (by omega))
  have H8 := Lib.hid (fun w s hc => l1Once_e B g 8 xs s w hc (by omega) (by omega))
  have HB6 := Lib.hid (fun w s hc => l1Below_e B g 6 xs s w hc (by omega) (by omega))
  have HR := Lib.hid (fun w s hc => l4Right_x B g xs s w hc)
  have HT9 := Lib.hid (fun w s hc => l1Text_e B g 9 xs s w hc (by omega))
  go_enter Tryz.func24, Tryz.ntmps24
  go_wp2_with fail
  refine (H12.out _ _ (hc.keep (grown_alloc w _) (fun k hk => by cases hk))).mono ?_
  rintro e w1 ⟨b, s1, rfl, hc1, hg1⟩
  have ZB := Lib.hid (show Blk w1 w.heap.size 29 [.int .i64 0, .int .i64 0, .int .i64 0, .string (bs []), .string (bs []), .string (bs []), .int .i64 0, .slice none 0 0].toArray from (blk_new w _ _).grown hg1 (by omega))
  have GR := Lib.hid (show w.grownBy w1 (some g) from grown_trans (grown_weak (grown_alloc w _)) hg1)
  have HZ := Lib.hid (show w.heap.size + 1 ≤ w1.heap.size from Nat.le_trans (by simp) hg1.size)
  have HC := Lib.hid hc1; clear hc1 hg1 hc
  cases b with
  | true =>
    go_wp2_with (first | ((with_reducible show wpList _ _ _ ({ dst := _, op := Op.store 29 _ _, type := _, pos := _, after := _, guard := _ } :: _) _ _); go_must (refine wpList_store_row _ w.heap.size 29 0 [.int .i64 0, .int .i64 0, .int .i64 0, .string (bs []), .string (bs []), .string (bs []), .int .i64 0, .slice none 0 0] [] [.int .i64 0, .int .i64 0, .int .i64 0, .string (bs []), .string (bs []), .string (bs []), .int .i64 0, .slice none 0 0] [] _ rfl rfl agg_Cmd ZB.out rfl rfl rfl (by simp [Value.oneCell']) ?_; intro v10 hzb hzg)) | fail)
    skip
    exact bodyPost_cell rfl ⟨w.heap.size, 0, none⟩ rfl [.int .i64 0, .int .i64 0, .int .i64 0, .string (bs []), .string (bs []), .string (bs []), .int .i64 0, .slice none 0 0] agg_Cmd rfl (blk_cells hzb) rfl ⟨⟨zeroCmd, _, _, rfl, ⟨by simp [zeroCmd], by simp [zeroCmd], by simp [zeroCmd], by simp [zeroCmd], by simp [zeroCmd]⟩, zeroCmd_mine _ _, HC.out.keep hzg (fun k hk => by injection hk with hk; omega), grown_New GR.out hzg (Nat.le_refl _)⟩⟩
  | false =>
    go_wp2_with fail
    refine (HR.out _ _ HC.out).mono ?_
    rintro e w2 ⟨⟨d, cs, s2, rfl, hsm, ⟨F, _, ho⟩, hc2, hg2⟩⟩
    obtain ⟨A, k, F', rfl, _, hst⟩ := CmdD.openO ho
    obtain ⟨hrow, _⟩ := hst.strs
    obtain ⟨kd, cl, no, st, nm, tg, nn, ch⟩ := d
    obtain ⟨hs1, hs2, hs3, hs4, hs5⟩ := hsm
    simp only [] at hrow hs1 hs2 hs3 hs4 hs5 ⊢
    clear hst ho
    have X := Lib.hid (ZB.out.grown hg2 (by omega)); clear ZB
    have ZB := Lib.hid X.out; clear X
    have X := Lib.hid (grown_trans GR.out hg2); clear GR
    have GR := Lib.hid X.out; clear X
    have hzz := HZ.out
    have X := Lib.hid (Nat.le_trans HZ.out hg2.size); clear HZ
    have HZ := Lib.hid X.out; clear X
    clear HC
    have RW := Lib.hid (ownsRow_keep (base' := w.heap.size + 1) hrow (fun k' hk => ⟨by have := (hrow.lt k' hk).1; omega, rfl⟩)); clear hrow
    have HC := Lib.hid hc2; clear hc2 hg2 hzz
    obtain ⟨gx, hgx⟩ : ∃ x, x = w2.heap.size := ⟨_, rfl⟩
    have HGX := Lib.hid (show w.heap.size + 1 ≤ gx by rw [hgx]; exact HZ.out)
    have HNE := Lib.hid (fun k' hk => show k' < gx by rw [hgx]; exact (RW.out.lt k' hk).2)
    have HGE := Lib.hid hgx; clear hgx
    go_wp2_with (first | ((with_reducible show wpList _ _ _ ({ dst := _, op := Op.store 29 _ _, type := _, pos := _, after := _, guard := _ } :: _) _ _); go_must (refine wpList_store_row _ w2.heap.size 29 0 [.int .i64 kd, .int .i64 cl, .int .i64 no, .string (bs st), .string (bs nm), .string (bs tg), .int .i64 nn, .slice A ch.length k] [] [.int .i64 0, .int .i64 0, .int .i64 0, .string (bs []), .string (bs []), .string (bs []), .int .i64 0, .slice none 0 0] [] _ rfl rfl agg_Cmd (blk_new w2 _ _) rfl rfl rfl (by simp [Value.oneCell']) ?_; intro w4 hsb hg; rw [← HGE.out] at hsb hg ⊢; have R := Lib.hid (show RSt B g xs w gx [.int .i64 kd, .int .i64 cl, .int .i64 no, .string (bs st), .string (bs nm), .string (bs tg), .int .i64 nn, .slice A ch.length k] s2 w4 from ⟨(ZB.out.alloc _).grown hg (by have := HGX.out; omega), by simpa using hsb, grown_New (grown_trans GR.out (grown_weak (grown_alloc w2 _))) hg (by have := HGX.out; omega), Nat.le_trans (by rw [HGE.out]; simp) hg.size, (HC.out.keep (grown_alloc w2 _) (fun k hk => by cases hk)).keep hg (fun k hk => by injection hk with hk; have := HGX.out; omega), HGX.out, hgl⟩); clear hsb; have X := Lib.hid (ownsRow_keep (base' := w.heap.size + 1) (RW.out.alloc _) (fun k' hk => ⟨(RW.out.lt k' hk).1, hg.block k' ((RW.out.alloc _).lt k' hk).2 (fun e => by have h1 := HNE.out k' hk; injection e with e; omega)⟩)); clear RW; have RW := Lib.hid X.out; clear X; clear hg)) | fail)
    clear HGE ZB GR HZ HC
    refine (H8.out _ _ R.out.cu).mono ?_
    rintro e w5 ⟨b8, s5, rfl, hc1, hg1⟩
    have X := Lib.hid (ownsRow_keep (base' := w.heap.size + 1) RW.out (fun k' hk => ⟨(RW.out.lt k' hk).1, hg1.block k' (RW.out.lt k' hk).2 (fun e => by have h1 := (RW.out.lt k' hk).1; injection e with e; omega)⟩)); clear RW
    have RW := Lib.hid X.out; clear X
    have X := Lib.hid (RSt.call R.out hc1 hg1); clear R hc1 hg1
    have R := Lib.hid X.out; clear X
    cases b8 with
    | false =>
      go_wp2_with (first | ((with_reducible show wpList _ _ _ ({ dst := _, op := Op.load 29 _, type := _, pos := _, after := _, guard := _ } :: _) _ _); refine wpList_load_row _ ⟨gx, 0, none⟩ rfl [.int .i64 kd, .int .i64 cl, .int .i64 no, .string (bs st), .string (bs nm), .string (bs tg), .int .i64 nn, .slice A ch.length k] agg_Cmd rfl (blk_cells R.out.cb) ?_) | ((with_reducible show wpList _ _ _ ({ dst := _, op := Op.store 29 _ _, type := _, pos := _, after := _, guard := _ } :: _) _ _); go_must (refine wpList_store_row _ w.heap.size 29 0 [.int .i64 kd, .int .i64 cl, .int .i64 no, .string (bs st), .string (bs nm), .string (bs tg), .int .i64 nn, .slice A ch.length k] [] [.int .i64 0, .int .i64 0, .int .i64 0, .string (bs []), .string (bs []), .string (bs []), .int .i64 0, .slice none 0 0] [] _ rfl rfl agg_Cmd R.out.zb rfl rfl rfl (by simp [Value.oneCell']) ?_; intro v10 hzb hzg)) | fail)
      skip
      exact bodyPost_cell rfl ⟨w.heap.size, 0, none⟩ rfl [.int .i64 kd, .int .i64 cl, .int .i64 no, .string (bs st), .string (bs nm), .string (bs tg), .int .i64 nn, .slice A ch.length k] agg_Cmd rfl (blk_cells hzb) rfl ⟨⟨⟨kd, cl, no, st, nm, tg, nn, ch⟩, _, _, rfl, small_c (by first | assumption | simp) (by assumption) (by assumption) (by omega) (by omega), cmd_mine (c := ⟨kd, cl, no, st, nm, tg, nn, ch⟩) (ownsRow_keep (base' := w.heap.size) RW.out (fun k' hk => ⟨by have h1 := (RW.out.lt k' hk).1; omega, hzg.block k' (RW.out.lt k' hk).2 (fun e => by have h1 := (RW.out.lt k' hk).1; injection e with e; omega)⟩)), R.out.cu.keep hzg (fun k hk => by injection hk with hk; omega), grown_New R.out.gr hzg (Nat.le_refl _)⟩⟩
    | true =>
      go_wp2_with fail
      refine (HB6.out _ _ R.out.cu).mono ?_
      rintro e w6 ⟨m, s6, hm, rfl, hc1, hg1⟩
      have X := Lib.hid (ownsRow_keep (base' := w.heap.size + 1) RW.out (fun k' hk => ⟨(RW.out.lt k' hk).1, hg1.block k' (RW.out.lt k' hk).2 (fun e => by have h1 := (RW.out.lt k' hk).1; injection e with e; omega)⟩)); clear RW
      have RW := Lib.hid X.out; clear X
      have X := Lib.hid (RSt.call R.out hc1 hg1); clear R hc1 hg1
      have R := Lib.hid X.out; clear X
      by_cases h0 : m = 0
      · subst h0
        go_wp2_with fail
        refine (l1PickInt_e B g xs _ [-1, 0, 8, 3] _ 4 4 _ (R.out.alloc _).cu rfl (by omega) (by omega) (by have h1 := R.out.gb; have h2 := R.out.g1; have h3 := R.out.gl; omega) (reads_new_ints2 _ _ _ _ [-1, 0, 8, 3] rfl rfl)).mono ?_
        rintro e w7 ⟨v, s7, rfl, hc1, hg1⟩
        have X := Lib.hid (ownsRow_keep (base' := w.heap.size + 1) (RW.out.alloc _) (fun k' hk => ⟨(RW.out.lt k' hk).1, hg1.block k' ((RW.out.alloc _).lt k' hk).2 (fun e => by have h1 := (RW.out.lt k' hk).1; injection e with e; omega)⟩)); clear RW
        have RW := Lib.hid X.out; clear X
        have X := Lib.hid ((R.out.alloc _).call hc1 hg1); clear R hc1 hg1
        have R := Lib.hid X.out; clear X
        have f0 := R.out.cb.frozen 0
        have c1 := blk_cell0 R.out.cb 0 rfl
        have X := Lib.hid (show RSt B g xs w gx [.int .i64 v, .int .i64 cl, .int .i64 no, .string (bs st), .string (bs nm), .string (bs tg), .int .i64 nn, .slice A ch.length k] s7 (w7.setCell ⟨gx, 0, none⟩ (.int .i64 v)) from R.out.set 0 (.int .i64 v)); clear R
        have R := Lib.hid X.out; clear X
        have X := Lib.hid (ownsRow_keep (base' := w.heap.size + 1) (w' := (w7.setCell ⟨gx, 0, none⟩ (.int .i64 v))) RW.out (fun k' hk => ⟨(RW.out.lt k' hk).1, Below.heap_setCell _ _ _ _ (fun e => by have h1 := HNE.out k' hk; have e2 : k' = gx := e; omega)⟩)); clear RW
        have RW := Lib.hid X.out; clear X
        go_wp2_with (first | ((with_reducible show wpList _ _ _ ({ dst := _, op := Op.load 29 _, type := _, pos := _, after := _, guard := _ } :: _) _ _); refine wpList_load_row _ ⟨gx, 0, none⟩ rfl [.int .i64 v, .int .i64 cl, .int .i64 no, .string (bs st), .string (bs nm), .string (bs tg), .int .i64 nn, .slice A ch.length k] agg_Cmd rfl (blk_cells R.out.cb) ?_) | ((with_reducible show wpList _ _ _ ({ dst := _, op := Op.store 29 _ _, type := _, pos := _, after := _, guard := _ } :: _) _ _); go_must (refine wpList_store_row _ w.heap.size 29 0 [.int .i64 v, .int .i64 cl, .int .i64 no, .string (bs st), .string (bs nm), .string (bs tg), .int .i64 nn, .slice A ch.length k] [] [.int .i64 0, .int .i64 0, .int .i64 0, .string (bs []), .string (bs []), .string (bs []), .int .i64 0, .slice none 0 0] [] _ rfl rfl agg_Cmd R.out.zb rfl rfl rfl (by simp [Value.oneCell']) ?_; intro v10 hzb hzg)) | fail)
        skip
        exact bodyPost_cell rfl ⟨w.heap.size, 0, none⟩ rfl [.int .i64 v, .int .i64 cl, .int .i64 no, .string (bs st), .string (bs nm), .string (bs tg), .int .i64 nn, .slice A ch.length k] agg_Cmd rfl (blk_cells hzb) rfl ⟨⟨⟨v, cl, no, st, nm, tg, nn, ch⟩, _, _, rfl, small_c (by first | assumption | simp) (by assumption) (by assumption) (by omega) (by omega), cmd_mine (c := ⟨v, cl, no, st, nm, tg, nn, ch⟩) (ownsRow_keep (base' := w.heap.size) RW.out (fun k' hk => ⟨by have h1 := (RW.out.lt k' hk).1; omega, hzg.block k' (RW.out.lt k' hk).2 (fun e => by have h1 := (RW.out.lt k' hk).1; injection e with e; omega)⟩)), R.out.cu.keep hzg (fun k hk => by injection hk with hk; omega), grown_New R.out.gr hzg (Nat.le_refl _)⟩⟩
      have b0 : ((m : Int) == 0) = false := by simp only [beq_eq_false_iff_ne]; omega
      by_cases h1 : m = 1
      · subst h1
        go_wp2_with fail
        refine (l1PickInt_e B g xs _ [0, 9, 10] _ 3 3 _ (R.out.alloc _).cu rfl (by omega) (by omega) (by have h1 := R.out.gb; have h2 := R.out.g1; have h3 := R.out.gl; omega) (reads_new_ints2 _ _ _ _ [0, 9, 10] rfl rfl)).mono ?_
        rintro e w7 ⟨v, s7, rfl, hc1, hg1⟩
        have X := Lib.hid (ownsRow_keep (base' := w.heap.size + 1) (RW.out.alloc _) (fun k' hk => ⟨(RW.out.lt k' hk).1, hg1.block k' ((RW.out.alloc _).lt k' hk).2 (fun e => by have h1 := (RW.out.lt k' hk).1; injection e with e; omega)⟩)); clear RW
        have RW := Lib.hid X.out; clear X
        have X := Lib.hid ((R.out.alloc _).call hc1 hg1); clear R hc1 hg1
        have R := Lib.hid X.out; clear X
        have f0 := R.out.cb.frozen 1
        have c1 := blk_cell0 R.out.cb 1 rfl
        have X := Lib.hid (show RSt B g xs w gx [.int .i64 kd, .int .i64 v, .int .i64 no, .string (bs st), .string (bs nm), .string (bs tg), .int .i64 nn, .slice A ch.length k] s7 (w7.setCell ⟨gx, 1, none⟩ (.int .i64 v)) from R.out.set 1 (.int .i64 v)); clear R
        have R := Lib.hid X.out; clear X
        have X := Lib.hid (ownsRow_keep (base' := w.heap.size + 1) (w' := (w7.setCell ⟨gx, 1, none⟩ (.int .i64 v))) RW.out (fun k' hk => ⟨(RW.out.lt k' hk).1, Below.heap_setCell _ _ _ _ (fun e => by have h1 := HNE.out k' hk; have e2 : k' = gx := e; omega)⟩)); clear RW
        have RW := Lib.hid X.out; clear X
        go_wp2_with (first | ((with_reducible show wpList _ _ _ ({ dst := _, op := Op.load 29 _, type := _, pos := _, after := _, guard := _ } :: _) _ _); refine wpList_load_row _ ⟨gx, 0, none⟩ rfl [.int .i64 kd, .int .i64 v, .int .i64 no, .string (bs st), .string (bs nm), .string (bs tg), .int .i64 nn, .slice A ch.length k] agg_Cmd rfl (blk_cells R.out.cb) ?_) | ((with_reducible show wpList _ _ _ ({ dst := _, op := Op.store 29 _ _, type := _, pos := _, after := _, guard := _ } :: _) _ _); go_must (refine wpList_store_row _ w.heap.size 29 0 [.int .i64 kd, .int .i64 v, .int .i64 no, .string (bs st), .string (bs nm), .string (bs tg), .int .i64 nn, .slice A ch.length k] [] [.int .i64 0, .int .i64 0, .int .i64 0, .string (bs []), .string (bs []), .string (bs []), .int .i64 0, .slice none 0 0] [] _ rfl rfl agg_Cmd R.out.zb rfl rfl rfl (by simp [Value.oneCell']) ?_; intro v10 hzb hzg)) | fail)
        skip
        exact bodyPost_cell rfl ⟨w.heap.size, 0, none⟩ rfl [.int .i64 kd, .int .i64 v, .int .i64 no, .string (bs st), .string (bs nm), .string (bs tg), .int .i64 nn, .slice A ch.length k] agg_Cmd rfl (blk_cells hzb) rfl ⟨⟨⟨kd, v, no, st, nm, tg, nn, ch⟩, _, _, rfl, small_c (by first | assumption | simp) (by assumption) (by assumption) (by omega) (by omega), cmd_mine (c := ⟨kd, v, no, st, nm, tg, nn, ch⟩) (ownsRow_keep (base' := w.heap.size) RW.out (fun k' hk => ⟨by have h1 := (RW.out.lt k' hk).1; omega, hzg.block k' (RW.out.lt k' hk).2 (fun e => by have h1 := (RW.out.lt k' hk).1; injection e with e; omega)⟩)), R.out.cu.keep hzg (fun k hk => by injection hk with hk; omega), grown_New R.out.gr hzg (Nat.le_refl _)⟩⟩
      have b1 : ((m : Int) == 1) = false := by simp only [beq_eq_false_iff_ne]; omega
      by_cases h2 : m = 2
      · subst h2
        go_wp2_with fail
        refine (l1PickInt_e B g xs _ [0, 1000, 1001] _ 3 3 _ (R.out.alloc _).cu rfl (by omega) (by omega) (by have h1 := R.out.gb; have h2 := R.out.g1; have h3 := R.out.gl; omega) (reads_new_ints2 _ _ _ _ [0, 1000, 1001] rfl rfl)).mono ?_
        rintro e w7 ⟨v, s7, rfl, hc1, hg1⟩
        have X := Lib.hid (ownsRow_keep (base' := w.heap.size + 1) (RW.out.alloc _) (fun k' hk => ⟨(RW.out.lt k' hk).1, hg1.block k' ((RW.out.alloc _).lt k' hk).2 (fun e => by have h1 := (RW.out.lt k' hk).1; injection e with e; omega)⟩)); clear RW
        have RW := Lib.hid X.out; clear X
        have X := Lib.hid ((R.out.alloc _).call hc1 hg1); clear R hc1 hg1
        have R := Lib.hid X.out; clear X
        have f0 := R.out.cb.frozen 2
        have c1 := blk_cell0 R.out.cb 2 rfl
        have X := Lib.hid (show RSt B g xs w gx [.int .i64 kd, .int .i64 cl, .int .i64 v, .string (bs st), .string (bs nm), .string (bs tg), .int .i64 nn, .slice A ch.length k] s7 (w7.setCell ⟨gx, 2, none⟩ (.int .i64 v)) from R.out.set 2 (.int .i64 v)); clear R
        have R := Lib.hid X.out; clear X
        have X := Lib.hid (ownsRow_keep (base' := w.heap.size + 1) (w' := (w7.setCell ⟨gx, 2, none⟩ (.int .i64 v))) RW.out (fun k' hk => ⟨(RW.out.lt k' hk).1, Below.heap_setCell _ _ _ _ (fun e => by have h1 := HNE.out k' hk; have e2 : k' = gx := e; omega)⟩)); clear RW
        have RW := Lib.hid X.out; clear X
        go_wp2_with (first | ((with_reducible show wpList _ _ _ ({ dst := _, op := Op.load 29 _, type := _, pos := _, after := _, guard := _ } :: _) _ _); refine wpList_load_row _ ⟨gx, 0, none⟩ rfl [.int .i64 kd, .int .i64 cl, .int .i64 v, .string (bs st), .string (bs nm), .string (bs tg), .int .i64 nn, .slice A ch.length k] agg_Cmd rfl (blk_cells R.out.cb) ?_) | ((with_reducible show wpList _ _ _ ({ dst := _, op := Op.store 29 _ _, type := _, pos := _, after := _, guard := _ } :: _) _ _); go_must (refine wpList_store_row _ w.heap.size 29 0 [.int .i64 kd, .int .i64 cl, .int .i64 v, .string (bs st), .string (bs nm), .string (bs tg), .int .i64 nn, .slice A ch.length k] [] [.int .i64 0, .int .i64 0, .int .i64 0, .string (bs []), .string (bs []), .string (bs []), .int .i64 0, .slice none 0 0] [] _ rfl rfl agg_Cmd R.out.zb rfl rfl rfl (by simp [Value.oneCell']) ?_; intro v10 hzb hzg)) | fail)
        skip
        exact bodyPost_cell rfl ⟨w.heap.size, 0, none⟩ rfl [.int .i64 kd, .int .i64 cl, .int .i64 v, .string (bs st), .string (bs nm), .string (bs tg), .int .i64 nn, .slice A ch.length k] agg_Cmd rfl (blk_cells hzb) rfl ⟨⟨⟨kd, cl, v, st, nm, tg, nn, ch⟩, _, _, rfl, small_c (by first | assumption | simp) (by assumption) (by assumption) (by omega) (by omega), cmd_mine (c := ⟨kd, cl, v, st, nm, tg, nn, ch⟩) (ownsRow_keep (base' := w.heap.size) RW.out (fun k' hk => ⟨by have h1 := (RW.out.lt k' hk).1; omega, hzg.block k' (RW.out.lt k' hk).2 (fun e => by have h1 := (RW.out.lt k' hk).1; injection e with e; omega)⟩)), R.out.cu.keep hzg (fun k hk => by injection hk with hk; omega), grown_New R.out.gr hzg (Nat.le_refl _)⟩⟩
      have b2 : ((m : Int) == 2) = false := by simp only [beq_eq_false_iff_ne]; omega
      by_cases h3 : m = 3
      · subst h3
        go_wp2_with fail
        refine (l1Pick_x B g xs _ [ [], [65], [97, 98, 99, 100, 101, 102, 103, 104], [97, 98, 99, 100, 101, 102, 103, 104, 105] ] _ 4 4 _ (R.out.alloc _).cu rfl (by omega) (by omega) (by have h1 := R.out.gb; have h2 := R.out.g1; have h3 := R.out.gl; omega) (reads_new_strs2 _ _ _ _ [ [], [65], [97, 98, 99, 100, 101, 102, 103, 104], [97, 98, 99, 100, 101, 102, 103, 104, 105] ] rfl rfl)).mono ?_
        rintro e w7 ⟨v, s7, hmem, rfl, hc1, hg1⟩
        have hv : v.length ≤ 10 := by
          clear HNE HGX HT9 H8 H12 HB6 HR R RW
          simp only [List.mem_cons, List.not_mem_nil, or_false] at hmem
          rcases hmem with rfl | rfl | rfl | rfl <;> simp
        clear hmem
        have X := Lib.hid (ownsRow_keep (base' := w.heap.size + 1) (RW.out.alloc _) (fun k' hk => ⟨(RW.out.lt k' hk).1, hg1.block k' ((RW.out.alloc _).lt k' hk).2 (fun e => by have h1 := (RW.out.lt k' hk).1; injection e with e; omega)⟩)); clear RW
        have RW := Lib.hid X.out; clear X
        have X := Lib.hid ((R.out.alloc _).call hc1 hg1); clear R hc1 hg1
        have R := Lib.hid X.out; clear X
        have f0 := R.out.cb.frozen 3
        have c1 := blk_cell0 R.out.cb 3 rfl
        have X := Lib.hid (show RSt B g xs w gx [.int .i64 kd, .int .i64 cl, .int .i64 no, .string (bs v), .string (bs nm), .string (bs tg), .int .i64 nn, .slice A ch.length k] s7 (w7.setCell ⟨gx, 3, none⟩ (.string (bs v))) from R.out.set 3 (.string (bs v))); clear R
        have R := Lib.hid X.out; clear X
        have X := Lib.hid (ownsRow_keep (base' := w.heap.size + 1) (w' := (w7.setCell ⟨gx, 3, none⟩ (.string (bs v)))) RW.out (fun k' hk => ⟨(RW.out.lt k' hk).1, Below.heap_setCell _ _ _ _ (fun e => by have h1 := HNE.out k' hk; have e2 : k' = gx := e; omega)⟩)); clear RW
        have RW := Lib.hid X.out; clear X
        go_wp2_with (first | ((with_reducible show wpList _ _ _ ({ dst := _, op := Op.load 29 _, type := _, pos := _, after := _, guard := _ } :: _) _ _); refine wpList_load_row _ ⟨gx, 0, none⟩ rfl [.int .i64 kd, .int .i64 cl, .int .i64 no, .string (bs v), .string (bs nm), .string (bs tg), .int .i64 nn, .slice A ch.length k] agg_Cmd rfl (blk_cells R.out.cb) ?_) | ((with_reducible show wpList _ _ _ ({ dst := _, op := Op.store 29 _ _, type := _, pos := _, after := _, guard := _ } :: _) _ _); go_must (refine wpList_store_row _ w.heap.size 29 0 [.int .i64 kd, .int .i64 cl, .int .i64 no, .string (bs v), .string (bs nm), .string (bs tg), .int .i64 nn, .slice A ch.length k] [] [.int .i64 0, .int .i64 0, .int .i64 0, .string (bs []), .string (bs []), .string (bs []), .int .i64 0, .slice none 0 0] [] _ rfl rfl agg_Cmd R.out.zb rfl rfl rfl (by simp [Value.oneCell']) ?_; intro v10 hzb hzg)) | fail)
        skip
        exact bodyPost_cell rfl ⟨w.heap.size, 0, none⟩ rfl [.int .i64 kd, .int .i64 cl, .int .i64 no, .string (bs v), .string (bs nm), .string (bs tg), .int .i64 nn, .slice A ch.length k] agg_Cmd rfl (blk_cells hzb) rfl ⟨⟨⟨kd, cl, no, v, nm, tg, nn, ch⟩, _, _, rfl, small_c (by first | assumption | simp) (by assumption) (by assumption) (by omega) (by omega), cmd_mine (c := ⟨kd, cl, no, v, nm, tg, nn, ch⟩) (ownsRow_keep (base' := w.heap.size) RW.out (fun k' hk => ⟨by have h1 := (RW.out.lt k' hk).1; omega, hzg.block k' (RW.out.lt k' hk).2 (fun e => by have h1 := (RW.out.lt k' hk).1; injection e with e; omega)⟩)), R.out.cu.keep hzg (fun k hk => by injection hk with hk; omega), grown_New R.out.gr hzg (Nat.le_refl _)⟩⟩
      have b3 : ((m : Int) == 3) = false := by simp only [beq_eq_false_iff_ne]; omega
      by_cases h4 : m = 4
      · subst h4
        go_wp2_with fail
        refine (l1PickInt_e B g xs _ [-1, 9, 10] _ 3 3 _ (R.out.alloc _).cu rfl (by omega) (by omega) (by have h1 := R.out.gb; have h2 := R.out.g1; have h3 := R.out.gl; omega) (reads_new_ints2 _ _ _ _ [-1, 9, 10] rfl rfl)).mono ?_
        rintro e w7 ⟨v, s7, rfl, hc1, hg1⟩
        have X := Lib.hid (ownsRow_keep (base' := w.heap.size + 1) (RW.out.alloc _) (fun k' hk => ⟨(RW.out.lt k' hk).1, hg1.block k' ((RW.out.alloc _).lt k' hk).2 (fun e => by have h1 := (RW.out.lt k' hk).1; injection e with e; omega)⟩)); clear RW
        have RW := Lib.hid X.out; clear X
        have X := Lib.hid ((R.out.alloc _).call hc1 hg1); clear R hc1 hg1
        have R := Lib.hid X.out; clear X
        have f0 := R.out.cb.frozen 6
        have c1 := blk_cell0 R.out.cb 6 rfl
        have X := Lib.hid (show RSt B g xs w gx [.int .i64 kd, .int .i64 cl, .int .i64 no, .string (bs st), .string (bs nm), .string (bs tg), .int .i64 v, .slice A ch.length k] s7 (w7.setCell ⟨gx, 6, none⟩ (.int .i64 v)) from R.out.set 6 (.int .i64 v)); clear R
        have R := Lib.hid X.out; clear X
        have X := Lib.hid (ownsRow_keep (base' := w.heap.size + 1) (w' := (w7.setCell ⟨gx, 6, none⟩ (.int .i64 v))) RW.out (fun k' hk => ⟨(RW.out.lt k' hk).1, Below.heap_setCell _ _ _ _ (fun e => by have h1 := HNE.out k' hk; have e2 : k' = gx := e; omega)⟩)); clear RW
        have RW := Lib.hid X.out; clear X
        go_wp2_with (first | ((with_reducible show wpList _ _ _ ({ dst := _, op := Op.load 29 _, type := _, pos := _, after := _, guard := _ } :: _) _ _); refine wpList_load_row _ ⟨gx, 0, none⟩ rfl [.int .i64 kd, .int .i64 cl, .int .i64 no, .string (bs st), .string (bs nm), .string (bs tg), .int .i64 v, .slice A ch.length k] agg_Cmd rfl (blk_cells R.out.cb) ?_) | ((with_reducible show wpList _ _ _ ({ dst := _, op := Op.store 29 _ _, type := _, pos := _, after := _, guard := _ } :: _) _ _); go_must (refine wpList_store_row _ w.heap.size 29 0 [.int .i64 kd, .int .i64 cl, .int .i64 no, .string (bs st), .string (bs nm), .string (bs tg), .int .i64 v, .slice A ch.length k] [] [.int .i64 0, .int .i64 0, .int .i64 0, .string (bs []), .string (bs []), .string (bs []), .int .i64 0, .slice none 0 0] [] _ rfl rfl agg_Cmd R.out.zb rfl rfl rfl (by simp [Value.oneCell']) ?_; intro v10 hzb hzg)) | fail)
        skip
        exact bodyPost_cell rfl ⟨w.heap.size, 0, none⟩ rfl [.int .i64 kd, .int .i64 cl, .int .i64 no, .string (bs st), .string (bs nm), .string (bs tg), .int .i64 v, .slice A ch.length k] agg_Cmd rfl (blk_cells hzb) rfl ⟨⟨⟨kd, cl, no, st, nm, tg, v, ch⟩, _, _, rfl, small_c (by first | assumption | simp) (by assumption) (by assumption) (by omega) (by omega), cmd_mine (c := ⟨kd, cl, no, st, nm, tg, v, ch⟩) (ownsRow_keep (base' := w.heap.size) RW.out (fun k' hk => ⟨by have h1 := (RW.out.lt k' hk).1; omega, hzg.block k' (RW.out.lt k' hk).2 (fun e => by have h1 := (RW.out.lt k' hk).1; injection e with e; omega)⟩)), R.out.cu.keep hzg (fun k hk => by injection hk with hk; omega), grown_New R.out.gr hzg (Nat.le_refl _)⟩⟩
      have b4 : ((m : Int) == 4) = false := by simp only [beq_eq_false_iff_ne]; omega
      clear h0 h1 h2 h3 h4 hm
      have hcx : w6.cell? ⟨gx, 7, none⟩ = some (.slice A ch.length k) := blk_cell0 R.out.cb 7 rfl
      go_wp2
      refine wp_region_l (fun v => v.cell? ⟨gx, 7, none⟩ = some (.slice A ch.length k)) 5 [0, 1, 2] [3, 4] [5, 6, 7] (by kernel_rfl) (by kernel_rfl) hcx ?_
      refine wpCr_bare rfl (by kernel_rfl) rfl rfl ?_; go_wp2; refine ⟨rfl, ?_⟩
      refine wpCr_step rfl (.slice A ch.length k) (fun w' hw' => run_load1 rfl rfl (fun v => load_slice (e := 9) (by kernel_rfl) v) hw') ?_
      refine wpCr_bare rfl (by kernel_rfl) rfl rfl ?_; go_wp2; refine ⟨rfl, ?_⟩
      refine wpCr_nil ?_
      refine wpCz_step rfl ?_
      go_wp2_with fail
      refine (HT9.out _ _ R.out.drew.cu).mono ?_
      rintro e w7 ⟨l, s7, hl9, rfl, hc1, hg1⟩
      have X := Lib.hid (ownsRow_keep (base' := w.heap.size + 1) RW.out.drew (fun k' hk => ⟨(RW.out.lt k' hk).1, hg1.block k' (RW.out.drew.lt k' hk).2 (fun e => by have h1 := (RW.out.lt k' hk).1; injection e with e; omega)⟩)); clear RW
      have RW := Lib.hid X.out; clear X
      have X := Lib.hid (RSt.call R.out.drew hc1 hg1); clear R hc1 hg1 hcx
      have R := Lib.hid X.out; clear X
      go_wp2_with fail
      refine ⟨blk_cell0 R.out.cb 7 rfl, ?_⟩
      refine wpCz_step rfl ?_
      go_wp2_with fail
      have X := Lib.hid (R.out.alloc (.cells #[.string (bs l)] 9)); clear R
      have R := Lib.hid X.out; clear X
      have X := Lib.hid (RW.out.alloc (.cells #[.string (bs l)] 9)); clear RW
      have RW := Lib.hid X.out; clear X
      refine ⟨blk_cell0 R.out.cb 7 rfl, ?_⟩
      refine wpCz_nil ?_
      simp only [pickOps, List.getElem?_toArray, List.getElem?_cons_succ, List.getElem?_cons_zero]
      go_wp2_with (first | (at_builtin; go_must (refine wpList_app E_str _ rfl _ _ rfl (w.heap.size + 1) _ ch.length _ rfl RW.out _ _ _ _ rfl (Reads.new rfl) (one1 rfl) (by omega) (by have h1 := R.out.gb; have h2 := R.out.g1; omega) ?_; intro vv w3 hown3 hg3 hat3; obtain ⟨Av, kv, rfl, _⟩ := SlR.of_own hown3; have hgb3 : ∀ k', (Value.slice A ch.length k).ownBlock = some k' → k' ≠ gx ∧ w.heap.size + 1 ≤ k' := (fun k' hk => ⟨by have := HNE.out k' hk; omega, (RW.out.lt k' hk).1⟩); have R3 := Lib.hid (R.out.own hg3 hgb3); have hq3 := blk_cell0 R3.out.cb 7 rfl; have hfz3 := R3.out.cb.frozen 7; have HO4 := Lib.hid hown3; have HN4 := Lib.hid (show ∀ k', (Value.slice Av (ch.length + 1) kv).ownBlock = some k' → k' ≠ gx from fun k' hk => by (rcases hat3 with h | h <;> first | exact (hgb3 k' (h.symm.trans hk)).1 | (have e := hk.symm.trans h; injection e with e; have := R.out.gb; omega))); clear hown3 hg3 hgb3 hat3)) | fail)
      refine ⟨trivial, ?_⟩
      have hchl : (ch ++ [l]).length = ch.length + 1 := by simp
      have hfl : (ch ++ [l]).flatten.length ≤ ch.flatten.length + 9 := by rw [List.flatten_append, List.length_append]; simp only [List.flatten_cons, List.flatten_nil, List.append_nil]; omega
      have X := Lib.hid (show RSt B g xs w gx [.int .i64 kd, .int .i64 cl, .int .i64 no, .string (bs st), .string (bs nm), .string (bs tg), .int .i64 nn, .slice Av (ch.length + 1) kv] s7 (w3.setCell ⟨gx, 7, none⟩ (.slice Av (ch.length + 1) kv)) from R3.out.set 7 _); clear R
      have R := Lib.hid X.out; clear X
      clear RW
      have RW := Lib.hid (show (w3.setCell ⟨gx, 7, none⟩ (.slice Av (ch.length + 1) kv)).ownsRow (w.heap.size + 1) 9 1 (.slice Av (ch.length + 1) kv) (ch.length + 1) ((ch ++ [l]).map strv) by rw [List.map_append]; exact ownsRow_keep HO4.out (fun k' hk => ⟨(HO4.out.lt k' hk).1, Below.heap_setCell _ _ _ _ (fun e => HN4.out k' hk e)⟩))
      rw [← hchl] at R RW
      obtain ⟨ch', hch'⟩ : ∃ c', c' = ch ++ [l] := ⟨_, rfl⟩
      rw [← hch'] at hchl hfl RW R
      rw [← hchl]
      go_wp2_with (first | ((with_reducible show wpList _ _ _ ({ dst := _, op := Op.load 29 _, type := _, pos := _, after := _, guard := _ } :: _) _ _); refine wpList_load_row _ ⟨gx, 0, none⟩ rfl [.int .i64 kd, .int .i64 cl, .int .i64 no, .string (bs st), .string (bs nm), .string (bs tg), .int .i64 nn, .slice Av ch'.length kv] agg_Cmd rfl (blk_cells R.out.cb) ?_) | ((with_reducible show wpList _ _ _ ({ dst := _, op := Op.store 29 _ _, type := _, pos := _, after := _, guard := _ } :: _) _ _); go_must (refine wpList_store_row _ w.heap.size 29 0 [.int .i64 kd, .int .i64 cl, .int .i64 no, .string (bs st), .string (bs nm), .string (bs tg), .int .i64 nn, .slice Av ch'.length kv] [] [.int .i64 0, .int .i64 0, .int .i64 0, .string (bs []), .string (bs []), .string (bs []), .int .i64 0, .slice none 0 0] [] _ rfl rfl agg_Cmd R.out.zb rfl rfl rfl (by simp [Value.oneCell']) ?_; intro v10 hzb hzg)) | fail)
      skip
      exact bodyPost_cell rfl ⟨w.heap.size, 0, none⟩ rfl [.int .i64 kd, .int .i64 cl, .int .i64 no, .string (bs st), .string (bs nm), .string (bs tg), .int .i64 nn, .slice Av ch'.length kv] agg_Cmd rfl (blk_cells hzb) rfl ⟨⟨⟨kd, cl, no, st, nm, tg, nn, ch'⟩, _, _, rfl, ⟨by assumption, by assumption, by assumption, by simp only []; omega, by simp only []; omega⟩, cmd_mine (c := ⟨kd, cl, no, st, nm, tg, nn, ch'⟩) (ownsRow_keep (base' := w.heap.size) RW.out (fun k' hk => ⟨by have h1 := (RW.out.lt k' hk).1; omega, hzg.block k' (RW.out.lt k' hk).2 (fun e => by have h1 := (RW.out.lt k' hk).1; injection e with e; omega)⟩)), R.out.cu.keep hzg (fun k hk => by injection hk with hk; omega), grown_New R.out.gr hzg (Nat.le_refl _)⟩⟩

end Go.Proofs.YtonaacdefidomaaGreat
