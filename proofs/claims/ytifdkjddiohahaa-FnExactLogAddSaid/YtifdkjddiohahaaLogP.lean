/-
  Logs with a record more, logs cut: the plain laws. Plain.
-/
import Derived.Test.YtifdkjddiohahaaLogOk
import Derived.Test.YtifdkjddiohahaaLogMk
import Derived.Test.YtifdkjddiohahaaUnfr
namespace Go.Proofs.Ytifdkjddiohahaa
open Go.RowKit

theorem unfr_fuel : ∀ (f g : Nat) (s : List UInt8), s.length < f → s.length < g → unfr f s = unfr g s
  | 0, _, s, h, _ => absurd h (by omega)
  | _, 0, s, _, h => absurd h (by omega)
  | f + 1, g + 1, s, hf, hg => by
    cases h : frame1 s with
    | none => rw [unfr_none h, unfr_none h]
    | some t =>
      obtain ⟨_, h5, hne, hle, _⟩ := frame1_some h
      obtain ⟨_, hge⟩ := frameL_ne hne
      rw [unfr_some h, unfr_some h, unfr_fuel f g _ (by rw [List.length_drop]; omega) (by rw [List.length_drop]; omega)]
theorem unframeL_of {f : Nat} {s : List UInt8} (h : s.length < f) : unframeL s = unfr f s := by
  rw [unframeL_eq]; exact unfr_fuel _ _ _ (by omega) h
theorem endU_le (s : List UInt8) : endU s ≤ s.length := unfr_end_le _ _
theorem unframeL_take (s : List UInt8) : unframeL (s.take (endU s)) = unframeL s := by
  rw [unframeL_of (f := s.length + 1) (s := s.take (endU s)) (by rw [List.length_take]; omega)]
  exact unfr_take _ _
theorem cntU_take (s : List UInt8) : cntU (s.take (endU s)) = cntU s := by unfold cntU; rw [unframeL_take]
theorem endU_take (s : List UInt8) : endU (s.take (endU s)) = endU s := by
  show (unframeL (s.take (endU s))).2 = _
  rw [unframeL_take]; rfl
theorem unframeL_nil : unframeL [] = ([], 0) := unfr_nil _
theorem unfr_lay : ∀ (f : Nat) (s t : List UInt8), (unfr f s).2 = s.length → s.length < f → frameL t ≠ [] → unfr (f + 1) (s ++ frameL t) = ((unfr f s).1 ++ [t], s.length + (frameL t).length)
  | 0, s, _, _, h, _ => absurd h (by omega)
  | f + 1, s, t, hE, hf, hne => by
    cases h : frame1 s with
    | none =>
      rw [unfr_none h] at hE ⊢
      have h0 : s = [] := List.eq_nil_of_length_eq_zero hE.symm
      subst h0
      have h1 := frame1_lay (t := t) (x := []) hne
      rw [List.append_nil] at h1
      rw [List.nil_append, unfr_some h1, List.drop_of_length_le (Nat.le_refl _), unfr_nil]
      simp
    | some u =>
      obtain ⟨_, h5, hne1, hle, htk⟩ := frame1_some h
      obtain ⟨_, hge⟩ := frameL_ne hne1
      rw [unfr_some h] at hE ⊢
      have hs : s = frameL u ++ s.drop (frameL u).length := by
        conv => lhs; rw [← List.take_append_drop (frameL u).length s, htk]
      have hE2 : (unfr f (s.drop (frameL u).length)).2 = (s.drop (frameL u).length).length := by
        rw [List.length_drop]; simp only [] at hE; omega
      have ih := unfr_lay f (s.drop (frameL u).length) t hE2 (by rw [List.length_drop]; omega) hne
      have h1 : frame1 (s ++ frameL t) = some u := by
        rw [hs, List.append_assoc]
        exact frame1_lay hne1
      have hd : (s ++ frameL t).drop (frameL u).length = s.drop (frameL u).length ++ frameL t := by
        rw [List.drop_append, Nat.sub_eq_zero_of_le hle, List.drop_zero]
      rw [unfr_some h1, hd, ih]
      simp only [List.cons_append, List.length_drop]
      rw [show (frameL u).length + (s.length - (frameL u).length + (frameL t).length) = s.length + (frameL t).length by omega]
theorem unframeL_lay {s t : List UInt8} (hE : endU s = s.length) (hne : frameL t ≠ []) : unframeL (s ++ frameL t) = ((unframeL s).1 ++ [t], s.length + (frameL t).length) := by
  have h1 := unfr_lay (s.length + 1) s t hE (by omega) hne
  obtain ⟨_, hge⟩ := frameL_ne hne
  rw [unframeL_eq]
  rw [unfr_fuel ((s ++ frameL t).length + 1) (s.length + (frameL t).length + 1) _ (by omega) (by rw [List.length_append]; omega), unfr_fuel _ (s.length + 1 + 1 + (frameL t).length) _ (by rw [List.length_append]; omega) (by rw [List.length_append]; omega)]
  have h2 := unfr_lay (s.length + 1 + (frameL t).length) s t (by
    rw [unfr_fuel _ (s.length + 1) _ (by omega) (by omega)]; exact hE) (by omega) hne
  rw [show s.length + 1 + 1 + (frameL t).length = s.length + 1 + (frameL t).length + 1 by omega, h2, unfr_fuel _ (s.length + 1) _ (by omega) (by omega)]
  rfl
theorem cntU_lay {s t : List UInt8} (hE : endU s = s.length) (hne : frameL t ≠ []) : cntU (s ++ frameL t) = cntU s + 1 := by
  unfold cntU; rw [unframeL_lay hE hne]; simp
theorem endU_lay {s t : List UInt8} (hE : endU s = s.length) (hne : frameL t ≠ []) : endU (s ++ frameL t) = (s ++ frameL t).length := by
  unfold endU; rw [unframeL_lay hE hne, List.length_append]
theorem cntU_pos {s : List UInt8} (hE : endU s = s.length) (h : s ≠ []) : 1 ≤ cntU s := by
  unfold cntU
  have hE' : (unframeL s).2 = s.length := hE
  rw [unframeL_eq] at hE' ⊢
  cases h1 : frame1 s with
  | none =>
    rw [unfr_none h1] at hE'
    exact absurd (List.eq_nil_of_length_eq_zero hE'.symm) h
  | some u => rw [unfr_some h1]; simp
/-- the segments ahead of the last one -/
def preF (mark : Int) : List SegD → Int → Option Int
  | [], a => some a
  | s :: rest, a =>
    if ¬ endU s.text = s.text.length ∨ (60 < s.text.length ∧ ¬ cntU s.text = 1) ∨ ¬ s.first = a ∨ cntU s.text = 0 ∨ a + cntU s.text - 1 ≤ mark then none
    else preF mark rest (a + cntU s.text)
def okSeg (s : SegD) (b : Int) : Prop := endU s.text = s.text.length ∧ (60 < s.text.length → cntU s.text = 1) ∧ s.first = b
theorem segsF_snoc {mark : Int} {s : SegD} {nx : Int} : ∀ {xs : List SegD} {a : Int}, segsF mark (xs ++ [s]) a = some nx ↔ ∃ b, preF mark xs a = some b ∧ okSeg s b ∧ nx = b + cntU s.text
  | [], a => by
    rw [List.nil_append]
    by_cases h : ¬ endU s.text = s.text.length ∨ (60 < s.text.length ∧ ¬ cntU s.text = 1) ∨ ¬ s.first = a
    · rw [segsF_1 h]
      refine ⟨(fun h => by cases h), fun ⟨b, hb, ⟨h1, h2, h3⟩, _⟩ => ?_⟩
      injection hb with hb
      subst hb
      exfalso
      rcases h with h | ⟨h, h'⟩ | h
      · exact h h1
      · exact h' (h2 h)
      · exact h h3
    · rw [segsF_3 h (by simp), segsF]
      have h1 : endU s.text = s.text.length := Classical.not_not.1 fun hh => h (.inl hh)
      have h2 : 60 < s.text.length → cntU s.text = 1 := fun hl => Classical.not_not.1 fun hh => h (.inr (.inl ⟨hl, hh⟩))
      have h3 : s.first = a := Classical.not_not.1 fun hh => h (.inr (.inr hh))
      constructor
      · intro he
        injection he with he
        exact ⟨a, rfl, ⟨h1, h2, h3⟩, he.symm⟩
      · rintro ⟨b, hb, _, rfl⟩
        injection hb with hb
        subst hb
        rfl
  | x :: xs, a => by
    rw [List.cons_append]
    have hl : ¬ (xs ++ [s]).length = 0 := by simp
    by_cases h : ¬ endU x.text = x.text.length ∨ (60 < x.text.length ∧ ¬ cntU x.text = 1) ∨ ¬ x.first = a
    · rw [segsF_1 h, preF, if_pos (by rcases h with h | h | h <;> simp [h])]
      exact ⟨(fun h => by cases h), fun ⟨b, hb, _⟩ => by cases hb⟩
    · by_cases h2 : cntU x.text = 0 ∨ a + cntU x.text - 1 ≤ mark
      · rw [segsF_2 ⟨hl, h2⟩, preF, if_pos (.inr (.inr (.inr h2)))]
        exact ⟨(fun h => by cases h), fun ⟨b, hb, _⟩ => by cases hb⟩
      · rw [segsF_3 h (fun hh => h2 hh.2), preF, if_neg (by
          rintro (h' | h' | h' | h')
          · exact h (.inl h')
          · exact h (.inr (.inl h'))
          · exact h (.inr (.inr h'))
          · exact h2 h')]
        exact segsF_snoc
theorem preF_snoc {mark : Int} {s : SegD} {nx : Int} : ∀ {xs : List SegD} {a : Int}, preF mark (xs ++ [s]) a = some nx ↔ ∃ b, preF mark xs a = some b ∧ okSeg s b ∧ nx = b + cntU s.text ∧ ¬ cntU s.text = 0 ∧ ¬ nx - 1 ≤ mark
  | [], a => by
    rw [List.nil_append]
    conv => lhs; rw [preF]
    split
    · rename_i h
      refine ⟨(fun h => by cases h), fun ⟨b, hb, ⟨h1, h2, h3⟩, he, h4, h5⟩ => ?_⟩
      injection hb with hb
      subst hb
      subst he
      exfalso
      rcases h with h | ⟨h, h'⟩ | h | h | h
      · exact h h1
      · exact h' (h2 h)
      · exact h h3
      · exact h4 h
      · exact h5 h
    · rename_i h
      simp only [not_or, Classical.not_not, not_and] at h
      obtain ⟨h1, h2, h3, h4, h5⟩ := h
      rw [preF]
      constructor
      · intro he
        injection he with he
        exact ⟨a, rfl, ⟨h1, fun hl => h2 hl, h3⟩, he.symm, h4, by rw [← he]; exact h5⟩
      · rintro ⟨b, hb, _, rfl, _⟩
        injection hb with hb
        subst hb
        rfl
  | x :: xs, a => by
    rw [List.cons_append, preF, preF]
    split
    · exact ⟨(fun h => by cases h), fun ⟨b, hb, _⟩ => by cases hb⟩
    · exact preF_snoc
theorem preF_ge {mark : Int} {b : Int} : ∀ {xs : List SegD} {a : Int}, preF mark xs a = some b → a ≤ b ∧ (xs ≠ [] → mark < b - 1)
  | [], a, h => by
    injection h with h
    exact ⟨by omega, fun h => absurd rfl h⟩
  | x :: xs, a, h => by
    rw [preF] at h
    split at h
    · cases h
    · rename_i hh
      simp only [not_or] at hh
      have := preF_ge h
      exact ⟨by omega, fun _ => by omega⟩
theorem preF_first {mark : Int} {b : Int} {x : SegD} {xs : List SegD} {a : Int} (h : preF mark (x :: xs) a = some b) : x.first = a ∧ ∃ c, preF mark xs c = some b ∧ mark < c - 1 := by
  rw [preF] at h
  split at h
  · cases h
  · rename_i hh
    simp only [not_or, Classical.not_not] at hh
    exact ⟨hh.2.2.1, _, h, by omega⟩
theorem trimS_pre {mark a : Int} {b : Int} {s : SegD} (hs : s.first = b) : ∀ {xs : List SegD}, preF mark xs a = some b → xs ≠ [] → trimS mark (xs ++ [s]) = xs ++ [s]
  | [], _, h => absurd rfl h
  | [x], h, _ => by
    obtain ⟨_, c, hc, hm⟩ := preF_first h
    injection hc with hc
    exact trimS_no (by omega)
  | x :: y :: r, h, _ => by
    obtain ⟨_, c, hc, hm⟩ := preF_first h
    obtain ⟨hy, _⟩ := preF_first hc
    exact trimS_no (by omega)
theorem fstL_app {xs ys : List SegD} {n m n' m' : Int} (h : xs ≠ []) : fstL ⟨xs ++ ys, n, m⟩ = fstL ⟨xs, n', m'⟩ := by
  cases xs with
  | nil => exact absurd rfl h
  | cons x xs => rfl
/-- what a right log is, seen from its last segment -/
theorem good_snoc {xs : List SegD} {s : SegD} {next mark : Int} (h : LogGood ⟨xs ++ [s], next, mark⟩) :
    preF mark xs (fstL ⟨xs ++ [s], next, mark⟩) = some s.first ∧ okSeg s s.first ∧ next = s.first + cntU s.text ∧ xs.length + 1 ≤ 6 ∧ 1 ≤ fstL ⟨xs ++ [s], next, mark⟩ ∧ fstL ⟨xs ++ [s], next, mark⟩ ≤ 1000 ∧ next ≤ 1000 ∧ 0 ≤ mark ∧ mark < next := by
  obtain ⟨_, h2, h3, h4, h5, h6, h7, h8⟩ := h
  obtain ⟨b, hb, ok, he⟩ := segsF_snoc.1 h5
  have : s.first = b := ok.2.2
  subst this
  simp only [List.length_append, List.length_cons, List.length_nil] at h2
  exact ⟨hb, ok, he, by omega, h3, h4, h6, h7, h8⟩
def lastS (xs : List SegD) : SegD := xs.getD (xs.length - 1) ⟨0, []⟩
def setLast (xs : List SegD) (s : SegD) : List SegD := xs.set (xs.length - 1) s
theorem lastS_snoc (xs : List SegD) (s : SegD) : lastS (xs ++ [s]) = s := by simp [lastS]
theorem setLast_snoc (xs : List SegD) (s t : SegD) : setLast (xs ++ [s]) t = xs ++ [t] := by simp [setLast]
theorem snoc_of {xs : List SegD} (h : 1 ≤ xs.length) : ∃ ys s, xs = ys ++ [s] := ⟨xs.dropLast, xs.getLast (by intro e; rw [e] at h; simp at h), (List.dropLast_concat_getLast _).symm⟩
def addS (l : LogD) (f : List UInt8) : List SegD :=
  if (lastS l.segs).text = [] ∨ (lastS l.segs).text.length + f.length ≤ 60 then setLast l.segs ⟨(lastS l.segs).first, (lastS l.segs).text ++ f⟩ else trimS l.mark (l.segs ++ [⟨l.next, f⟩])
/-- the reference trims in both cases -/
theorem addS_trim {l : LogD} {f : List UInt8} (h : LogGood l) (hs : (lastS l.segs).text = [] ∨ (lastS l.segs).text.length + f.length ≤ 60) :
    trimS l.mark (setLast l.segs ⟨(lastS l.segs).first, (lastS l.segs).text ++ f⟩) = setLast l.segs ⟨(lastS l.segs).first, (lastS l.segs).text ++ f⟩ := by
  obtain ⟨segs, next, mark⟩ := l
  obtain ⟨xs, s, rfl⟩ := snoc_of h.1
  simp only [lastS_snoc, setLast_snoc] at hs ⊢
  obtain ⟨hp, _⟩ := good_snoc h
  by_cases hx : xs = []
  · subst hx; exact trimS_short (by simp)
  · exact trimS_pre rfl hp hx
theorem addS_good {l : LogD} {t : List UInt8} (h : LogGood l) (hf : frameL t ≠ []) (hn : l.next < 1000) : LogGood ⟨addS l (frameL t), l.next + 1, l.mark⟩ ↔ (addS l (frameL t)).length ≤ 6 := by
  refine ⟨fun h => h.2.1, fun h6 => ?_⟩
  obtain ⟨segs, next, mark⟩ := l
  obtain ⟨xs, s, rfl⟩ := snoc_of h.1
  obtain ⟨hp, ⟨hE, h60, _⟩, hnx, hl, hf1, hf2, hn1, hm0, hm1⟩ := good_snoc h
  unfold addS at h6 ⊢
  simp only [lastS_snoc, setLast_snoc] at h6 hn ⊢
  have hc1 : cntU (frameL t) = 1 := by have := cntU_lay (s := []) (t := t) (by rw [show endU [] = 0 from by unfold endU; rw [unframeL_nil]]; rfl) hf; rw [List.nil_append] at this; rw [this]; unfold cntU; rw [unframeL_nil]; rfl
  have hE1 : endU (frameL t) = (frameL t).length := by have := endU_lay (s := []) (t := t) (by rw [show endU [] = 0 from by unfold endU; rw [unframeL_nil]]; rfl) hf; rw [List.nil_append] at this; exact this
  by_cases hs : s.text = [] ∨ s.text.length + (frameL t).length ≤ 60
  · rw [if_pos hs] at h6 ⊢
    have hfst : fstL ⟨xs ++ [⟨s.first, s.text ++ frameL t⟩], next + 1, mark⟩ = fstL ⟨xs ++ [s], next, mark⟩ := by
      cases xs with
      | nil => rfl
      | cons x xs => rfl
    refine ⟨by simp, h6, by rw [hfst]; exact hf1, by rw [hfst]; exact hf2, ?_, by show next + 1 ≤ 1000; omega, hm0, by show mark < next + 1; omega⟩
    simp only [hfst]
    refine segsF_snoc.2 ⟨s.first, hp, ⟨endU_lay hE hf, fun hh => ?_, rfl⟩, ?_⟩
    · rcases hs with hs | hs
      · rw [cntU_lay hE hf]
        simp only [hs]
        unfold cntU
        rw [unframeL_nil]; rfl
      · simp only [List.length_append] at hh; omega
    · simp only [cntU_lay hE hf]; omega
  · rw [if_neg hs] at h6 ⊢
    have hsn : s.text ≠ [] := fun e => hs (.inl e)
    have hcp := cntU_pos hE hsn
    have ok1 : okSeg ⟨next, frameL t⟩ next := ⟨hE1, fun _ => hc1, rfl⟩
    by_cases hx : xs = []
    · subst hx
      simp only [List.nil_append, List.cons_append] at h6 ⊢
      have hfs : fstL ⟨[s], next, mark⟩ = s.first := rfl
      rw [List.nil_append] at hf1 hf2
      rw [hfs] at hf1 hf2
      by_cases hm : next - 1 ≤ mark
      · rw [trimS_yes (by simpa using hm), trimS_short (by simp)]
        refine ⟨by simp, by simp, ?_, ?_, ?_, by show next + 1 ≤ 1000; omega, hm0, by show mark < next + 1; omega⟩
        · show 1 ≤ next; omega
        · show next ≤ 1000; omega
        · exact segsF_snoc (xs := []).2 ⟨next, rfl, ok1, by simp only [hc1]; rfl⟩
      · rw [trimS_no (by simpa using hm)]
        refine ⟨by simp, by simp, hf1, hf2, ?_, by show next + 1 ≤ 1000; omega, hm0, by show mark < next + 1; omega⟩
        refine segsF_snoc (xs := [s]).2 ⟨next, ?_, ok1, by simp only [hc1]; rfl⟩
        exact preF_snoc (xs := []).2 ⟨s.first, rfl, ⟨hE, h60, rfl⟩, hnx, by omega, hm⟩
    · have hg := (preF_ge hp).2 hx
      have hpp : preF mark (xs ++ [s]) (fstL ⟨xs ++ [s], next, mark⟩) = some next := preF_snoc.2 ⟨s.first, hp, ⟨hE, h60, rfl⟩, hnx, by omega, by omega⟩
      rw [trimS_pre rfl hpp (by simp)] at h6 ⊢
      have hfst : fstL ⟨xs ++ [s] ++ [⟨next, frameL t⟩], next + 1, mark⟩ = fstL ⟨xs ++ [s], next, mark⟩ := fstL_app (by simp)
      refine ⟨by simp, h6, by rw [hfst]; exact hf1, by rw [hfst]; exact hf2, ?_, by show next + 1 ≤ 1000; omega, hm0, by show mark < next + 1; omega⟩
      simp only [hfst]
      exact segsF_snoc.2 ⟨next, hpp, ok1, by simp only [hc1]; rfl⟩
open Classical in
noncomputable def fLogAdd (l : LogD) (t : List UInt8) : LogD × Bool :=
  if logOkB l = true then (if frameL t = [] ∨ 6 < (addS l (frameL t)).length ∨ 1000 < l.next + 1 then (l, false) else (⟨addS l (frameL t), l.next + 1, l.mark⟩, true)) else (⟨[], 0, 0⟩, false)
def cutL (l : LogD) (k : Nat) : LogD :=
  ⟨setLast l.segs ⟨(lastS l.segs).first, (lastS l.segs).text.take (endU ((lastS l.segs).text.take k))⟩, (lastS l.segs).first + cntU ((lastS l.segs).text.take k),
    if l.mark < (lastS l.segs).first + cntU ((lastS l.segs).text.take k) then l.mark else (lastS l.segs).first + cntU ((lastS l.segs).text.take k) - 1⟩
noncomputable def fLogCut (l : LogD) (keep : Int) : LogD × Bool := if logOkB l = true then (cutL l keep.toNat, true) else (⟨[], 0, 0⟩, false)
/-- nothing is cut off -/
theorem cut_all {l : LogD} {k : Nat} (h : LogGood l) (hk : (lastS l.segs).text.length ≤ k) : cutL l k = l := by
  obtain ⟨segs, next, mark⟩ := l
  obtain ⟨xs, s, rfl⟩ := snoc_of h.1
  obtain ⟨_, ⟨hE, _, _⟩, hnx, _, _, _, _, _, hm1⟩ := good_snoc h
  unfold cutL
  simp only [lastS_snoc, setLast_snoc] at hk ⊢
  rw [List.take_of_length_le hk, hE, List.take_of_length_le (Nat.le_refl _), ← hnx, if_pos hm1]
/-- the count behind the cut is the count of what was cut -/
theorem cut_cnt (t : List UInt8) (k : Nat) : cntU (t.take (endU (t.take k))) = cntU (t.take k) := by
  have h := endU_le (t.take k)
  have : t.take (endU (t.take k)) = (t.take k).take (endU (t.take k)) := by
    rw [List.take_take, Nat.min_eq_left]
    rw [List.length_take] at h
    omega
  rw [this, cntU_take]

end Go.Proofs.Ytifdkjddiohahaa
