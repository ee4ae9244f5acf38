/-
  Rows of Ids that rise: one is known by its members; joined rows, rows without what stands twice. Plain.
-/
import Derived.Test.YtoffelfcmfpooaaIds
namespace Go.Proofs.Ytoffelfcmfpooaa
open Go.RowKit

theorem idLt_iff {a b : IdD} : idLt a b = true ↔ a.rep < b.rep ∨ a.rep = b.rep ∧ a.slot < b.slot := by simp [idLt]
theorem idLt_iff' {a b : IdD} : idLt a b = false ↔ ¬ (a.rep < b.rep ∨ a.rep = b.rep ∧ a.slot < b.slot) := by simp only [idLt, decide_eq_false_iff_not]
theorem idLt_irrefl (a : IdD) : idLt a a = false := idLt_iff'.2 (by omega)
theorem idLt_trans {a b c : IdD} (h : idLt a b = true) (k : idLt b c = true) : idLt a c = true := by
  rw [idLt_iff] at *; omega
theorem idLt_ntrans {a b c : IdD} (h : idLt a b = false) (k : idLt b c = false) : idLt a c = false := by
  rw [idLt_iff'] at *; omega
theorem idLt_asymm {a b : IdD} (h : idLt a b = true) : idLt b a = false := by
  rw [idLt_iff] at h; rw [idLt_iff']; omega
theorem idD_ext {a b : IdD} (h1 : a.rep = b.rep) (h2 : a.slot = b.slot) : a = b := by
  obtain ⟨ar, as'⟩ := a
  obtain ⟨br, bs'⟩ := b
  simp only at h1 h2
  subst h1 h2
  rfl
theorem idLt_eq {a b : IdD} (h : idLt a b = false) (k : idLt b a = false) : a = b := by
  rw [idLt_iff'] at *
  exact idD_ext (by omega) (by omega)
def Asc (xs : List IdD) : Prop := xs.Pairwise fun a b => idLt a b = true
theorem Asc.nil : Asc [] := List.Pairwise.nil
theorem asc_cons {x : IdD} {xs : List IdD} : Asc (x :: xs) ↔ (∀ y ∈ xs, idLt x y = true) ∧ Asc xs := List.pairwise_cons
theorem asc_ext : ∀ {xs ys : List IdD}, Asc xs → Asc ys → (∀ x, x ∈ xs ↔ x ∈ ys) → xs = ys
  | [], [], _, _, _ => rfl
  | [], y :: ys, _, _, h => absurd ((h y).2 (by simp)) (by simp)
  | x :: xs, [], _, _, h => absurd ((h x).1 (by simp)) (by simp)
  | x :: xs, y :: ys, hx, hy, h => by
    obtain ⟨hx1, hx2⟩ := asc_cons.1 hx
    obtain ⟨hy1, hy2⟩ := asc_cons.1 hy
    have he : x = y := by
      rcases List.mem_cons.1 ((h x).1 (by simp)) with e | e
      · exact e
      · rcases List.mem_cons.1 ((h y).2 (by simp)) with e2 | e2
        · exact e2.symm
        · have h1 := hy1 x e
          have h2 := hx1 y e2
          rw [idLt_asymm h1] at h2; cases h2
    subst he
    congr 1
    refine asc_ext hx2 hy2 fun z => ⟨fun hz => ?_, fun hz => ?_⟩
    · rcases List.mem_cons.1 ((h z).1 (List.mem_cons_of_mem _ hz)) with e | e
      · subst e
        have := hx1 z hz
        rw [idLt_irrefl] at this; cases this
      · exact e
    · rcases List.mem_cons.1 ((h z).2 (List.mem_cons_of_mem _ hz)) with e | e
      · subst e
        have := hy1 z hz
        rw [idLt_irrefl] at this; cases this
      · exact e
theorem asc_nodup {xs : List IdD} (h : Asc xs) : xs.Nodup := h.imp fun {a b} hab e => by subst e; rw [idLt_irrefl] at hab; cases hab
theorem ids_good {xs : List IdD} (h : idsOkB xs = true) : idsGood xs xs.length := by simpa [idsOkB] using h
theorem ids_asc {xs : List IdD} (h : idsOkB xs = true) : Asc xs := by
  have hg := ids_good h
  refine List.pairwise_iff_getElem.2 fun i j hi hj hij => ?_
  induction j with
  | zero => omega
  | succ j ih =>
    obtain ⟨x, hx, _, hl⟩ := hg (j + 1) hj
    have hjj : xs[j]? = some xs[j] := List.getElem?_eq_getElem (by omega)
    have h1 := hl xs[j] (by omega) hjj
    rw [List.getElem?_eq_getElem hj] at hx
    injection hx with hx
    subst hx
    rcases Nat.lt_or_ge i j with h2 | h2
    · exact idLt_trans (ih (by omega) h2) h1
    · have : i = j := by omega
      subst this
      exact h1
theorem ids_ok {xs : List IdD} (h : idsOkB xs = true) : ∀ x ∈ xs, idOkB x = true := fun x hx => by
  obtain ⟨i, hi, rfl⟩ := List.getElem_of_mem hx
  obtain ⟨y, hy, h1, _⟩ := ids_good h i hi
  rw [List.getElem?_eq_getElem hi] at hy
  injection hy with hy
  subst hy
  exact h1
theorem ids_of {xs : List IdD} (h1 : Asc xs) (h2 : ∀ x ∈ xs, idOkB x = true) : idsOkB xs = true := by
  refine idsOkB_yes fun i hi => ⟨xs[i], List.getElem?_eq_getElem hi, h2 _ (List.getElem_mem hi), fun y h0 hy => ?_⟩
  rw [List.getElem?_eq_getElem (by omega)] at hy
  injection hy with hy
  subst hy
  exact List.pairwise_iff_getElem.1 h1 (i - 1) i (by omega) hi (by omega)
/-- rows that rise, joined -/
def joinF : List IdD → List IdD → List IdD
  | [], b => b
  | x :: a, [] => x :: a
  | x :: a, y :: b => if idLt x y = true then x :: joinF a (y :: b) else if x = y then y :: joinF a b else y :: joinF (x :: a) b
termination_by a b => a.length + b.length
theorem joinF_nil (b : List IdD) : joinF [] b = b := by rw [joinF]
theorem joinF_nil2 (a : List IdD) : joinF a [] = a := by cases a <;> rw [joinF]
theorem joinF_lt {x y : IdD} {a b : List IdD} (h : idLt x y = true) : joinF (x :: a) (y :: b) = x :: joinF a (y :: b) := by rw [joinF, if_pos h]
theorem joinF_eq {x : IdD} {a b : List IdD} : joinF (x :: a) (x :: b) = x :: joinF a b := by rw [joinF, if_neg (by simp [idLt_irrefl]), if_pos rfl]
theorem joinF_gt {x y : IdD} {a b : List IdD} (h : idLt x y = false) (h2 : ¬ x = y) : joinF (x :: a) (y :: b) = y :: joinF (x :: a) b := by rw [joinF, if_neg (by simp [h]), if_neg h2]
theorem mem_joinF {z : IdD} : ∀ {a b : List IdD}, z ∈ joinF a b ↔ z ∈ a ∨ z ∈ b
  | [], b => by simp [joinF_nil]
  | x :: a, [] => by simp [joinF_nil2]
  | x :: a, y :: b => by
    by_cases h : idLt x y = true
    · rw [joinF_lt h, List.mem_cons, mem_joinF (a := a) (b := y :: b), List.mem_cons (b := x), or_assoc]
    · have h : idLt x y = false := by simpa using h
      by_cases h2 : x = y
      · subst h2
        rw [joinF_eq, List.mem_cons, mem_joinF (a := a) (b := b), List.mem_cons, List.mem_cons]
        exact ⟨fun h => h.elim (fun h => .inl (.inl h)) (fun h => h.elim (fun h => .inl (.inr h)) (fun h => .inr (.inr h))), fun h => h.elim (fun h => h.elim .inl (fun h => .inr (.inl h))) (fun h => h.elim .inl (fun h => .inr (.inr h)))⟩
      · rw [joinF_gt h h2, List.mem_cons, mem_joinF (a := x :: a) (b := b), List.mem_cons (b := y)]
        exact ⟨fun h => h.elim (fun h => .inr (.inl h)) (fun h => h.elim .inl (fun h => .inr (.inr h))), fun h => h.elim (fun h => .inr (.inl h)) (fun h => h.elim .inl (fun h => .inr (.inr h)))⟩
termination_by a b => a.length + b.length
theorem asc_joinF : ∀ {a b : List IdD}, Asc a → Asc b → Asc (joinF a b)
  | [], b, _, hb => by rw [joinF_nil]; exact hb
  | x :: a, [], ha, _ => by rw [joinF_nil2]; exact ha
  | x :: a, y :: b, ha, hb => by
    obtain ⟨ha1, ha2⟩ := asc_cons.1 ha
    obtain ⟨hb1, hb2⟩ := asc_cons.1 hb
    by_cases h : idLt x y = true
    · rw [joinF_lt h]
      refine asc_cons.2 ⟨fun z hz => ?_, asc_joinF ha2 hb⟩
      rcases mem_joinF.1 hz with hz | hz
      · exact ha1 z hz
      · rcases List.mem_cons.1 hz with rfl | hz
        · exact h
        · exact idLt_trans h (hb1 z hz)
    · have h : idLt x y = false := by simpa using h
      by_cases h2 : x = y
      · subst h2
        rw [joinF_eq]
        refine asc_cons.2 ⟨fun z hz => ?_, asc_joinF ha2 hb2⟩
        rcases mem_joinF.1 hz with hz | hz
        · exact ha1 z hz
        · exact hb1 z hz
      · rw [joinF_gt h h2]
        have hyx : idLt y x = true := by
          cases hh : idLt y x with
          | true => rfl
          | false => exact absurd (idLt_eq h hh) h2
        refine asc_cons.2 ⟨fun z hz => ?_, asc_joinF ha hb2⟩
        rcases mem_joinF.1 hz with hz | hz
        · rcases List.mem_cons.1 hz with rfl | hz
          · exact hyx
          · exact idLt_trans hyx (ha1 z hz)
        · exact hb1 z hz
termination_by a b => a.length + b.length
theorem joinF_len : ∀ (a b : List IdD), (joinF a b).length ≤ a.length + b.length
  | [], b => by rw [joinF_nil]; simp
  | x :: a, [] => by rw [joinF_nil2]; simp
  | x :: a, y :: b => by
    by_cases h : idLt x y = true
    · have := joinF_len a (y :: b)
      rw [joinF_lt h]; simp only [List.length_cons] at *; omega
    · have h : idLt x y = false := by simpa using h
      by_cases h2 : x = y
      · subst h2
        have := joinF_len a b
        rw [joinF_eq]; simp only [List.length_cons] at *; omega
      · have := joinF_len (x :: a) b
        rw [joinF_gt h h2]; simp only [List.length_cons] at *; omega
termination_by a b => a.length + b.length
/-- of what stands twice side by side, one -/
def compactF : List IdD → List IdD
  | [] => []
  | [a] => [a]
  | a :: b :: r => if a = b then compactF (b :: r) else a :: compactF (b :: r)
theorem mem_compactF {z : IdD} : ∀ {xs : List IdD}, z ∈ compactF xs ↔ z ∈ xs
  | [] => by rw [compactF]
  | [a] => by rw [compactF]
  | a :: b :: r => by
    rw [compactF]
    split
    · rename_i h
      subst h
      rw [mem_compactF (xs := a :: r)]
      simp
    · rw [List.mem_cons, mem_compactF (xs := b :: r), List.mem_cons (b := a)]
def Wk (xs : List IdD) : Prop := xs.Pairwise fun a b => idLt b a = false
theorem asc_compactF : ∀ {xs : List IdD}, Wk xs → Asc (compactF xs)
  | [], _ => by rw [compactF]; exact Asc.nil
  | [a], _ => by rw [compactF]; exact asc_cons.2 ⟨by simp, Asc.nil⟩
  | a :: b :: r, h => by
    obtain ⟨h1, h2⟩ := List.pairwise_cons.1 h
    rw [compactF]
    split
    · exact asc_compactF h2
    · rename_i hne
      refine asc_cons.2 ⟨fun z hz => ?_, asc_compactF h2⟩
      have hz' := mem_compactF.1 hz
      have hza := h1 z hz'
      cases hh : idLt a z with
      | true => rfl
      | false =>
        exfalso
        have e := idLt_eq hh hza
        subst e
        rcases List.mem_cons.1 hz' with e | hz2
        · exact hne e
        · have h3 := (List.pairwise_cons.1 h2).1 a hz2
          exact hne (idLt_eq (h1 b (by simp) |> fun _ => h3) (h1 b (by simp)))
theorem sorted_join {a b xs : List IdD} (ha : Asc a) (hb : Asc b) (hp : xs.Perm (a ++ b)) (hs : Wk xs) : compactF xs = joinF a b :=
  asc_ext (asc_compactF hs) (asc_joinF ha hb) fun x => by rw [mem_compactF, hp.mem_iff, List.mem_append, mem_joinF]
theorem sorted_asc {xs ys : List IdD} (hn : ys.Nodup) (hp : xs.Perm ys) (hs : Wk xs) : Asc xs := by
  have hnd : xs.Nodup := hp.nodup_iff.2 hn
  have := List.Pairwise.and hs hnd
  refine this.imp fun {a b} hab => ?_
  cases hh : idLt a b with
  | true => rfl
  | false => exact absurd (idLt_eq hh hab.1) hab.2
noncomputable def fJoinIds (a b : List IdD) : List IdD := if idsOkB a = true ∧ idsOkB b = true then joinF a b else []

end Go.Proofs.Ytoffelfcmfpooaa
