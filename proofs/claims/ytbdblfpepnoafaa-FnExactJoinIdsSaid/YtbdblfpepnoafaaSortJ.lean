/-
  slices.SortFunc at a row of Ids of the call's own. Conditions: as named.
-/
import Derived.Test.YtbdblfpepnoafaaSortI
namespace Go.Proofs.Ytbdblfpepnoafaa
open Go.RowKit Go.Shelf Go.Lib Go.Sort

theorem idCells_get : ∀ (xs : List IdD) (j : Nat), j < xs.length * 2 → (idCells xs)[j]? = some ((encId xs[j / 2]!)[j % 2]!)
  | [], j, h => by simp at h
  | x :: r, 0, _ => rfl
  | x :: r, 1, _ => rfl
  | x :: r, j + 2, h => by
    have ih := idCells_get r j (by simp only [List.length_cons] at h; omega)
    rw [idCells, List.getElem?_cons_succ, List.getElem?_cons_succ, ih, show (j + 2) / 2 = j / 2 + 1 by omega, show (j + 2) % 2 = j % 2 by omega]
    rfl
theorem flat_ids (d : Array IdD) (j : Nat) (h : j < d.size * 2) : (idCells d.toList)[j]? = some ((flatK encId 2 d)[j]!) := by
  rw [idCells_get _ _ (by simpa using h), get_flatK _ _ _ _ h]
  have e : d.toList[j / 2]! = d[j / 2]! := by
    have hj : j / 2 < d.size := by omega
    rw [List.getElem!_eq_getElem?_getD, getElem!_pos d (j / 2) hj]
    simp [hj]
  rw [e]
theorem holds_own {w : World} {base g n c : Nat} {d : Array IdD} (hn : n = d.size) (h : w.ownsRow base 32 2 (.slice (some ⟨g, 0, none⟩) n c) n (idCells d.toList)) : HoldsK encId 2 w g 0 d := by
  intro j hj
  rw [size_flatK] at hj
  refine ⟨?_, ?_⟩
  · have := World.ownsRow.cells (g := g) h rfl j _ (flat_ids d j hj)
    rw [add_plain, Nat.zero_add] at this
    rw [Nat.zero_add]
    exact this
  · rw [Nat.zero_add]
    exact h.frozenAt j
theorem own_put {w : World} {base g n c : Nat} {xs : List Value} {d : Array IdD} (hn : n = d.size) (h : w.ownsRow base 32 2 (.slice (some ⟨g, 0, none⟩) n c) n xs) :
    (putRowK encId 2 w g 0 d).ownsRow base 32 2 (.slice (some ⟨g, 0, none⟩) n c) n (idCells d.toList) := by
  refine ⟨by rw [idCells_length]; simp [hn], ?_⟩
  rcases h.2 with ⟨h0, _⟩ | ⟨g', cap, cur, hv, hb, hh, hnc, hcm, hcs, _⟩
  · cases h0
  · injection hv with e1 e2 e3
    injection e1 with e1
    injection e1 with e1
    subst e1 e3
    refine .inr ⟨g, c, putCells id 0 (flatK encId 2 d) cur, rfl, hb, ?_, hnc, hcm, by simp [putCells, hcs], ?_⟩
    · show ((w.heap.modify g (onCells (putCells id 0 (flatK encId 2 d)))))[g]? = _
      rw [Array.getElem?_modify, if_pos rfl, hh]
      rfl
    · apply List.ext_getElem?
      intro j
      by_cases hj : j < n * 2
      · rw [flat_ids d j (by omega), List.getElem?_take_of_lt hj]
        have hjc : j < cur.size := by rw [hcs]; have := Nat.mul_le_mul_right 2 hnc; omega
        simp only [putCells, Array.getElem?_toList, Array.getElem?_mapIdx, Array.getElem?_eq_getElem hjc, Option.map_some]
        rw [if_pos (by simp; omega)]
        simp
      · rw [List.getElem?_eq_none (by simp; omega), List.getElem?_eq_none (by rw [idCells_length]; simp; omega)]
theorem own_sorted {w : World} {base g n c m : Nat} {xs : List Value} {d : Array IdD} {os : Array Obj} (hn : n = d.size) (hg : g < w.heap.size) (h : w.ownsRow base 32 2 (.slice (some ⟨g, 0, none⟩) n c) n xs) :
    (sortWorldK encId 2 w g 0 m d os).ownsRow base 32 2 (.slice (some ⟨g, 0, none⟩) n c) n (idCells d.toList) ∧ w.grownBy (sortWorldK encId 2 w g 0 m d os) (some g) := by
  have h1 : (putRowK encId 2 (Sort.ahead w m) g 0 d).ownsRow base 32 2 (.slice (some ⟨g, 0, none⟩) n c) n (idCells d.toList) := own_put hn h
  have hsz : (putRowK encId 2 (Sort.ahead w m) g 0 d).heap.size = w.heap.size := by simp [putRowK, putRow, mapBlock, Sort.ahead]
  have hap : ∀ b, b < w.heap.size → (sortWorldK encId 2 w g 0 m d os).heap[b]? = (putRowK encId 2 (Sort.ahead w m) g 0 d).heap[b]? := fun b hb => by
    show ((putRowK encId 2 (Sort.ahead w m) g 0 d).heap ++ os)[b]? = _
    rw [Array.getElem?_append_left (by rw [hsz]; exact hb)]
  refine ⟨ownsRow_keep h1 (fun b hk => ⟨(h1.lt b hk).1, hap b (by rw [← hsz]; exact (h1.lt b hk).2)⟩), ⟨rfl, rfl, rfl, ?_, fun b hb hne => ?_⟩⟩
  · show w.heap.size ≤ ((putRowK encId 2 (Sort.ahead w m) g 0 d).heap ++ os).size
    rw [Array.size_append, hsz]; omega
  · rw [hap b hb]
    show (w.heap.modify g _)[b]? = _
    rw [Array.getElem?_modify, if_neg (fun e => hne (congrArg some e.symm))]
theorem sort_own (base g n c : Nat) (xs : List IdD) (w : World) (hn : n = xs.length) (hn1 : n ≤ 4194304) (h : w.ownsRow base 32 2 (.slice (some ⟨g, 0, none⟩) n c) n (idCells xs)) :
    Calls Try.prog 110 #[.slice (some ⟨g, 0, none⟩) n c, .func (.func 107) #[] #[]] w fun e w' =>
      e = .returned (.tuple #[]) ∧ ∃ ys : List IdD, ys.Perm xs ∧ Wk ys ∧ w'.ownsRow base 32 2 (.slice (some ⟨g, 0, none⟩) n c) n (idCells ys) ∧ w.grownBy w' (some g) := by
  subst hn
  have hg := (h.lt g rfl).2
  have hc := sort_ids g 0 c xs.toArray w (holds_own (c := c) (base := base) rfl (by simpa using h)) hg (by simp; omega)
  simp only [List.size_toArray] at hc
  refine hc.mono ?_
  rintro e w' ⟨rfl, d', m, os, hp, hs, rfl⟩
  have hsz : d'.size = xs.length := by have := hp.1; simpa using this
  have ho := own_sorted (m := m) (os := os) (d := d') hsz.symm hg h
  refine ⟨rfl, d'.toList, ?_, ?_, ho.1, ho.2⟩
  · have := hp.2.2
    rw [show d'.extract 0 xs.length = d' from by rw [← hsz]; simp, show xs.toArray.extract 0 xs.length = xs.toArray from by simp] at this
    simpa using this
  · refine List.pairwise_iff_getElem.2 fun i j hi hj hij => ?_
    have := hs i j (Nat.zero_le _) hij (by simpa [hsz] using hj)
    rw [ltOf_id] at this
    have e1 : d'[i]! = d'.toList[i] := by rw [getElem!_pos d' i (by simpa using hi)]; simp
    have e2 : d'[j]! = d'.toList[j] := by rw [getElem!_pos d' j (by simpa using hj)]; simp
    rw [e1, e2] at this
    exact this

end Go.Proofs.Ytbdblfpepnoafaa
