/-
  A row of Ids of the call's own, while slices.Compact goes over it; the built-in clear at a slice of Ids. Conditions: as named.
-/
import Derived.Test.YtbdblfpepnoafaaCompP
import Derived.Test.YtbdblfpepnoafaaSortJ
namespace Go.Proofs.Ytbdblfpepnoafaa
open Go.RowKit Go.Shelf Go.Lib

theorem idCells_take : ∀ (xs : List IdD) (i : Nat), (idCells xs).take (i * 2) = idCells (xs.take i)
  | xs, 0 => by simp [idCells]
  | [], i + 1 => by simp [idCells]
  | x :: xs, i + 1 => by
    rw [List.take_succ_cons, idCells, show (i + 1) * 2 = i * 2 + 2 by omega]
    show _ :: _ :: (idCells xs).take (i * 2) = _
    rw [idCells_take xs i]
    rfl
structure CompSt (w : World) (g c : Nat) (xs : List IdD) (m k : Nat) : Prop where
  lt : k < m
  le : m ≤ xs.length
  cap : xs.length ≤ c
  len : k = (compactF (xs.take m)).length
  row : ∃ cur : Array Value, Blk w g 32 cur ∧ cur.size = c * 2 ∧ cur.toList.take (k * 2) = idCells (compactF (xs.take m)) ∧ ∀ j, (m - 1) * 2 ≤ j → j < xs.length * 2 → cur[j]? = (idCells xs)[j]?
theorem CompSt.cell {w : World} {g c m k : Nat} {xs : List IdD} (h : CompSt w g c xs m k) (j : Nat) (hm : m ≤ j + 1) (hj : j < xs.length) : ∀ (u : Nat) (v : Value), [Value.int .i64 xs[j].rep, Value.int .i64 xs[j].slot][u]? = some v → w.cell? ((⟨g, j * 2, none⟩ : Addr).add u) = some v := by
  intro u v hv
  obtain ⟨cur, hb, _, _, hc⟩ := h.row
  have hu : u < 2 := by
    rcases Nat.lt_or_ge u 2 with h | h
    · exact h
    · rw [List.getElem?_eq_none (by simpa using h)] at hv; cases hv
  rw [add_plain, hb.cell, hc _ (by have := h.lt; omega) (by omega), idCells_get xs _ (by omega), show (j * 2 + u) / 2 = j by omega, show (j * 2 + u) % 2 = u by omega]
  have e : xs[j]! = xs[j] := getElem!_pos xs j hj
  rw [e]
  have : u = 0 ∨ u = 1 := by omega
  rcases this with rfl | rfl <;> simpa [encId] using hv
theorem CompSt.drew {w : World} {g c m k : Nat} {xs : List IdD} (h : CompSt w g c xs m k) : CompSt w.drew g c xs m k := ⟨h.lt, h.le, h.cap, h.len, h.row⟩
theorem CompSt.skip {w : World} {g c m k : Nat} {xs : List IdD} (h : CompSt w g c xs m k) (hm : m < xs.length) (he : xs[m - 1]'(by have := h.lt; omega) = xs[m]) : CompSt w g c xs (m + 1) k := by
  have hl := h.lt
  have e := compactF_take (xs := xs) (m := m) (by omega) hm
  rw [if_pos he] at e
  obtain ⟨cur, hb, hs, ht, hc⟩ := h.row
  exact ⟨by omega, hm, h.cap, by rw [e]; exact h.len, cur, hb, hs, by rw [e]; exact ht, fun j h1 h2 => hc j (by omega) h2⟩
theorem CompSt.split {w : World} {g c m k : Nat} {xs : List IdD} (h : CompSt w g c xs m k) (hm : m < xs.length) : ∃ (A M C : List Value) (cur : Array Value), Blk w g 32 cur ∧ cur.toList = A ++ (M ++ C) ∧ A.length = k * 2 ∧ M.length = 2 ∧
    (xs[m - 1]'(by have := h.lt; omega) ≠ xs[m] → ∀ w', Blk w' g 32 (A ++ ([Value.int .i64 xs[m].rep, Value.int .i64 xs[m].slot] ++ C)).toArray → CompSt w' g c xs (m + 1) (k + 1)) := by
  have hl := h.lt
  have hcap := h.cap
  obtain ⟨cur, hb, hs, ht, hc⟩ := h.row
  have hsz : cur.toList.length = c * 2 := by simpa using hs
  refine ⟨cur.toList.take (k * 2), (cur.toList.drop (k * 2)).take 2, (cur.toList.drop (k * 2)).drop 2, cur, hb, by rw [List.take_append_drop, List.take_append_drop], by rw [List.length_take]; omega, by rw [List.length_take, List.length_drop]; omega, fun hne w' hb' => ?_⟩
  have e := compactF_take (xs := xs) (m := m) (by omega) hm
  rw [if_neg hne] at e
  have hAl : (cur.toList.take (k * 2)).length = k * 2 := by rw [List.length_take]; omega
  refine ⟨by omega, hm, hcap, by rw [e, List.length_append, ← h.len]; rfl, _, hb', ?_, ?_, fun j h1 h2 => ?_⟩
  · simp only [List.size_toArray, List.length_append, List.length_take, List.length_drop, List.length_cons, List.length_nil]
    omega
  · show List.take ((k + 1) * 2) (_ ++ _) = _
    rw [e, idCells_app, List.take_append, hAl, List.take_of_length_le (by rw [hAl]; omega), ht, show (k + 1) * 2 - k * 2 = 2 by omega]
    rfl
  · have h3 := hc j (by omega) h2
    rw [← h3]
    show ((cur.toList.take (k * 2)) ++ (_ ++ _)).toArray[j]? = _
    rw [List.getElem?_toArray, List.getElem?_append_right (by rw [hAl]; omega), hAl, List.getElem?_append_right (by simp; omega), List.getElem?_drop, List.getElem?_drop]
    simp only [List.length_cons, List.length_nil]
    rw [show k * 2 + (0 + 1 + 1 + (j - k * 2 - (0 + 1 + 1))) = j by omega, Array.getElem?_toList]
    
theorem CompSt.start {w : World} {base g n c k : Nat} {xs : List IdD} (hn : n = xs.length) (h : w.ownsRow base 32 2 (.slice (some ⟨g, 0, none⟩) n c) n (idCells xs)) (h0 : 0 < k) (hk : k < xs.length) (hall : compactF (xs.take k) = xs.take k) (he : xs[k - 1] = xs[k]) : CompSt w g c xs (k + 1) k := by
  have e := compactF_take (xs := xs) (m := k) h0 hk
  rw [if_pos he, hall] at e
  rcases h.2 with ⟨h1, h2⟩ | ⟨g', cap, cur, hv, hb, hg, hnc, hcm, hs, ht⟩
  · cases h1
  · injection hv with e1 e2 e3
    injection e1 with e1
    injection e1 with e1
    subst e1 e3 hn
    have hsz : cur.toList.length = c * 2 := by simpa using hs
    refine ⟨by omega, hk, hnc, by rw [e, List.length_take]; omega, cur, hg, hs, ?_, fun j h1 h2 => ?_⟩
    · rw [e, ← idCells_take, ← ht, List.take_take]
      congr 1
      omega
    · rw [← ht, List.getElem?_take_of_lt h2, Array.getElem?_toList]
/-- the clear of what is left over -/
theorem run_clear_row {P : Program} (w : World) (t e : TypeId) (z : Value) (ht : P.underlying t = some (.slice e)) (hv : ∀ w, (zeroValue e).run P w = .ok z w) (hz : z.cells.size = 2) (h1 : ∀ u ∈ z.cells.toList, u.oneCell' = true) (g o n c : Nat) (te : TypeId) (cur : Array Value) (hn : 0 < n)
    (hb : Blk w g te cur) (hs : o + n * 2 ≤ cur.size) :
    ∃ zs : List Value, zs.length = n * 2 ∧ ∀ ty, (Builtin.clear_ #[t] ty #[.slice (some ⟨g, o, none⟩) n c]).run P w = .ok (.tuple #[]) (w.setRow g (cur.toList.take o ++ zs ++ cur.toList.drop (o + n * 2)).toArray) := by
  have hzl : (Builtin.zeroCells z.cells n).toList.length = n * 2 := by rw [Array.length_toList, size_zeroCells, hz]
  have hone : ∀ v ∈ (Builtin.zeroCells z.cells n).toList, v.oneCell' = true := fun v hv' => by
    obtain ⟨i, hi, rfl⟩ := List.getElem_of_mem hv'
    refine h1 _ ?_
    simp [Builtin.zeroCells]
    have : i % z.cells.size < z.cells.size := Nat.mod_lt _ (by omega)
    rw [getElem!_pos z.cells _ this]
    exact Array.getElem_mem this
  have hst := run_storeCells_at (P := P) g o te (Builtin.zeroCells z.cells n).toList 0 cur w hb (by omega) hone
  rw [hzl, Nat.add_zero] at hst
  refine ⟨_, hzl, fun ty => ?_⟩
  obtain ⟨m, rfl⟩ : ∃ m, n = m + 1 := ⟨n - 1, by omega⟩
  simp [Builtin.clear_, run_underlying ht, hv, hst]
theorem CompSt.done {w : World} {base g c k : Nat} {xs : List IdD} (hbg : base ≤ g) (hcm : c ≤ maxLen) (h : CompSt w g c xs xs.length k) (P : Program) (t : TypeId) (z : Value) (ht : P.underlying t = some (.slice 32)) (hv : ∀ w, (zeroValue 32).run P w = .ok z w) (hz : z.cells.size = 2) (h1 : ∀ u ∈ z.cells.toList, u.oneCell' = true) :
    ∃ w', (∀ ty, (Builtin.clear_ #[t] ty #[.slice (some ⟨g, k * 2, none⟩) (xs.length - k) (c - k)]).run P w = .ok (.tuple #[]) w') ∧ w'.ownsRow base 32 2 (.slice (some ⟨g, 0, none⟩) k c) k (idCells (compactF xs)) ∧ w.grownBy w' (some g) := by
  have hlt := h.lt
  have hcap := h.cap
  obtain ⟨cur, hb, hs, hrow, _⟩ := h.row
  obtain ⟨zs, hzl, hr⟩ := run_clear_row (P := P) w t 32 z ht hv hz h1 g (k * 2) (xs.length - k) (c - k) 32 cur (by omega) hb (by omega)
  have hsz : cur.toList.length = c * 2 := by simpa using hs
  have hlen := h.len
  rw [List.take_of_length_le (Nat.le_refl _)] at hlen hrow
  have hAl : (cur.toList.take (k * 2)).length = k * 2 := by rw [List.length_take]; omega
  refine ⟨_, hr, ⟨by rw [idCells_length, hlen], .inr ⟨g, c, _, rfl, hbg, setRow_blk hb, by omega, hcm, ?_, ?_⟩⟩, setRow_grown _ _ _⟩
  · simp only [List.size_toArray, List.length_append, List.length_take, List.length_drop, hzl]
    omega
  · show List.take (k * 2) ((_ ++ _) ++ _) = _
    rw [List.append_assoc, List.take_append, hAl, List.take_of_length_le (by rw [hAl]; exact Nat.le_refl _), hrow, Nat.sub_self, List.take_zero, List.append_nil]

end Go.Proofs.Ytbdblfpepnoafaa
