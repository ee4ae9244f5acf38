/-
  Slices of strings: the laws' szStringS, toStringS; two slices alike (spec.l4Texts, slices.Equal). Conditions: as each contract names them.
-/
import Derived.Test.YtinacpjelephoaaMark
namespace Go.Proofs.Ytinacpjelephoaa
open Go.RowKit

def sumL (xs : List (List UInt8)) : Nat := (xs.map List.length).sum
theorem sumL_take (xs : List (List UInt8)) (j : Nat) (h : j < xs.length) : sumL (xs.take (j + 1)) = sumL (xs.take j) + xs[j].length := by
  rw [List.take_succ_eq_append_getElem h]
  simp only [sumL, List.map_append, List.sum_append, List.map_cons, List.map_nil, List.sum_cons, List.sum_nil, Nat.add_zero]
theorem sumL_take_le (xs : List (List UInt8)) (j : Nat) : sumL (xs.take j) ≤ sumL xs := by
  have h := congrArg sumL (List.take_append_drop j xs)
  simp only [sumL, List.map_append, List.sum_append] at h ⊢
  omega
def wtS (xs : List (List UInt8)) : Nat := xs.length + sumL xs
def szR (left wt : Nat) : Int := if wt ≤ left then (left : Int) - wt else -1
theorem szR_yes {left wt : Nat} (h : wt ≤ left) : szR left wt = ((left - wt : Nat) : Int) := by rw [szR, if_pos h]; omega
theorem szR_no {left wt : Nat} (h : ¬ wt ≤ left) : szR left wt = -1 := if_neg h
theorem take_alike {xs ys : List (List UInt8)} {j : Nat} (h : xs.take j = ys.take j) (hx : j < xs.length) (hy : j < ys.length) (he : xs[j] = ys[j]) : xs.take (j + 1) = ys.take (j + 1) := by
  rw [List.take_succ_eq_append_getElem hx, List.take_succ_eq_append_getElem hy, h, he]









































































































































set_option maxRecDepth 100000 in
set_option maxHeartbeats 1000000 in
theorem l4Texts_any (v v' : Value) (xs ys : List (List UInt8)) (w : World) (hn : xs.length ≤ 4611686018427387904) (hn' : ys.length ≤ 4611686018427387904)
    (hr : SlR w 1 v xs.length (xs.map strv)) (hr' : SlR w 1 v' ys.length (ys.map strv)) :
    Calls Try.prog 57 #[v, v'] w fun e w' => e = .returned (.bool (decide (xs = ys))) ∧ Below w.heap.size w w' := by
  obtain ⟨A, c, rfl, hR⟩ := hr
  obtain ⟨A', c', rfl, hR'⟩ := hr'
  obtain ⟨D, hD⟩ : ∃ D, D = decide (xs = ys) := ⟨_, rfl⟩
  rw [← hD]
  by_cases hlen : xs.length = ys.length
  · have hyes : xs = ys → D = true := fun h => by rw [hD]; exact decide_eq_true h
    have hno : ¬ xs = ys → D = false := fun h => by rw [hD]; exact decide_eq_false h
    obtain ⟨n, hnn⟩ : ∃ n, n = xs.length := ⟨_, rfl⟩
    rw [← hlen, ← hnn] at hR'
    rw [← hnn] at hR
    rw [← hnn] at hn
    rw [← hlen, ← hnn]
    have hy : ys.length = n := by omega
    clear hlen hD hn'
    have HN := Lib.hid hnn; clear hnn
    have HNY := Lib.hid hy; clear hy
    have HYES := Lib.hid hyes; clear hyes
    have HNO := Lib.hid hno; clear hno
    have HR := Lib.hid hR; clear hR
    have HR' := Lib.hid hR'; clear hR'
    go_enter Try.func57, Try.ntmps57
    go_wp2
    go_loopw [5] (fun ii wr => ∃ j : Nat, j ≤ n ∧ ii = .int .i64 (j : Int) ∧ xs.take j = ys.take j ∧ Below w.heap.size w wr) (fun ii _ => n - (intOf ii).toNat)
    case atStart => exact ⟨0, Nat.zero_le _, rfl, rfl, Below.refl _ _⟩
    case round =>
      obtain ⟨j, hj, rfl, hall, hbel⟩ := hrel
      by_cases hlt : j < n
      · have hjx : j < xs.length := by have := HN.out; omega
        have hjy : j < ys.length := by have := HNY.out; omega
        obtain ⟨ad, rfl, hcells⟩ := HR.out.2 (by omega)
        obtain ⟨ad', rfl, hcells'⟩ := HR'.out.2 (by omega)
        have hc := hcells j (strv xs[j]) (by rw [List.getElem?_map, List.getElem?_eq_getElem hjx]; rfl)
        have hc' := hcells' j (strv ys[j]) (by rw [List.getElem?_map, List.getElem?_eq_getElem hjy]; rfl)
        have hc2 : wr.cell? (ad.add j) = some (.string (bs xs[j])) := by
          rw [hbel.cell (World.block_lt_of_cell? _ _ hc)]; exact hc
        have hc2' : wr.cell? (ad'.add j) = some (.string (bs ys[j])) := by
          rw [hbel.cell (World.block_lt_of_cell? _ _ hc')]; exact hc'
        have hstep := take_alike hall hjx hjy
        have hne : xs[j] ≠ ys[j] → ¬ xs = ys := fun h e => h (by subst e; rfl)
        have H2 := Lib.hid hbel; clear hbel
        clear hcells hc hcells' hc' hall
        generalize xs[j] = x at *
        generalize ys[j] = y at *
        by_cases hxy : x = y
        · have hst := hstep hxy
          subst hxy
          have HST := Lib.hid hst; clear hst hstep hne
          go_wp2
          refine wp_region_x 9 [0, 1, 2, 3, 4, 5, 6, 7, 8] (by kernel_rfl) (by kernel_rfl) ?_
          iterate 9 (refine wpX_quiet rfl (by kernel_rfl) rfl ?_; go_wp2; refine ⟨rfl, ?_⟩)
          refine wpX_nil ?_
          simp only [List.drop_succ_cons, List.drop_zero]
          go_wp2
          exact ⟨⟨j + 1, by omega, by go_num, HST.out, H2.out.drew⟩, by simp only [intOf]; omega⟩
        · have hr : D = false := HNO.out (hne hxy)
          have HRR := Lib.hid hr; clear hr hstep hne
          have hb1 : (x == y) = false := by simpa using hxy
          clear hxy
          go_wp2
          refine wp_region_x 9 [0, 1, 2, 3, 4, 5, 6, 7, 8] (by kernel_rfl) (by kernel_rfl) ?_
          iterate 9 (refine wpX_quiet rfl (by kernel_rfl) rfl ?_; go_wp2; refine ⟨rfl, ?_⟩)
          refine wpX_nil ?_
          simp only [List.drop_succ_cons, List.drop_zero]
          go_wp2
          go_ret
          exact ⟨ret_eq (by rw [HRR.out]; rfl), H2.out.drew⟩
      · have hjn : j = n := by omega
        subst hjn
        rw [List.take_of_length_le (by have := HN.out; omega), List.take_of_length_le (by have := HNY.out; omega)] at hall
        have hr : D = true := HYES.out hall
        have HRR := Lib.hid hr; clear hr hall
        have H2 := Lib.hid hbel; clear hbel
        go_wp2
        go_ret
        exact ⟨ret_eq (by rw [HRR.out]; rfl), H2.out⟩
  · have hr : D = false := by rw [hD]; exact decide_eq_false (fun h => hlen (by rw [h]))
    have HRR := Lib.hid hr; clear hr hD hR hR'
    have hb1 : ((xs.length : Int) == (ys.length : Int)) = false := by simp only [beq_eq_false_iff_ne]; omega
    generalize xs.length = n at *
    generalize ys.length = m at *
    clear hlen
    go_enter Try.func57, Try.ntmps57
    go_wp2
    go_ret
    exact ⟨ret_eq (by rw [HRR.out]; rfl), Below.refl _ _⟩

set_option maxRecDepth 100000 in
set_option maxHeartbeats 1000000 in
theorem EqualStr_any (v v' : Value) (xs ys : List (List UInt8)) (w : World) (hn : xs.length ≤ 4611686018427387904) (hn' : ys.length ≤ 4611686018427387904)
    (hr : SlR w 1 v xs.length (xs.map strv)) (hr' : SlR w 1 v' ys.length (ys.map strv)) :
    Calls Try.prog 48 #[v, v'] w fun e w' => e = .returned (.bool (decide (xs = ys))) ∧ Below w.heap.size w w' := by
  obtain ⟨A, c, rfl, hR⟩ := hr
  obtain ⟨A', c', rfl, hR'⟩ := hr'
  obtain ⟨D, hD⟩ : ∃ D, D = decide (xs = ys) := ⟨_, rfl⟩
  rw [← hD]
  by_cases hlen : xs.length = ys.length
  · have hyes : xs = ys → D = true := fun h => by rw [hD]; exact decide_eq_true h
    have hno : ¬ xs = ys → D = false := fun h => by rw [hD]; exact decide_eq_false h
    obtain ⟨n, hnn⟩ : ∃ n, n = xs.length := ⟨_, rfl⟩
    rw [← hlen, ← hnn] at hR'
    rw [← hnn] at hR
    rw [← hnn] at hn
    rw [← hlen, ← hnn]
    have hy : ys.length = n := by omega
    clear hlen hD hn'
    have HN := Lib.hid hnn; clear hnn
    have HNY := Lib.hid hy; clear hy
    have HYES := Lib.hid hyes; clear hyes
    have HNO := Lib.hid hno; clear hno
    have HR := Lib.hid hR; clear hR
    have HR' := Lib.hid hR'; clear hR'
    go_enter Try.func48, Try.ntmps48
    go_wp2
    go_loopw [5, 13] (fun _ ii wr => ∃ j : Nat, j ≤ n ∧ ii = .int .i64 (j : Int) ∧ xs.take j = ys.take j ∧ Below w.heap.size w wr) (fun _ ii _ => n - (intOf ii).toNat)
    case atStart => exact ⟨0, Nat.zero_le _, rfl, rfl, Below.refl _ _⟩
    case round =>
      obtain ⟨j, hj, rfl, hall, hbel⟩ := hrel
      by_cases hlt : j < n
      · have hjx : j < xs.length := by have := HN.out; omega
        have hjy : j < ys.length := by have := HNY.out; omega
        obtain ⟨ad, rfl, hcells⟩ := HR.out.2 (by omega)
        obtain ⟨ad', rfl, hcells'⟩ := HR'.out.2 (by omega)
        have hc := hcells j (strv xs[j]) (by rw [List.getElem?_map, List.getElem?_eq_getElem hjx]; rfl)
        have hc' := hcells' j (strv ys[j]) (by rw [List.getElem?_map, List.getElem?_eq_getElem hjy]; rfl)
        have hc2 : wr.cell? (ad.add j) = some (.string (bs xs[j])) := by
          rw [hbel.cell (World.block_lt_of_cell? _ _ hc)]; exact hc
        have hc2' : wr.cell? (ad'.add j) = some (.string (bs ys[j])) := by
          rw [hbel.cell (World.block_lt_of_cell? _ _ hc')]; exact hc'
        have hstep := take_alike hall hjx hjy
        have hne : xs[j] ≠ ys[j] → ¬ xs = ys := fun h e => h (by subst e; rfl)
        have H2 := Lib.hid hbel; clear hbel
        clear hcells hc hcells' hc' hall
        generalize xs[j] = x at *
        generalize ys[j] = y at *
        by_cases hxy : x = y
        · have hst := hstep hxy
          subst hxy
          have HST := Lib.hid hst; clear hst hstep hne
          go_wp2
          refine wp_region_x 9 [0, 1, 2, 3, 4, 5, 6, 7, 8] (by kernel_rfl) (by kernel_rfl) ?_
          iterate 9 (refine wpX_quiet rfl (by kernel_rfl) rfl ?_; go_wp2; refine ⟨rfl, ?_⟩)
          refine wpX_nil ?_
          simp only [List.drop_succ_cons, List.drop_zero]
          go_wp2
          exact ⟨⟨j + 1, by omega, by go_num, HST.out, H2.out.drew⟩, by simp only [intOf]; omega⟩
        · have hr : D = false := HNO.out (hne hxy)
          have HRR := Lib.hid hr; clear hr hstep hne
          have hb1 : (x == y) = false := by simpa using hxy
          clear hxy
          go_wp2
          refine wp_region_x 9 [0, 1, 2, 3, 4, 5, 6, 7, 8] (by kernel_rfl) (by kernel_rfl) ?_
          iterate 9 (refine wpX_quiet rfl (by kernel_rfl) rfl ?_; go_wp2; refine ⟨rfl, ?_⟩)
          refine wpX_nil ?_
          simp only [List.drop_succ_cons, List.drop_zero]
          go_wp2
          go_ret
          exact ⟨ret_eq (by rw [HRR.out]; rfl), H2.out.drew⟩
      · have hjn : j = n := by omega
        subst hjn
        rw [List.take_of_length_le (by have := HN.out; omega), List.take_of_length_le (by have := HNY.out; omega)] at hall
        have hr : D = true := HYES.out hall
        have HRR := Lib.hid hr; clear hr hall
        have H2 := Lib.hid hbel; clear hbel
        go_wp2
        go_ret
        exact ⟨ret_eq (by rw [HRR.out]; rfl), H2.out⟩
  · have hr : D = false := by rw [hD]; exact decide_eq_false (fun h => hlen (by rw [h]))
    have HRR := Lib.hid hr; clear hr hD hR hR'
    have hb1 : ((xs.length : Int) == (ys.length : Int)) = false := by simp only [beq_eq_false_iff_ne]; omega
    generalize xs.length = n at *
    generalize ys.length = m at *
    clear hlen
    go_enter Try.func48, Try.ntmps48
    go_wp2
    go_ret
    exact ⟨ret_eq (by rw [HRR.out]; rfl), Below.refl _ _⟩

end Go.Proofs.Ytinacpjelephoaa
