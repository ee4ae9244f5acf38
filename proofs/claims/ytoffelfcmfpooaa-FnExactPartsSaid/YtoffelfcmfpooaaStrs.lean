/-
  Slices of strings: the laws' szStringS, toStringS; two slices alike (spec.l4Texts, slices.Equal). Conditions: as each contract names them.
-/
import Derived.Test.YtoffelfcmfpooaaMark
namespace Go.Proofs.Ytoffelfcmfpooaa
open Go.RowKit

def sumL (xs : List (List UInt8)) : Nat := (xs.map List.length).sum
theorem sumL_take (xs : List (List UInt8)) (j : Nat) (h : j < xs.length) : sumL (xs.take (j + 1)) = sumL (xs.take j) + xs[j].length := by
  rw [List.take_succ_eq_append_getElem h]
  simp only [sumL, List.map_append, List.sum_append, List.map_cons, List.map_nil, List.sum_cons, List.sum_nil, Nat.add_zero]
theorem sumL_take_le (xs : List (List UInt8)) (j : Nat) : sumL (xs.take j) ≤ sumL xs := by
  have h := congrArg sumL (List.take_append_drop j xs)
  simp only [sumL, List.map_append, List.sum_append] at h ⊢
  omega
def wtS (xs : List (List UInt8)) : Nat := xs.length + sumL xs
def szR (left wt : Nat) : Int := if wt ≤ left then (left : Int) - wt else -1
theorem szR_yes {left wt : Nat} (h : wt ≤ left) : szR left wt = ((left - wt : Nat) : Int) := by rw [szR, if_pos h]; omega
theorem szR_no {left wt : Nat} (h : ¬ wt ≤ left) : szR left wt = -1 := if_neg h
theorem take_alike {xs ys : List (List UInt8)} {j : Nat} (h : xs.take j = ys.take j) (hx : j < xs.length) (hy : j < ys.length) (he : xs[j] = ys[j]) : xs.take (j + 1) = ys.take (j + 1) := by
  rw [List.take_succ_eq_append_getElem hx, List.take_succ_eq_append_getElem hy, h, he]

set_option maxRecDepth 100000 in
set_option maxHeartbeats 1000000 in
theorem szStringS_any (v : Value) (xs : List (List UInt8)) (left : Nat) (w : World) (hleft : left ≤ 4611686018427387904) (hn : xs.length ≤ 9223372036854775807) (hx : ∀ x ∈ xs, x.length ≤ 9223372036854775807)
    (hr : SlR w 1 v xs.length (xs.map strv)) :
    Calls Try.prog 62 #[v, .int .i64 (left : Int)] w fun e w' => e = .returned (.int .i64 (szR left (wtS xs))) ∧ Below w.heap.size w w' := by
  obtain ⟨A, c, rfl, hR⟩ := hr
  have hy := @szR_yes left (wtS xs)
  have hno := @szR_no left (wtS xs)
  have hwt : wtS xs = xs.length + sumL xs := rfl
  generalize szR left (wtS xs) = R at *
  generalize wtS xs = T at *
  by_cases h1 : xs.length ≤ left
  · obtain ⟨n, hnn⟩ : ∃ n, n = xs.length := ⟨_, rfl⟩
    rw [← hnn] at hn hR h1 hwt ⊢
    have HN := Lib.hid hnn; clear hnn
    have HT := Lib.hid hwt; clear hwt
    have HY := Lib.hid hy; clear hy
    have HNO := Lib.hid hno; clear hno
    have HR := Lib.hid hR; clear hR
    have HX := Lib.hid hx; clear hx
    go_enter Try.func62, Try.ntmps62
    go_wp2
    go_loopw [1, 5] (fun ll ii wr => ∃ (j s : Nat) (y : Int), j ≤ n ∧ s = sumL (xs.take j) ∧ n + s ≤ left ∧ y = (left : Int) - n - s ∧ ll = .int .i64 y ∧ ii = .int .i64 (j : Int) ∧ Below w.heap.size w wr) (fun _ ii _ => n - (intOf ii).toNat)
    case atStart => exact ⟨0, 0, (left : Int) - n, Nat.zero_le _, rfl, by omega, by omega, rfl, rfl, Below.refl _ _⟩
    case round =>
      obtain ⟨j, s, y, hj, hs, hle, hy, rfl, rfl, hbel⟩ := hrel
      have HS := Lib.hid hs; clear hs
      have H2 := Lib.hid hbel; clear hbel
      by_cases hlt : j < n
      · have hjx : j < xs.length := by have := HN.out; omega
        obtain ⟨ad, rfl, hcells⟩ := HR.out.2 (by omega)
        have hc := hcells j (strv xs[j]) (by rw [List.getElem?_map, List.getElem?_eq_getElem hjx]; rfl)
        have hc2 : wr.cell? (ad.add j) = some (.string (bs xs[j])) := by
          rw [H2.out.cell (World.block_lt_of_cell? _ _ hc)]; exact hc
        have hst := sumL_take xs j hjx
        have hsl := sumL_take_le xs (j + 1)
        have hxl := HX.out xs[j] (List.getElem_mem _)
        rw [hst, ← HS.out] at hsl
        rw [← HS.out] at hst
        clear hc hcells
        generalize xs[j] = x at *
        have HST := Lib.hid hst; clear hst
        have HSL := Lib.hid hsl; clear hsl
        by_cases hov : n + s + x.length ≤ left
        · have hov2 : 0 ≤ y - x.length := by omega
          go_wp2
          exact ⟨⟨j + 1, s + x.length, _, by omega, HST.out.symm, by omega, by omega, rfl, by go_num, H2.out⟩, by simp only [intOf]; omega⟩
        · have hov2 : y - x.length < 0 := by omega
          have hr : R = -1 := HNO.out (by have := HT.out; have := HSL.out; omega)
          have HRR := Lib.hid hr; clear hr
          go_wp2
          go_ret
          exact ⟨ret_eq (by rw [HRR.out]; rfl), H2.out⟩
      · have hjn : j = n := by omega
        subst hjn
        have hs2 : s = sumL xs := by rw [HS.out, List.take_of_length_le (by have := HN.out; omega)]
        have hr : R = y := by
          have := HT.out
          rw [HY.out (by omega)]; omega
        have HRR := Lib.hid hr; clear hr hs2
        go_wp2
        go_ret
        exact ⟨ret_eq (by rw [HRR.out]; rfl), H2.out⟩
  · have hr : R = -1 := hno (by omega)
    have HRR := Lib.hid hr; clear hr hno hy hwt hR hx
    generalize xs.length = n at *
    go_enter Try.func62, Try.ntmps62
    go_wp2
    go_ret
    exact ⟨ret_eq (by rw [HRR.out]; rfl), Below.refl _ _⟩

theorem strs_step (n j : Nat) (xs : List (List UInt8)) (hn : n = xs.length) (h : j < n) :
    ((xs.take j ++ List.replicate (n - j) []).map strv).set j (strv (xs.getD j [])) = (xs.take (j + 1) ++ List.replicate (n - (j + 1)) []).map strv := by
  subst hn
  rw [List.map_append, List.set_append_right _ _ (by rw [List.length_map, List.length_take]; omega), List.length_map, List.length_take, Nat.min_eq_left (by omega), Nat.sub_self,
    show xs.length - j = (xs.length - (j + 1)) + 1 by omega, List.replicate_succ, List.map_cons, List.set_cons_zero, List.take_succ_eq_append_getElem h]
  rw [List.getD_eq_getElem?_getD, List.getElem?_eq_getElem h]
  simp only [List.map_append, List.map_cons, List.map_nil, List.append_assoc, List.singleton_append, Option.getD_some]
set_option maxRecDepth 100000 in
set_option maxHeartbeats 1000000 in
theorem toStringS_any (v : Value) (xs : List (List UInt8)) (w : World) (hn : xs.length ≤ 1099511627776)
    (hr : SlR w 1 v xs.length (xs.map strv)) :
    Calls Try.prog 69 #[v] w fun e w' => ∃ v', e = .returned v' ∧ w'.ownsRow w.heap.size 9 1 v' xs.length (xs.map strv) ∧ Below w.heap.size w w' := by
  obtain ⟨A, c, rfl, hR⟩ := hr
  obtain ⟨n, hnn⟩ : ∃ n, n = xs.length := ⟨_, rfl⟩
  rw [← hnn] at hn hR ⊢
  have HN := Lib.hid hnn; clear hnn
  have HR := Lib.hid hR; clear hR
  go_enter Try.func69, Try.ntmps69
  go_wp2_with (at_make; refine wpList_mk E_str _ rfl _ _ rfl w.heap.size .i64 .i64 _ _ n rfl rfl rfl rfl (by omega) (Nat.le_refl _) ?_; intro w1 hown1 hgrow1)
  go_loopw [4] (fun ii wr => ∃ j : Nat, j ≤ n ∧ ii = .int .i64 (j : Int) ∧ wr.ownsRow w.heap.size 9 1 (.slice (some ⟨w.heap.size, 0, none⟩) n n) n ((xs.take j ++ List.replicate (n - j) []).map strv) ∧ Below w.heap.size w wr) (fun ii _ => n - (intOf ii).toNat)
  case atStart =>
    refine ⟨0, Nat.zero_le _, rfl, ?_, (Below.refl _ _).grown hgrow1 (Nat.le_refl _) (by simp)⟩
    have : (madeCells (Value.string ⟨#[]⟩).cells (n * 1)).toList = (xs.take 0 ++ List.replicate (n - 0) []).map strv := by
      rw [Nat.mul_one]
      simp only [Value.cells, toList_madeCells_one, Nat.sub_zero, List.take_zero, List.nil_append, List.map_replicate]
      rfl
    rw [this] at hown1
    exact hown1
  case round =>
    obtain ⟨j, hj, rfl, hown, hbel⟩ := hrel
    clear hown1 hgrow1
    by_cases hlt : j < n
    · have hjx : j < xs.length := by have := HN.out; omega
      obtain ⟨ad, rfl, hcells⟩ := HR.out.2 (by omega)
      have hc := hcells j (strv xs[j]) (by rw [List.getElem?_map, List.getElem?_eq_getElem hjx]; rfl)
      have hc2 : wr.cell? (ad.add j) = some (.string (bs xs[j])) := by
        rw [hbel.cell (World.block_lt_of_cell? _ _ hc)]; exact hc
      have hst := strs_step n j xs HN.out hlt
      rw [List.getD_eq_getElem?_getD, List.getElem?_eq_getElem hjx] at hst
      have hst2 := hown.stored j (strv xs[j])
      simp only [Option.getD_some] at hst
      rw [hst] at hst2
      have hcw : ∃ u, wr.cell? ⟨w.heap.size, j, none⟩ = some u := by
        have := hown.cellAt j (by omega)
        have hl := hown.1
        rw [List.getElem?_eq_getElem (by omega)] at this
        exact ⟨_, this⟩
      obtain ⟨u, hcw⟩ := hcw
      have hf : wr.frozen? ⟨w.heap.size, j, none⟩ = false := hown.frozenAt j
      have hb2 := hbel.grown hst2.2 hbel.size (by simp)
      have K1 := Lib.hid hst2.1; clear hst2
      have K2 := Lib.hid hb2; clear hb2 hbel hown
      clear hc hcells hst
      generalize xs[j] = x at *
      go_wp2
      exact ⟨⟨j + 1, by omega, by go_num, K1.out, K2.out⟩, by simp only [intOf]; omega⟩
    · have hjn : j = n := by omega
      subst hjn
      rw [Nat.sub_self, List.replicate_zero, List.append_nil, List.take_of_length_le (by have := HN.out; omega)] at hown
      have H1 := Lib.hid hown; clear hown
      have H2 := Lib.hid hbel; clear hbel
      go_wp2
      go_ret
      exact ⟨_, rfl, H1.out, H2.out⟩

set_option maxRecDepth 100000 in
set_option maxHeartbeats 1000000 in
theorem l4Texts_any (v v' : Value) (xs ys : List (List UInt8)) (w : World) (hn : xs.length ≤ 4611686018427387904) (hn' : ys.length ≤ 4611686018427387904)
    (hr : SlR w 1 v xs.length (xs.map strv)) (hr' : SlR w 1 v' ys.length (ys.map strv)) :
    Calls Try.prog 106 #[v, v'] w fun e w' => e = .returned (.bool (decide (xs = ys))) ∧ Below w.heap.size w w' := by
  obtain ⟨A, c, rfl, hR⟩ := hr
  obtain ⟨A', c', rfl, hR'⟩ := hr'
  obtain ⟨D, hD⟩ : ∃ D, D = decide (xs = ys) := ⟨_, rfl⟩
  rw [← hD]
  by_cases hlen : xs.length = ys.length
  · have hyes : xs = ys → D = true := fun h => by rw [hD]; exact decide_eq_true h
    have hno : ¬ xs = ys → D = false := fun h => by rw [hD]; exact decide_eq_false h
    obtain ⟨n, hnn⟩ : ∃ n, n = xs.length := ⟨_, rfl⟩
    rw [← hlen, ← hnn] at hR'
    rw [← hnn] at hR
    rw [← hnn] at hn
    rw [← hlen, ← hnn]
    have hy : ys.length = n := by omega
    clear hlen hD hn'
    have HN := Lib.hid hnn; clear hnn
    have HNY := Lib.hid hy; clear hy
    have HYES := Lib.hid hyes; clear hyes
    have HNO := Lib.hid hno; clear hno
    have HR := Lib.hid hR; clear hR
    have HR' := Lib.hid hR'; clear hR'
    go_enter Try.func106, Try.ntmps106
    go_wp2
    go_loopw [5] (fun ii wr => ∃ j : Nat, j ≤ n ∧ ii = .int .i64 (j : Int) ∧ xs.take j = ys.take j ∧ Below w.heap.size w wr) (fun ii _ => n - (intOf ii).toNat)
    case atStart => exact ⟨0, Nat.zero_le _, rfl, rfl, Below.refl _ _⟩
    case round =>
      obtain ⟨j, hj, rfl, hall, hbel⟩ := hrel
      by_cases hlt : j < n
      · have hjx : j < xs.length := by have := HN.out; omega
        have hjy : j < ys.length := by have := HNY.out; omega
        obtain ⟨ad, rfl, hcells⟩ := HR.out.2 (by omega)
        obtain ⟨ad', rfl, hcells'⟩ := HR'.out.2 (by omega)
        have hc := hcells j (strv xs[j]) (by rw [List.getElem?_map, List.getElem?_eq_getElem hjx]; rfl)
        have hc' := hcells' j (strv ys[j]) (by rw [List.getElem?_map, List.getElem?_eq_getElem hjy]; rfl)
        have hc2 : wr.cell? (ad.add j) = some (.string (bs xs[j])) := by
          rw [hbel.cell (World.block_lt_of_cell? _ _ hc)]; exact hc
        have hc2' : wr.cell? (ad'.add j) = some (.string (bs ys[j])) := by
          rw [hbel.cell (World.block_lt_of_cell? _ _ hc')]; exact hc'
        have hstep := take_alike hall hjx hjy
        have hne : xs[j] ≠ ys[j] → ¬ xs = ys := fun h e => h (by subst e; rfl)
        have H2 := Lib.hid hbel; clear hbel
        clear hcells hc hcells' hc' hall
        generalize xs[j] = x at *
        generalize ys[j] = y at *
        by_cases hxy : x = y
        · have hst := hstep hxy
          subst hxy
          have HST := Lib.hid hst; clear hst hstep hne
          go_wp2
          refine wp_region_x 9 [0, 1, 2, 3, 4, 5, 6, 7, 8] (by kernel_rfl) (by kernel_rfl) ?_
          iterate 9 (refine wpX_quiet rfl (by kernel_rfl) rfl ?_; go_wp2; refine ⟨rfl, ?_⟩)
          refine wpX_nil ?_
          simp only [List.drop_succ_cons, List.drop_zero]
          go_wp2
          exact ⟨⟨j + 1, by omega, by go_num, HST.out, H2.out.drew⟩, by simp only [intOf]; omega⟩
        · have hr : D = false := HNO.out (hne hxy)
          have HRR := Lib.hid hr; clear hr hstep hne
          have hb1 : (x == y) = false := by simpa using hxy
          clear hxy
          go_wp2
          refine wp_region_x 9 [0, 1, 2, 3, 4, 5, 6, 7, 8] (by kernel_rfl) (by kernel_rfl) ?_
          iterate 9 (refine wpX_quiet rfl (by kernel_rfl) rfl ?_; go_wp2; refine ⟨rfl, ?_⟩)
          refine wpX_nil ?_
          simp only [List.drop_succ_cons, List.drop_zero]
          go_wp2
          go_ret
          exact ⟨ret_eq (by rw [HRR.out]; rfl), H2.out.drew⟩
      · have hjn : j = n := by omega
        subst hjn
        rw [List.take_of_length_le (by have := HN.out; omega), List.take_of_length_le (by have := HNY.out; omega)] at hall
        have hr : D = true := HYES.out hall
        have HRR := Lib.hid hr; clear hr hall
        have H2 := Lib.hid hbel; clear hbel
        go_wp2
        go_ret
        exact ⟨ret_eq (by rw [HRR.out]; rfl), H2.out⟩
  · have hr : D = false := by rw [hD]; exact decide_eq_false (fun h => hlen (by rw [h]))
    have HRR := Lib.hid hr; clear hr hD hR hR'
    have hb1 : ((xs.length : Int) == (ys.length : Int)) = false := by simp only [beq_eq_false_iff_ne]; omega
    generalize xs.length = n at *
    generalize ys.length = m at *
    clear hlen
    go_enter Try.func106, Try.ntmps106
    go_wp2
    go_ret
    exact ⟨ret_eq (by rw [HRR.out]; rfl), Below.refl _ _⟩

set_option maxRecDepth 100000 in
set_option maxHeartbeats 1000000 in
theorem EqualStr_any (v v' : Value) (xs ys : List (List UInt8)) (w : World) (hn : xs.length ≤ 4611686018427387904) (hn' : ys.length ≤ 4611686018427387904)
    (hr : SlR w 1 v xs.length (xs.map strv)) (hr' : SlR w 1 v' ys.length (ys.map strv)) :
    Calls Try.prog 124 #[v, v'] w fun e w' => e = .returned (.bool (decide (xs = ys))) ∧ Below w.heap.size w w' := by
  obtain ⟨A, c, rfl, hR⟩ := hr
  obtain ⟨A', c', rfl, hR'⟩ := hr'
  obtain ⟨D, hD⟩ : ∃ D, D = decide (xs = ys) := ⟨_, rfl⟩
  rw [← hD]
  by_cases hlen : xs.length = ys.length
  · have hyes : xs = ys → D = true := fun h => by rw [hD]; exact decide_eq_true h
    have hno : ¬ xs = ys → D = false := fun h => by rw [hD]; exact decide_eq_false h
    obtain ⟨n, hnn⟩ : ∃ n, n = xs.length := ⟨_, rfl⟩
    rw [← hlen, ← hnn] at hR'
    rw [← hnn] at hR
    rw [← hnn] at hn
    rw [← hlen, ← hnn]
    have hy : ys.length = n := by omega
    clear hlen hD hn'
    have HN := Lib.hid hnn; clear hnn
    have HNY := Lib.hid hy; clear hy
    have HYES := Lib.hid hyes; clear hyes
    have HNO := Lib.hid hno; clear hno
    have HR := Lib.hid hR; clear hR
    have HR' := Lib.hid hR'; clear hR'
    go_enter Try.func124, Try.ntmps124
    go_wp2
    go_loopw [5, 13] (fun _ ii wr => ∃ j : Nat, j ≤ n ∧ ii = .int .i64 (j : Int) ∧ xs.take j = ys.take j ∧ Below w.heap.size w wr) (fun _ ii _ => n - (intOf ii).toNat)
    case atStart => exact ⟨0, Nat.zero_le _, rfl, rfl, Below.refl _ _⟩
    case round =>
      obtain ⟨j, hj, rfl, hall, hbel⟩ := hrel
      by_cases hlt : j < n
      · have hjx : j < xs.length := by have := HN.out; omega
        have hjy : j < ys.length := by have := HNY.out; omega
        obtain ⟨ad, rfl, hcells⟩ := HR.out.2 (by omega)
        obtain ⟨ad', rfl, hcells'⟩ := HR'.out.2 (by omega)
        have hc := hcells j (strv xs[j]) (by rw [List.getElem?_map, List.getElem?_eq_getElem hjx]; rfl)
        have hc' := hcells' j (strv ys[j]) (by rw [List.getElem?_map, List.getElem?_eq_getElem hjy]; rfl)
        have hc2 : wr.cell? (ad.add j) = some (.string (bs xs[j])) := by
          rw [hbel.cell (World.block_lt_of_cell? _ _ hc)]; exact hc
        have hc2' : wr.cell? (ad'.add j) = some (.string (bs ys[j])) := by
          rw [hbel.cell (World.block_lt_of_cell? _ _ hc')]; exact hc'
        have hstep := take_alike hall hjx hjy
        have hne : xs[j] ≠ ys[j] → ¬ xs = ys := fun h e => h (by subst e; rfl)
        have H2 := Lib.hid hbel; clear hbel
        clear hcells hc hcells' hc' hall
        generalize xs[j] = x at *
        generalize ys[j] = y at *
        by_cases hxy : x = y
        · have hst := hstep hxy
          subst hxy
          have HST := Lib.hid hst; clear hst hstep hne
          go_wp2
          refine wp_region_x 9 [0, 1, 2, 3, 4, 5, 6, 7, 8] (by kernel_rfl) (by kernel_rfl) ?_
          iterate 9 (refine wpX_quiet rfl (by kernel_rfl) rfl ?_; go_wp2; refine ⟨rfl, ?_⟩)
          refine wpX_nil ?_
          simp only [List.drop_succ_cons, List.drop_zero]
          go_wp2
          exact ⟨⟨j + 1, by omega, by go_num, HST.out, H2.out.drew⟩, by simp only [intOf]; omega⟩
        · have hr : D = false := HNO.out (hne hxy)
          have HRR := Lib.hid hr; clear hr hstep hne
          have hb1 : (x == y) = false := by simpa using hxy
          clear hxy
          go_wp2
          refine wp_region_x 9 [0, 1, 2, 3, 4, 5, 6, 7, 8] (by kernel_rfl) (by kernel_rfl) ?_
          iterate 9 (refine wpX_quiet rfl (by kernel_rfl) rfl ?_; go_wp2; refine ⟨rfl, ?_⟩)
          refine wpX_nil ?_
          simp only [List.drop_succ_cons, List.drop_zero]
          go_wp2
          go_ret
          exact ⟨ret_eq (by rw [HRR.out]; rfl), H2.out.drew⟩
      · have hjn : j = n := by omega
        subst hjn
        rw [List.take_of_length_le (by have := HN.out; omega), List.take_of_length_le (by have := HNY.out; omega)] at hall
        have hr : D = true := HYES.out hall
        have HRR := Lib.hid hr; clear hr hall
        have H2 := Lib.hid hbel; clear hbel
        go_wp2
        go_ret
        exact ⟨ret_eq (by rw [HRR.out]; rfl), H2.out⟩
  · have hr : D = false := by rw [hD]; exact decide_eq_false (fun h => hlen (by rw [h]))
    have HRR := Lib.hid hr; clear hr hD hR hR'
    have hb1 : ((xs.length : Int) == (ys.length : Int)) = false := by simp only [beq_eq_false_iff_ne]; omega
    generalize xs.length = n at *
    generalize ys.length = m at *
    clear hlen
    go_enter Try.func124, Try.ntmps124
    go_wp2
    go_ret
    exact ⟨ret_eq (by rw [HRR.out]; rfl), Below.refl _ _⟩

end Go.Proofs.Ytoffelfcmfpooaa
