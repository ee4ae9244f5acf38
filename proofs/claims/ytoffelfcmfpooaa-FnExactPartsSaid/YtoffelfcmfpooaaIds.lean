/-
  Ids: in their limits, in order: impl and spec. Conditions: as each contract names them.
-/
import Derived.Test.YtoffelfcmfpooaaMk
namespace Go.Proofs.Ytoffelfcmfpooaa
open Go.RowKit
def idOkB (x : IdD) : Bool := inB 0 2 x.rep && inB 1 6 x.slot
def idLt (a b : IdD) : Bool := decide (a.rep < b.rep ∨ a.rep = b.rep ∧ a.slot < b.slot)
def idCmp (a b : IdD) : Int := if idLt a b = true then -1 else if a = b then 0 else 1
def idsGood (xs : List IdD) (j : Nat) : Prop := ∀ i, i < j → ∃ x, xs[i]? = some x ∧ idOkB x = true ∧ ∀ y, i ≠ 0 → xs[i - 1]? = some y → idLt y x = true
open Classical in
noncomputable def idsOkB (xs : List IdD) : Bool := decide (idsGood xs xs.length)
theorem idsGood_zero (xs : List IdD) : idsGood xs 0 := fun i hi => absurd hi (Nat.not_lt_zero _)
theorem idsGood_succ {xs : List IdD} {j : Nat} (h : idsGood xs j) (hj : j < xs.length) (h1 : idOkB xs[j] = true) (h2 : ∀ y, j ≠ 0 → xs[j - 1]? = some y → idLt y xs[j] = true) : idsGood xs (j + 1) := fun i hi => by
  by_cases hij : i = j
  · subst hij
    exact ⟨xs[i], List.getElem?_eq_getElem hj, h1, h2⟩
  · exact h i (by omega)
theorem idsOkB_yes {xs : List IdD} (h : idsGood xs xs.length) : idsOkB xs = true := by simp [idsOkB, h]
theorem idsOkB_no1 {xs : List IdD} {j : Nat} (hj : j < xs.length) (h1 : idOkB xs[j] = false) : idsOkB xs = false := by
  simp only [idsOkB, decide_eq_false_iff_not]
  intro h
  obtain ⟨x, h2, h3, _⟩ := h j hj
  rw [List.getElem?_eq_getElem hj] at h2
  injection h2 with h2
  rw [h2, h3] at h1
  cases h1
theorem idsOkB_no2 {xs : List IdD} {j : Nat} (hj : j + 1 < xs.length) (h1 : idLt (xs[j]'(by omega)) xs[j + 1] = false) : idsOkB xs = false := by
  simp only [idsOkB, decide_eq_false_iff_not]
  intro h
  obtain ⟨x, h2, _, h3⟩ := h (j + 1) hj
  rw [List.getElem?_eq_getElem hj] at h2
  injection h2 with h2
  have := h3 (xs[j]'(by omega)) (by omega) (List.getElem?_eq_getElem (by omega))
  rw [← h2, h1] at this
  cases this
theorem idCmp_lt {a b : IdD} : idCmp a b < 0 ↔ idLt a b = true := by
  unfold idCmp
  by_cases h : idLt a b = true
  · simp [h]
  · have h' : idLt a b = false := by simpa using h
    simp only [h']
    constructor
    · intro h2; exfalso; revert h2; simp only [Bool.false_eq_true, if_false]; split <;> omega
    · intro h2; cases h2

set_option maxRecDepth 100000 in
set_option maxHeartbeats 1000000 in
theorem l8Id_any (x : IdD) (cs : List Value) (w : World) (h : Rep anyB w x.c cs) :
    Calls Try.prog 64 #[.agg cs.toArray] w fun e w' => e = .returned (.bool (idOkB x)) ∧ Below w.heap.size w w' := by
  obtain rfl := IdD.open h
  clear h
  by_cases h1 : 0 ≤ x.rep ∧ x.rep ≤ 2
  · have HR := Lib.hid (show idOkB x = inB 1 6 x.slot by rw [idOkB, inB_true h1.1 h1.2, Bool.true_and])
    have H1 := Lib.hid h1; clear h1
    go_enter Try.func64, Try.ntmps64
    go_wp2_with fail
    refine (l1In_yes _ _ _ _ H1.out).mono ?_; rintro e w' ⟨rfl, rfl⟩
    go_wp2_with fail
    refine (l1In_any _ _ _ _).mono ?_; rintro e w' ⟨rfl, rfl⟩
    go_wp2
    go_ret
    exact ⟨ret_eq (by rw [HR.out]; rfl), (by repeat' (first | with_reducible exact Below.refl _ _ | with_reducible exact BW.out | with_reducible refine Below.setCell ?_ ?_ _ | with_reducible refine Below.alloc ?_ ?_ _ | with_reducible refine Below.drew ?_ | (simp; done) | (simp; omega) | omega))⟩
  · have HR := Lib.hid (show idOkB x = false by rw [idOkB, inB_false h1, Bool.false_and])
    have H1 := Lib.hid h1; clear h1
    go_enter Try.func64, Try.ntmps64
    go_wp2_with fail
    refine (l1In_no _ _ _ _ H1.out).mono ?_; rintro e w' ⟨rfl, rfl⟩
    go_wp2
    go_ret
    exact ⟨ret_eq (by rw [HR.out]; rfl), (by repeat' (first | with_reducible exact Below.refl _ _ | with_reducible exact BW.out | with_reducible refine Below.setCell ?_ ?_ _ | with_reducible refine Below.alloc ?_ ?_ _ | with_reducible refine Below.drew ?_ | (simp; done) | (simp; omega) | omega))⟩

set_option maxRecDepth 100000 in
set_option maxHeartbeats 1000000 in
theorem idOk_any (x : IdD) (cs : List Value) (w : World) (h : Rep anyB w x.c cs) :
    Calls Try.prog 89 #[.agg cs.toArray] w fun e w' => e = .returned (.bool (idOkB x)) ∧ Below w.heap.size w w' := by
  obtain rfl := IdD.open h
  clear h
  by_cases h1 : 0 ≤ x.rep ∧ x.rep ≤ 2
  · have HR := Lib.hid (show idOkB x = inB 1 6 x.slot by rw [idOkB, inB_true h1.1 h1.2, Bool.true_and])
    have H1 := Lib.hid h1; clear h1
    go_enter Try.func89, Try.ntmps89
    go_wp2_with fail
    refine (within_yes _ _ _ _ H1.out).mono ?_; rintro e w' ⟨rfl, rfl⟩
    go_wp2_with fail
    refine (within_any _ _ _ _).mono ?_; rintro e w' ⟨rfl, rfl⟩
    go_wp2
    go_ret
    exact ⟨ret_eq (by rw [HR.out]; rfl), (by repeat' (first | with_reducible exact Below.refl _ _ | with_reducible exact BW.out | with_reducible refine Below.setCell ?_ ?_ _ | with_reducible refine Below.alloc ?_ ?_ _ | with_reducible refine Below.drew ?_ | (simp; done) | (simp; omega) | omega))⟩
  · have HR := Lib.hid (show idOkB x = false by rw [idOkB, inB_false h1, Bool.false_and])
    have H1 := Lib.hid h1; clear h1
    go_enter Try.func89, Try.ntmps89
    go_wp2_with fail
    refine (within_no _ _ _ _ H1.out).mono ?_; rintro e w' ⟨rfl, rfl⟩
    go_wp2
    go_ret
    exact ⟨ret_eq (by rw [HR.out]; rfl), (by repeat' (first | with_reducible exact Below.refl _ _ | with_reducible exact BW.out | with_reducible refine Below.setCell ?_ ?_ _ | with_reducible refine Below.alloc ?_ ?_ _ | with_reducible refine Below.drew ?_ | (simp; done) | (simp; omega) | omega))⟩

set_option maxRecDepth 100000 in
set_option maxHeartbeats 1000000 in
theorem l8Less_any (x y : IdD) (cs cs' : List Value) (w : World) (h : Rep anyB w x.c cs) (h' : Rep anyB w y.c cs') :
    Calls Try.prog 63 #[.agg cs.toArray, .agg cs'.toArray] w fun e w' => e = .returned (.bool (idLt x y)) ∧ Below w.heap.size w w' := by
  obtain rfl := IdD.open h
  obtain rfl := IdD.open h'
  clear h h'
  obtain ⟨xr, xs⟩ := x
  obtain ⟨yr, ys⟩ := y
  have hid : idLt ⟨xr, xs⟩ ⟨yr, ys⟩ = decide (xr < yr ∨ xr = yr ∧ xs < ys) := rfl
  have HI := Lib.hid hid; clear hid
  simp only []
  by_cases h1 : xr < yr
  · have HR := Lib.hid (show idLt ⟨xr, xs⟩ ⟨yr, ys⟩ = true by rw [HI.out]; simp [h1])
    go_enter Try.func63, Try.ntmps63
    go_wp2
    go_ret
    exact ⟨ret_eq (by rw [HR.out]; rfl), (by repeat' (first | with_reducible exact Below.refl _ _ | with_reducible exact BW.out | with_reducible refine Below.setCell ?_ ?_ _ | with_reducible refine Below.alloc ?_ ?_ _ | with_reducible refine Below.drew ?_ | (simp; done) | (simp; omega) | omega))⟩
  · by_cases h2 : xr = yr
    · subst h2
      have HR := Lib.hid (show idLt ⟨xr, xs⟩ ⟨xr, ys⟩ = decide (xs < ys) by rw [HI.out]; simp)
      clear h1
      go_enter Try.func63, Try.ntmps63
      go_wp2
      go_ret
      exact ⟨ret_eq (by rw [HR.out]; rfl), (by repeat' (first | with_reducible exact Below.refl _ _ | with_reducible exact BW.out | with_reducible refine Below.setCell ?_ ?_ _ | with_reducible refine Below.alloc ?_ ?_ _ | with_reducible refine Below.drew ?_ | (simp; done) | (simp; omega) | omega))⟩
    · have HR := Lib.hid (show idLt ⟨xr, xs⟩ ⟨yr, ys⟩ = false by rw [HI.out]; simp; omega)
      have h3 : (xr == yr) = false := by simpa using h2
      clear h2
      go_enter Try.func63, Try.ntmps63
      go_wp2
      go_ret
      exact ⟨ret_eq (by rw [HR.out]; rfl), (by repeat' (first | with_reducible exact Below.refl _ _ | with_reducible exact BW.out | with_reducible refine Below.setCell ?_ ?_ _ | with_reducible refine Below.alloc ?_ ?_ _ | with_reducible refine Below.drew ?_ | (simp; done) | (simp; omega) | omega))⟩

set_option maxRecDepth 100000 in
set_option maxHeartbeats 2000000 in
theorem sIdsOk_any (xs : List IdD) (A : Option Addr) (n c : Nat) (w : World) (hn : n = xs.length) (hwt : n + (cat IdD.c xs).wt ≤ 1048576) (h : Rep anyB w (.sl 36 2 n (cat IdD.c xs) .nil) [.slice A n c]) :
    Calls Try.prog 67 #[.slice A n c] w fun e w' => e = .returned (.bool (idsOkB xs)) ∧ Below w.heap.size w w' := by
  have hnb : n ≤ 1048576 := by omega
  have HN := Lib.hid hn; clear hn hwt
  have HR := Lib.hid h; clear h
  go_enter Try.func67, Try.ntmps67
  go_wp2
  go_loopw [3] (fun ii wr => ∃ j : Nat, j ≤ n ∧ ii = .int .i64 (j : Int) ∧ idsGood xs j ∧ Below w.heap.size w wr) (fun ii _ => n - (intOf ii).toNat)
  case atStart => exact ⟨0, Nat.zero_le _, rfl, idsGood_zero _, Below.refl _ _⟩
  case round =>
    obtain ⟨j, hj, rfl, hgood, hbel⟩ := hrel
    have HG := Lib.hid hgood; clear hgood
    have BW := Lib.hid hbel; clear hbel
    by_cases hlt : j < n
    · have hjx : j < xs.length := by have := HN.out; omega
      obtain ⟨ad, ci, rfl, _, _, hrc, hl, hc⟩ := (HR.out.below BW.out).elem IdD.width j hjx HN.out
      have hno1 := fun h => idsOkB_no1 hjx h
      have hsucc := fun h1 h2 => idsGood_succ HG.out hjx h1 h2
      have hno2 : ∀ m, (hm : j = m + 1) → idLt (xs[m]'(by omega)) xs[j] = false → idsOkB xs = false := fun m hm h => by subst hm; exact idsOkB_no2 hjx h
      have HNO1 := Lib.hid hno1; clear hno1
      have HSU := Lib.hid hsucc; clear hsucc
      have HNO2 := Lib.hid hno2; clear hno2
      have HX := Lib.hid (show xs[j]? = some xs[j] from List.getElem?_eq_getElem hjx)
      generalize xs[j] = x at *
      have HL := Lib.hid hl; clear hl
      have HC := Lib.hid hc; clear hc
      have HRC := Lib.hid hrc; clear hrc
      cases hok : idOkB x with
      | false =>
        have HF := Lib.hid (HNO1.out hok)
        have HOK := Lib.hid hok; clear hok
        go_wp2
        refine wp_region_x 23 [0, 1, 2, 3, 4, 5, 6, 7, 8, 9, 10, 11, 12, 13, 14, 15, 16, 17, 18, 19, 20, 21, 22] (by kernel_rfl) (by kernel_rfl) ?_
        iterate 3 (refine wpX_quiet rfl (by kernel_rfl) rfl ?_; go_wp2; refine ⟨rfl, ?_⟩)
        refine wpX_quiet rfl (by kernel_rfl) rfl ?_; go_wp2_with (first | (refine wpList_load_row _ (ad.add (j * 2)) rfl ci agg_Id HL.out HC.out ?_) | fail); refine ⟨rfl, ?_⟩
        refine wpX_actor rfl (by kernel_rfl) ?_; go_wp2_with fail
        refine (l8Id_any x ci _ HRC.out.drew).mono ?_; rintro e v1 ⟨rfl, hb⟩
        rw [HOK.out]
        have HB := Lib.hid hb; clear hb
        go_wp2
        refine ⟨Ext.of_below HB.out, ?_⟩
        iterate 2 (refine wpX_quiet rfl (by kernel_rfl) rfl ?_; go_wp2; refine ⟨rfl, ?_⟩)
        (iterate 6 (refine wpX_skip2 rfl rfl (by kernel_rfl) ?_)); simp only [List.setIfInBounds_toArray, List.set_cons_succ, List.set_cons_zero]; (iterate 6 (refine wpX_skip2 rfl rfl (by kernel_rfl) ?_)); simp only [List.setIfInBounds_toArray, List.set_cons_succ, List.set_cons_zero]; (iterate 3 (refine wpX_skip2 rfl rfl (by kernel_rfl) ?_)); simp only [List.setIfInBounds_toArray, List.set_cons_succ, List.set_cons_zero]
        iterate 1 (refine wpX_quiet rfl (by kernel_rfl) rfl ?_; go_wp2; refine ⟨rfl, ?_⟩)
        refine wpX_nil ?_; simp only [List.drop_succ_cons, List.drop_zero]
        go_wp2
        go_ret
        exact ⟨ret_eq (by rw [HF.out]; rfl), BW.out.trans ((below_drewL HB.out).mono BW.out.size)⟩
      | true =>
        have HOK := Lib.hid hok; clear hok
        cases j with
        | zero =>
          go_wp2
          refine wp_region_x 23 [0, 1, 2, 3, 4, 5, 6, 7, 8, 9, 10, 11, 12, 13, 14, 15, 16, 17, 18, 19, 20, 21, 22] (by kernel_rfl) (by kernel_rfl) ?_
          iterate 3 (refine wpX_quiet rfl (by kernel_rfl) rfl ?_; go_wp2; refine ⟨rfl, ?_⟩)
          refine wpX_quiet rfl (by kernel_rfl) rfl ?_; go_wp2_with (first | (refine wpList_load_row _ (ad.add (0 * 2)) rfl ci agg_Id HL.out HC.out ?_) | fail); refine ⟨rfl, ?_⟩
          refine wpX_actor rfl (by kernel_rfl) ?_; go_wp2_with fail
          refine (l8Id_any x ci _ HRC.out.drew).mono ?_; rintro e v1 ⟨rfl, hb⟩
          rw [HOK.out]
          have HB := Lib.hid hb; clear hb
          go_wp2
          refine ⟨Ext.of_below HB.out, ?_⟩
          iterate 5 (refine wpX_quiet rfl (by kernel_rfl) rfl ?_; go_wp2; refine ⟨rfl, ?_⟩)
          (iterate 6 (refine wpX_skip2 rfl rfl (by kernel_rfl) ?_)); simp only [List.setIfInBounds_toArray, List.set_cons_succ, List.set_cons_zero]; (iterate 5 (refine wpX_skip2 rfl rfl (by kernel_rfl) ?_)); simp only [List.setIfInBounds_toArray, List.set_cons_succ, List.set_cons_zero]
          iterate 2 (refine wpX_quiet rfl (by kernel_rfl) rfl ?_; go_wp2; refine ⟨rfl, ?_⟩)
          refine wpX_nil ?_; simp only [List.drop_succ_cons, List.drop_zero]
          go_wp2
          exact ⟨⟨1, by omega, by go_num, HSU.out HOK.out (fun _ h => absurd rfl h), BW.out.trans ((below_drewL HB.out).mono BW.out.size)⟩, by simp only [intOf]; omega⟩
        | succ m =>
          have hmx : m < xs.length := by omega
          obtain ⟨ad', cp, he, _, _, hrc, hl, hc⟩ := (HR.out.below BW.out).elem IdD.width m hmx HN.out
          injection he with he
          subst he
          have hno2 := HNO2.out m rfl
          have HY := Lib.hid (show xs[m]? = some xs[m] from List.getElem?_eq_getElem hmx)
          generalize xs[m] = y at *
          have HLP := Lib.hid hl; clear hl
          have HCP := Lib.hid hc; clear hc
          have HRP := Lib.hid hrc; clear hrc
          have HNO := Lib.hid hno2; clear hno2
          cases hlt2 : idLt y x with
          | false =>
            have HF := Lib.hid (HNO.out hlt2)
            have HLT := Lib.hid hlt2; clear hlt2
            go_wp2
            refine wp_region_x 23 [0, 1, 2, 3, 4, 5, 6, 7, 8, 9, 10, 11, 12, 13, 14, 15, 16, 17, 18, 19, 20, 21, 22] (by kernel_rfl) (by kernel_rfl) ?_
            iterate 3 (refine wpX_quiet rfl (by kernel_rfl) rfl ?_; go_wp2; refine ⟨rfl, ?_⟩)
            refine wpX_quiet rfl (by kernel_rfl) rfl ?_; go_wp2_with (first | (refine wpList_load_row _ (ad.add ((m + 1) * 2)) rfl ci agg_Id HL.out HC.out ?_) | fail); refine ⟨rfl, ?_⟩
            refine wpX_actor rfl (by kernel_rfl) ?_; go_wp2_with fail
            refine (l8Id_any x ci _ HRC.out.drew).mono ?_; rintro e v1 ⟨rfl, hb⟩
            rw [HOK.out]
            have HB := Lib.hid hb; clear hb
            have HC1 := Lib.hid (cells_below HC.out (below_drewL HB.out))
            have HC2 := Lib.hid (cells_below HCP.out (below_drewL HB.out))
            go_wp2
            refine ⟨Ext.of_below HB.out, ?_⟩
            iterate 9 (refine wpX_quiet rfl (by kernel_rfl) rfl ?_; go_wp2; refine ⟨rfl, ?_⟩)
            refine wpX_quiet rfl (by kernel_rfl) rfl ?_; go_wp2_with (first | (refine wpList_load_row_g _ rfl (ad.add (m * 2)) rfl cp agg_Id HLP.out HC2.out ?_) | fail); refine ⟨rfl, ?_⟩
            iterate 3 (refine wpX_quiet rfl (by kernel_rfl) rfl ?_; go_wp2; refine ⟨rfl, ?_⟩)
            refine wpX_quiet rfl (by kernel_rfl) rfl ?_; go_wp2_with (first | (refine wpList_load_row_g _ rfl (ad.add ((m + 1) * 2)) rfl ci agg_Id HL.out HC1.out ?_) | fail); refine ⟨rfl, ?_⟩
            refine wpX_actor rfl (by kernel_rfl) ?_; go_wp2_with fail
            refine (l8Less_any y x cp ci _ (HRP.out.below (below_drewL HB.out)) (HRC.out.below (below_drewL HB.out))).mono ?_; rintro e v2 ⟨rfl, hb⟩
            rw [HLT.out]
            have HB2 := Lib.hid hb; clear hb
            go_wp2
            refine ⟨Ext.of_below HB2.out, ?_⟩
            iterate 3 (refine wpX_quiet rfl (by kernel_rfl) rfl ?_; go_wp2; refine ⟨rfl, ?_⟩)
            refine wpX_nil ?_; simp only [List.drop_succ_cons, List.drop_zero]
            go_wp2
            go_ret
            exact ⟨ret_eq (by rw [HF.out]; rfl), (BW.out.trans ((below_drewL HB.out).mono BW.out.size)).trans (HB2.out.mono (Nat.le_trans BW.out.size HB.out.size))⟩
          | true =>
            have HLT := Lib.hid hlt2; clear hlt2
            go_wp2
            refine wp_region_x 23 [0, 1, 2, 3, 4, 5, 6, 7, 8, 9, 10, 11, 12, 13, 14, 15, 16, 17, 18, 19, 20, 21, 22] (by kernel_rfl) (by kernel_rfl) ?_
            iterate 3 (refine wpX_quiet rfl (by kernel_rfl) rfl ?_; go_wp2; refine ⟨rfl, ?_⟩)
            refine wpX_quiet rfl (by kernel_rfl) rfl ?_; go_wp2_with (first | (refine wpList_load_row _ (ad.add ((m + 1) * 2)) rfl ci agg_Id HL.out HC.out ?_) | fail); refine ⟨rfl, ?_⟩
            refine wpX_actor rfl (by kernel_rfl) ?_; go_wp2_with fail
            refine (l8Id_any x ci _ HRC.out.drew).mono ?_; rintro e v1 ⟨rfl, hb⟩
            rw [HOK.out]
            have HB := Lib.hid hb; clear hb
            have HC1 := Lib.hid (cells_below HC.out (below_drewL HB.out))
            have HC2 := Lib.hid (cells_below HCP.out (below_drewL HB.out))
            go_wp2
            refine ⟨Ext.of_below HB.out, ?_⟩
            iterate 9 (refine wpX_quiet rfl (by kernel_rfl) rfl ?_; go_wp2; refine ⟨rfl, ?_⟩)
            refine wpX_quiet rfl (by kernel_rfl) rfl ?_; go_wp2_with (first | (refine wpList_load_row_g _ rfl (ad.add (m * 2)) rfl cp agg_Id HLP.out HC2.out ?_) | fail); refine ⟨rfl, ?_⟩
            iterate 3 (refine wpX_quiet rfl (by kernel_rfl) rfl ?_; go_wp2; refine ⟨rfl, ?_⟩)
            refine wpX_quiet rfl (by kernel_rfl) rfl ?_; go_wp2_with (first | (refine wpList_load_row_g _ rfl (ad.add ((m + 1) * 2)) rfl ci agg_Id HL.out HC1.out ?_) | fail); refine ⟨rfl, ?_⟩
            refine wpX_actor rfl (by kernel_rfl) ?_; go_wp2_with fail
            refine (l8Less_any y x cp ci _ (HRP.out.below (below_drewL HB.out)) (HRC.out.below (below_drewL HB.out))).mono ?_; rintro e v2 ⟨rfl, hb⟩
            rw [HLT.out]
            have HB2 := Lib.hid hb; clear hb
            go_wp2
            refine ⟨Ext.of_below HB2.out, ?_⟩
            iterate 3 (refine wpX_quiet rfl (by kernel_rfl) rfl ?_; go_wp2; refine ⟨rfl, ?_⟩)
            refine wpX_nil ?_; simp only [List.drop_succ_cons, List.drop_zero]
            go_wp2
            exact ⟨⟨m + 1 + 1, by omega, by go_num, HSU.out HOK.out (fun z _ hz => by rw [Nat.add_sub_cancel, HY.out] at hz; injection hz with hz; subst hz; exact HLT.out), (BW.out.trans ((below_drewL HB.out).mono BW.out.size)).trans (HB2.out.mono (Nat.le_trans BW.out.size HB.out.size))⟩, by simp only [intOf]; omega⟩
    · have hjn : j = n := by omega
      subst hjn
      have HF := Lib.hid (idsOkB_yes (by have := HG.out; rw [HN.out] at this; exact this))
      go_wp2
      go_ret
      exact ⟨ret_eq (by rw [HF.out]; rfl), BW.out⟩


set_option maxRecDepth 100000 in
set_option maxHeartbeats 1000000 in
theorem compareIds_any (x y : IdD) (cs cs' : List Value) (w : World) (h : Rep anyB w x.c cs) (h' : Rep anyB w y.c cs') :
    Calls Try.prog 42 #[.agg cs.toArray, .agg cs'.toArray] w fun e w' => e = .returned (.int .i64 (idCmp x y)) ∧ Below w.heap.size w w' := by
  obtain rfl := IdD.open h
  obtain rfl := IdD.open h'
  clear h h'
  obtain ⟨xr, xs⟩ := x
  obtain ⟨yr, ys⟩ := y
  have hid : idLt ⟨xr, xs⟩ ⟨yr, ys⟩ = decide (xr < yr ∨ xr = yr ∧ xs < ys) := rfl
  have HI := Lib.hid hid; clear hid
  simp only []
  by_cases h1 : xr < yr
  · have HR := Lib.hid (show idCmp ⟨xr, xs⟩ ⟨yr, ys⟩ = -1 by rw [idCmp, if_pos (by rw [HI.out]; simp [h1])])
    go_enter Try.func42, Try.ntmps42
    go_wp2
    go_ret
    exact ⟨ret_eq (by rw [HR.out]; rfl), (by repeat' (first | with_reducible exact Below.refl _ _ | with_reducible exact BW.out | with_reducible refine Below.setCell ?_ ?_ _ | with_reducible refine Below.alloc ?_ ?_ _ | with_reducible refine Below.drew ?_ | (simp; done) | (simp; omega) | omega))⟩
  · by_cases h2 : xr = yr
    · subst h2
      clear h1
      by_cases h3 : xs < ys
      · have HR := Lib.hid (show idCmp ⟨xr, xs⟩ ⟨xr, ys⟩ = -1 by rw [idCmp, if_pos (by rw [HI.out]; simp [h3])])
        go_enter Try.func42, Try.ntmps42
        go_wp2
        go_ret
        exact ⟨ret_eq (by rw [HR.out]; rfl), (by repeat' (first | with_reducible exact Below.refl _ _ | with_reducible exact BW.out | with_reducible refine Below.setCell ?_ ?_ _ | with_reducible refine Below.alloc ?_ ?_ _ | with_reducible refine Below.drew ?_ | (simp; done) | (simp; omega) | omega))⟩
      · by_cases h4 : xs = ys
        · subst h4
          have HR := Lib.hid (show idCmp ⟨xr, xs⟩ ⟨xr, xs⟩ = 0 by rw [idCmp, if_neg (by rw [HI.out]; simp), if_pos rfl])
          clear h3
          go_enter Try.func42, Try.ntmps42
          go_wp2
          go_ret
          exact ⟨ret_eq (by rw [HR.out]; rfl), (by repeat' (first | with_reducible exact Below.refl _ _ | with_reducible exact BW.out | with_reducible refine Below.setCell ?_ ?_ _ | with_reducible refine Below.alloc ?_ ?_ _ | with_reducible refine Below.drew ?_ | (simp; done) | (simp; omega) | omega))⟩
        · have HR := Lib.hid (show idCmp ⟨xr, xs⟩ ⟨xr, ys⟩ = 1 by rw [idCmp, if_neg (by rw [HI.out]; simp; omega), if_neg (by simp [h4])])
          have h5 : (xs == ys) = false := by simpa using h4
          clear h4
          go_enter Try.func42, Try.ntmps42
          go_wp2
          go_ret
          exact ⟨ret_eq (by rw [HR.out]; rfl), (by repeat' (first | with_reducible exact Below.refl _ _ | with_reducible exact BW.out | with_reducible refine Below.setCell ?_ ?_ _ | with_reducible refine Below.alloc ?_ ?_ _ | with_reducible refine Below.drew ?_ | (simp; done) | (simp; omega) | omega))⟩
    · have HR := Lib.hid (show idCmp ⟨xr, xs⟩ ⟨yr, ys⟩ = 1 by rw [idCmp, if_neg (by rw [HI.out]; simp; omega), if_neg (by simp [h2])])
      have h3 : (xr == yr) = false := by simpa using h2
      clear h2
      go_enter Try.func42, Try.ntmps42
      go_wp2
      go_ret
      exact ⟨ret_eq (by rw [HR.out]; rfl), (by repeat' (first | with_reducible exact Below.refl _ _ | with_reducible exact BW.out | with_reducible refine Below.setCell ?_ ?_ _ | with_reducible refine Below.alloc ?_ ?_ _ | with_reducible refine Below.drew ?_ | (simp; done) | (simp; omega) | omega))⟩
theorem idCmp_yes {a b : IdD} (h : idLt a b = true) : idCmp a b = -1 := by rw [idCmp, if_pos h]
theorem idCmp_no {a b : IdD} (h : idLt a b = false) : 0 ≤ idCmp a b := by
  rw [idCmp, if_neg (by simp [h])]
  split <;> omega

set_option maxRecDepth 100000 in
set_option maxHeartbeats 4000000 in
theorem iIdsOk_any (xs : List IdD) (A : Option Addr) (n c : Nat) (w : World) (hn : n = xs.length) (hwt : n + (cat IdD.c xs).wt ≤ 1048576) (h : Rep anyB w (.sl 36 2 n (cat IdD.c xs) .nil) [.slice A n c]) :
    Calls Try.prog 92 #[.slice A n c] w fun e w' => e = .returned (.bool (idsOkB xs)) ∧ Below w.heap.size w w' := by
  have hnb : n ≤ 1048576 := by omega
  have HN := Lib.hid hn; clear hn hwt
  have HR := Lib.hid h; clear h
  go_enter Try.func92, Try.ntmps92
  go_wp2
  go_loopw [7] (fun ii wr => ∃ j : Nat, j ≤ n ∧ ii = .int .i64 (j : Int) ∧ idsGood xs j ∧ Below w.heap.size w wr) (fun ii _ => n - (intOf ii).toNat)
  case atStart => exact ⟨0, Nat.zero_le _, rfl, idsGood_zero _, Below.refl _ _⟩
  case round =>
    obtain ⟨j, hj, rfl, hgood, hbel⟩ := hrel
    have HG := Lib.hid hgood; clear hgood
    have BW := Lib.hid hbel; clear hbel
    by_cases hlt : j < n
    · have hjx : j < xs.length := by have := HN.out; omega
      obtain ⟨ad, ci, rfl, _, _, hrc, hl, hc⟩ := (HR.out.below BW.out).elem IdD.width j hjx HN.out
      have hno1 := fun h => idsOkB_no1 hjx h
      have hsucc := fun h1 h2 => idsGood_succ HG.out hjx h1 h2
      have hno2 : ∀ m, (hm : j = m + 1) → idLt (xs[m]'(by omega)) xs[j] = false → idsOkB xs = false := fun m hm h => by subst hm; exact idsOkB_no2 hjx h
      have HNO1 := Lib.hid hno1; clear hno1
      have HSU := Lib.hid hsucc; clear hsucc
      have HNO2 := Lib.hid hno2; clear hno2
      generalize xs[j] = x at *
      have HL := Lib.hid hl; clear hl
      have HC := Lib.hid hc; clear hc
      have HRC := Lib.hid hrc; clear hrc
      go_wp2_with (first | ((with_reducible show wpList _ _ _ ({ dst := _, op := Op.load 36 _, type := _, pos := _, after := _, guard := _ } :: _) _ _); refine wpList_load_row _ (ad.add (j * 2)) rfl ci agg_Id HL.out HC.out ?_) | ((with_reducible show wpList _ _ _ ({ dst := _, op := Op.store 36 _ _, type := _, pos := _, after := _, guard := _ } :: _) _ _); refine wpList_store_row _ (World.heap wr).size 36 0 ci [] [.int .i64 0, .int .i64 0] [] _ rfl rfl (HL.out ▸ agg_Id) (blk_new wr _ _) rfl rfl HL.out.symm HRC.out.one ?_; intro v0 hsb hsg) | fail)
      have hb : Below (World.heap wr).size wr v0 := Below.grown (Below.alloc (Below.refl _ _) (Nat.le_refl _) _) hsg (by simp) (fun k hk => by injection hk with hk; omega)
      have hsb2 : Blk v0 (World.heap wr).size 36 ci.toArray := by simpa using hsb
      have XB := Lib.hid hsb2; clear hsb hsb2 hsg
      have B0 := Lib.hid (BW.out.trans (hb.mono BW.out.size))
      have HRC0 := Lib.hid (HRC.out.below hb)
      have HB0 := Lib.hid hb; clear hb
      cases hok : idOkB x with
      | false =>
        have HF := Lib.hid (HNO1.out hok)
        have HOK := Lib.hid hok; clear hok
        refine wp_region_x 17 [0, 1, 2, 3, 4, 5, 6, 7, 8, 9, 10, 11, 12, 13, 14, 15, 16] (by kernel_rfl) (by kernel_rfl) ?_
        refine wpX_quiet rfl (by kernel_rfl) rfl ?_; go_wp2_with (first | (refine wpList_load_row _ ⟨wr.heap.size, 0, none⟩ rfl ci agg_Id HL.out (blk_cells XB.out.drew) ?_) | fail); refine ⟨rfl, ?_⟩
        refine wpX_actor rfl (by kernel_rfl) ?_; go_wp2_with fail
        refine (idOk_any x ci _ HRC0.out.drew).mono ?_; rintro e v1 ⟨rfl, hb⟩
        rw [HOK.out]
        have HB := Lib.hid hb; clear hb
        go_wp2
        refine ⟨Ext.of_below HB.out, ?_⟩
        iterate 2 (refine wpX_quiet rfl (by kernel_rfl) rfl ?_; go_wp2; refine ⟨rfl, ?_⟩)
        (iterate 6 (refine wpX_skip2 rfl rfl (by kernel_rfl) ?_)); simp only [List.setIfInBounds_toArray, List.set_cons_succ, List.set_cons_zero]; (iterate 6 (refine wpX_skip2 rfl rfl (by kernel_rfl) ?_)); simp only [List.setIfInBounds_toArray, List.set_cons_succ, List.set_cons_zero]
        iterate 1 (refine wpX_quiet rfl (by kernel_rfl) rfl ?_; go_wp2; refine ⟨rfl, ?_⟩)
        refine wpX_nil ?_; simp only [List.drop_succ_cons, List.drop_zero]
        go_wp2
        go_ret
        exact ⟨ret_eq (by rw [HF.out]; rfl), B0.out.trans ((below_drewL HB.out).mono B0.out.size)⟩
      | true =>
        have HOK := Lib.hid hok; clear hok
        cases j with
        | zero =>
          refine wp_region_x 17 [0, 1, 2, 3, 4, 5, 6, 7, 8, 9, 10, 11, 12, 13, 14, 15, 16] (by kernel_rfl) (by kernel_rfl) ?_
          refine wpX_quiet rfl (by kernel_rfl) rfl ?_; go_wp2_with (first | (refine wpList_load_row _ ⟨wr.heap.size, 0, none⟩ rfl ci agg_Id HL.out (blk_cells XB.out.drew) ?_) | fail); refine ⟨rfl, ?_⟩
          refine wpX_actor rfl (by kernel_rfl) ?_; go_wp2_with fail
          refine (idOk_any x ci _ HRC0.out.drew).mono ?_; rintro e v1 ⟨rfl, hb⟩
          rw [HOK.out]
          have HB := Lib.hid hb; clear hb
          go_wp2
          refine ⟨Ext.of_below HB.out, ?_⟩
          iterate 5 (refine wpX_quiet rfl (by kernel_rfl) rfl ?_; go_wp2; refine ⟨rfl, ?_⟩)
          (iterate 6 (refine wpX_skip2 rfl rfl (by kernel_rfl) ?_)); simp only [List.setIfInBounds_toArray, List.set_cons_succ, List.set_cons_zero]; (iterate 2 (refine wpX_skip2 rfl rfl (by kernel_rfl) ?_)); simp only [List.setIfInBounds_toArray, List.set_cons_succ, List.set_cons_zero]
          iterate 2 (refine wpX_quiet rfl (by kernel_rfl) rfl ?_; go_wp2; refine ⟨rfl, ?_⟩)
          refine wpX_nil ?_; simp only [List.drop_succ_cons, List.drop_zero]
          go_wp2
          exact ⟨⟨1, by omega, by go_num, HSU.out HOK.out (fun _ h => absurd rfl h), B0.out.trans ((below_drewL HB.out).mono B0.out.size)⟩, by simp only [intOf]; omega⟩
        | succ m =>
          have hmx : m < xs.length := by omega
          obtain ⟨ad', cp, he, _, _, hrc, hl, hc⟩ := (HR.out.below BW.out).elem IdD.width m hmx HN.out
          injection he with he
          subst he
          have hno2 := HNO2.out m rfl
          have HY := Lib.hid (show xs[m]? = some xs[m] from List.getElem?_eq_getElem hmx)
          generalize xs[m] = y at *
          have HLP := Lib.hid hl; clear hl
          have HCP := Lib.hid (cells_below hc HB0.out); clear hc
          have HRP := Lib.hid (hrc.below HB0.out); clear hrc
          have HNO := Lib.hid hno2; clear hno2
          cases hlt2 : idLt y x with
          | false =>
            have HF := Lib.hid (HNO.out hlt2)
            have hq := idCmp_no hlt2
            clear hlt2
            refine wp_region_x 17 [0, 1, 2, 3, 4, 5, 6, 7, 8, 9, 10, 11, 12, 13, 14, 15, 16] (by kernel_rfl) (by kernel_rfl) ?_
            refine wpX_quiet rfl (by kernel_rfl) rfl ?_; go_wp2_with (first | (refine wpList_load_row _ ⟨wr.heap.size, 0, none⟩ rfl ci agg_Id HL.out (blk_cells XB.out.drew) ?_) | fail); refine ⟨rfl, ?_⟩
            refine wpX_actor rfl (by kernel_rfl) ?_; go_wp2_with fail
            refine (idOk_any x ci _ HRC0.out.drew).mono ?_; rintro e v1 ⟨rfl, hb⟩
            rw [HOK.out]
            have HB := Lib.hid hb; clear hb
            have HC2 := Lib.hid (cells_below HCP.out (below_drewL HB.out))
            have XB1 := Lib.hid (XB.out.below (below_drewL HB.out))
            go_wp2
            refine ⟨Ext.of_below HB.out, ?_⟩
            iterate 9 (refine wpX_quiet rfl (by kernel_rfl) rfl ?_; go_wp2; refine ⟨rfl, ?_⟩)
            refine wpX_quiet rfl (by kernel_rfl) rfl ?_; go_wp2_with (first | (refine wpList_load_row_g _ rfl (ad.add (m * 2)) rfl cp agg_Id HLP.out HC2.out ?_) | fail); refine ⟨rfl, ?_⟩
            refine wpX_quiet rfl (by kernel_rfl) rfl ?_; go_wp2_with (first | (refine wpList_load_row_g _ rfl ⟨wr.heap.size, 0, none⟩ rfl ci agg_Id HL.out (blk_cells XB1.out) ?_) | fail); refine ⟨rfl, ?_⟩
            refine wpX_actor rfl (by kernel_rfl) ?_; go_wp2_with fail
            refine (compareIds_any y x cp ci _ (HRP.out.below (below_drewL HB.out)) (HRC0.out.below (below_drewL HB.out))).mono ?_; rintro e v2 ⟨rfl, hb⟩
            have HB2 := Lib.hid hb; clear hb
            generalize idCmp y x = q at *
            go_wp2
            refine ⟨Ext.of_below HB2.out, ?_⟩
            iterate 3 (refine wpX_quiet rfl (by kernel_rfl) rfl ?_; go_wp2; refine ⟨rfl, ?_⟩)
            refine wpX_nil ?_; simp only [List.drop_succ_cons, List.drop_zero]
            go_wp2
            go_ret
            exact ⟨ret_eq (by rw [HF.out]; rfl), (B0.out.trans ((below_drewL HB.out).mono B0.out.size)).trans (HB2.out.mono (Nat.le_trans B0.out.size HB.out.size))⟩
          | true =>
            have HLT := Lib.hid hlt2
            have HQ := Lib.hid (idCmp_yes hlt2); clear hlt2
            refine wp_region_x 17 [0, 1, 2, 3, 4, 5, 6, 7, 8, 9, 10, 11, 12, 13, 14, 15, 16] (by kernel_rfl) (by kernel_rfl) ?_
            refine wpX_quiet rfl (by kernel_rfl) rfl ?_; go_wp2_with (first | (refine wpList_load_row _ ⟨wr.heap.size, 0, none⟩ rfl ci agg_Id HL.out (blk_cells XB.out.drew) ?_) | fail); refine ⟨rfl, ?_⟩
            refine wpX_actor rfl (by kernel_rfl) ?_; go_wp2_with fail
            refine (idOk_any x ci _ HRC0.out.drew).mono ?_; rintro e v1 ⟨rfl, hb⟩
            rw [HOK.out]
            have HB := Lib.hid hb; clear hb
            have HC2 := Lib.hid (cells_below HCP.out (below_drewL HB.out))
            have XB1 := Lib.hid (XB.out.below (below_drewL HB.out))
            go_wp2
            refine ⟨Ext.of_below HB.out, ?_⟩
            iterate 9 (refine wpX_quiet rfl (by kernel_rfl) rfl ?_; go_wp2; refine ⟨rfl, ?_⟩)
            refine wpX_quiet rfl (by kernel_rfl) rfl ?_; go_wp2_with (first | (refine wpList_load_row_g _ rfl (ad.add (m * 2)) rfl cp agg_Id HLP.out HC2.out ?_) | fail); refine ⟨rfl, ?_⟩
            refine wpX_quiet rfl (by kernel_rfl) rfl ?_; go_wp2_with (first | (refine wpList_load_row_g _ rfl ⟨wr.heap.size, 0, none⟩ rfl ci agg_Id HL.out (blk_cells XB1.out) ?_) | fail); refine ⟨rfl, ?_⟩
            refine wpX_actor rfl (by kernel_rfl) ?_; go_wp2_with fail
            refine (compareIds_any y x cp ci _ (HRP.out.below (below_drewL HB.out)) (HRC0.out.below (below_drewL HB.out))).mono ?_; rintro e v2 ⟨rfl, hb⟩
            rw [HQ.out]
            have HB2 := Lib.hid hb; clear hb
            go_wp2
            refine ⟨Ext.of_below HB2.out, ?_⟩
            iterate 3 (refine wpX_quiet rfl (by kernel_rfl) rfl ?_; go_wp2; refine ⟨rfl, ?_⟩)
            refine wpX_nil ?_; simp only [List.drop_succ_cons, List.drop_zero]
            go_wp2
            exact ⟨⟨m + 1 + 1, by omega, by go_num, HSU.out HOK.out (fun z _ hz => by rw [Nat.add_sub_cancel, HY.out] at hz; injection hz with hz; subst hz; exact HLT.out), (B0.out.trans ((below_drewL HB.out).mono B0.out.size)).trans (HB2.out.mono (Nat.le_trans B0.out.size HB.out.size))⟩, by simp only [intOf]; omega⟩
    · have hjn : j = n := by omega
      subst hjn
      have HF := Lib.hid (idsOkB_yes (by have := HG.out; rw [HN.out] at this; exact this))
      go_wp2
      go_ret
      exact ⟨ret_eq (by rw [HF.out]; rfl), BW.out⟩

attribute [irreducible] idsOkB
end Go.Proofs.Ytoffelfcmfpooaa
