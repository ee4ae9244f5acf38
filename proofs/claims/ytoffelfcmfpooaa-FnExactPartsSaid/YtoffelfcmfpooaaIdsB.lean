/-
  Ids among Ids; rows of Ids alike. Conditions: a bound on the length.
-/
import Derived.Test.YtoffelfcmfpooaaIds
namespace Go.Proofs.Ytoffelfcmfpooaa
open Go.RowKit

def hasB (xs : List IdD) (x : IdD) : Bool := xs.contains x
def idxB (xs : List IdD) (x : IdD) : Int := if hasB xs x = true then ((xs.findIdx (· == x) : Nat) : Int) else -1
theorem hasB_yes {xs : List IdD} {j : Nat} (hj : j < xs.length) : hasB xs xs[j] = true := by simp [hasB]
theorem hasB_no {xs : List IdD} {x : IdD} (h : ∀ i (hi : i < xs.length), ¬ xs[i] = x) : hasB xs x = false := by
  simp only [hasB, Bool.eq_false_iff, ne_eq, List.contains_iff_mem]
  intro hm
  obtain ⟨i, hi, rfl⟩ := List.getElem_of_mem hm
  exact h i hi rfl


set_option maxRecDepth 100000 in
set_option maxHeartbeats 2000000 in
theorem l8Has_any (xs : List IdD) (x : IdD) (A : Option Addr) (n c : Nat) (cs : List Value) (w : World) (hn : n = xs.length) (hwt : n ≤ 1048576) (h : Rep anyB w (.sl 36 2 n (cat IdD.c xs) .nil) [.slice A n c]) (h' : Rep anyB w x.c cs) :
    Calls Try.prog 49 #[.slice A n c, .agg cs.toArray] w fun e w' => (e = .returned (.bool (hasB xs x))) ∧ Below w.heap.size w w' := by
  have HN := Lib.hid hn; clear hn
  have HR := Lib.hid h; clear h
  obtain rfl := IdD.open h'
  clear h'
  obtain ⟨R, hR⟩ : ∃ R, R = hasB xs x := ⟨_, rfl⟩
  rw [← hR]
  have hno := @hasB_no xs x
  rw [← hR] at hno
  have HNO := Lib.hid hno; clear hno
  have hye : ∀ j (hj : j < xs.length), xs[j] = x → R = true := fun j hj h => by rw [hR, ← h]; exact hasB_yes hj
  have HYE := Lib.hid hye; clear hye hR
  obtain ⟨xr, xs'⟩ := x
  simp only [] at HNO HYE ⊢
  go_enter Try.func49, Try.ntmps49
  go_wp2
  have SB := Lib.hid (show Blk (w.alloc (.cells #[.int .i64 xr, .int .i64 xs'] 36)) w.heap.size 36 [.int .i64 xr, .int .i64 xs'].toArray from blk_new _ _ _)
  go_loopw [5] (fun ii wr => ∃ j : Nat, j ≤ n ∧ ii = .int .i64 (j : Int) ∧ (∀ i (hi : i < xs.length), i < j → ¬ xs[i] = ⟨xr, xs'⟩) ∧ Blk wr w.heap.size 36 [.int .i64 xr, .int .i64 xs'].toArray ∧ Below w.heap.size w wr) (fun ii _ => n - (intOf ii).toNat)
  case atStart => exact ⟨0, Nat.zero_le _, rfl, fun i hi h => absurd h (Nat.not_lt_zero _), SB.out, (by repeat' (first | with_reducible exact Below.refl _ _ | with_reducible exact BW.out | with_reducible refine Below.setCell ?_ ?_ _ | with_reducible refine Below.alloc ?_ ?_ _ | with_reducible refine Below.drew ?_ | (simp; done) | (simp; omega) | omega))⟩
  case round =>
    obtain ⟨j, hj, rfl, hall, hsb, hbel⟩ := hrel
    clear SB
    have SB := Lib.hid hsb; clear hsb
    have HA := Lib.hid hall; clear hall
    have BW := Lib.hid hbel; clear hbel
    by_cases hlt : j < n
    · have hjx : j < xs.length := by have := HN.out; omega
      obtain ⟨ad, ci, rfl, _, _, hrc, hl, hc⟩ := (HR.out.below BW.out).elem IdD.width j hjx HN.out
      obtain rfl := IdD.open hrc
      have hye := HYE.out j hjx
      have hst : ¬ xs[j] = ⟨xr, xs'⟩ → ∀ i (hi : i < xs.length), i < j + 1 → ¬ xs[i] = ⟨xr, xs'⟩ := fun hne i hi hij => by
        by_cases he : i = j
        · subst he; exact hne
        · exact HA.out i hi (by omega)
      have HST := Lib.hid hst
      have HY2 := Lib.hid hye
      clear hst hye hrc hl
      generalize xs[j] = y at *
      obtain ⟨yr, ys⟩ := y
      have HC := Lib.hid hc; clear hc
      by_cases heq : (⟨yr, ys⟩ : IdD) = ⟨xr, xs'⟩
      · have hRt := HY2.out heq
        injection heq with e1 e2
        subst e1 e2
        have HRT := Lib.hid hRt; clear hRt
        go_wp2
        refine wp_region_x 5 [0, 1, 2, 3, 4] (by kernel_rfl) (by kernel_rfl) ?_
        iterate 3 (refine wpX_quiet rfl (by kernel_rfl) rfl ?_; go_wp2; refine ⟨rfl, ?_⟩)
        refine wpX_quiet rfl (by kernel_rfl) rfl ?_; go_wp2_with (first | (refine wpList_load_row _ (ad.add (j * 2)) rfl [.int .i64 _, .int .i64 _] agg_Id rfl HC.out ?_) | fail); refine ⟨rfl, ?_⟩
        refine wpX_quiet rfl (by kernel_rfl) rfl ?_; go_wp2_with (first | (refine wpList_load_row _ ⟨w.heap.size, 0, none⟩ rfl [.int .i64 _, .int .i64 _] agg_Id rfl (blk_cells SB.out) ?_) | fail); refine ⟨rfl, ?_⟩

        refine wpX_nil ?_; simp only [List.drop_succ_cons, List.drop_zero]
        go_wp2
        go_ret
        exact ⟨ret_eq (by rw [HRT.out]; rfl), BW.out.drew⟩
      · have hS := HST.out heq
        have HS := Lib.hid hS; clear hS
        by_cases e1 : yr = xr
        · subst e1
          have e2 : (ys == xs') = false := by simp only [beq_eq_false_iff_ne]; intro h; exact heq (by rw [h])
          have e3 : (xs' == ys) = false := by simp only [beq_eq_false_iff_ne]; intro h; exact heq (by rw [h])
          clear heq
          go_wp2
          refine wp_region_x 5 [0, 1, 2, 3, 4] (by kernel_rfl) (by kernel_rfl) ?_
          iterate 3 (refine wpX_quiet rfl (by kernel_rfl) rfl ?_; go_wp2; refine ⟨rfl, ?_⟩)
          refine wpX_quiet rfl (by kernel_rfl) rfl ?_; go_wp2_with (first | (refine wpList_load_row _ (ad.add (j * 2)) rfl [.int .i64 _, .int .i64 _] agg_Id rfl HC.out ?_) | fail); refine ⟨rfl, ?_⟩
          refine wpX_quiet rfl (by kernel_rfl) rfl ?_; go_wp2_with (first | (refine wpList_load_row _ ⟨w.heap.size, 0, none⟩ rfl [.int .i64 _, .int .i64 _] agg_Id rfl (blk_cells SB.out) ?_) | fail); refine ⟨rfl, ?_⟩
          refine wpX_nil ?_; simp only [List.drop_succ_cons, List.drop_zero]
          go_wp2
          exact ⟨⟨j + 1, by omega, by go_num, HS.out, SB.out.drew, BW.out.drew⟩, by simp only [intOf]; omega⟩
        · have e2 : (yr == xr) = false := by simp only [beq_eq_false_iff_ne]; exact e1
          have e3 : (xr == yr) = false := by simp only [beq_eq_false_iff_ne]; exact fun h => e1 h.symm
          clear heq e1
          go_wp2
          refine wp_region_x 5 [0, 1, 2, 3, 4] (by kernel_rfl) (by kernel_rfl) ?_
          iterate 3 (refine wpX_quiet rfl (by kernel_rfl) rfl ?_; go_wp2; refine ⟨rfl, ?_⟩)
          refine wpX_quiet rfl (by kernel_rfl) rfl ?_; go_wp2_with (first | (refine wpList_load_row _ (ad.add (j * 2)) rfl [.int .i64 _, .int .i64 _] agg_Id rfl HC.out ?_) | fail); refine ⟨rfl, ?_⟩
          refine wpX_quiet rfl (by kernel_rfl) rfl ?_; go_wp2_with (first | (refine wpList_load_row _ ⟨w.heap.size, 0, none⟩ rfl [.int .i64 _, .int .i64 _] agg_Id rfl (blk_cells SB.out) ?_) | fail); refine ⟨rfl, ?_⟩
          refine wpX_nil ?_; simp only [List.drop_succ_cons, List.drop_zero]
          go_wp2
          exact ⟨⟨j + 1, by omega, by go_num, HS.out, SB.out.drew, BW.out.drew⟩, by simp only [intOf]; omega⟩
    · have hjn : j = n := by omega
      subst hjn
      have HF := Lib.hid (HNO.out (fun i hi => HA.out i hi (by have := HN.out; omega)))
      go_wp2
      go_ret
      exact ⟨ret_eq (by rw [HF.out]; rfl), BW.out⟩


set_option maxRecDepth 100000 in
set_option maxHeartbeats 2000000 in
theorem indexId_any (xs : List IdD) (x : IdD) (A : Option Addr) (n c : Nat) (cs : List Value) (w : World) (hn : n = xs.length) (hwt : n ≤ 1048576) (h : Rep anyB w (.sl 36 2 n (cat IdD.c xs) .nil) [.slice A n c]) (h' : Rep anyB w x.c cs) :
    Calls Try.prog 81 #[.slice A n c, .agg cs.toArray] w fun e w' => (∃ q : Int, e = .returned (.int .i64 q) ∧ decide (q ≥ 0) = hasB xs x ∧ (0 ≤ q ↔ hasB xs x = true)) ∧ Below w.heap.size w w' := by
  have HN := Lib.hid hn; clear hn
  have HR := Lib.hid h; clear h
  obtain rfl := IdD.open h'
  clear h'
  obtain ⟨R, hR⟩ : ∃ R, R = hasB xs x := ⟨_, rfl⟩
  rw [← hR]
  have hno := @hasB_no xs x
  rw [← hR] at hno
  have HNO := Lib.hid hno; clear hno
  have hye : ∀ j (hj : j < xs.length), xs[j] = x → R = true := fun j hj h => by rw [hR, ← h]; exact hasB_yes hj
  have HYE := Lib.hid hye; clear hye hR
  obtain ⟨xr, xs'⟩ := x
  simp only [] at HNO HYE ⊢
  go_enter Try.func81, Try.ntmps81
  go_wp2
  have SB := Lib.hid (show Blk (w.alloc (.cells #[.int .i64 xr, .int .i64 xs'] 36)) w.heap.size 36 [.int .i64 xr, .int .i64 xs'].toArray from blk_new _ _ _)
  go_loopw [8] (fun ii wr => ∃ j : Nat, j ≤ n ∧ ii = .int .i64 (j : Int) ∧ (∀ i (hi : i < xs.length), i < j → ¬ xs[i] = ⟨xr, xs'⟩) ∧ Blk wr w.heap.size 36 [.int .i64 xr, .int .i64 xs'].toArray ∧ Below w.heap.size w wr) (fun ii _ => n - (intOf ii).toNat)
  case atStart => exact ⟨0, Nat.zero_le _, rfl, fun i hi h => absurd h (Nat.not_lt_zero _), SB.out, (by repeat' (first | with_reducible exact Below.refl _ _ | with_reducible exact BW.out | with_reducible refine Below.setCell ?_ ?_ _ | with_reducible refine Below.alloc ?_ ?_ _ | with_reducible refine Below.drew ?_ | (simp; done) | (simp; omega) | omega))⟩
  case round =>
    obtain ⟨j, hj, rfl, hall, hsb, hbel⟩ := hrel
    clear SB
    have SB := Lib.hid hsb; clear hsb
    have HA := Lib.hid hall; clear hall
    have BW := Lib.hid hbel; clear hbel
    by_cases hlt : j < n
    · have hjx : j < xs.length := by have := HN.out; omega
      obtain ⟨ad, ci, rfl, _, _, hrc, hl, hc⟩ := (HR.out.below BW.out).elem IdD.width j hjx HN.out
      obtain rfl := IdD.open hrc
      have hye := HYE.out j hjx
      have hst : ¬ xs[j] = ⟨xr, xs'⟩ → ∀ i (hi : i < xs.length), i < j + 1 → ¬ xs[i] = ⟨xr, xs'⟩ := fun hne i hi hij => by
        by_cases he : i = j
        · subst he; exact hne
        · exact HA.out i hi (by omega)
      have HST := Lib.hid hst
      have HY2 := Lib.hid hye
      clear hst hye hrc hl
      generalize xs[j] = y at *
      obtain ⟨yr, ys⟩ := y
      have HC := Lib.hid hc; clear hc
      by_cases heq : (⟨yr, ys⟩ : IdD) = ⟨xr, xs'⟩
      · have hRt := HY2.out heq
        injection heq with e1 e2
        subst e1 e2
        have HRT := Lib.hid hRt; clear hRt
        go_wp2
        refine wp_region_x 5 [0, 1, 2, 3, 4] (by kernel_rfl) (by kernel_rfl) ?_
        refine wpX_quiet rfl (by kernel_rfl) rfl ?_; go_wp2_with (first | (refine wpList_load_row _ ⟨w.heap.size, 0, none⟩ rfl [.int .i64 _, .int .i64 _] agg_Id rfl (blk_cells SB.out) ?_) | fail); refine ⟨rfl, ?_⟩
        iterate 3 (refine wpX_quiet rfl (by kernel_rfl) rfl ?_; go_wp2; refine ⟨rfl, ?_⟩)
        refine wpX_quiet rfl (by kernel_rfl) rfl ?_; go_wp2_with (first | (refine wpList_load_row _ (ad.add (j * 2)) rfl [.int .i64 _, .int .i64 _] agg_Id rfl HC.out ?_) | fail); refine ⟨rfl, ?_⟩

        refine wpX_nil ?_; simp only [List.drop_succ_cons, List.drop_zero]
        go_wp2
        go_ret
        exact ⟨⟨_, rfl, by rw [HRT.out]; simp, by rw [HRT.out]; simp⟩, BW.out.drew⟩
      · have hS := HST.out heq
        have HS := Lib.hid hS; clear hS
        by_cases e1 : yr = xr
        · subst e1
          have e2 : (ys == xs') = false := by simp only [beq_eq_false_iff_ne]; intro h; exact heq (by rw [h])
          have e3 : (xs' == ys) = false := by simp only [beq_eq_false_iff_ne]; intro h; exact heq (by rw [h])
          clear heq
          go_wp2
          refine wp_region_x 5 [0, 1, 2, 3, 4] (by kernel_rfl) (by kernel_rfl) ?_
          refine wpX_quiet rfl (by kernel_rfl) rfl ?_; go_wp2_with (first | (refine wpList_load_row _ ⟨w.heap.size, 0, none⟩ rfl [.int .i64 _, .int .i64 _] agg_Id rfl (blk_cells SB.out) ?_) | fail); refine ⟨rfl, ?_⟩
          iterate 3 (refine wpX_quiet rfl (by kernel_rfl) rfl ?_; go_wp2; refine ⟨rfl, ?_⟩)
          refine wpX_quiet rfl (by kernel_rfl) rfl ?_; go_wp2_with (first | (refine wpList_load_row _ (ad.add (j * 2)) rfl [.int .i64 _, .int .i64 _] agg_Id rfl HC.out ?_) | fail); refine ⟨rfl, ?_⟩
          refine wpX_nil ?_; simp only [List.drop_succ_cons, List.drop_zero]
          go_wp2
          exact ⟨⟨j + 1, by omega, by go_num, HS.out, SB.out.drew, BW.out.drew⟩, by simp only [intOf]; omega⟩
        · have e2 : (yr == xr) = false := by simp only [beq_eq_false_iff_ne]; exact e1
          have e3 : (xr == yr) = false := by simp only [beq_eq_false_iff_ne]; exact fun h => e1 h.symm
          clear heq e1
          go_wp2
          refine wp_region_x 5 [0, 1, 2, 3, 4] (by kernel_rfl) (by kernel_rfl) ?_
          refine wpX_quiet rfl (by kernel_rfl) rfl ?_; go_wp2_with (first | (refine wpList_load_row _ ⟨w.heap.size, 0, none⟩ rfl [.int .i64 _, .int .i64 _] agg_Id rfl (blk_cells SB.out) ?_) | fail); refine ⟨rfl, ?_⟩
          iterate 3 (refine wpX_quiet rfl (by kernel_rfl) rfl ?_; go_wp2; refine ⟨rfl, ?_⟩)
          refine wpX_quiet rfl (by kernel_rfl) rfl ?_; go_wp2_with (first | (refine wpList_load_row _ (ad.add (j * 2)) rfl [.int .i64 _, .int .i64 _] agg_Id rfl HC.out ?_) | fail); refine ⟨rfl, ?_⟩
          refine wpX_nil ?_; simp only [List.drop_succ_cons, List.drop_zero]
          go_wp2
          exact ⟨⟨j + 1, by omega, by go_num, HS.out, SB.out.drew, BW.out.drew⟩, by simp only [intOf]; omega⟩
    · have hjn : j = n := by omega
      subst hjn
      have HF := Lib.hid (HNO.out (fun i hi => HA.out i hi (by have := HN.out; omega)))
      go_wp2
      go_ret
      exact ⟨⟨_, rfl, by rw [HF.out]; simp, by rw [HF.out]; simp⟩, BW.out⟩


set_option maxRecDepth 100000 in
set_option maxHeartbeats 1000000 in
theorem containsId_any (xs : List IdD) (x : IdD) (A : Option Addr) (n c : Nat) (cs : List Value) (w : World) (hn : n = xs.length) (hwt : n ≤ 1048576) (h : Rep anyB w (.sl 36 2 n (cat IdD.c xs) .nil) [.slice A n c]) (h' : Rep anyB w x.c cs) :
    Calls Try.prog 55 #[.slice A n c, .agg cs.toArray] w fun e w' => e = .returned (.bool (hasB xs x)) ∧ Below w.heap.size w w' := by
  have hr := h'
  obtain rfl := IdD.open h'
  have H := Lib.hid h; clear h
  have HR := Lib.hid hr; clear hr h'
  have HN := Lib.hid hn; clear hn
  go_enter Try.func55, Try.ntmps55
  go_wp2_with fail
  refine (indexId_any xs x A n c _ _ HN.out hwt (H.out.below (by repeat' (first | with_reducible exact Below.refl _ _ | with_reducible exact BW.out | with_reducible refine Below.setCell ?_ ?_ _ | with_reducible refine Below.alloc ?_ ?_ _ | with_reducible refine Below.drew ?_ | (simp; done) | (simp; omega) | omega))) (HR.out.below (by repeat' (first | with_reducible exact Below.refl _ _ | with_reducible exact BW.out | with_reducible refine Below.setCell ?_ ?_ _ | with_reducible refine Below.alloc ?_ ?_ _ | with_reducible refine Below.drew ?_ | (simp; done) | (simp; omega) | omega)))).mono ?_; rintro e w1 ⟨⟨q, rfl, hq, _⟩, hb⟩
  have HQ := Lib.hid hq; clear hq
  have BW := Lib.hid (show Below w.heap.size w w1 from Below.trans (by repeat' (first | with_reducible exact Below.refl _ _ | with_reducible exact BW.out | with_reducible refine Below.setCell ?_ ?_ _ | with_reducible refine Below.alloc ?_ ?_ _ | with_reducible refine Below.drew ?_ | (simp; done) | (simp; omega) | omega)) (hb.mono (by first | (simp; done) | (simp; omega) | omega))); clear hb
  go_wp2
  go_ret
  exact ⟨ret_eq (by rw [← HQ.out]; rfl), BW.out⟩


















































































































































































attribute [irreducible] hasB

end Go.Proofs.Ytoffelfcmfpooaa
