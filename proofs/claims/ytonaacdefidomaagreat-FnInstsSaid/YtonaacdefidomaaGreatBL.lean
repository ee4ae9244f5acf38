/-
  What the laws compare: ids, instances. Conditions: bounds on the sizes.
  From the contract of a law (it returns true and turns nothing that was there) to the row's post. Conditions: the parameters' types are readable (a closed check).
  The arguments of the laws, as the rows' form reads them, as data in memory. Conditions: none beyond that reading.
-/
import Derived.Test.YtonaacdefidomaaGreatBB
import Derived.Test.YtonaacdefidomaaGreatRows
import Derived.Test.YtonaacdefidomaaGreatBA
import Derived.Deep.Slices
set_option linter.unusedVariables false
set_option linter.unusedSimpArgs false
namespace Go.Proofs.YtonaacdefidomaaGreat
open Go.RowKit

set_option maxRecDepth 100000 in
set_option maxHeartbeats 2000000 in
theorem hasId_any (xs : List IdD) (x : IdD) (A : Option Addr) (n c : Nat) (cs : List Value) (w : World) (hn : n = xs.length) (hwt : n ≤ 1048576) (h : Rep anyB w (.sl 26 2 n (cat IdD.c xs) .nil) [.slice A n c]) (h' : Rep anyB w x.c cs) :
    Calls Tryz.prog 11 #[.slice A n c, .agg cs.toArray] w fun e w' => (e = .returned (.bool (hasB xs x))) ∧ Below w.heap.size w w' := by
  have HN := Lib.hid hn; clear hn
  have HR := Lib.hid h; clear h
  obtain rfl := IdD.open h'
  clear h'
  obtain ⟨R, hR⟩ : ∃ R, R = hasB xs x := ⟨_, rfl⟩
  rw [← hR]
  have hno := @hasB_no xs x
  rw [← hR] at hno
  have HNO := Lib.hid hno; clear hno
  have hye : ∀ j (hj : j < xs.length), xs[j] = x → R = true := fun j hj h => by rw [hR, ← h]; exact hasB_yes hj
  have HYE := Lib.hid hye; clear hye hR
  obtain ⟨xr, xs'⟩ := x
  simp only [] at HNO HYE ⊢
  go_enter Tryz.func11, Tryz.ntmps11
  go_wp2
  have SB := Lib.hid (show Blk (w.alloc (.cells #[.int .i64 xr, .int .i64 xs'] 26)) w.heap.size 26 [.int .i64 xr, .int .i64 xs'].toArray from blk_new _ _ _)
  go_loopw [5] (fun ii wr => ∃ j : Nat, j ≤ n ∧ ii = .int .i64 (j : Int) ∧ (∀ i (hi : i < xs.length), i < j → ¬ xs[i] = ⟨xr, xs'⟩) ∧ Blk wr w.heap.size 26 [.int .i64 xr, .int .i64 xs'].toArray ∧ Below w.heap.size w wr) (fun ii _ => n - (intOf ii).toNat)
  case atStart => exact ⟨0, Nat.zero_le _, rfl, fun i hi h => absurd h (Nat.not_lt_zero _), SB.out, (by repeat' (first | with_reducible exact Below.refl _ _ | with_reducible exact BW.out | with_reducible refine Below.setCell ?_ ?_ _ | with_reducible refine Below.alloc ?_ ?_ _ | with_reducible refine Below.drew ?_ | (simp; done) | (simp; omega) | omega))⟩
  case round =>
    obtain ⟨j, hj, rfl, hall, hsb, hbel⟩ := hrel
    clear SB
    have SB := Lib.hid hsb; clear hsb
    have HA := Lib.hid hall; clear hall
    have BW := Lib.hid hbel; clear hbel
    by_cases hlt : j < n
    · have hjx : j < xs.length := by have := HN.out; omega
      obtain ⟨ad, ci, rfl, _, _, hrc, hl, hc⟩ := (HR.out.below BW.out).elem IdD.width j hjx HN.out
      obtain rfl := IdD.open hrc
      have hye := HYE.out j hjx
      have hst : ¬ xs[j] = ⟨xr, xs'⟩ → ∀ i (hi : i < xs.length), i < j + 1 → ¬ xs[i] = ⟨xr, xs'⟩ := fun hne i hi hij => by
        by_cases he : i = j
        · subst he; exact hne
        · exact HA.out i hi (by omega)
      have HST := Lib.hid hst
      have HY2 := Lib.hid hye
      clear hst hye hrc hl
      generalize xs[j] = y at *
      obtain ⟨yr, ys⟩ := y
      have HC := Lib.hid hc; clear hc
      by_cases heq : (⟨yr, ys⟩ : IdD) = ⟨xr, xs'⟩
      · have hRt := HY2.out heq
        injection heq with e1 e2
        subst e1 e2
        have HRT := Lib.hid hRt; clear hRt
        go_wp2
        refine wp_region_x 5 [0, 1, 2, 3, 4] (by kernel_rfl) (by kernel_rfl) ?_
        iterate 3 (refine wpX_quiet rfl (by kernel_rfl) rfl ?_; go_wp2; refine ⟨rfl, ?_⟩)
        refine wpX_quiet rfl (by kernel_rfl) rfl ?_; go_wp2_with (first | (refine wpList_load_row _ (ad.add (j * 2)) rfl [.int .i64 _, .int .i64 _] agg_Id rfl HC.out ?_) | fail); refine ⟨rfl, ?_⟩
        refine wpX_quiet rfl (by kernel_rfl) rfl ?_; go_wp2_with (first | (refine wpList_load_row _ ⟨w.heap.size, 0, none⟩ rfl [.int .i64 _, .int .i64 _] agg_Id rfl (blk_cells SB.out) ?_) | fail); refine ⟨rfl, ?_⟩

        refine wpX_nil ?_; simp only [List.drop_succ_cons, List.drop_zero]
        go_wp2
        go_ret
        exact ⟨ret_eq (by rw [HRT.out]; rfl), BW.out.drew⟩
      · have hS := HST.out heq
        have HS := Lib.hid hS; clear hS
        by_cases e1 : yr = xr
        · subst e1
          have e2 : (ys == xs') = false := by simp only [beq_eq_false_iff_ne]; intro h; exact heq (by rw [h])
          have e3 : (xs' == ys) = false := by simp only [beq_eq_false_iff_ne]; intro h; exact heq (by rw [h])
          clear heq
          go_wp2
          refine wp_region_x 5 [0, 1, 2, 3, 4] (by kernel_rfl) (by kernel_rfl) ?_
          iterate 3 (refine wpX_quiet rfl (by kernel_rfl) rfl ?_; go_wp2; refine ⟨rfl, ?_⟩)
          refine wpX_quiet rfl (by kernel_rfl) rfl ?_; go_wp2_with (first | (refine wpList_load_row _ (ad.add (j * 2)) rfl [.int .i64 _, .int .i64 _] agg_Id rfl HC.out ?_) | fail); refine ⟨rfl, ?_⟩
          refine wpX_quiet rfl (by kernel_rfl) rfl ?_; go_wp2_with (first | (refine wpList_load_row _ ⟨w.heap.size, 0, none⟩ rfl [.int .i64 _, .int .i64 _] agg_Id rfl (blk_cells SB.out) ?_) | fail); refine ⟨rfl, ?_⟩
          refine wpX_nil ?_; simp only [List.drop_succ_cons, List.drop_zero]
          go_wp2
          exact ⟨⟨j + 1, by omega, by go_num, HS.out, SB.out.drew, BW.out.drew⟩, by simp only [intOf]; omega⟩
        · have e2 : (yr == xr) = false := by simp only [beq_eq_false_iff_ne]; exact e1
          have e3 : (xr == yr) = false := by simp only [beq_eq_false_iff_ne]; exact fun h => e1 h.symm
          clear heq e1
          go_wp2
          refine wp_region_x 5 [0, 1, 2, 3, 4] (by kernel_rfl) (by kernel_rfl) ?_
          iterate 3 (refine wpX_quiet rfl (by kernel_rfl) rfl ?_; go_wp2; refine ⟨rfl, ?_⟩)
          refine wpX_quiet rfl (by kernel_rfl) rfl ?_; go_wp2_with (first | (refine wpList_load_row _ (ad.add (j * 2)) rfl [.int .i64 _, .int .i64 _] agg_Id rfl HC.out ?_) | fail); refine ⟨rfl, ?_⟩
          refine wpX_quiet rfl (by kernel_rfl) rfl ?_; go_wp2_with (first | (refine wpList_load_row _ ⟨w.heap.size, 0, none⟩ rfl [.int .i64 _, .int .i64 _] agg_Id rfl (blk_cells SB.out) ?_) | fail); refine ⟨rfl, ?_⟩
          refine wpX_nil ?_; simp only [List.drop_succ_cons, List.drop_zero]
          go_wp2
          exact ⟨⟨j + 1, by omega, by go_num, HS.out, SB.out.drew, BW.out.drew⟩, by simp only [intOf]; omega⟩
    · have hjn : j = n := by omega
      subst hjn
      have HF := Lib.hid (HNO.out (fun i hi => HA.out i hi (by have := HN.out; omega)))
      go_wp2
      go_ret
      exact ⟨ret_eq (by rw [HF.out]; rfl), BW.out⟩

set_option maxRecDepth 100000 in
set_option maxHeartbeats 2000000 in
theorem sameIds_any (xs ys : List IdD) (A A' : Option Addr) (n n' c c' : Nat) (w : World) (hn : n = xs.length) (hn' : n' = ys.length) (hwt : n ≤ 1048576) (hwt' : n' ≤ 1048576) (h : Rep anyB w (.sl 26 2 n (cat IdD.c xs) .nil) [.slice A n c]) (h' : Rep anyB w (.sl 26 2 n' (cat IdD.c ys) .nil) [.slice A' n' c']) :
    Calls Tryz.prog 8 #[.slice A n c, .slice A' n' c'] w fun e w' => e = .returned (.bool (decide (xs = ys))) ∧ Below w.heap.size w w' := by
  have HN := Lib.hid hn; clear hn
  have HN' := Lib.hid hn'; clear hn'
  have H := Lib.hid h; clear h
  have H' := Lib.hid h'; clear h'
  by_cases hnn : n = n'
  · subst hnn
    go_enter Tryz.func8, Tryz.ntmps8
    go_wp2
    go_loopw [5] (fun ii wr => ∃ j : Nat, j ≤ n ∧ ii = .int .i64 (j : Int) ∧ xs.take j = ys.take j ∧ Below w.heap.size w wr) (fun ii _ => n - (intOf ii).toNat)
    case atStart => exact ⟨0, Nat.zero_le _, rfl, rfl, Below.refl _ _⟩
    case round =>
      obtain ⟨j, hj, rfl, htk, hbel⟩ := hrel
      have HT := Lib.hid htk; clear htk
      have BW := Lib.hid hbel; clear hbel
      by_cases hlt : j < n
      · have hjx : j < xs.length := by have := HN.out; omega
        have hjy : j < ys.length := by have := HN'.out; omega
        obtain ⟨ad, ci, rfl, _, _, hrc, hl, hc⟩ := (H.out.below BW.out).elem IdD.width j hjx HN.out
        obtain ⟨ad', ci', rfl, _, _, hrc', hl', hc'⟩ := (H'.out.below BW.out).elem IdD.width j hjy HN'.out
        obtain rfl := IdD.open hrc
        obtain rfl := IdD.open hrc'
        have hst : xs[j] = ys[j] → xs.take (j + 1) = ys.take (j + 1) := fun he => by rw [List.take_succ_eq_append_getElem hjx, List.take_succ_eq_append_getElem hjy, HT.out, he]
        have hno : ¬ xs[j] = ys[j] → decide (xs = ys) = false := fun he => by
          simp only [decide_eq_false_iff_not]
          intro hxy
          subst hxy
          exact he rfl
        clear hrc hl hrc' hl'
        have HST := Lib.hid hst; clear hst
        have HNO := Lib.hid hno; clear hno
        generalize xs[j] = x at *
        generalize ys[j] = y at *
        obtain ⟨xr, xs'⟩ := x
        obtain ⟨yr, ys'⟩ := y
        have HC := Lib.hid hc; clear hc
        have HC' := Lib.hid hc'; clear hc'
        by_cases heq : (⟨xr, xs'⟩ : IdD) = ⟨yr, ys'⟩
        · have HS := Lib.hid (HST.out heq)
          injection heq with e1 e2
          subst e1 e2
          go_wp2
          refine wp_region_x 8 [0, 1, 2, 3, 4, 5, 6, 7] (by kernel_rfl) (by kernel_rfl) ?_
          iterate 3 (refine wpX_quiet rfl (by kernel_rfl) rfl ?_; go_wp2; refine ⟨rfl, ?_⟩)
          refine wpX_quiet rfl (by kernel_rfl) rfl ?_; go_wp2_with (first | (refine wpList_load_row _ (ad.add (j * 2)) rfl [.int .i64 _, .int .i64 _] agg_Id rfl HC.out ?_) | fail); refine ⟨rfl, ?_⟩
          iterate 3 (refine wpX_quiet rfl (by kernel_rfl) rfl ?_; go_wp2; refine ⟨rfl, ?_⟩)
          refine wpX_quiet rfl (by kernel_rfl) rfl ?_; go_wp2_with (first | (refine wpList_load_row _ (ad'.add (j * 2)) rfl [.int .i64 _, .int .i64 _] agg_Id rfl HC'.out ?_) | fail); refine ⟨rfl, ?_⟩

          refine wpX_nil ?_; simp only [List.drop_succ_cons, List.drop_zero]
          go_wp2
          exact ⟨⟨j + 1, by omega, by go_num, HS.out, BW.out.drew⟩, by simp only [intOf]; omega⟩
        · have HS := Lib.hid (HNO.out heq)
          have hne : (xr == yr && xs' == ys') = false := by
            cases h1 : xr == yr <;> cases h2 : xs' == ys'
            all_goals first | rfl | (exfalso; apply heq; rw [show xr = yr by simpa using h1, show xs' = ys' by simpa using h2])
          have hne4 : ¬ (xr = yr ∧ xs' = ys') := fun h => heq (by rw [h.1, h.2])
          clear heq
          go_wp2
          refine wp_region_x 8 [0, 1, 2, 3, 4, 5, 6, 7] (by kernel_rfl) (by kernel_rfl) ?_
          iterate 3 (refine wpX_quiet rfl (by kernel_rfl) rfl ?_; go_wp2; refine ⟨rfl, ?_⟩)
          refine wpX_quiet rfl (by kernel_rfl) rfl ?_; go_wp2_with (first | (refine wpList_load_row _ (ad.add (j * 2)) rfl [.int .i64 _, .int .i64 _] agg_Id rfl HC.out ?_) | fail); refine ⟨rfl, ?_⟩
          iterate 3 (refine wpX_quiet rfl (by kernel_rfl) rfl ?_; go_wp2; refine ⟨rfl, ?_⟩)
          refine wpX_quiet rfl (by kernel_rfl) rfl ?_; go_wp2_with (first | (refine wpList_load_row _ (ad'.add (j * 2)) rfl [.int .i64 _, .int .i64 _] agg_Id rfl HC'.out ?_) | fail); refine ⟨rfl, ?_⟩

          refine wpX_nil ?_; simp only [List.drop_succ_cons, List.drop_zero]
          go_wp2
          all_goals first
            | (go_ret; exact ⟨ret_eq (by rw [HS.out]; rfl), BW.out.drew⟩)
            | (exfalso; simp_all; done)
      · have hjn : j = n := by omega
        subst hjn
        have hxy : xs = ys := by
          have h1 := HT.out
          rwa [List.take_of_length_le (by have := HN.out; omega), List.take_of_length_le (by have := HN'.out; omega)] at h1
        have HS := Lib.hid (show decide (xs = ys) = true by simp [hxy]); clear hxy
        go_wp2
        go_ret
        exact ⟨ret_eq (by rw [HS.out]; rfl), BW.out⟩
  · have HS := Lib.hid (show decide (xs = ys) = false by simp only [decide_eq_false_iff_not]; intro h; apply hnn; rw [HN.out, HN'.out, h])
    go_enter Tryz.func8, Tryz.ntmps8
    go_wp2
    go_ret
    exact ⟨ret_eq (by rw [HS.out]; rfl), (by repeat' (first | with_reducible exact Below.refl _ _ | with_reducible exact BW.out | with_reducible refine Below.setCell ?_ ?_ _ | with_reducible refine Below.alloc ?_ ?_ _ | with_reducible refine Below.drew ?_ | (simp; done) | (simp; omega) | omega))⟩

noncomputable def instSame (x y : InstD) : Bool := (x.id.rep == y.id.rep) && ((x.id.slot == y.id.slot) && ((x.bal == y.bal) && ((x.vbal == y.vbal) && ((x.status == y.status) && (cmdSame x.cmd y.cmd && ((x.seq == y.seq) && (decide (x.deps = y.deps) && (x.same == y.same))))))))
theorem instSame_self (x : InstD) : instSame x x = true := by simp [instSame, cmdSame]

set_option maxRecDepth 100000 in
set_option maxHeartbeats 8000000 in
theorem sameInst_any (x : InstD) (cs0 : List Value) (y : InstD) (cs1 : List Value) (w : World) (hwt0 : x.c.wt ≤ 1048576) (hwt1 : y.c.wt ≤ 1048576) (h0 : Rep anyB w x.c cs0) (h1 : Rep anyB w y.c cs1) :
    Calls Tryz.prog 18 #[.agg cs0.toArray, .agg cs1.toArray] w fun e w' => e = .returned (.bool (instSame x y)) ∧ Below w.heap.size w w' := by
  have hw0 : x.c.wt = (x.cmd.set.length + (x.cmd.name.length + (x.cmd.tag.length + (x.cmd.chunks.length + (cat strC x.cmd.chunks).wt + (x.deps.length + (cat IdD.c x.deps).wt + 0))))) := rfl
  obtain ⟨Aa0, ka0, Aa1, ka1, rfl, sa0, sa1⟩ := InstD.open h0
  obtain ⟨⟨a0, a1⟩, a2, a3, a4, ⟨a5, a6, a7, a8, a9, a10, a11, a12⟩, a13, a14, a15⟩ := x
  have hw1 : y.c.wt = (y.cmd.set.length + (y.cmd.name.length + (y.cmd.tag.length + (y.cmd.chunks.length + (cat strC y.cmd.chunks).wt + (y.deps.length + (cat IdD.c y.deps).wt + 0))))) := rfl
  obtain ⟨Ab0, kb0, Ab1, kb1, rfl, sb0, sb1⟩ := InstD.open h1
  obtain ⟨⟨b0, b1⟩, b2, b3, b4, ⟨b5, b6, b7, b8, b9, b10, b11, b12⟩, b13, b14, b15⟩ := y
  simp only [] at sa0 sa1 sb0 sb1 hw0 hw1 ⊢
  have Wa8 : a8.length ≤ 1048576 := by omega
  have Wa9 : a9.length ≤ 1048576 := by omega
  have Wa10 : a10.length ≤ 1048576 := by omega
  have Sa12 := Lib.hid sa0; clear sa0
  have Wa12 : a12.length + (cat strC a12).wt ≤ 1048576 := by omega
  have Sa14 := Lib.hid sa1; clear sa1
  have Wa14 : a14.length + (cat IdD.c a14).wt ≤ 1048576 := by omega
  have Sid0 := Lib.hid (show Rep anyB w (IdD.c ⟨a0, a1⟩) [.int .i64 a0, .int .i64 a1] from IdD.shut)
  have Wcmd0 : (CmdD.c ⟨a5, a6, a7, a8, a9, a10, a11, a12⟩).wt ≤ 1048576 := by have e0 : (CmdD.c ⟨a5, a6, a7, a8, a9, a10, a11, a12⟩).wt = (a8.length + (a9.length + (a10.length + (a12.length + (cat strC a12).wt + 0)))) := rfl; omega
  have Scmd0 := Lib.hid (show Rep anyB w (CmdD.c ⟨a5, a6, a7, a8, a9, a10, a11, a12⟩) [.int .i64 a5, .int .i64 a6, .int .i64 a7, .string (bs a8), .string (bs a9), .string (bs a10), .int .i64 a11, .slice Aa0 a12.length ka0] from CmdD.shut Sa12.out)
  have Wb8 : b8.length ≤ 1048576 := by omega
  have Wb9 : b9.length ≤ 1048576 := by omega
  have Wb10 : b10.length ≤ 1048576 := by omega
  have Sb12 := Lib.hid sb0; clear sb0
  have Wb12 : b12.length + (cat strC b12).wt ≤ 1048576 := by omega
  have Sb14 := Lib.hid sb1; clear sb1
  have Wb14 : b14.length + (cat IdD.c b14).wt ≤ 1048576 := by omega
  have Sid1 := Lib.hid (show Rep anyB w (IdD.c ⟨b0, b1⟩) [.int .i64 b0, .int .i64 b1] from IdD.shut)
  have Wcmd1 : (CmdD.c ⟨b5, b6, b7, b8, b9, b10, b11, b12⟩).wt ≤ 1048576 := by have e0 : (CmdD.c ⟨b5, b6, b7, b8, b9, b10, b11, b12⟩).wt = (b8.length + (b9.length + (b10.length + (b12.length + (cat strC b12).wt + 0)))) := rfl; omega
  have Scmd1 := Lib.hid (show Rep anyB w (CmdD.c ⟨b5, b6, b7, b8, b9, b10, b11, b12⟩) [.int .i64 b5, .int .i64 b6, .int .i64 b7, .string (bs b8), .string (bs b9), .string (bs b10), .int .i64 b11, .slice Ab0 b12.length kb0] from CmdD.shut Sb12.out)
  clear h0 hwt0 hw0 h1 hwt1 hw1
  obtain ⟨R, hR⟩ : ∃ R, R = instSame (⟨⟨a0, a1⟩, a2, a3, a4, ⟨a5, a6, a7, a8, a9, a10, a11, a12⟩, a13, a14, a15⟩ : InstD) (⟨⟨b0, b1⟩, b2, b3, b4, ⟨b5, b6, b7, b8, b9, b10, b11, b12⟩, b13, b14, b15⟩ : InstD) := ⟨_, rfl⟩
  rw [← hR]
  rw [instSame] at hR
  simp only [] at hR
  have HR := Lib.hid hR; clear hR
  go_enter Tryz.func18, Tryz.ntmps18
  cases hb0 : (a0 == b0)
  case false =>
    go_wp2
    go_ret
    exact ⟨ret_eq (congrArg Value.bool (by rw [HR.out, hb0]; rfl)), (by repeat' (first | with_reducible exact Below.refl _ _ | with_reducible exact BW.out | with_reducible refine Below.setCell ?_ ?_ _ | with_reducible refine Below.alloc ?_ ?_ _ | with_reducible refine Below.drew ?_ | (simp; done) | (simp; omega) | omega))⟩
  case true =>
    cases hb1 : (a1 == b1)
    case false =>
      go_wp2
      go_ret
      exact ⟨ret_eq (congrArg Value.bool (by rw [HR.out, hb0, hb1]; rfl)), (by repeat' (first | with_reducible exact Below.refl _ _ | with_reducible exact BW.out | with_reducible refine Below.setCell ?_ ?_ _ | with_reducible refine Below.alloc ?_ ?_ _ | with_reducible refine Below.drew ?_ | (simp; done) | (simp; omega) | omega))⟩
    case true =>
      cases hb2 : (a2 == b2)
      case false =>
        go_wp2
        go_ret
        exact ⟨ret_eq (congrArg Value.bool (by rw [HR.out, hb0, hb1, hb2]; rfl)), (by repeat' (first | with_reducible exact Below.refl _ _ | with_reducible exact BW.out | with_reducible refine Below.setCell ?_ ?_ _ | with_reducible refine Below.alloc ?_ ?_ _ | with_reducible refine Below.drew ?_ | (simp; done) | (simp; omega) | omega))⟩
      case true =>
        cases hb3 : (a3 == b3)
        case false =>
          go_wp2
          go_ret
          exact ⟨ret_eq (congrArg Value.bool (by rw [HR.out, hb0, hb1, hb2, hb3]; rfl)), (by repeat' (first | with_reducible exact Below.refl _ _ | with_reducible exact BW.out | with_reducible refine Below.setCell ?_ ?_ _ | with_reducible refine Below.alloc ?_ ?_ _ | with_reducible refine Below.drew ?_ | (simp; done) | (simp; omega) | omega))⟩
        case true =>
          cases hb4 : (a4 == b4)
          case false =>
            go_wp2
            go_ret
            exact ⟨ret_eq (congrArg Value.bool (by rw [HR.out, hb0, hb1, hb2, hb3, hb4]; rfl)), (by repeat' (first | with_reducible exact Below.refl _ _ | with_reducible exact BW.out | with_reducible refine Below.setCell ?_ ?_ _ | with_reducible refine Below.alloc ?_ ?_ _ | with_reducible refine Below.drew ?_ | (simp; done) | (simp; omega) | omega))⟩
          case true =>
            go_wp2_with fail
            refine (sSameCmd_any ⟨a5, a6, a7, a8, a9, a10, a11, a12⟩ ⟨b5, b6, b7, b8, b9, b10, b11, b12⟩ _ _ _ Wcmd0 Wcmd1 (Scmd0.out.below (by repeat' (first | with_reducible exact Below.refl _ _ | with_reducible exact BW.out | with_reducible refine Below.setCell ?_ ?_ _ | with_reducible refine Below.alloc ?_ ?_ _ | with_reducible refine Below.drew ?_ | (simp; done) | (simp; omega) | omega))) (Scmd1.out.below (by repeat' (first | with_reducible exact Below.refl _ _ | with_reducible exact BW.out | with_reducible refine Below.setCell ?_ ?_ _ | with_reducible refine Below.alloc ?_ ?_ _ | with_reducible refine Below.drew ?_ | (simp; done) | (simp; omega) | omega)))).mono ?_; rintro e v1 ⟨rfl, hb⟩
            have B0 := Lib.hid (Blk.below (blk2_0 _ _ _ _) hb)
            have B1 := Lib.hid (Blk.below (blk2_1 _ _ _ _) hb)
            have BW := Lib.hid (show Below w.heap.size w v1 from Below.trans (by repeat' (first | with_reducible exact Below.refl _ _ | with_reducible exact BW.out | with_reducible refine Below.setCell ?_ ?_ _ | with_reducible refine Below.alloc ?_ ?_ _ | with_reducible refine Below.drew ?_ | (simp; done) | (simp; omega) | omega)) (hb.mono (by first | (simp; done) | (simp; omega) | omega))); clear hb
            have hs0_0 : World.cell? v1 ⟨w.heap.size, 0, none⟩ = some (.int .i64 a0) := blk_cell0 (L := [.int .i64 a0, .int .i64 a1, .int .i64 a2, .int .i64 a3, .int .i64 a4, .int .i64 a5, .int .i64 a6, .int .i64 a7, .string (bs a8), .string (bs a9), .string (bs a10), .int .i64 a11, .slice Aa0 a12.length ka0, .int .i64 a13, .slice Aa1 a14.length ka1, .bool a15]) B0.out 0 rfl
            have hs0_1 : World.cell? v1 ⟨w.heap.size, 1, none⟩ = some (.int .i64 a1) := blk_cell0 (L := [.int .i64 a0, .int .i64 a1, .int .i64 a2, .int .i64 a3, .int .i64 a4, .int .i64 a5, .int .i64 a6, .int .i64 a7, .string (bs a8), .string (bs a9), .string (bs a10), .int .i64 a11, .slice Aa0 a12.length ka0, .int .i64 a13, .slice Aa1 a14.length ka1, .bool a15]) B0.out 1 rfl
            have hs0_2 : World.cell? v1 ⟨w.heap.size, 2, none⟩ = some (.int .i64 a2) := blk_cell0 (L := [.int .i64 a0, .int .i64 a1, .int .i64 a2, .int .i64 a3, .int .i64 a4, .int .i64 a5, .int .i64 a6, .int .i64 a7, .string (bs a8), .string (bs a9), .string (bs a10), .int .i64 a11, .slice Aa0 a12.length ka0, .int .i64 a13, .slice Aa1 a14.length ka1, .bool a15]) B0.out 2 rfl
            have hs0_3 : World.cell? v1 ⟨w.heap.size, 3, none⟩ = some (.int .i64 a3) := blk_cell0 (L := [.int .i64 a0, .int .i64 a1, .int .i64 a2, .int .i64 a3, .int .i64 a4, .int .i64 a5, .int .i64 a6, .int .i64 a7, .string (bs a8), .string (bs a9), .string (bs a10), .int .i64 a11, .slice Aa0 a12.length ka0, .int .i64 a13, .slice Aa1 a14.length ka1, .bool a15]) B0.out 3 rfl
            have hs0_4 : World.cell? v1 ⟨w.heap.size, 4, none⟩ = some (.int .i64 a4) := blk_cell0 (L := [.int .i64 a0, .int .i64 a1, .int .i64 a2, .int .i64 a3, .int .i64 a4, .int .i64 a5, .int .i64 a6, .int .i64 a7, .string (bs a8), .string (bs a9), .string (bs a10), .int .i64 a11, .slice Aa0 a12.length ka0, .int .i64 a13, .slice Aa1 a14.length ka1, .bool a15]) B0.out 4 rfl
            have hs0_5 : World.cell? v1 ⟨w.heap.size, 5, none⟩ = some (.int .i64 a5) := blk_cell0 (L := [.int .i64 a0, .int .i64 a1, .int .i64 a2, .int .i64 a3, .int .i64 a4, .int .i64 a5, .int .i64 a6, .int .i64 a7, .string (bs a8), .string (bs a9), .string (bs a10), .int .i64 a11, .slice Aa0 a12.length ka0, .int .i64 a13, .slice Aa1 a14.length ka1, .bool a15]) B0.out 5 rfl
            have hs0_6 : World.cell? v1 ⟨w.heap.size, 6, none⟩ = some (.int .i64 a6) := blk_cell0 (L := [.int .i64 a0, .int .i64 a1, .int .i64 a2, .int .i64 a3, .int .i64 a4, .int .i64 a5, .int .i64 a6, .int .i64 a7, .string (bs a8), .string (bs a9), .string (bs a10), .int .i64 a11, .slice Aa0 a12.length ka0, .int .i64 a13, .slice Aa1 a14.length ka1, .bool a15]) B0.out 6 rfl
            have hs0_7 : World.cell? v1 ⟨w.heap.size, 7, none⟩ = some (.int .i64 a7) := blk_cell0 (L := [.int .i64 a0, .int .i64 a1, .int .i64 a2, .int .i64 a3, .int .i64 a4, .int .i64 a5, .int .i64 a6, .int .i64 a7, .string (bs a8), .string (bs a9), .string (bs a10), .int .i64 a11, .slice Aa0 a12.length ka0, .int .i64 a13, .slice Aa1 a14.length ka1, .bool a15]) B0.out 7 rfl
            have hs0_8 : World.cell? v1 ⟨w.heap.size, 8, none⟩ = some (.string (bs a8)) := blk_cell0 (L := [.int .i64 a0, .int .i64 a1, .int .i64 a2, .int .i64 a3, .int .i64 a4, .int .i64 a5, .int .i64 a6, .int .i64 a7, .string (bs a8), .string (bs a9), .string (bs a10), .int .i64 a11, .slice Aa0 a12.length ka0, .int .i64 a13, .slice Aa1 a14.length ka1, .bool a15]) B0.out 8 rfl
            have hs0_9 : World.cell? v1 ⟨w.heap.size, 9, none⟩ = some (.string (bs a9)) := blk_cell0 (L := [.int .i64 a0, .int .i64 a1, .int .i64 a2, .int .i64 a3, .int .i64 a4, .int .i64 a5, .int .i64 a6, .int .i64 a7, .string (bs a8), .string (bs a9), .string (bs a10), .int .i64 a11, .slice Aa0 a12.length ka0, .int .i64 a13, .slice Aa1 a14.length ka1, .bool a15]) B0.out 9 rfl
            have hs0_10 : World.cell? v1 ⟨w.heap.size, 10, none⟩ = some (.string (bs a10)) := blk_cell0 (L := [.int .i64 a0, .int .i64 a1, .int .i64 a2, .int .i64 a3, .int .i64 a4, .int .i64 a5, .int .i64 a6, .int .i64 a7, .string (bs a8), .string (bs a9), .string (bs a10), .int .i64 a11, .slice Aa0 a12.length ka0, .int .i64 a13, .slice Aa1 a14.length ka1, .bool a15]) B0.out 10 rfl
            have hs0_11 : World.cell? v1 ⟨w.heap.size, 11, none⟩ = some (.int .i64 a11) := blk_cell0 (L := [.int .i64 a0, .int .i64 a1, .int .i64 a2, .int .i64 a3, .int .i64 a4, .int .i64 a5, .int .i64 a6, .int .i64 a7, .string (bs a8), .string (bs a9), .string (bs a10), .int .i64 a11, .slice Aa0 a12.length ka0, .int .i64 a13, .slice Aa1 a14.length ka1, .bool a15]) B0.out 11 rfl
            have hs0_12 : World.cell? v1 ⟨w.heap.size, 12, none⟩ = some (.slice Aa0 a12.length ka0) := blk_cell0 (L := [.int .i64 a0, .int .i64 a1, .int .i64 a2, .int .i64 a3, .int .i64 a4, .int .i64 a5, .int .i64 a6, .int .i64 a7, .string (bs a8), .string (bs a9), .string (bs a10), .int .i64 a11, .slice Aa0 a12.length ka0, .int .i64 a13, .slice Aa1 a14.length ka1, .bool a15]) B0.out 12 rfl
            have hs0_13 : World.cell? v1 ⟨w.heap.size, 13, none⟩ = some (.int .i64 a13) := blk_cell0 (L := [.int .i64 a0, .int .i64 a1, .int .i64 a2, .int .i64 a3, .int .i64 a4, .int .i64 a5, .int .i64 a6, .int .i64 a7, .string (bs a8), .string (bs a9), .string (bs a10), .int .i64 a11, .slice Aa0 a12.length ka0, .int .i64 a13, .slice Aa1 a14.length ka1, .bool a15]) B0.out 13 rfl
            have hs0_14 : World.cell? v1 ⟨w.heap.size, 14, none⟩ = some (.slice Aa1 a14.length ka1) := blk_cell0 (L := [.int .i64 a0, .int .i64 a1, .int .i64 a2, .int .i64 a3, .int .i64 a4, .int .i64 a5, .int .i64 a6, .int .i64 a7, .string (bs a8), .string (bs a9), .string (bs a10), .int .i64 a11, .slice Aa0 a12.length ka0, .int .i64 a13, .slice Aa1 a14.length ka1, .bool a15]) B0.out 14 rfl
            have hs0_15 : World.cell? v1 ⟨w.heap.size, 15, none⟩ = some (.bool a15) := blk_cell0 (L := [.int .i64 a0, .int .i64 a1, .int .i64 a2, .int .i64 a3, .int .i64 a4, .int .i64 a5, .int .i64 a6, .int .i64 a7, .string (bs a8), .string (bs a9), .string (bs a10), .int .i64 a11, .slice Aa0 a12.length ka0, .int .i64 a13, .slice Aa1 a14.length ka1, .bool a15]) B0.out 15 rfl
            have hs1_0 : World.cell? v1 ⟨w.heap.size + 1, 0, none⟩ = some (.int .i64 b0) := blk_cell0 (L := [.int .i64 b0, .int .i64 b1, .int .i64 b2, .int .i64 b3, .int .i64 b4, .int .i64 b5, .int .i64 b6, .int .i64 b7, .string (bs b8), .string (bs b9), .string (bs b10), .int .i64 b11, .slice Ab0 b12.length kb0, .int .i64 b13, .slice Ab1 b14.length kb1, .bool b15]) B1.out 0 rfl
            have hs1_1 : World.cell? v1 ⟨w.heap.size + 1, 1, none⟩ = some (.int .i64 b1) := blk_cell0 (L := [.int .i64 b0, .int .i64 b1, .int .i64 b2, .int .i64 b3, .int .i64 b4, .int .i64 b5, .int .i64 b6, .int .i64 b7, .string (bs b8), .string (bs b9), .string (bs b10), .int .i64 b11, .slice Ab0 b12.length kb0, .int .i64 b13, .slice Ab1 b14.length kb1, .bool b15]) B1.out 1 rfl
            have hs1_2 : World.cell? v1 ⟨w.heap.size + 1, 2, none⟩ = some (.int .i64 b2) := blk_cell0 (L := [.int .i64 b0, .int .i64 b1, .int .i64 b2, .int .i64 b3, .int .i64 b4, .int .i64 b5, .int .i64 b6, .int .i64 b7, .string (bs b8), .string (bs b9), .string (bs b10), .int .i64 b11, .slice Ab0 b12.length kb0, .int .i64 b13, .slice Ab1 b14.length kb1, .bool b15]) B1.out 2 rfl
            have hs1_3 : World.cell? v1 ⟨w.heap.size + 1, 3, none⟩ = some (.int .i64 b3) := blk_cell0 (L := [.int .i64 b0, .int .i64 b1, .int .i64 b2, .int .i64 b3, .int .i64 b4, .int .i64 b5, .int .i64 b6, .int .i64 b7, .string (bs b8), .string (bs b9), .string (bs b10), .int .i64 b11, .slice Ab0 b12.length kb0, .int .i64 b13, .slice Ab1 b14.length kb1, .bool b15]) B1.out 3 rfl
            have hs1_4 : World.cell? v1 ⟨w.heap.size + 1, 4, none⟩ = some (.int .i64 b4) := blk_cell0 (L := [.int .i64 b0, .int .i64 b1, .int .i64 b2, .int .i64 b3, .int .i64 b4, .int .i64 b5, .int .i64 b6, .int .i64 b7, .string (bs b8), .string (bs b9), .string (bs b10), .int .i64 b11, .slice Ab0 b12.length kb0, .int .i64 b13, .slice Ab1 b14.length kb1, .bool b15]) B1.out 4 rfl
            have hs1_5 : World.cell? v1 ⟨w.heap.size + 1, 5, none⟩ = some (.int .i64 b5) := blk_cell0 (L := [.int .i64 b0, .int .i64 b1, .int .i64 b2, .int .i64 b3, .int .i64 b4, .int .i64 b5, .int .i64 b6, .int .i64 b7, .string (bs b8), .string (bs b9), .string (bs b10), .int .i64 b11, .slice Ab0 b12.length kb0, .int .i64 b13, .slice Ab1 b14.length kb1, .bool b15]) B1.out 5 rfl
            have hs1_6 : World.cell? v1 ⟨w.heap.size + 1, 6, none⟩ = some (.int .i64 b6) := blk_cell0 (L := [.int .i64 b0, .int .i64 b1, .int .i64 b2, .int .i64 b3, .int .i64 b4, .int .i64 b5, .int .i64 b6, .int .i64 b7, .string (bs b8), .string (bs b9), .string (bs b10), .int .i64 b11, .slice Ab0 b12.length kb0, .int .i64 b13, .slice Ab1 b14.length kb1, .bool b15]) B1.out 6 rfl
            have hs1_7 : World.cell? v1 ⟨w.heap.size + 1, 7, none⟩ = some (.int .i64 b7) := blk_cell0 (L := [.int .i64 b0, .int .i64 b1, .int .i64 b2, .int .i64 b3, .int .i64 b4, .int .i64 b5, .int .i64 b6, .int .i64 b7, .string (bs b8), .string (bs b9), .string (bs b10), .int .i64 b11, .slice Ab0 b12.length kb0, .int .i64 b13, .slice Ab1 b14.length kb1, .bool b15]) B1.out 7 rfl
            have hs1_8 : World.cell? v1 ⟨w.heap.size + 1, 8, none⟩ = some (.string (bs b8)) := blk_cell0 (L := [.int .i64 b0, .int .i64 b1, .int .i64 b2, .int .i64 b3, .int .i64 b4, .int .i64 b5, .int .i64 b6, .int .i64 b7, .string (bs b8), .string (bs b9), .string (bs b10), .int .i64 b11, .slice Ab0 b12.length kb0, .int .i64 b13, .slice Ab1 b14.length kb1, .bool b15]) B1.out 8 rfl
            have hs1_9 : World.cell? v1 ⟨w.heap.size + 1, 9, none⟩ = some (.string (bs b9)) := blk_cell0 (L := [.int .i64 b0, .int .i64 b1, .int .i64 b2, .int .i64 b3, .int .i64 b4, .int .i64 b5, .int .i64 b6, .int .i64 b7, .string (bs b8), .string (bs b9), .string (bs b10), .int .i64 b11, .slice Ab0 b12.length kb0, .int .i64 b13, .slice Ab1 b14.length kb1, .bool b15]) B1.out 9 rfl
            have hs1_10 : World.cell? v1 ⟨w.heap.size + 1, 10, none⟩ = some (.string (bs b10)) := blk_cell0 (L := [.int .i64 b0, .int .i64 b1, .int .i64 b2, .int .i64 b3, .int .i64 b4, .int .i64 b5, .int .i64 b6, .int .i64 b7, .string (bs b8), .string (bs b9), .string (bs b10), .int .i64 b11, .slice Ab0 b12.length kb0, .int .i64 b13, .slice Ab1 b14.length kb1, .bool b15]) B1.out 10 rfl
            have hs1_11 : World.cell? v1 ⟨w.heap.size + 1, 11, none⟩ = some (.int .i64 b11) := blk_cell0 (L := [.int .i64 b0, .int .i64 b1, .int .i64 b2, .int .i64 b3, .int .i64 b4, .int .i64 b5, .int .i64 b6, .int .i64 b7, .string (bs b8), .string (bs b9), .string (bs b10), .int .i64 b11, .slice Ab0 b12.length kb0, .int .i64 b13, .slice Ab1 b14.length kb1, .bool b15]) B1.out 11 rfl
            have hs1_12 : World.cell? v1 ⟨w.heap.size + 1, 12, none⟩ = some (.slice Ab0 b12.length kb0) := blk_cell0 (L := [.int .i64 b0, .int .i64 b1, .int .i64 b2, .int .i64 b3, .int .i64 b4, .int .i64 b5, .int .i64 b6, .int .i64 b7, .string (bs b8), .string (bs b9), .string (bs b10), .int .i64 b11, .slice Ab0 b12.length kb0, .int .i64 b13, .slice Ab1 b14.length kb1, .bool b15]) B1.out 12 rfl
            have hs1_13 : World.cell? v1 ⟨w.heap.size + 1, 13, none⟩ = some (.int .i64 b13) := blk_cell0 (L := [.int .i64 b0, .int .i64 b1, .int .i64 b2, .int .i64 b3, .int .i64 b4, .int .i64 b5, .int .i64 b6, .int .i64 b7, .string (bs b8), .string (bs b9), .string (bs b10), .int .i64 b11, .slice Ab0 b12.length kb0, .int .i64 b13, .slice Ab1 b14.length kb1, .bool b15]) B1.out 13 rfl
            have hs1_14 : World.cell? v1 ⟨w.heap.size + 1, 14, none⟩ = some (.slice Ab1 b14.length kb1) := blk_cell0 (L := [.int .i64 b0, .int .i64 b1, .int .i64 b2, .int .i64 b3, .int .i64 b4, .int .i64 b5, .int .i64 b6, .int .i64 b7, .string (bs b8), .string (bs b9), .string (bs b10), .int .i64 b11, .slice Ab0 b12.length kb0, .int .i64 b13, .slice Ab1 b14.length kb1, .bool b15]) B1.out 14 rfl
            have hs1_15 : World.cell? v1 ⟨w.heap.size + 1, 15, none⟩ = some (.bool b15) := blk_cell0 (L := [.int .i64 b0, .int .i64 b1, .int .i64 b2, .int .i64 b3, .int .i64 b4, .int .i64 b5, .int .i64 b6, .int .i64 b7, .string (bs b8), .string (bs b9), .string (bs b10), .int .i64 b11, .slice Ab0 b12.length kb0, .int .i64 b13, .slice Ab1 b14.length kb1, .bool b15]) B1.out 15 rfl
            cases hb5 : cmdSame ⟨a5, a6, a7, a8, a9, a10, a11, a12⟩ ⟨b5, b6, b7, b8, b9, b10, b11, b12⟩
            case false =>
              go_wp2
              go_ret
              exact ⟨ret_eq (congrArg Value.bool (by rw [HR.out, hb0, hb1, hb2, hb3, hb4, hb5]; rfl)), BW.out⟩
            case true =>
              cases hb6 : (a13 == b13)
              case false =>
                go_wp2
                go_ret
                exact ⟨ret_eq (congrArg Value.bool (by rw [HR.out, hb0, hb1, hb2, hb3, hb4, hb5, hb6]; rfl)), BW.out⟩
              case true =>
                go_wp2_with fail
                refine (sameIds_any a14 b14 _ _ _ _ _ _ _ rfl rfl (by omega) (by omega) (Sa14.out.below BW.out) (Sb14.out.below BW.out)).mono ?_; rintro e v2 ⟨rfl, hb⟩
                have X := Lib.hid (B0.out.below hb); clear B0
                have B0 := Lib.hid X.out; clear X
                have X := Lib.hid (B1.out.below hb); clear B1
                have B1 := Lib.hid X.out; clear X
                have X := Lib.hid (show Below w.heap.size w v2 from BW.out.trans (hb.mono BW.out.size)); clear BW hb
                have BW := Lib.hid X.out; clear X
                clear hs0_0 hs0_1 hs0_2 hs0_3 hs0_4 hs0_5 hs0_6 hs0_7 hs0_8 hs0_9 hs0_10 hs0_11 hs0_12 hs0_13 hs0_14 hs0_15 hs1_0 hs1_1 hs1_2 hs1_3 hs1_4 hs1_5 hs1_6 hs1_7 hs1_8 hs1_9 hs1_10 hs1_11 hs1_12 hs1_13 hs1_14 hs1_15
                have hs0_0 : World.cell? v2 ⟨w.heap.size, 0, none⟩ = some (.int .i64 a0) := blk_cell0 (L := [.int .i64 a0, .int .i64 a1, .int .i64 a2, .int .i64 a3, .int .i64 a4, .int .i64 a5, .int .i64 a6, .int .i64 a7, .string (bs a8), .string (bs a9), .string (bs a10), .int .i64 a11, .slice Aa0 a12.length ka0, .int .i64 a13, .slice Aa1 a14.length ka1, .bool a15]) B0.out 0 rfl
                have hs0_1 : World.cell? v2 ⟨w.heap.size, 1, none⟩ = some (.int .i64 a1) := blk_cell0 (L := [.int .i64 a0, .int .i64 a1, .int .i64 a2, .int .i64 a3, .int .i64 a4, .int .i64 a5, .int .i64 a6, .int .i64 a7, .string (bs a8), .string (bs a9), .string (bs a10), .int .i64 a11, .slice Aa0 a12.length ka0, .int .i64 a13, .slice Aa1 a14.length ka1, .bool a15]) B0.out 1 rfl
                have hs0_2 : World.cell? v2 ⟨w.heap.size, 2, none⟩ = some (.int .i64 a2) := blk_cell0 (L := [.int .i64 a0, .int .i64 a1, .int .i64 a2, .int .i64 a3, .int .i64 a4, .int .i64 a5, .int .i64 a6, .int .i64 a7, .string (bs a8), .string (bs a9), .string (bs a10), .int .i64 a11, .slice Aa0 a12.length ka0, .int .i64 a13, .slice Aa1 a14.length ka1, .bool a15]) B0.out 2 rfl
                have hs0_3 : World.cell? v2 ⟨w.heap.size, 3, none⟩ = some (.int .i64 a3) := blk_cell0 (L := [.int .i64 a0, .int .i64 a1, .int .i64 a2, .int .i64 a3, .int .i64 a4, .int .i64 a5, .int .i64 a6, .int .i64 a7, .string (bs a8), .string (bs a9), .string (bs a10), .int .i64 a11, .slice Aa0 a12.length ka0, .int .i64 a13, .slice Aa1 a14.length ka1, .bool a15]) B0.out 3 rfl
                have hs0_4 : World.cell? v2 ⟨w.heap.size, 4, none⟩ = some (.int .i64 a4) := blk_cell0 (L := [.int .i64 a0, .int .i64 a1, .int .i64 a2, .int .i64 a3, .int .i64 a4, .int .i64 a5, .int .i64 a6, .int .i64 a7, .string (bs a8), .string (bs a9), .string (bs a10), .int .i64 a11, .slice Aa0 a12.length ka0, .int .i64 a13, .slice Aa1 a14.length ka1, .bool a15]) B0.out 4 rfl
                have hs0_5 : World.cell? v2 ⟨w.heap.size, 5, none⟩ = some (.int .i64 a5) := blk_cell0 (L := [.int .i64 a0, .int .i64 a1, .int .i64 a2, .int .i64 a3, .int .i64 a4, .int .i64 a5, .int .i64 a6, .int .i64 a7, .string (bs a8), .string (bs a9), .string (bs a10), .int .i64 a11, .slice Aa0 a12.length ka0, .int .i64 a13, .slice Aa1 a14.length ka1, .bool a15]) B0.out 5 rfl
                have hs0_6 : World.cell? v2 ⟨w.heap.size, 6, none⟩ = some (.int .i64 a6) := blk_cell0 (L := [.int .i64 a0, .int .i64 a1, .int .i64 a2, .int .i64 a3, .int .i64 a4, .int .i64 a5, .int .i64 a6, .int .i64 a7, .string (bs a8), .string (bs a9), .string (bs a10), .int .i64 a11, .slice Aa0 a12.length ka0, .int .i64 a13, .slice Aa1 a14.length ka1, .bool a15]) B0.out 6 rfl
                have hs0_7 : World.cell? v2 ⟨w.heap.size, 7, none⟩ = some (.int .i64 a7) := blk_cell0 (L := [.int .i64 a0, .int .i64 a1, .int .i64 a2, .int .i64 a3, .int .i64 a4, .int .i64 a5, .int .i64 a6, .int .i64 a7, .string (bs a8), .string (bs a9), .string (bs a10), .int .i64 a11, .slice Aa0 a12.length ka0, .int .i64 a13, .slice Aa1 a14.length ka1, .bool a15]) B0.out 7 rfl
                have hs0_8 : World.cell? v2 ⟨w.heap.size, 8, none⟩ = some (.string (bs a8)) := blk_cell0 (L := [.int .i64 a0, .int .i64 a1, .int .i64 a2, .int .i64 a3, .int .i64 a4, .int .i64 a5, .int .i64 a6, .int .i64 a7, .string (bs a8), .string (bs a9), .string (bs a10), .int .i64 a11, .slice Aa0 a12.length ka0, .int .i64 a13, .slice Aa1 a14.length ka1, .bool a15]) B0.out 8 rfl
                have hs0_9 : World.cell? v2 ⟨w.heap.size, 9, none⟩ = some (.string (bs a9)) := blk_cell0 (L := [.int .i64 a0, .int .i64 a1, .int .i64 a2, .int .i64 a3, .int .i64 a4, .int .i64 a5, .int .i64 a6, .int .i64 a7, .string (bs a8), .string (bs a9), .string (bs a10), .int .i64 a11, .slice Aa0 a12.length ka0, .int .i64 a13, .slice Aa1 a14.length ka1, .bool a15]) B0.out 9 rfl
                have hs0_10 : World.cell? v2 ⟨w.heap.size, 10, none⟩ = some (.string (bs a10)) := blk_cell0 (L := [.int .i64 a0, .int .i64 a1, .int .i64 a2, .int .i64 a3, .int .i64 a4, .int .i64 a5, .int .i64 a6, .int .i64 a7, .string (bs a8), .string (bs a9), .string (bs a10), .int .i64 a11, .slice Aa0 a12.length ka0, .int .i64 a13, .slice Aa1 a14.length ka1, .bool a15]) B0.out 10 rfl
                have hs0_11 : World.cell? v2 ⟨w.heap.size, 11, none⟩ = some (.int .i64 a11) := blk_cell0 (L := [.int .i64 a0, .int .i64 a1, .int .i64 a2, .int .i64 a3, .int .i64 a4, .int .i64 a5, .int .i64 a6, .int .i64 a7, .string (bs a8), .string (bs a9), .string (bs a10), .int .i64 a11, .slice Aa0 a12.length ka0, .int .i64 a13, .slice Aa1 a14.length ka1, .bool a15]) B0.out 11 rfl
                have hs0_12 : World.cell? v2 ⟨w.heap.size, 12, none⟩ = some (.slice Aa0 a12.length ka0) := blk_cell0 (L := [.int .i64 a0, .int .i64 a1, .int .i64 a2, .int .i64 a3, .int .i64 a4, .int .i64 a5, .int .i64 a6, .int .i64 a7, .string (bs a8), .string (bs a9), .string (bs a10), .int .i64 a11, .slice Aa0 a12.length ka0, .int .i64 a13, .slice Aa1 a14.length ka1, .bool a15]) B0.out 12 rfl
                have hs0_13 : World.cell? v2 ⟨w.heap.size, 13, none⟩ = some (.int .i64 a13) := blk_cell0 (L := [.int .i64 a0, .int .i64 a1, .int .i64 a2, .int .i64 a3, .int .i64 a4, .int .i64 a5, .int .i64 a6, .int .i64 a7, .string (bs a8), .string (bs a9), .string (bs a10), .int .i64 a11, .slice Aa0 a12.length ka0, .int .i64 a13, .slice Aa1 a14.length ka1, .bool a15]) B0.out 13 rfl
                have hs0_14 : World.cell? v2 ⟨w.heap.size, 14, none⟩ = some (.slice Aa1 a14.length ka1) := blk_cell0 (L := [.int .i64 a0, .int .i64 a1, .int .i64 a2, .int .i64 a3, .int .i64 a4, .int .i64 a5, .int .i64 a6, .int .i64 a7, .string (bs a8), .string (bs a9), .string (bs a10), .int .i64 a11, .slice Aa0 a12.length ka0, .int .i64 a13, .slice Aa1 a14.length ka1, .bool a15]) B0.out 14 rfl
                have hs0_15 : World.cell? v2 ⟨w.heap.size, 15, none⟩ = some (.bool a15) := blk_cell0 (L := [.int .i64 a0, .int .i64 a1, .int .i64 a2, .int .i64 a3, .int .i64 a4, .int .i64 a5, .int .i64 a6, .int .i64 a7, .string (bs a8), .string (bs a9), .string (bs a10), .int .i64 a11, .slice Aa0 a12.length ka0, .int .i64 a13, .slice Aa1 a14.length ka1, .bool a15]) B0.out 15 rfl
                have hs1_0 : World.cell? v2 ⟨w.heap.size + 1, 0, none⟩ = some (.int .i64 b0) := blk_cell0 (L := [.int .i64 b0, .int .i64 b1, .int .i64 b2, .int .i64 b3, .int .i64 b4, .int .i64 b5, .int .i64 b6, .int .i64 b7, .string (bs b8), .string (bs b9), .string (bs b10), .int .i64 b11, .slice Ab0 b12.length kb0, .int .i64 b13, .slice Ab1 b14.length kb1, .bool b15]) B1.out 0 rfl
                have hs1_1 : World.cell? v2 ⟨w.heap.size + 1, 1, none⟩ = some (.int .i64 b1) := blk_cell0 (L := [.int .i64 b0, .int .i64 b1, .int .i64 b2, .int .i64 b3, .int .i64 b4, .int .i64 b5, .int .i64 b6, .int .i64 b7, .string (bs b8), .string (bs b9), .string (bs b10), .int .i64 b11, .slice Ab0 b12.length kb0, .int .i64 b13, .slice Ab1 b14.length kb1, .bool b15]) B1.out 1 rfl
                have hs1_2 : World.cell? v2 ⟨w.heap.size + 1, 2, none⟩ = some (.int .i64 b2) := blk_cell0 (L := [.int .i64 b0, .int .i64 b1, .int .i64 b2, .int .i64 b3, .int .i64 b4, .int .i64 b5, .int .i64 b6, .int .i64 b7, .string (bs b8), .string (bs b9), .string (bs b10), .int .i64 b11, .slice Ab0 b12.length kb0, .int .i64 b13, .slice Ab1 b14.length kb1, .bool b15]) B1.out 2 rfl
                have hs1_3 : World.cell? v2 ⟨w.heap.size + 1, 3, none⟩ = some (.int .i64 b3) := blk_cell0 (L := [.int .i64 b0, .int .i64 b1, .int .i64 b2, .int .i64 b3, .int .i64 b4, .int .i64 b5, .int .i64 b6, .int .i64 b7, .string (bs b8), .string (bs b9), .string (bs b10), .int .i64 b11, .slice Ab0 b12.length kb0, .int .i64 b13, .slice Ab1 b14.length kb1, .bool b15]) B1.out 3 rfl
                have hs1_4 : World.cell? v2 ⟨w.heap.size + 1, 4, none⟩ = some (.int .i64 b4) := blk_cell0 (L := [.int .i64 b0, .int .i64 b1, .int .i64 b2, .int .i64 b3, .int .i64 b4, .int .i64 b5, .int .i64 b6, .int .i64 b7, .string (bs b8), .string (bs b9), .string (bs b10), .int .i64 b11, .slice Ab0 b12.length kb0, .int .i64 b13, .slice Ab1 b14.length kb1, .bool b15]) B1.out 4 rfl
                have hs1_5 : World.cell? v2 ⟨w.heap.size + 1, 5, none⟩ = some (.int .i64 b5) := blk_cell0 (L := [.int .i64 b0, .int .i64 b1, .int .i64 b2, .int .i64 b3, .int .i64 b4, .int .i64 b5, .int .i64 b6, .int .i64 b7, .string (bs b8), .string (bs b9), .string (bs b10), .int .i64 b11, .slice Ab0 b12.length kb0, .int .i64 b13, .slice Ab1 b14.length kb1, .bool b15]) B1.out 5 rfl
                have hs1_6 : World.cell? v2 ⟨w.heap.size + 1, 6, none⟩ = some (.int .i64 b6) := blk_cell0 (L := [.int .i64 b0, .int .i64 b1, .int .i64 b2, .int .i64 b3, .int .i64 b4, .int .i64 b5, .int .i64 b6, .int .i64 b7, .string (bs b8), .string (bs b9), .string (bs b10), .int .i64 b11, .slice Ab0 b12.length kb0, .int .i64 b13, .slice Ab1 b14.length kb1, .bool b15]) B1.out 6 rfl
                have hs1_7 : World.cell? v2 ⟨w.heap.size + 1, 7, none⟩ = some (.int .i64 b7) := blk_cell0 (L := [.int .i64 b0, .int .i64 b1, .int .i64 b2, .int .i64 b3, .int .i64 b4, .int .i64 b5, .int .i64 b6, .int .i64 b7, .string (bs b8), .string (bs b9), .string (bs b10), .int .i64 b11, .slice Ab0 b12.length kb0, .int .i64 b13, .slice Ab1 b14.length kb1, .bool b15]) B1.out 7 rfl
                have hs1_8 : World.cell? v2 ⟨w.heap.size + 1, 8, none⟩ = some (.string (bs b8)) := blk_cell0 (L := [.int .i64 b0, .int .i64 b1, .int .i64 b2, .int .i64 b3, .int .i64 b4, .int .i64 b5, .int .i64 b6, .int .i64 b7, .string (bs b8), .string (bs b9), .string (bs b10), .int .i64 b11, .slice Ab0 b12.length kb0, .int .i64 b13, .slice Ab1 b14.length kb1, .bool b15]) B1.out 8 rfl
                have hs1_9 : World.cell? v2 ⟨w.heap.size + 1, 9, none⟩ = some (.string (bs b9)) := blk_cell0 (L := [.int .i64 b0, .int .i64 b1, .int .i64 b2, .int .i64 b3, .int .i64 b4, .int .i64 b5, .int .i64 b6, .int .i64 b7, .string (bs b8), .string (bs b9), .string (bs b10), .int .i64 b11, .slice Ab0 b12.length kb0, .int .i64 b13, .slice Ab1 b14.length kb1, .bool b15]) B1.out 9 rfl
                have hs1_10 : World.cell? v2 ⟨w.heap.size + 1, 10, none⟩ = some (.string (bs b10)) := blk_cell0 (L := [.int .i64 b0, .int .i64 b1, .int .i64 b2, .int .i64 b3, .int .i64 b4, .int .i64 b5, .int .i64 b6, .int .i64 b7, .string (bs b8), .string (bs b9), .string (bs b10), .int .i64 b11, .slice Ab0 b12.length kb0, .int .i64 b13, .slice Ab1 b14.length kb1, .bool b15]) B1.out 10 rfl
                have hs1_11 : World.cell? v2 ⟨w.heap.size + 1, 11, none⟩ = some (.int .i64 b11) := blk_cell0 (L := [.int .i64 b0, .int .i64 b1, .int .i64 b2, .int .i64 b3, .int .i64 b4, .int .i64 b5, .int .i64 b6, .int .i64 b7, .string (bs b8), .string (bs b9), .string (bs b10), .int .i64 b11, .slice Ab0 b12.length kb0, .int .i64 b13, .slice Ab1 b14.length kb1, .bool b15]) B1.out 11 rfl
                have hs1_12 : World.cell? v2 ⟨w.heap.size + 1, 12, none⟩ = some (.slice Ab0 b12.length kb0) := blk_cell0 (L := [.int .i64 b0, .int .i64 b1, .int .i64 b2, .int .i64 b3, .int .i64 b4, .int .i64 b5, .int .i64 b6, .int .i64 b7, .string (bs b8), .string (bs b9), .string (bs b10), .int .i64 b11, .slice Ab0 b12.length kb0, .int .i64 b13, .slice Ab1 b14.length kb1, .bool b15]) B1.out 12 rfl
                have hs1_13 : World.cell? v2 ⟨w.heap.size + 1, 13, none⟩ = some (.int .i64 b13) := blk_cell0 (L := [.int .i64 b0, .int .i64 b1, .int .i64 b2, .int .i64 b3, .int .i64 b4, .int .i64 b5, .int .i64 b6, .int .i64 b7, .string (bs b8), .string (bs b9), .string (bs b10), .int .i64 b11, .slice Ab0 b12.length kb0, .int .i64 b13, .slice Ab1 b14.length kb1, .bool b15]) B1.out 13 rfl
                have hs1_14 : World.cell? v2 ⟨w.heap.size + 1, 14, none⟩ = some (.slice Ab1 b14.length kb1) := blk_cell0 (L := [.int .i64 b0, .int .i64 b1, .int .i64 b2, .int .i64 b3, .int .i64 b4, .int .i64 b5, .int .i64 b6, .int .i64 b7, .string (bs b8), .string (bs b9), .string (bs b10), .int .i64 b11, .slice Ab0 b12.length kb0, .int .i64 b13, .slice Ab1 b14.length kb1, .bool b15]) B1.out 14 rfl
                have hs1_15 : World.cell? v2 ⟨w.heap.size + 1, 15, none⟩ = some (.bool b15) := blk_cell0 (L := [.int .i64 b0, .int .i64 b1, .int .i64 b2, .int .i64 b3, .int .i64 b4, .int .i64 b5, .int .i64 b6, .int .i64 b7, .string (bs b8), .string (bs b9), .string (bs b10), .int .i64 b11, .slice Ab0 b12.length kb0, .int .i64 b13, .slice Ab1 b14.length kb1, .bool b15]) B1.out 15 rfl
                cases hb7 : decide (a14 = b14)
                case false =>
                  go_wp2
                  go_ret
                  exact ⟨ret_eq (congrArg Value.bool (by rw [HR.out, hb0, hb1, hb2, hb3, hb4, hb5, hb6, hb7]; rfl)), BW.out⟩
                case true =>
                  go_wp2
                  go_ret
                  exact ⟨ret_eq (congrArg Value.bool (by rw [HR.out, hb0, hb1, hb2, hb3, hb4, hb5, hb6, hb7]; rfl)), BW.out⟩

set_option maxRecDepth 100000 in
set_option maxHeartbeats 2000000 in
theorem sameInsts_any (xs ys : List InstD) (A A' : Option Addr) (n n' c c' : Nat) (w : World) (hn : n = xs.length) (hn' : n' = ys.length) (hwt : n + (cat InstD.c xs).wt ≤ 1048576) (hwt' : n' + (cat InstD.c ys).wt ≤ 1048576) (h : Rep anyB w (.sl 38 16 n (cat InstD.c xs) .nil) [.slice A n c]) (h' : Rep anyB w (.sl 38 16 n' (cat InstD.c ys) .nil) [.slice A' n' c']) :
    Calls Tryz.prog 20 #[.slice A n c, .slice A' n' c'] w fun e w' => ∃ b, e = .returned (.bool b) ∧ (xs = ys → b = true) ∧ Below w.heap.size w w' := by
  have HN := Lib.hid hn; clear hn
  have HN' := Lib.hid hn'; clear hn'
  have HR := Lib.hid h; clear h
  have HR' := Lib.hid h'; clear h'
  go_enter Tryz.func20, Tryz.ntmps20
  by_cases hnn : n = n'
  · subst hnn
    go_wp2
    go_loopw [5] (fun ii wr => ∃ j : Nat, j ≤ n ∧ ii = .int .i64 (j : Int) ∧ Below w.heap.size w wr) (fun ii _ => n - (intOf ii).toNat)
    case atStart => exact ⟨0, Nat.zero_le _, rfl, Below.refl _ _⟩
    case round =>
      obtain ⟨j, hj, rfl, hbel⟩ := hrel
      have BW := Lib.hid hbel; clear hbel
      by_cases hlt : j < n
      · have hjx : j < xs.length := by have := HN.out; omega
        have hjy : j < ys.length := by have := HN'.out; omega
        obtain ⟨ad, ci, rfl, _, _, hrc, hl, hc⟩ := (HR.out.below BW.out).elem InstD.width j hjx HN.out
        obtain ⟨ad', ci', rfl, _, _, hrc', hl', hc'⟩ := (HR'.out.below BW.out).elem InstD.width j hjy HN'.out
        have hwx := cat_wt_le (f := InstD.c) (List.getElem_mem hjx)
        have hwy := cat_wt_le (f := InstD.c) (List.getElem_mem hjy)
        have HC := Lib.hid hc; clear hc
        have HC' := Lib.hid hc'; clear hc'
        have HL := Lib.hid hl; clear hl
        have HL' := Lib.hid hl'; clear hl'
        have HRC := Lib.hid hrc; clear hrc
        have HRC' := Lib.hid hrc'; clear hrc'
        have hself : xs = ys → instSame xs[j] ys[j] = true := fun e => by subst e; exact instSame_self _
        have HSE := Lib.hid hself; clear hself
        go_wp2
        refine wp_region_x 8 [0, 1, 2, 3, 4, 5, 6, 7] (by kernel_rfl) (by kernel_rfl) ?_
        iterate 3 (refine wpX_quiet rfl (by kernel_rfl) rfl ?_; go_wp2; refine ⟨rfl, ?_⟩)
        refine wpX_quiet rfl (by kernel_rfl) rfl ?_; go_wp2_with (first | (refine wpList_load_row _ (ad.add (j * 16)) rfl ci agg_Inst HL.out HC.out ?_) | fail); refine ⟨rfl, ?_⟩
        iterate 3 (refine wpX_quiet rfl (by kernel_rfl) rfl ?_; go_wp2; refine ⟨rfl, ?_⟩)
        refine wpX_quiet rfl (by kernel_rfl) rfl ?_; go_wp2_with (first | (refine wpList_load_row _ (ad'.add (j * 16)) rfl ci' agg_Inst HL'.out HC'.out ?_) | fail); refine ⟨rfl, ?_⟩
        refine wpX_nil ?_; simp only [List.drop_succ_cons, List.drop_zero]
        go_wp2_with fail
        refine (sameInst_any _ ci _ ci' _ (by omega) (by omega) HRC.out.drew HRC'.out.drew).mono ?_
        rintro e w2 ⟨rfl, hb⟩
        have B2 := Lib.hid (show Below w.heap.size w w2 from BW.out.drew.trans (hb.mono BW.out.size)); clear hb
        cases hs : instSame xs[j] ys[j] with
        | true =>
          clear hs
          go_wp2
          exact ⟨⟨j + 1, by omega, by go_num, B2.out⟩, by simp only [intOf]; omega⟩
        | false =>
          have HS := Lib.hid hs; clear hs
          go_wp2
          go_ret
          exact ⟨false, ret_eq rfl, (fun e => by have h1 := HSE.out e; rw [HS.out] at h1; cases h1), B2.out⟩
      · have hjn : j = n := by omega
        subst hjn
        go_wp2
        go_ret
        exact ⟨true, ret_eq rfl, fun _ => rfl, BW.out⟩
  · have hb1 : ((n : Int) != (n' : Int)) = true := by simpa using fun h : (n : Int) = (n' : Int) => hnn (by omega)
    have HNN := Lib.hid hnn; clear hnn
    go_wp2
    go_ret
    exact ⟨false, ret_eq rfl, fun e => absurd (by rw [HN.out, HN'.out, e]) HNN.out, Below.refl _ _⟩

end Go.Proofs.YtonaacdefidomaaGreat
namespace Go.Proofs.YtonaacdefidomaaGreat
open Go.RowKit Go.ChangeShapes Go.WideShapes Go.ChangeAt

theorem own : ownKnob Tryz.prog.godebug = none := by kernel_rfl
theorem laidOut : laidOutB Tryz.prog = true := by kernel_rfl

section
variable {H : Type} {enc : TypeId × Value → H} {P : Program}
theorem trodAll_stays (hl : laidOutB P = true) {W W' : World} (hb : Below W.heap.size W W') (sp : Nat → Bool) :
    ∀ (ts : List TypeId) (vs : List Value) (ds : List (DataW H)) (ps : List MemPlace), ts.all (fun t => P.readableRec t && decide (t < P.types.size)) = true →
      DataW.TrodAll enc P W 0 (fun _ => true) true ts vs ds ps → (∀ x ∈ ps, x.block < W.heap.size) → (∀ x ∈ ps, sp x.block = true) → DataW.TrodAll enc P W' 0 sp true ts vs ds ps
  | [], vs, ds, ps, _, h, _, _ => by
    obtain ⟨rfl, rfl, rfl⟩ := trodAll_nil h
    exact trodAll_mk0
  | t :: ts, vs, ds, ps, hr, h, hlt, hsp => by
    obtain ⟨v, vs', d, ds', p, q, rfl, rfl, rfl, hd, hrest⟩ := trodAll_cons h
    simp only [List.all_cons, Bool.and_eq_true, decide_eq_true_eq] at hr
    exact trodAll_cons_mk (WideElems.Trod_stays hl hr.1.1 hr.1.2 hd (fun x hx => hb.same (hlt x (by simp [hx]))) (fun x hx => hsp x (by simp [hx])))
      (trodAll_stays hl hb sp ts vs' ds' q hr.2 hrest (fun x hx => hlt x (by simp [hx])) (fun x hx => hsp x (by simp [hx])))

theorem law_post {f : Func} {s : ChangeSpec} {W W' : World} {args : Array Value} {ds gs : List (DataW H)} {before : List MemPlace} {tb : TypeId}
    (hl : laidOutB P = true) (hr : f.params.toList.all (fun t => P.readableRec t && decide (t < P.types.size)) = true) (hres : f.resultTypes = #[tb]) (htb : P.underlying tb = some .bool)
    (hv : s.vars = []) (hs : ∀ ds : List (DataW H), ds.length = f.params.toList.length → s.fn H ds = { results := [.lit (.bool true)], args := ds })
    (hW : DataW.Whole enc P f.params.toList s.vars false W args.toList ds gs before) (hb : Below W.heap.size W W') :
    s.post enc P f false true false false W args (.bool true) W' := by
  have hlt : ∀ p ∈ before, p.block < W.heap.size := fun p hp => hW.lt p hp
  have hold : ∀ p ∈ before, (fun b => decide (b < W.heap.size)) p.block = true := fun p hp => by simpa using hlt p hp
  have hW' := hW
  obtain ⟨pa, pv, hA, hV, hps, hz, _⟩ := hW
  rw [hv] at hV
  obtain ⟨rfl, rfl⟩ := trodVars_none hV
  have hps' : before = pa := by simpa using hps
  subst hps'
  have hlen : ds.length = f.params.toList.length := by
    have : ∀ (ts : List TypeId) (vs : List Value) (ds : List (DataW H)) (ps : List MemPlace), DataW.TrodAll enc P W 0 (fun _ => true) true ts vs ds ps → ds.length = ts.length := by
      intro ts
      induction ts with
      | nil => intro vs ds ps h; obtain ⟨_, rfl, _⟩ := trodAll_nil h; rfl
      | cons t ts ih =>
        intro vs ds ps h
        obtain ⟨v, vs', d, ds', p, q, rfl, rfl, rfl, _, hrest⟩ := trodAll_cons h
        simp [ih _ _ _ hrest]
    exact this _ _ _ _ hA
  have hfn := hs ds hlen
  have hargs : ∀ sp : Nat → Bool, (∀ p ∈ before, sp p.block = true) → DataW.TrodAll enc P W' 0 sp true f.params.toList args.toList (s.fn H (ds ++ [])).args before := fun sp hsp => by
    rw [List.append_nil, hfn]
    exact trodAll_stays hl hb sp _ _ _ _ hr hA hlt hsp
  have hresl : ∀ (b : Nat) (sp : Nat → Bool) (hd : Bool), DataW.TrodAll enc P W' b sp hd f.resultTypes.toList ((Value.bool true).resultList f.resultTypes.size) (s.fn H (ds ++ [])).results [] := by
    intro b sp hd
    rw [List.append_nil, hfn, hres]
    exact trodAll_cons_mk (shut_bool htb _) trodAll_mk0
  have hvars : ∀ sp : Nat → Bool, (∀ p ∈ before, sp p.block = true) → DataW.TrodVars enc P W' sp s.vars (s.fn H (ds ++ [])).vars [] := fun _ _ => by
    rw [hv, List.append_nil, hfn]
    exact rfl
  refine ⟨ds, [], before, [], before, [], hW', hresl _ _ _, hargs _ hold, hvars _ hold, World.keptBut_mono (fun p hp => ⟨hp, Or.inr (Or.inl hp)⟩) (hb.frame (· ∈ before)), fun _ => ?_⟩
  refine ⟨?_, _, _, ([] ++ before) ++ [], ⟨[] ++ before, [], trodAll_append (hargs _ (fun _ _ => rfl)) (hresl _ _ _), hvars _ (fun _ _ => rfl), rfl, ?_, ?_⟩, ?_⟩
  · intro j t r hj hr'
    rw [hres] at hj hr'
    match j, hj, hr' with
    | 0, hj, hr' =>
      simp [Value.resultList] at hj hr'
      subst hj; subst hr'
      exact okWide_bool_mk htb _
  · intro b off hp
    have hin : MemPlace.cell b off ∈ before := by simpa using hp
    rw [hb.frozen (hlt _ hin)]
    exact hz b off hin
  · intro ha; cases ha
  · intro p hp _
    simpa using hp
end
end Go.Proofs.YtonaacdefidomaaGreat
namespace Go.Proofs.YtonaacdefidomaaGreat
open Go.RowKit Go.ChangeShapes Go.WideShapes Go.ChangeAt Go.Deep

theorem str_le {l : List UInt8} (h : (bs l).size ≤ maxLen) : l.length ≤ 9223372036854775807 := by
  rw [bs_size] at h
  simp only [maxLen] at h
  omega
theorem open_sl {α : Type} {f : α → Cs} {sz e' : Nat} (hsz : 0 < sz) (hw : ∀ x, (f x).width = sz) {H : Type} {enc : TypeId × Value → H} {P : Program} {w : World} {base : Nat} {spare : Nat → Bool} {held : Bool} {t e : TypeId}
    (helem : ∀ fuel cs x, DataW.trod enc P w base spare held fuel e cs = some x → ∃ d : α, (f d).ok ∧ Rep anyB w (f d) cs) (hC : P.cellsOf e = sz) (ht : P.underlying t = some (.slice e))
    {fuel : Nat} {cs : List Value} {x : DataW H × List MemPlace} (h : DataW.trod enc P w base spare held fuel t cs = some x) :
    ∃ (ds : List α) (A : Option Addr) (n c : Nat), cs = [.slice A n c] ∧ n = ds.length ∧ n ≤ 9223372036854775807 ∧ (cat f ds).ok ∧ Rep anyB w (.sl e' sz n (cat f ds) .nil) [.slice A n c] := by
  rcases open_slice ht h with ⟨rfl, _⟩ | ⟨a, len, cap, m, n, D, Pl, rfl, hb, hl, hm, hmm, rfl, hx⟩
  · exact ⟨[], none, 0, 0, rfl, rfl, by omega, trivial, Rep.sl_nil⟩
  · have hlm : len ≤ m := by rw [hmm]; split <;> omega
    have key : ∀ k, k ≤ len → ∃ (ds : List α) (cells : List Value), ds.length = k ∧ cells.length = k * sz ∧ (cat f ds).ok ∧ Rep anyB w (cat f ds) cells ∧ ∀ j u, cells[j]? = some u → w.cell? (a.add j) = some u := by
      intro k
      induction k with
      | zero => exact fun _ => ⟨[], [], rfl, by simp, trivial, rfl, by simp⟩
      | succ k ih =>
        intro hk
        obtain ⟨ds, cells, h1, h2, h3, h4, h5⟩ := ih (by omega)
        obtain ⟨cs', h6, h7⟩ := hx k (by omega)
        rw [hC] at h6
        obtain ⟨_, h8, h9⟩ := World.cells?_some h6
        obtain ⟨d, h10, h11⟩ := helem _ _ _ h7
        refine ⟨ds ++ [d], cells ++ cs', by simp [h1], by rw [List.length_append, h2, h8, Nat.succ_mul], ?_, ?_, ?_⟩
        · rw [cat_app, Cs.ok_app, cat_one]; exact ⟨h3, h10⟩
        · rw [cat_app, cat_one]; exact Rep.app.2 ⟨_, _, rfl, h4, h11⟩
        · intro j u hu
          by_cases hj : j < cells.length
          · rw [List.getElem?_append_left hj] at hu; exact h5 j u hu
          · rw [List.getElem?_append_right (by omega)] at hu
            have hlt := (List.getElem?_eq_some_iff.1 hu).1
            have := h9 (j - cells.length) (by omega)
            rw [hu, add_of_add, show k * sz + (j - cells.length) = j by omega] at this
            exact this
    obtain ⟨ds, cells, h1, h2, h3, h4, h5⟩ := key len (Nat.le_refl _)
    refine ⟨ds, some a, len, cap, rfl, h1.symm, ?_, h3, ?_⟩
    · simp only [maxLen] at hm; omega
    · simp only [Rep]
      refine ⟨some a, cap, cells, [], rfl, by rw [cat_width hw, h1], fun hne => ⟨a, rfl, trivial, ?_, h5⟩, h4, rfl⟩
      have hpos : 0 < cells.length := by rw [h2]; exact Nat.mul_pos (by omega) hsz
      have := h5 0 cells[0] (List.getElem?_eq_getElem hpos)
      have h6 := World.block_lt_of_cell? _ _ this
      rwa [block_of_add] at h6

theorem openS_StringS {H : Type} {enc : TypeId × Value → H} {w : World} {base : Nat} {spare : Nat → Bool} {held : Bool} {fuel : Nat} {cs : List Value} {x : DataW H × List MemPlace} (h : DataW.trod enc Tryz.prog w base spare held fuel 27 cs = some x) :
    ∃ (ds : List (List UInt8)) (A : Option Addr) (n c : Nat), cs = [.slice A n c] ∧ n = ds.length ∧ n ≤ 9223372036854775807 ∧ (cat strC ds).ok ∧ Rep anyB w (.sl 9 1 n (cat strC ds) .nil) [.slice A n c] :=
  open_sl (by decide) strC_width (fun _ _ _ h => by
    obtain ⟨s, rfl, _, b⟩ := DataW.trod_string Tryz.underlying9 h
    obtain ⟨l, rfl⟩ : ∃ l, s = bs l := ⟨_, bs_eta s⟩
    exact ⟨l, ⟨str_le b, trivial⟩, Rep.str.2 ⟨_, rfl, Rep.nil.2 rfl⟩⟩) (by kernel_rfl) Tryz.underlying27 h


theorem openS_IntS {H : Type} {enc : TypeId × Value → H} {w : World} {base : Nat} {spare : Nat → Bool} {held : Bool} {fuel : Nat} {cs : List Value} {x : DataW H × List MemPlace} (h : DataW.trod enc Tryz.prog w base spare held fuel 74 cs = some x) :
    ∃ (ds : List Int) (A : Option Addr) (n c : Nat), cs = [.slice A n c] ∧ n = ds.length ∧ n ≤ 9223372036854775807 ∧ (cat intC ds).ok ∧ Rep anyB w (.sl 3 1 n (cat intC ds) .nil) [.slice A n c] :=
  open_sl (by decide) intC_width (fun _ _ _ h => by
    obtain ⟨n, rfl, _, b⟩ := DataW.trod_int Tryz.underlying3 h
    exact ⟨n, ⟨bounds_i64 b, trivial⟩, Rep.int.2 ⟨_, rfl, Rep.nil.2 rfl⟩⟩) (by kernel_rfl) Tryz.underlying74 h





























































































































































































































































































































































































































































































section
variable {H : Type} {enc : TypeId × Value → H} {w : World} {base b0 : Nat} {r : Reach} {spare : Nat → Bool} {held : Bool} {v : Value} {d : DataW H} {ps : List MemPlace}

















































































end
end Go.Proofs.YtonaacdefidomaaGreat
