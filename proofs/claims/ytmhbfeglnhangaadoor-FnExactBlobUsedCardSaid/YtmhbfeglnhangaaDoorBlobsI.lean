/-
  impl.BlobsOk: the right sets of chunks. Conditions: a bound on the sizes; the table of constants lies at its place.
-/
import Derived.Test.YtmhbfeglnhangaaDoorBlobs
namespace Go.Proofs.YtmhbfeglnhangaaDoor
open Go.RowKit

set_option maxRecDepth 100000 in
set_option maxHeartbeats 4000000 in
theorem iBlobsOk_any (x : BlobsD) (cs : List Value) (w : World) (hwt : x.c.wt ≤ 1048576) (h : Rep anyB w x.c cs) (hK : KK w) :
    Calls Tryd.prog 18 #[.agg cs.toArray] w fun e w' => e = .returned (.bool (blobsOkB x)) ∧ Below w.heap.size w w' := by
  have hB0 := hK.pos
  have hw0 : x.c.wt = x.list.length + (cat BlobD.c x.list).wt + 0 := rfl
  obtain ⟨A0, k0, rfl, s0⟩ := BlobsD.open h
  have hY := @blobs_yes x
  have hN := @blobs_no x
  generalize blobsOkB x = R at hY hN ⊢
  unfold BlobsGood at hY hN
  obtain ⟨quota, list⟩ := x
  simp only [] at s0 hw0 hY hN hwt ⊢
  have HY := Lib.hid hY; clear hY
  have HNO := Lib.hid hN; clear hN
  have HWT := Lib.hid hwt
  have hl : list.length ≤ 1048576 := by omega
  have hwc : (cat BlobD.c list).wt ≤ 1048576 := by omega
  have hss := sumB_le list
  have hsq : sumB list ≤ 1048576 := by omega
  obtain ⟨n, hn⟩ : ∃ n, n = list.length := ⟨_, rfl⟩
  rw [← hn] at s0 hl ⊢
  have HN := Lib.hid hn; clear hn
  have HREP := Lib.hid (show ∀ W, Below w.heap.size w W → Rep anyB W (BlobsD.c ⟨quota, list⟩) [.int .i64 quota, .slice A0 n k0] from fun W hW => by
    have e := HN.out
    subst e
    exact BlobsD.shut (x := ⟨quota, list⟩) (s0.below hW))
  have HSQ := Lib.hid hsq; clear hsq hss
  clear h hw0 hwt
  go_enter Tryd.func18, Tryd.ntmps18
  go_wp2_with fail
  go_loopw [8] (fun i wr => ∃ j : Nat, j ≤ n ∧ i = .int .i64 (j : Int) ∧ (∀ i, i < j → blAt list i) ∧ Blk wr w.heap.size 34 [.int .i64 quota, .slice A0 n k0].toArray ∧ Below w.heap.size w wr) (fun i _ => n - (intOf i).toNat)
  case atStart => exact ⟨0, Nat.zero_le _, rfl, fun i hi => absurd hi (Nat.not_lt_zero _), blk_new _ _ _, (by repeat' (first | with_reducible exact Below.refl _ _ | with_reducible exact BW.out | with_reducible refine Below.setCell ?_ ?_ _ | with_reducible refine Below.alloc ?_ ?_ _ | with_reducible refine Below.drew ?_ | (simp; done) | (simp; omega) | omega))⟩
  case round =>
    obtain ⟨j, hj, rfl, hall, hb, hbel⟩ := hrel
    by_cases hlt : j < n
    · have hjx : j < list.length := by have := HN.out; omega
      have c1w := blk_cell0 hb 1 rfl
      obtain ⟨ad, ci, hA0, _, _, hrc, hl3, hc⟩ := (s0.below hbel).elem BlobD.width j hjx HN.out
      obtain rfl := BlobD.open hrc
      have HG := Lib.hid (blAt_iff hjx)
      have hdw : list[j].data.length ≤ 1048576 := by
        have h1 := cat_wt_le (f := BlobD.c) (List.getElem_mem hjx)
        have e : (list[j].c).wt = list[j].id.length + (list[j].data.length + 0) := rfl
        omega
      have hprev : 0 < j → wr.cell? (ad.add ((j - 1) * 3)) = some (.string (bs (pidB list j))) := fun h0 => by
        obtain ⟨ad', cj, he, _, _, hrj, _, hcj⟩ := (s0.below hbel).elem BlobD.width (j - 1) (by omega) HN.out
        rw [hA0] at he
        injection he with he
        subst he
        obtain rfl := BlobD.open hrj
        have := hcj 0 _ rfl
        rw [addr_add0] at this
        rw [this, pidB, List.getElem?_eq_getElem (by omega)]
      subst hA0
      generalize hpid : pidB list j = p at HG hprev
      clear hpid hrc hl3
      generalize list[j] = bj at hc HG hdw
      have HC := Lib.hid hc; clear hc
      have HP := Lib.hid hprev; clear hprev
      have hsz := hbel.size
      have HALL := Lib.hid hall; clear hall
      go_wp2_with (first
        | ((with_reducible show wpList _ _ _ ({ dst := _, op := Op.load 54 _, type := _, pos := _, after := _, guard := _ } :: _) _ _); refine wpList_load_row _ (ad.add (j * 3)) rfl [.string (bs bj.id), .string (bs bj.data), .bool bj.bad] agg_Blob rfl HC.out ?_)
        | ((with_reducible show wpList _ _ _ ({ dst := _, op := Op.store 54 _ _, type := _, pos := _, after := _, guard := _ } :: _) _ _); refine wpList_store_row _ wr.heap.size 54 0 [.string (bs bj.id), .string (bs bj.data), .bool bj.bad] [] [.string ⟨#[]⟩, .string ⟨#[]⟩, .bool false] [] _ rfl rfl agg_Blob (blk_new wr _ _) rfl rfl rfl (by intro u hu; simp only [List.mem_cons, List.not_mem_nil, or_false] at hu; rcases hu with rfl | rfl | rfl <;> rfl) ?_; intro v2 hsb hsg)
        | fail)
      have hsb2 : Blk v2 wr.heap.size 54 [.string (bs bj.id), .string (bs bj.data), .bool bj.bad].toArray := by simpa using hsb
      have hb2 : Blk v2 w.heap.size 34 [.int .i64 quota, .slice (some ad) n k0].toArray := (hb.alloc _).grown hsg (by have := hb.lt; omega)
      have hbel2 : Below w.heap.size w v2 := Below.grown (hbel.alloc hsz _) hsg (Nat.le_trans hsz (by simp)) (fun k hk => by injection hk with hk; omega)
      have HP2 := Lib.hid (show 0 < j → v2.cell? (ad.add ((j - 1) * 3)) = some (.string (bs p)) from fun h0 => by
        have h1 := HP.out h0
        have hlt3 := World.block_lt_of_cell? _ _ h1
        rw [World.cell?_of_block (hsg.block _ (Nat.lt_of_lt_of_le hlt3 (by simp)) (fun e => by injection e with e; omega))]
        exact ((Below.refl _ wr).alloc (Nat.le_refl _) _).cell hlt3 |>.trans h1)
      clear hsb hsg hb hbel HP c1w
      generalize wr.heap.size = vb at hsb2 ⊢
      have e0 := blk_cell0 hsb2 0 rfl
      have e1 := blk_cell0 hsb2 1 rfl
      have e2 := blk_cell0 hsb2 2 rfl
      have c1 := blk_cell0 hb2 1 rfl
      obtain ⟨bid, bdt, bbad⟩ := bj
      simp only at e0 e1 e2 HG hdw
      by_cases t1 : 40 < bdt.length
      · have d1 : decide ((40 : Int) < (bdt.length : Int)) = true := by simp; omega
        refine wp_region_x 39 [0, 1, 2, 3, 4, 5, 6, 7, 8, 9, 10, 11, 12, 13, 14, 15, 16, 17, 18, 19, 20, 21, 22, 23, 24, 25, 26, 27, 28, 29, 30, 31, 32, 33, 34, 35, 36, 37, 38] (by kernel_rfl) (by kernel_rfl) ?_
        iterate 5 (refine wpX_quiet rfl (by kernel_rfl) rfl ?_; go_wp2; refine ⟨rfl, ?_⟩)
        (iterate 4 (refine wpX_skip2 rfl rfl (by kernel_rfl) ?_)); simp only [List.setIfInBounds_toArray, List.set_cons_succ, List.set_cons_zero]
        iterate 2 (refine wpX_quiet rfl (by kernel_rfl) rfl ?_; go_wp2; refine ⟨rfl, ?_⟩)
        (iterate 6 (refine wpX_skip2 rfl rfl (by kernel_rfl) ?_)); simp only [List.setIfInBounds_toArray, List.set_cons_succ, List.set_cons_zero]; (iterate 5 (refine wpX_skip2 rfl rfl (by kernel_rfl) ?_)); simp only [List.setIfInBounds_toArray, List.set_cons_succ, List.set_cons_zero]
        iterate 2 (refine wpX_quiet rfl (by kernel_rfl) rfl ?_; go_wp2; refine ⟨rfl, ?_⟩)
        (iterate 6 (refine wpX_skip2 rfl rfl (by kernel_rfl) ?_)); simp only [List.setIfInBounds_toArray, List.set_cons_succ, List.set_cons_zero]; (iterate 6 (refine wpX_skip2 rfl rfl (by kernel_rfl) ?_)); simp only [List.setIfInBounds_toArray, List.set_cons_succ, List.set_cons_zero]; (iterate 2 (refine wpX_skip2 rfl rfl (by kernel_rfl) ?_)); simp only [List.setIfInBounds_toArray, List.set_cons_succ, List.set_cons_zero]
        iterate 1 (refine wpX_quiet rfl (by kernel_rfl) rfl ?_; go_wp2; refine ⟨rfl, ?_⟩)
        refine wpX_nil ?_; try simp only [List.drop_succ_cons, List.drop_zero]
        go_wp2
        go_ret
        exact ⟨ret_eq (congrArg Value.bool (HNO.out (fun hg => by have := HG.out.1 (hg.2.2.2 j hjx); exact absurd this.1 (by show ¬ bdt.length ≤ 40; omega))).symm), by first | exact hbel2.drew | exact hbel2 | exact (by repeat' (first | with_reducible exact Below.refl _ _ | with_reducible exact BW.out | with_reducible refine Below.setCell ?_ ?_ _ | with_reducible refine Below.alloc ?_ ?_ _ | with_reducible refine Below.drew ?_ | (simp; done) | (simp; omega) | omega))⟩
      have d1 : decide ((40 : Int) < (bdt.length : Int)) = false := by simp; omega
      by_cases t2 : bid.length = 8
      rotate_left
      · have d2 : ((bid.length : Int) != 8) = true := by simp; omega
        refine wp_region_x 39 [0, 1, 2, 3, 4, 5, 6, 7, 8, 9, 10, 11, 12, 13, 14, 15, 16, 17, 18, 19, 20, 21, 22, 23, 24, 25, 26, 27, 28, 29, 30, 31, 32, 33, 34, 35, 36, 37, 38] (by kernel_rfl) (by kernel_rfl) ?_
        iterate 11 (refine wpX_quiet rfl (by kernel_rfl) rfl ?_; go_wp2; refine ⟨rfl, ?_⟩)
        (iterate 6 (refine wpX_skip2 rfl rfl (by kernel_rfl) ?_)); simp only [List.setIfInBounds_toArray, List.set_cons_succ, List.set_cons_zero]; (iterate 5 (refine wpX_skip2 rfl rfl (by kernel_rfl) ?_)); simp only [List.setIfInBounds_toArray, List.set_cons_succ, List.set_cons_zero]
        iterate 2 (refine wpX_quiet rfl (by kernel_rfl) rfl ?_; go_wp2; refine ⟨rfl, ?_⟩)
        (iterate 6 (refine wpX_skip2 rfl rfl (by kernel_rfl) ?_)); simp only [List.setIfInBounds_toArray, List.set_cons_succ, List.set_cons_zero]; (iterate 6 (refine wpX_skip2 rfl rfl (by kernel_rfl) ?_)); simp only [List.setIfInBounds_toArray, List.set_cons_succ, List.set_cons_zero]; (iterate 2 (refine wpX_skip2 rfl rfl (by kernel_rfl) ?_)); simp only [List.setIfInBounds_toArray, List.set_cons_succ, List.set_cons_zero]
        iterate 1 (refine wpX_quiet rfl (by kernel_rfl) rfl ?_; go_wp2; refine ⟨rfl, ?_⟩)
        refine wpX_nil ?_; try simp only [List.drop_succ_cons, List.drop_zero]
        go_wp2
        go_ret
        exact ⟨ret_eq (congrArg Value.bool (HNO.out (fun hg => by have := HG.out.1 (hg.2.2.2 j hjx); exact absurd this.2.1 t2)).symm), by first | exact hbel2.drew | exact hbel2 | exact (by repeat' (first | with_reducible exact Below.refl _ _ | with_reducible exact BW.out | with_reducible refine Below.setCell ?_ ?_ _ | with_reducible refine Below.alloc ?_ ?_ _ | with_reducible refine Below.drew ?_ | (simp; done) | (simp; omega) | omega))⟩
      have d2 : ((bid.length : Int) != 8) = false := by simp; omega
      have hjb : j = 0 ∨ 0 < j := by omega
      cases bbad
      · by_cases t3 : bid = shortL bdt
        · have HT3 := Lib.hid t3; clear t3
          rcases hjb with hj0 | hj0
          · have d4 : decide ((0 : Int) < (j : Int)) = false := by simp; omega
            refine wp_region_x 39 [0, 1, 2, 3, 4, 5, 6, 7, 8, 9, 10, 11, 12, 13, 14, 15, 16, 17, 18, 19, 20, 21, 22, 23, 24, 25, 26, 27, 28, 29, 30, 31, 32, 33, 34, 35, 36, 37, 38] (by kernel_rfl) (by kernel_rfl) ?_
            iterate 19 (refine wpX_quiet rfl (by kernel_rfl) rfl ?_; go_wp2; refine ⟨rfl, ?_⟩)
            refine wpX_actor rfl (by kernel_rfl) ?_; go_wp2_with fail
            refine (iShort_any bdt _ (by omega) (hK.below (show Below w.heap.size w v2.drew from hbel2.drew) hB0)).mono ?_
            rintro e v3 ⟨rfl, hb3⟩
            have HB := Lib.hid hb3; clear hb3
            have hsb3 := hsb2.drew.below HB.out
            have hb3 := hb2.drew.below HB.out
            have hbel3 : Below w.heap.size w v3 := hbel2.drew.trans (HB.out.mono hbel2.drew.size)
            clear e0 e1 e2 c1
            have e0 := blk_cell0 hsb3 0 rfl
            have e1 := blk_cell0 hsb3 1 rfl
            have c1 := blk_cell0 hb3 1 rfl
            rw [← HT3.out]
            go_wp2; refine ⟨Ext.of_below HB.out, ?_⟩
            iterate 7 (refine wpX_quiet rfl (by kernel_rfl) rfl ?_; go_wp2; refine ⟨rfl, ?_⟩)
            (iterate 6 (refine wpX_skip2 rfl rfl (by kernel_rfl) ?_)); simp only [List.setIfInBounds_toArray, List.set_cons_succ, List.set_cons_zero]; (iterate 4 (refine wpX_skip2 rfl rfl (by kernel_rfl) ?_)); simp only [List.setIfInBounds_toArray, List.set_cons_succ, List.set_cons_zero]
            iterate 2 (refine wpX_quiet rfl (by kernel_rfl) rfl ?_; go_wp2; refine ⟨rfl, ?_⟩)
            refine wpX_nil ?_; try simp only [List.drop_succ_cons, List.drop_zero]
            go_wp2
            refine ⟨⟨j + 1, by omega, by go_num, fun i hi => ?_, by first | exact hb3.drew | exact hb3, by first | exact hbel3.drew | exact hbel3⟩, by simp only [intOf]; omega⟩
            rcases Nat.lt_or_ge i j with h | h
            · exact HALL.out i h
            · obtain rfl : i = j := by omega
              exact HG.out.2 ⟨(by show bdt.length ≤ 40; omega), t2, .inr HT3.out, .inl hj0⟩
          · have d4 : decide ((0 : Int) < (j : Int)) = true := by simp; omega
            have cp := HP2.out hj0
            cases hge : Op.bytesLess p bid
            · skip
              refine wp_region_x 39 [0, 1, 2, 3, 4, 5, 6, 7, 8, 9, 10, 11, 12, 13, 14, 15, 16, 17, 18, 19, 20, 21, 22, 23, 24, 25, 26, 27, 28, 29, 30, 31, 32, 33, 34, 35, 36, 37, 38] (by kernel_rfl) (by kernel_rfl) ?_
              iterate 19 (refine wpX_quiet rfl (by kernel_rfl) rfl ?_; go_wp2; refine ⟨rfl, ?_⟩)
              refine wpX_actor rfl (by kernel_rfl) ?_; go_wp2_with fail
              refine (iShort_any bdt _ (by omega) (hK.below (show Below w.heap.size w v2.drew from hbel2.drew) hB0)).mono ?_
              rintro e v3 ⟨rfl, hb3⟩
              have HB := Lib.hid hb3; clear hb3
              have hsb3 := hsb2.drew.below HB.out
              have hb3 := hb2.drew.below HB.out
              have hbel3 : Below w.heap.size w v3 := hbel2.drew.trans (HB.out.mono hbel2.drew.size)
              clear e0 e1 e2 c1
              have e0 := blk_cell0 hsb3 0 rfl
              have e1 := blk_cell0 hsb3 1 rfl
              have c1 := blk_cell0 hb3 1 rfl
              have cp3 := (HB.out.cell (World.block_lt_of_cell? v2.drew _ cp)).trans cp
              rw [← HT3.out]
              go_wp2; refine ⟨Ext.of_below HB.out, ?_⟩
              iterate 19 (refine wpX_quiet rfl (by kernel_rfl) rfl ?_; go_wp2; refine ⟨rfl, ?_⟩)
              refine wpX_nil ?_; try simp only [List.drop_succ_cons, List.drop_zero]
              go_wp2
              go_ret
              exact ⟨ret_eq (congrArg Value.bool (HNO.out (fun hg => by have := HG.out.1 (hg.2.2.2 j hjx); exact this.2.2.2.elim (fun h => by omega) (fun h => by simp only [GEB, hge] at h; cases h))).symm), by first | exact hbel3.drew | exact hbel3 | exact (by repeat' (first | with_reducible exact Below.refl _ _ | with_reducible exact BW.out | with_reducible refine Below.setCell ?_ ?_ _ | with_reducible refine Below.alloc ?_ ?_ _ | with_reducible refine Below.drew ?_ | (simp; done) | (simp; omega) | omega))⟩
            · skip
              refine wp_region_x 39 [0, 1, 2, 3, 4, 5, 6, 7, 8, 9, 10, 11, 12, 13, 14, 15, 16, 17, 18, 19, 20, 21, 22, 23, 24, 25, 26, 27, 28, 29, 30, 31, 32, 33, 34, 35, 36, 37, 38] (by kernel_rfl) (by kernel_rfl) ?_
              iterate 19 (refine wpX_quiet rfl (by kernel_rfl) rfl ?_; go_wp2; refine ⟨rfl, ?_⟩)
              refine wpX_actor rfl (by kernel_rfl) ?_; go_wp2_with fail
              refine (iShort_any bdt _ (by omega) (hK.below (show Below w.heap.size w v2.drew from hbel2.drew) hB0)).mono ?_
              rintro e v3 ⟨rfl, hb3⟩
              have HB := Lib.hid hb3; clear hb3
              have hsb3 := hsb2.drew.below HB.out
              have hb3 := hb2.drew.below HB.out
              have hbel3 : Below w.heap.size w v3 := hbel2.drew.trans (HB.out.mono hbel2.drew.size)
              clear e0 e1 e2 c1
              have e0 := blk_cell0 hsb3 0 rfl
              have e1 := blk_cell0 hsb3 1 rfl
              have c1 := blk_cell0 hb3 1 rfl
              have cp3 := (HB.out.cell (World.block_lt_of_cell? v2.drew _ cp)).trans cp
              rw [← HT3.out]
              go_wp2; refine ⟨Ext.of_below HB.out, ?_⟩
              iterate 19 (refine wpX_quiet rfl (by kernel_rfl) rfl ?_; go_wp2; refine ⟨rfl, ?_⟩)
              refine wpX_nil ?_; try simp only [List.drop_succ_cons, List.drop_zero]
              go_wp2
              refine ⟨⟨j + 1, by omega, by go_num, fun i hi => ?_, by first | exact hb3.drew | exact hb3, by first | exact hbel3.drew | exact hbel3⟩, by simp only [intOf]; omega⟩
              rcases Nat.lt_or_ge i j with h | h
              · exact HALL.out i h
              · obtain rfl : i = j := by omega
                exact HG.out.2 ⟨(by show bdt.length ≤ 40; omega), t2, .inr HT3.out, .inr (by simp only [GEB, hge]; rfl)⟩
        · have tb : (bid != shortL bdt) = true := by rw [bne_iff_ne]; exact t3
          have tb2 : (bid == shortL bdt) = false := by rw [beq_eq_false_iff_ne]; exact t3
          have HT3 := Lib.hid t3; clear t3
          obtain ⟨sh, hsh⟩ : ∃ sh, shortL bdt = sh := ⟨_, rfl⟩
          rw [hsh] at tb tb2
          have HSH := Lib.hid hsh; clear hsh
          have HT3' := HT3
          refine wp_region_x 39 [0, 1, 2, 3, 4, 5, 6, 7, 8, 9, 10, 11, 12, 13, 14, 15, 16, 17, 18, 19, 20, 21, 22, 23, 24, 25, 26, 27, 28, 29, 30, 31, 32, 33, 34, 35, 36, 37, 38] (by kernel_rfl) (by kernel_rfl) ?_
          iterate 19 (refine wpX_quiet rfl (by kernel_rfl) rfl ?_; go_wp2; refine ⟨rfl, ?_⟩)
          refine wpX_actor rfl (by kernel_rfl) ?_; go_wp2_with fail
          refine (iShort_any bdt _ (by omega) (hK.below (show Below w.heap.size w v2.drew from hbel2.drew) hB0)).mono ?_
          rintro e v3 ⟨rfl, hb3⟩
          have HB := Lib.hid hb3; clear hb3
          have hsb3 := hsb2.drew.below HB.out
          have hb3 := hb2.drew.below HB.out
          have hbel3 : Below w.heap.size w v3 := hbel2.drew.trans (HB.out.mono hbel2.drew.size)
          clear e0 e1 e2 c1
          have e0 := blk_cell0 hsb3 0 rfl
          have e1 := blk_cell0 hsb3 1 rfl
          have c1 := blk_cell0 hb3 1 rfl
          rw [HSH.out]
          go_wp2; refine ⟨Ext.of_below HB.out, ?_⟩
          iterate 4 (refine wpX_quiet rfl (by kernel_rfl) rfl ?_; go_wp2; refine ⟨rfl, ?_⟩)
          (iterate 6 (refine wpX_skip2 rfl rfl (by kernel_rfl) ?_)); simp only [List.setIfInBounds_toArray, List.set_cons_succ, List.set_cons_zero]; (iterate 6 (refine wpX_skip2 rfl rfl (by kernel_rfl) ?_)); simp only [List.setIfInBounds_toArray, List.set_cons_succ, List.set_cons_zero]; (iterate 2 (refine wpX_skip2 rfl rfl (by kernel_rfl) ?_)); simp only [List.setIfInBounds_toArray, List.set_cons_succ, List.set_cons_zero]
          iterate 1 (refine wpX_quiet rfl (by kernel_rfl) rfl ?_; go_wp2; refine ⟨rfl, ?_⟩)
          refine wpX_nil ?_; try simp only [List.drop_succ_cons, List.drop_zero]
          go_wp2
          go_ret
          exact ⟨ret_eq (congrArg Value.bool (HNO.out (fun hg => by have := HG.out.1 (hg.2.2.2 j hjx); exact this.2.2.1.elim (fun h => by cases h) (fun h => HT3.out h))).symm), by first | exact hbel3.drew | exact hbel3 | exact (by repeat' (first | with_reducible exact Below.refl _ _ | with_reducible exact BW.out | with_reducible refine Below.setCell ?_ ?_ _ | with_reducible refine Below.alloc ?_ ?_ _ | with_reducible refine Below.drew ?_ | (simp; done) | (simp; omega) | omega))⟩
      · rcases hjb with hj0 | hj0
        · have d4 : decide ((0 : Int) < (j : Int)) = false := by simp; omega
          refine wp_region_x 39 [0, 1, 2, 3, 4, 5, 6, 7, 8, 9, 10, 11, 12, 13, 14, 15, 16, 17, 18, 19, 20, 21, 22, 23, 24, 25, 26, 27, 28, 29, 30, 31, 32, 33, 34, 35, 36, 37, 38] (by kernel_rfl) (by kernel_rfl) ?_
          iterate 15 (refine wpX_quiet rfl (by kernel_rfl) rfl ?_; go_wp2; refine ⟨rfl, ?_⟩)
          (iterate 6 (refine wpX_skip2 rfl rfl (by kernel_rfl) ?_)); simp only [List.setIfInBounds_toArray, List.set_cons_succ, List.set_cons_zero]
          iterate 6 (refine wpX_quiet rfl (by kernel_rfl) rfl ?_; go_wp2; refine ⟨rfl, ?_⟩)
          (iterate 6 (refine wpX_skip2 rfl rfl (by kernel_rfl) ?_)); simp only [List.setIfInBounds_toArray, List.set_cons_succ, List.set_cons_zero]; (iterate 4 (refine wpX_skip2 rfl rfl (by kernel_rfl) ?_)); simp only [List.setIfInBounds_toArray, List.set_cons_succ, List.set_cons_zero]
          iterate 2 (refine wpX_quiet rfl (by kernel_rfl) rfl ?_; go_wp2; refine ⟨rfl, ?_⟩)
          refine wpX_nil ?_; try simp only [List.drop_succ_cons, List.drop_zero]
          go_wp2
          refine ⟨⟨j + 1, by omega, by go_num, fun i hi => ?_, by first | exact hb2.drew | exact hb2, by first | exact hbel2.drew | exact hbel2⟩, by simp only [intOf]; omega⟩
          rcases Nat.lt_or_ge i j with h | h
          · exact HALL.out i h
          · obtain rfl : i = j := by omega
            exact HG.out.2 ⟨(by show bdt.length ≤ 40; omega), t2, .inl rfl, .inl hj0⟩
        · have d4 : decide ((0 : Int) < (j : Int)) = true := by simp; omega
          have cp := HP2.out hj0
          cases hge : Op.bytesLess p bid
          · skip
            refine wp_region_x 39 [0, 1, 2, 3, 4, 5, 6, 7, 8, 9, 10, 11, 12, 13, 14, 15, 16, 17, 18, 19, 20, 21, 22, 23, 24, 25, 26, 27, 28, 29, 30, 31, 32, 33, 34, 35, 36, 37, 38] (by kernel_rfl) (by kernel_rfl) ?_
            iterate 15 (refine wpX_quiet rfl (by kernel_rfl) rfl ?_; go_wp2; refine ⟨rfl, ?_⟩)
            (iterate 6 (refine wpX_skip2 rfl rfl (by kernel_rfl) ?_)); simp only [List.setIfInBounds_toArray, List.set_cons_succ, List.set_cons_zero]
            iterate 18 (refine wpX_quiet rfl (by kernel_rfl) rfl ?_; go_wp2; refine ⟨rfl, ?_⟩)
            refine wpX_nil ?_; try simp only [List.drop_succ_cons, List.drop_zero]
            go_wp2
            go_ret
            exact ⟨ret_eq (congrArg Value.bool (HNO.out (fun hg => by have := HG.out.1 (hg.2.2.2 j hjx); exact this.2.2.2.elim (fun h => by omega) (fun h => by simp only [GEB, hge] at h; cases h))).symm), by first | exact hbel2.drew | exact hbel2 | exact (by repeat' (first | with_reducible exact Below.refl _ _ | with_reducible exact BW.out | with_reducible refine Below.setCell ?_ ?_ _ | with_reducible refine Below.alloc ?_ ?_ _ | with_reducible refine Below.drew ?_ | (simp; done) | (simp; omega) | omega))⟩
          · skip
            refine wp_region_x 39 [0, 1, 2, 3, 4, 5, 6, 7, 8, 9, 10, 11, 12, 13, 14, 15, 16, 17, 18, 19, 20, 21, 22, 23, 24, 25, 26, 27, 28, 29, 30, 31, 32, 33, 34, 35, 36, 37, 38] (by kernel_rfl) (by kernel_rfl) ?_
            iterate 15 (refine wpX_quiet rfl (by kernel_rfl) rfl ?_; go_wp2; refine ⟨rfl, ?_⟩)
            (iterate 6 (refine wpX_skip2 rfl rfl (by kernel_rfl) ?_)); simp only [List.setIfInBounds_toArray, List.set_cons_succ, List.set_cons_zero]
            iterate 18 (refine wpX_quiet rfl (by kernel_rfl) rfl ?_; go_wp2; refine ⟨rfl, ?_⟩)
            refine wpX_nil ?_; try simp only [List.drop_succ_cons, List.drop_zero]
            go_wp2
            refine ⟨⟨j + 1, by omega, by go_num, fun i hi => ?_, by first | exact hb2.drew | exact hb2, by first | exact hbel2.drew | exact hbel2⟩, by simp only [intOf]; omega⟩
            rcases Nat.lt_or_ge i j with h | h
            · exact HALL.out i h
            · obtain rfl : i = j := by omega
              exact HG.out.2 ⟨(by show bdt.length ≤ 40; omega), t2, .inl rfl, .inr (by simp only [GEB, hge]; rfl)⟩
    · have hall2 : ∀ j, j < list.length → blAt list j := fun i hi => hall i (by have := HN.out; omega)
      have hjn : j = n := by omega
      have HALL2 := Lib.hid hall2; clear hall2 hall
      go_wp2_with fail
      have HBQ := Lib.hid hb.drew
      have cq := blk_cell0 hb 0 rfl
      have cl := blk_cell0 hb 1 rfl
      have HBQL := Lib.hid hbel
      cases hb1 : inB 0 1000 quota
      · have hin := inB_f hb1
        refine wp_region_x 17 [0, 1, 2, 3, 4, 5, 6, 7, 8, 9, 10, 12, 13, 11, 14, 15, 16] (by kernel_rfl) (by kernel_rfl) ?_
        iterate 2 (refine wpX_quiet rfl (by kernel_rfl) rfl ?_; go_wp2; refine ⟨rfl, ?_⟩)
        refine wpX_actor rfl (by kernel_rfl) ?_; go_wp2_with fail
        refine (within_any _ _ _ _).mono ?_; rintro e _ ⟨rfl, rfl⟩
        rw [hb1]
        go_wp2; refine ⟨Ext.refl _, ?_⟩
        iterate 1 (refine wpX_quiet rfl (by kernel_rfl) rfl ?_; go_wp2; refine ⟨rfl, ?_⟩)
        (iterate 4 (refine wpX_skip2 rfl rfl (by kernel_rfl) ?_)); simp only [List.setIfInBounds_toArray, List.set_cons_succ, List.set_cons_zero]
        iterate 2 (refine wpX_quiet rfl (by kernel_rfl) rfl ?_; go_wp2; refine ⟨rfl, ?_⟩)
        (iterate 5 (refine wpX_skip2 rfl rfl (by kernel_rfl) ?_)); simp only [List.setIfInBounds_toArray, List.set_cons_succ, List.set_cons_zero]
        iterate 2 (refine wpX_quiet rfl (by kernel_rfl) rfl ?_; go_wp2; refine ⟨rfl, ?_⟩)
        refine wpX_nil ?_; try simp only [List.drop_succ_cons, List.drop_zero]
        go_wp2
        go_ret
        exact ⟨ret_eq (congrArg Value.bool (HNO.out (fun hg => by exact hin hg.1)).symm), by first | exact HBQL.out.drew | exact HBQL.out | exact (by repeat' (first | with_reducible exact Below.refl _ _ | with_reducible exact BW.out | with_reducible refine Below.setCell ?_ ?_ _ | with_reducible refine Below.alloc ?_ ?_ _ | with_reducible refine Below.drew ?_ | (simp; done) | (simp; omega) | omega))⟩
      have hin := inB_t hb1
      by_cases hn12 : n ≤ 12
      rotate_left
      · have dn : decide ((12 : Int) < (n : Int)) = true := by simp; omega
        have dn2 : decide ((n : Int) ≤ 12) = false := by simp; omega
        refine wp_region_x 17 [0, 1, 2, 3, 4, 5, 6, 7, 8, 9, 10, 12, 13, 11, 14, 15, 16] (by kernel_rfl) (by kernel_rfl) ?_
        iterate 2 (refine wpX_quiet rfl (by kernel_rfl) rfl ?_; go_wp2; refine ⟨rfl, ?_⟩)
        refine wpX_actor rfl (by kernel_rfl) ?_; go_wp2_with fail
        refine (within_any _ _ _ _).mono ?_; rintro e _ ⟨rfl, rfl⟩
        rw [hb1]
        go_wp2; refine ⟨Ext.refl _, ?_⟩
        iterate 7 (refine wpX_quiet rfl (by kernel_rfl) rfl ?_; go_wp2; refine ⟨rfl, ?_⟩)
        (iterate 5 (refine wpX_skip2 rfl rfl (by kernel_rfl) ?_)); simp only [List.setIfInBounds_toArray, List.set_cons_succ, List.set_cons_zero]
        iterate 2 (refine wpX_quiet rfl (by kernel_rfl) rfl ?_; go_wp2; refine ⟨rfl, ?_⟩)
        refine wpX_nil ?_; try simp only [List.drop_succ_cons, List.drop_zero]
        go_wp2
        go_ret
        exact ⟨ret_eq (congrArg Value.bool (HNO.out (fun hg => by have := hg.2.1; have := HN.out; omega)).symm), by first | exact HBQL.out.drew | exact HBQL.out | exact (by repeat' (first | with_reducible exact Below.refl _ _ | with_reducible exact BW.out | with_reducible refine Below.setCell ?_ ?_ _ | with_reducible refine Below.alloc ?_ ?_ _ | with_reducible refine Below.drew ?_ | (simp; done) | (simp; omega) | omega))⟩
      have dn : decide ((12 : Int) < (n : Int)) = false := by simp; omega
      have dn2 : decide ((n : Int) ≤ 12) = true := by simp; omega
      have hsq := HSQ.out
      by_cases hsm : ((sumB list : Nat) : Int) ≤ quota
      rotate_left
      · have ds : decide (quota < ((sumB list : Nat) : Int)) = true := by simp; omega
        have ds2 : decide (((sumB list : Nat) : Int) ≤ quota) = false := by simp; omega
        refine wp_region_x 17 [0, 1, 2, 3, 4, 5, 6, 7, 8, 9, 10, 12, 13, 11, 14, 15, 16] (by kernel_rfl) (by kernel_rfl) ?_
        iterate 2 (refine wpX_quiet rfl (by kernel_rfl) rfl ?_; go_wp2; refine ⟨rfl, ?_⟩)
        refine wpX_actor rfl (by kernel_rfl) ?_; go_wp2_with fail
        refine (within_any _ _ _ _).mono ?_; rintro e _ ⟨rfl, rfl⟩
        rw [hb1]
        go_wp2; refine ⟨Ext.refl _, ?_⟩
        iterate 7 (refine wpX_quiet rfl (by kernel_rfl) rfl ?_; go_wp2; refine ⟨rfl, ?_⟩)
        refine wpX_quiet rfl (by kernel_rfl) rfl ?_; go_wp2_with (first | (refine wpList_load_row_g _ (by first | rfl | kernel_rfl) ⟨w.heap.size, 0, none⟩ rfl [.int .i64 quota, .slice A0 n k0] agg_Blobs rfl (blk_cells HBQ.out) ?_) | fail); refine ⟨rfl, ?_⟩
        iterate 2 (refine wpX_quiet rfl (by kernel_rfl) rfl ?_; go_wp2; refine ⟨rfl, ?_⟩)
        refine wpX_actor rfl (by kernel_rfl) ?_; go_wp2_with fail
        refine (iSum_any ⟨quota, list⟩ [.int .i64 quota, .slice A0 n k0] _ HWT.out (HREP.out _ HBQL.out.drew)).mono ?_; rintro e v7 ⟨rfl, hb7⟩
        have HB7 := Lib.hid hb7; clear hb7
        have HBX := Lib.hid (HBQ.out.below HB7.out)
        have HBXL := Lib.hid (HBQL.out.drew.trans (HB7.out.mono HBQL.out.drew.size))
        have cq7 := blk_cell0 HBX.out 0 rfl
        have cl7 := blk_cell0 HBX.out 1 rfl
        go_wp2; refine ⟨Ext.of_below HB7.out, ?_⟩
        iterate 3 (refine wpX_quiet rfl (by kernel_rfl) rfl ?_; go_wp2; refine ⟨rfl, ?_⟩)
        refine wpX_nil ?_; try simp only [List.drop_succ_cons, List.drop_zero]
        go_wp2
        go_ret
        exact ⟨ret_eq (congrArg Value.bool (HNO.out (fun hg => by have h7 := hg.2.2.1; omega)).symm), by first | exact HBXL.out.drew | exact HBXL.out | exact (by repeat' (first | with_reducible exact Below.refl _ _ | with_reducible exact BW.out | with_reducible refine Below.setCell ?_ ?_ _ | with_reducible refine Below.alloc ?_ ?_ _ | with_reducible refine Below.drew ?_ | (simp; done) | (simp; omega) | omega))⟩
      have ds : decide (quota < ((sumB list : Nat) : Int)) = false := by simp; omega
      have ds2 : decide (((sumB list : Nat) : Int) ≤ quota) = true := by simp; omega
      refine wp_region_x 17 [0, 1, 2, 3, 4, 5, 6, 7, 8, 9, 10, 12, 13, 11, 14, 15, 16] (by kernel_rfl) (by kernel_rfl) ?_
      iterate 2 (refine wpX_quiet rfl (by kernel_rfl) rfl ?_; go_wp2; refine ⟨rfl, ?_⟩)
      refine wpX_actor rfl (by kernel_rfl) ?_; go_wp2_with fail
      refine (within_any _ _ _ _).mono ?_; rintro e _ ⟨rfl, rfl⟩
      rw [hb1]
      go_wp2; refine ⟨Ext.refl _, ?_⟩
      iterate 7 (refine wpX_quiet rfl (by kernel_rfl) rfl ?_; go_wp2; refine ⟨rfl, ?_⟩)
      refine wpX_quiet rfl (by kernel_rfl) rfl ?_; go_wp2_with (first | (refine wpList_load_row_g _ (by first | rfl | kernel_rfl) ⟨w.heap.size, 0, none⟩ rfl [.int .i64 quota, .slice A0 n k0] agg_Blobs rfl (blk_cells HBQ.out) ?_) | fail); refine ⟨rfl, ?_⟩
      iterate 2 (refine wpX_quiet rfl (by kernel_rfl) rfl ?_; go_wp2; refine ⟨rfl, ?_⟩)
      refine wpX_actor rfl (by kernel_rfl) ?_; go_wp2_with fail
      refine (iSum_any ⟨quota, list⟩ [.int .i64 quota, .slice A0 n k0] _ HWT.out (HREP.out _ HBQL.out.drew)).mono ?_; rintro e v7 ⟨rfl, hb7⟩
      have HB7 := Lib.hid hb7; clear hb7
      have HBX := Lib.hid (HBQ.out.below HB7.out)
      have HBXL := Lib.hid (HBQL.out.drew.trans (HB7.out.mono HBQL.out.drew.size))
      have cq7 := blk_cell0 HBX.out 0 rfl
      have cl7 := blk_cell0 HBX.out 1 rfl
      go_wp2; refine ⟨Ext.of_below HB7.out, ?_⟩
      iterate 3 (refine wpX_quiet rfl (by kernel_rfl) rfl ?_; go_wp2; refine ⟨rfl, ?_⟩)
      refine wpX_nil ?_; try simp only [List.drop_succ_cons, List.drop_zero]
      go_wp2
      go_ret
      exact ⟨ret_eq (congrArg Value.bool (HY.out ⟨hin, by have := HN.out; omega, hsm, HALL2.out⟩).symm), by first | exact HBXL.out.drew | exact HBXL.out | exact (by repeat' (first | with_reducible exact Below.refl _ _ | with_reducible exact BW.out | with_reducible refine Below.setCell ?_ ?_ _ | with_reducible refine Below.alloc ?_ ?_ _ | with_reducible refine Below.drew ?_ | (simp; done) | (simp; omega) | omega))⟩
end Go.Proofs.YtmhbfeglnhangaaDoor
