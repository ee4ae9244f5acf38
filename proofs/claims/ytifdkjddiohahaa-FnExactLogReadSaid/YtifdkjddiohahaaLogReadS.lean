/-
  Records of a log: spec.LogRead. Conditions: a bound on the sizes.
-/
import Derived.Test.YtifdkjddiohahaaLogRead
namespace Go.Proofs.Ytifdkjddiohahaa
open Go.RowKit

set_option maxRecDepth 100000 in
set_option maxHeartbeats 4000000 in
theorem sLogRead_any (x : LogD) (cs : List Value) (w : World) (hwt : x.c.wt ≤ 1048576) (h : Rep anyB w x.c cs) :
    Calls Try.prog 44 #[.agg cs.toArray] w fun e w' => ∃ A n c, e = .returned (.slice A n c) ∧ n = (fLogRead x).length ∧ Mine w' w.heap.size (.sl 9 1 n (cat strC (fLogRead x)) .nil) [.slice A n c] ∧ Below w.heap.size w w' := by
  have hw0 : x.c.wt = x.segs.length + (cat SegD.c x.segs).wt + 0 := rfl
  have HA := Lib.hid h
  have HW := Lib.hid hwt
  have hlen := readSegs_len x.mark x.segs
  obtain ⟨A0, k0, rfl, s0⟩ := LogD.open h
  obtain ⟨R, hR⟩ : ∃ R, R = fLogRead x := ⟨_, rfl⟩
  rw [← hR]
  unfold fLogRead at hR
  have hgood := @logOk_iff x
  obtain ⟨segs, next, mark⟩ := x
  simp only [] at s0 hw0 hR hlen HA HW ⊢
  have HR := Lib.hid hR; clear hR
  obtain ⟨n, hn⟩ : ∃ n, n = segs.length := ⟨_, rfl⟩
  have HN := Lib.hid hn
  have S0 := Lib.hid (show Rep anyB w (.sl 90 2 n (cat SegD.c segs) .nil) [.slice A0 n k0] by rw [hn]; exact s0)
  have hWb : n + (cat SegD.c segs).wt ≤ 1048576 := by omega
  have HWb := Lib.hid hWb
  have hn1 : n ≤ 1048576 := by omega
  rw [← hn] at HA ⊢
  have HLN := Lib.hid (show ((segs.map (readSeg mark)).flatten).length ≤ 1048576 by omega)
  clear h hw0 hwt hWb s0 hn hlen
  have SB0 := Lib.hid (show Blk ((w.alloc (.cells #[.slice A0 n k0, .int .i64 next, .int .i64 mark] 46)).alloc (.cells #[] 9)) w.heap.size 46 [.slice A0 n k0, .int .i64 next, .int .i64 mark].toArray from blk2_0 _ _ _ _)
  go_enter Try.func44, Try.ntmps44
  cases hx : logOkB ⟨segs, next, mark⟩
  case false =>
    rw [hx] at HR
    have hRn : R = [] := by rw [HR.out]; rfl
    subst hRn
    have HX := Lib.hid hx; clear hx
    go_wp2
    go_loopw [3, 4] (fun oo ii wr => oo = .slice (some ⟨w.heap.size + 1, 0, none⟩) 0 0 ∧ ii = .int .i64 0 ∧ wr = (w.alloc (.cells #[.slice A0 n k0, .int .i64 next, .int .i64 mark] 46)).alloc (.cells #[] 9)) (fun _ _ _ => 0)
    case atStart => exact ⟨rfl, rfl, rfl⟩
    case round =>
      obtain ⟨rfl, rfl, rfl⟩ := hrel
      have hfin : ∀ w2, Below ((w.alloc (.cells #[.slice A0 n k0, .int .i64 next, .int .i64 mark] 46)).alloc (.cells #[] 9)).heap.size ((w.alloc (.cells #[.slice A0 n k0, .int .i64 next, .int .i64 mark] 46)).alloc (.cells #[] 9)) w2 → Mine w2 w.heap.size (.sl 9 1 0 (cat strC []) .nil) [.slice (some ⟨w.heap.size + 1, 0, none⟩) 0 0] := fun w2 hb =>
        Mine.strs_mk rfl (blk_own (Nat.le_succ _) ((blk2_1 w _ #[] 9).below hb) (by decide) rfl rfl)
      have HFIN := Lib.hid hfin; clear hfin
      by_cases hn0 : n = 0
      · subst hn0
        go_wp2
        go_ret
        exact ⟨_, _, _, rfl, rfl, HFIN.out _ (Below.refl _ _), (by repeat' (first | with_reducible exact Below.refl _ _ | with_reducible exact BW.out | with_reducible refine Below.setCell ?_ ?_ _ | with_reducible refine Below.alloc ?_ ?_ _ | with_reducible refine Below.drew ?_ | (simp; done) | (simp; omega) | omega))⟩
      · have hn2 : 0 < n := by omega
        clear hn0
        go_wp2_with fail
        refine (sLogOk_any ⟨segs, next, mark⟩ _ _ HW.out (HA.out.below (by repeat' (first | with_reducible exact Below.refl _ _ | with_reducible exact BW.out | with_reducible refine Below.setCell ?_ ?_ _ | with_reducible refine Below.alloc ?_ ?_ _ | with_reducible refine Below.drew ?_ | (simp; done) | (simp; omega) | omega)))).mono ?_; rintro e w2 ⟨rfl, hb⟩
        rw [HX.out]
        have HF := Lib.hid (HFIN.out _ hb)
        have BW := Lib.hid (show Below w.heap.size w w2 from Below.trans (by repeat' (first | with_reducible exact Below.refl _ _ | with_reducible exact BW.out | with_reducible refine Below.setCell ?_ ?_ _ | with_reducible refine Below.alloc ?_ ?_ _ | with_reducible refine Below.drew ?_ | (simp; done) | (simp; omega) | omega)) (hb.mono (by first | (simp; done) | (simp; omega) | omega))); clear hb
        go_wp2
        go_ret
        exact ⟨_, _, _, rfl, rfl, HF.out, BW.out⟩
  case true =>
    rw [hx, if_pos rfl] at HR
    have hg := hgood.1 hx
    have HX := Lib.hid hx
    clear hx hgood
    obtain ⟨_, h6, hf1, _, hsf, hnx, _, _⟩ := hg
    have hfi := segsF_first hsf
    simp only [] at hfi hnx h6
    have HF := Lib.hid hfi.2; clear hfi hsf
    have HF1 := Lib.hid hf1; clear hf1
    go_wp2
    have HV := Lib.hid (show ([] : List (List UInt8)) ++ ((segs.drop 0).map (readSeg mark)).flatten = R by rw [List.drop_zero]; exact HR.out.symm)
    go_loopw [3, 4] (fun oo ii wr => ∃ (j : Nat) (acc : List (List UInt8)), j ≤ n ∧ ii = .int .i64 (j : Int) ∧ acc ++ ((segs.drop j).map (readSeg mark)).flatten = R ∧ wr.ownsRow (w.heap.size + 1) 9 1 oo acc.length (acc.map strv) ∧ Blk wr w.heap.size 46 [.slice A0 n k0, .int .i64 next, .int .i64 mark].toArray ∧ Below w.heap.size w wr ∧ w.heap.size + 1 ≤ wr.heap.size) (fun _ ii _ => n - (intOf ii).toNat)
    case atStart => exact ⟨0, [], Nat.zero_le _, rfl, HV.out, by simpa using World.ownsRow_made (base := w.heap.size + 1) (w.alloc (.cells #[.slice A0 n k0, .int .i64 next, .int .i64 mark] 46)) #[] 0 (by simp) (by simp [maxLen]) rfl, SB0.out, (by repeat' (first | with_reducible exact Below.refl _ _ | with_reducible exact BW.out | with_reducible refine Below.setCell ?_ ?_ _ | with_reducible refine Below.alloc ?_ ?_ _ | with_reducible refine Below.drew ?_ | (simp; done) | (simp; omega) | omega)), by simp⟩
    case round =>
      obtain ⟨j, acc, hj, rfl, hv, hown, hsb, hbw, hsz⟩ := hrel
      clear SB0 HV
      have SB := Lib.hid hsb; clear hsb
      have BW := Lib.hid hbw; clear hbw
      have HO := Lib.hid hown; clear hown
      have HSZ := Lib.hid hsz; clear hsz
      have hs0 : World.cell? wr ⟨w.heap.size, 0, none⟩ = some (.slice A0 n k0) := blk_cell0 (L := [.slice A0 n k0, .int .i64 next, .int .i64 mark]) SB.out 0 rfl
      by_cases hlt : j < n
      · have hjx : j < segs.length := by have := HN.out; omega
        obtain ⟨ad, ci, rfl, _, _, hrc, hl, hc⟩ := (S0.out.below BW.out).elem SegD.width j hjx HN.out
        have hcel : ∀ W, Below w.heap.size w W → W.cell? (ad.add (j * 2)) = some (.int .i64 segs[j].first) ∧ W.cell? ⟨(ad.add (j * 2)).block, (ad.add (j * 2)).off + 1, none⟩ = some (.string (bs segs[j].text)) := fun W hW => by
          obtain ⟨ad', ci, he, _, _, hrc, hl, hc⟩ := (S0.out.below hW).elem SegD.width j hjx HN.out
          injection he with he
          subst he
          obtain rfl := SegD.open hrc
          have h0 := hc 0 _ rfl
          have h1 := hc 1 _ rfl
          exact ⟨h0, h1⟩
        have hwl := seg_wt_le j hjx
        have hfj := HF.out segs[j] (List.getElem_mem hjx)
        rw [show segs.drop j = segs[j] :: segs.drop (j + 1) from List.drop_eq_getElem_cons hjx, List.map_cons, List.flatten_cons] at hv
        clear hrc hl hc
        generalize segs[j] = s at *
        obtain ⟨fj, txt⟩ := s
        simp only [readSeg] at hwl hcel hfj hv
        have hfa : 1 ≤ fj ∧ fj ≤ 1000 := by have := HF1.out; omega
        obtain ⟨hfa1, hfa2⟩ := hfa
        clear hfj
        have hun := fun W => sUnframe_any txt W (by have := HWb.out; omega)
        have hcu := cntU_le txt
        simp only [cntU] at hcu
        generalize unframeL txt = U at *
        obtain ⟨ul, en⟩ := U
        simp only [] at hun hcu hv
        have HUN := Lib.hid hun; clear hun
        have HCEL := Lib.hid hcel; clear hcel
        have hb1 : ul.length ≤ 1048576 := by have := HWb.out; omega
        clear hwl hcu
        generalize hrest : ((segs.drop (j + 1)).map (readSeg mark)).flatten = rest at *
        have HREST := Lib.hid hrest; clear hrest
        have HVV := Lib.hid hv; clear hv
        go_wp2_with (first | (refine wpList_load_row_g _ (by first | rfl | kernel_rfl) ⟨w.heap.size, 0, none⟩ rfl [.slice (some ad) n k0, .int .i64 next, .int .i64 mark] agg_Log rfl (blk_cells SB.out) ?_) | fail)
        refine (sLogOk_any ⟨segs, next, mark⟩ _ _ HW.out (HA.out.below BW.out)).mono ?_; rintro e w1 ⟨rfl, hb⟩
        rw [HX.out]
        have X := Lib.hid (SB.out.below hb); clear SB
        have SB := Lib.hid X.out; clear X
        have X := Lib.hid (show Below w.heap.size w w1 from BW.out.trans (hb.mono BW.out.size)); clear BW
        have BW := Lib.hid X.out; clear X
        have ho2 := HO.out.kept (only_of_below hb none) (by cases u3.ownBlock <;> simp)
        have hz2 : w.heap.size + 1 ≤ w1.heap.size := Nat.le_trans HSZ.out hb.size
        clear HO HSZ hb hs0
        have HO := Lib.hid ho2; clear ho2
        have HSZ := Lib.hid hz2; clear hz2
        have hs0 : World.cell? w1 ⟨w.heap.size, 0, none⟩ = some (.slice (some ad) n k0) := blk_cell0 (L := [.slice (some ad) n k0, .int .i64 next, .int .i64 mark]) SB.out 0 rfl
        have hce := (HCEL.out _ BW.out).2
        go_wp2_with fail
        refine (HUN.out _).mono ?_; rintro e w2 ⟨lv, rfl, hul, hb⟩
        have X := Lib.hid (SB.out.below hb); clear SB
        have SB := Lib.hid X.out; clear X
        have hap := own_apart2 HO.out hul (Nat.le_refl _)
        have ho2 := HO.out.kept (only_of_below hb none) (by cases u3.ownBlock <;> simp)
        have hz2 : w.heap.size + 1 ≤ w2.heap.size := Nat.le_trans HSZ.out hb.size
        have hbw2 : Below w.heap.size w w2 := BW.out.trans (hb.mono BW.out.size)
        obtain ⟨Au, cu, rfl, _⟩ := SlR.of_own hul
        clear BW hb HO HSZ hs0 hce
        have BW := Lib.hid hbw2; clear hbw2
        have HO := Lib.hid ho2; clear ho2
        have hul0 := ownsRow_keep (base' := 0) hul (fun b hb => ⟨Nat.zero_le _, rfl⟩)
        have HUL := Lib.hid hul0; clear hul0 hul
        have HAP := Lib.hid hap; clear hap
        have HZ2 := Lib.hid hz2; clear hz2
        have HIN := Lib.hid (show acc ++ (keepF mark (ul.drop 0) (fj + ((0 : Nat) : Int)) ++ rest) = R by rw [List.drop_zero]; simpa using HVV.out)
        have HRL := Lib.hid (show R.length ≤ 1048576 by have := HLN.out; rw [← HR.out] at this; exact this)
        go_wp2
        go_loopw [3, 7] (fun oo kk wr => ∃ (k : Nat) (acc : List (List UInt8)), k ≤ ul.length ∧ kk = .int .i64 (k : Int) ∧ acc ++ (keepF mark (ul.drop k) (fj + (k : Int)) ++ rest) = R ∧ wr.ownsRow (w.heap.size + 1) 9 1 oo acc.length (acc.map strv) ∧ wr.ownsRow 0 9 1 (.slice Au ul.length cu) ul.length (ul.map strv) ∧ ((Value.slice Au ul.length cu).ownBlock = none ∨ (Value.slice Au ul.length cu).ownBlock ≠ oo.ownBlock) ∧ Blk wr w.heap.size 46 [.slice (some ad) n k0, .int .i64 next, .int .i64 mark].toArray ∧ Below w.heap.size w wr ∧ w.heap.size + 1 ≤ wr.heap.size) (fun _ kk _ => ul.length - (intOf kk).toNat)
        case atStart => exact ⟨0, acc, Nat.zero_le _, rfl, HIN.out, HO.out, HUL.out, HAP.out, SB.out, BW.out, HZ2.out⟩
        case round =>
          obtain ⟨k, acc, hk, rfl, hin, hown, hul, hap, hsb, hbw, hsz⟩ := hrel
          clear HIN HO HUL HAP SB BW HZ2
          have HIN := Lib.hid hin; clear hin
          have HO := Lib.hid hown; clear hown
          have HUL := Lib.hid hul; clear hul
          have HAP := Lib.hid hap; clear hap
          have SB := Lib.hid hsb; clear hsb
          have BW := Lib.hid hbw; clear hbw
          have HZ2 := Lib.hid hsz; clear hsz
          have hs0 : World.cell? wr ⟨w.heap.size, 0, none⟩ = some (.slice (some ad) n k0) := blk_cell0 (L := [.slice (some ad) n k0, .int .i64 next, .int .i64 mark]) SB.out 0 rfl
          have hs2 : World.cell? wr ⟨w.heap.size, 2, none⟩ = some (.int .i64 mark) := blk_cell0 (L := [.slice (some ad) n k0, .int .i64 next, .int .i64 mark]) SB.out 2 rfl
          have ht0 := (HCEL.out _ BW.out).1
          by_cases hkl : k < ul.length
          · obtain ⟨hlen, hcells⟩ := Reads.of_own HUL.out
            obtain ⟨au, rfl, hcl⟩ := hcells (by omega)
            have hc := hcl k (strv ul[k]) (by rw [List.getElem?_map, List.getElem?_eq_getElem hkl]; rfl)
            have hin := HIN.out
            rw [show ul.drop k = ul[k] :: ul.drop (k + 1) from List.drop_eq_getElem_cons hkl, keepF] at hin
            clear HIN hcl hlen
            have hal : acc.length ≤ 1048576 := by have h1 := HRL.out; have h2 := congrArg List.length hin; rw [List.length_append] at h2; omega
            generalize ul[k] = y at *
            have hc2 : World.cell? wr (au.add k) = some (.string (bs y)) := hc
            have hc3 : World.cell? wr.drew (au.add k) = some (.string (bs y)) := hc
            clear hc
            by_cases hcond : mark < fj + (k : Int)
            · rw [if_pos hcond] at hin
              have hin2 : (acc ++ [y]) ++ (keepF mark (ul.drop (k + 1)) (fj + ((k + 1 : Nat) : Int)) ++ rest) = R := by
                rw [← hin, show fj + ((k + 1 : Nat) : Int) = fj + (k : Int) + 1 by omega]; simp
              have HIN := Lib.hid hin2; clear hin2 hin
              go_wp2
              refine wp_region_x 11 [0, 1, 2, 3, 4, 5, 6, 7, 8, 9, 10] (by kernel_rfl) (by kernel_rfl) ?_
              iterate 11 (refine wpX_quiet rfl (by kernel_rfl) rfl ?_; go_wp2; refine ⟨rfl, ?_⟩)
              refine wpX_nil ?_; try simp only [List.drop_succ_cons, List.drop_zero]
              go_wp2_with (at_builtin; go_must (refine wpList_app E_str _ rfl (.tmp 47) (.tmp 52) rfl (w.heap.size + 1) _ acc.length _ rfl (HO.out.drew.alloc _) _ _ _ _ rfl (Reads.new rfl) (one1 rfl) (by omega) (Nat.le_trans HZ2.out (by simp)) ?_; intro vv w4 hown1 hg1 hat1; have hbel3 := (BW.out.drew.alloc BW.out.size _).grown hg1 (Nat.le_trans BW.out.size (by simp)) (fun g hg => by have := (HO.out.lt g hg).1; omega); have hown3 := own_snocS y hown1; have hul3 := (HUL.out.drew.alloc (.cells #[.string (bs y)] 9)).kept hg1 HAP.out; have hsb3 := Blk.keep (SB.out.drew.alloc (.cells #[.string (bs y)] 9)) (hg1.block w.heap.size (SB.out.drew.alloc (.cells #[.string (bs y)] 9)).lt (fun e => by have h1 := (HO.out.lt _ e.symm).1; omega)); have hz4 : w.heap.size + 1 ≤ w4.heap.size := Nat.le_trans HZ2.out (Nat.le_trans (by simp) hg1.size); have hap4 := apart_step HUL.out HAP.out hat1 (by simp); clear hown1 hg1 hat1; have H7 := Lib.hid hown3; have H8 := Lib.hid hbel3; have H9 := Lib.hid hul3; have H11 := Lib.hid hsb3; have H12 := Lib.hid hz4; have H13 := Lib.hid hap4; clear hown3 hbel3 hul3 hsb3 hz4 hap4))
              exact ⟨⟨k + 1, acc ++ [y], by omega, by go_num, HIN.out, H7.out, H9.out, H13.out, H11.out, H8.out, H12.out⟩, by simp only [intOf]; omega⟩
            · rw [if_neg hcond] at hin
              have hin2 : acc ++ (keepF mark (ul.drop (k + 1)) (fj + ((k + 1 : Nat) : Int)) ++ rest) = R := by
                rw [← hin, show fj + ((k + 1 : Nat) : Int) = fj + (k : Int) + 1 by omega]
              have HIN := Lib.hid hin2; clear hin2 hin
              go_wp2
              refine wp_region_x 11 [0, 1, 2, 3, 4, 5, 6, 7, 8, 9, 10] (by kernel_rfl) (by kernel_rfl) ?_
              iterate 11 (refine wpX_quiet rfl (by kernel_rfl) rfl ?_; go_wp2; refine ⟨rfl, ?_⟩)
              refine wpX_nil ?_; try simp only [List.drop_succ_cons, List.drop_zero]
              go_wp2
              exact ⟨⟨k + 1, acc, by omega, by go_num, HIN.out, HO.out.drew, HUL.out.drew, HAP.out, SB.out.drew, BW.out.drew, HZ2.out⟩, by simp only [intOf]; omega⟩
          · have hkn : ul.length ≤ k := by omega
            have hin := HIN.out
            rw [List.drop_of_length_le hkn] at hin
            have HEND := Lib.hid (show acc ++ rest = R from hin); clear hin HIN
            have hke : k = ul.length := by omega
            subst hke
            clear ht0 hs2 hs0
            go_wp2
            exact ⟨⟨j + 1, acc, by omega, by go_num, HREST.out ▸ HEND.out, HO.out, SB.out, BW.out, HZ2.out⟩, by simp only [intOf]; omega⟩
      · have hjn : j = n := by omega
        subst hjn
        rw [List.drop_of_length_le (by have := HN.out; omega)] at hv
        have hRa : acc = R := by simpa using hv
        subst hRa
        obtain ⟨A, c, rfl, _⟩ := SlR.of_own HO.out
        go_wp2
        go_ret
        exact ⟨_, _, _, rfl, rfl, Mine.strs_mk rfl (ownsRow_keep HO.out (fun b hb => ⟨Nat.le_trans (Nat.le_succ _) (HO.out.lt b hb).1, rfl⟩)), BW.out⟩

end Go.Proofs.Ytifdkjddiohahaa
