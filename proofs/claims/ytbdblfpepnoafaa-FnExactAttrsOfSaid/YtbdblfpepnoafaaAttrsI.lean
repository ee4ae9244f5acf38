/-
  The program's AttrsOf as the plain function fAttrsOf. Conditions: bounds on the sizes.
-/
import Derived.Test.YtbdblfpepnoafaaAttrsS
namespace Go.Proofs.Ytbdblfpepnoafaa
open Go.RowKit

theorem blk_app {w : World} {g e : Nat} {L : List Value} (h : Blk w g e ([] ++ (L ++ [])).toArray) : Blk w g e L.toArray := by simpa using h

set_option maxRecDepth 100000 in
set_option maxHeartbeats 4000000 in
theorem iAttrsOf_any (xs : List InstD) (x : IdD) (c : CmdD) (A : Option Addr) (n k : Nat) (cs csc : List Value) (w : World) (hn : n = xs.length) (hwt : n + (cat InstD.c xs).wt ≤ 1048576) (_ : x.c.wt ≤ 1048576) (hwc : c.c.wt ≤ 1048576) (h : Rep anyB w (.sl 49 16 n (cat InstD.c xs) .nil) [.slice A n k]) (h' : Rep anyB w x.c cs) (hc' : Rep anyB w c.c csc) :
    Calls Try.prog 50 #[.slice A n k, .agg cs.toArray, .agg csc.toArray] w fun e w' => ∃ A' m c', e = .returned (.tuple #[.int .i64 (fAttrsOf xs x c).1, .slice A' m c']) ∧ m = (fAttrsOf xs x c).2.length ∧ Mine w' w.heap.size (.sl 32 2 m (cat IdD.c (fAttrsOf xs x c).2) .nil) [.slice A' m c'] ∧ Below w.heap.size w w' := by
  have hCL : csc.length = 8 := hc'.length.trans (CmdD.width c)
  obtain rfl := IdD.open h'
  obtain ⟨U, hU⟩ : ∃ U, U = fAttrsOf xs x c := ⟨_, rfl⟩
  rw [← hU]
  have HY := Lib.hid (fun hok => hU.trans (@fAttrs_yes xs x c hok))
  have HNO := Lib.hid (fun hok => hU.trans (@fAttrs_no xs x c hok))
  clear hU
  have hsx := @insts_seq xs
  have hsq := fun hok => @seqL_range xs hok x c
  have HSEQ := Lib.hid hsq; clear hsq
  have HSX := Lib.hid hsx; clear hsx
  have HN := Lib.hid hn; clear hn
  have HR := Lib.hid h; clear h
  have HRC := Lib.hid hc'; clear hc'
  have HKP := Lib.hid (fun (j : Nat) (hj : j < xs.length) (hk : keepB x c xs[j] = true) => And.intro (depsL_yes hj hk) (seqL_yes hj hk))
  have HKN := Lib.hid (fun (j : Nat) (hj : j < xs.length) (hk : keepB x c xs[j] = false) => And.intro (depsL_no hj hk) (seqL_no hj hk))
  have HD0 := Lib.hid (depsL_len x c)
  have HFD := Lib.hid (show depsL x c (xs.take n) = depsL x c xs ∧ seqL x c (xs.take n) = seqL x c xs by rw [HN.out, List.take_length]; exact ⟨rfl, rfl⟩)
  have HS0 := Lib.hid (show seqL x c (xs.take 0) = 0 ∧ depsL x c (xs.take 0) = [] from ⟨rfl, rfl⟩)
  obtain ⟨D, hD⟩ : ∃ D : Nat → List IdD, D = fun j => depsL x c (xs.take j) := ⟨_, rfl⟩
  obtain ⟨S, hS⟩ : ∃ S : Nat → Int, S = fun j => seqL x c (xs.take j) := ⟨_, rfl⟩
  have HD := Lib.hid hD; clear hD
  have HS := Lib.hid hS; clear hS
  have hnb : n ≤ 1048576 := by omega
  have HWT := Lib.hid hwt
  have HWC := Lib.hid hwc; clear hwc h'
  obtain ⟨xr, xs'⟩ := x
  have SB := Lib.hid (show Blk ((w.alloc (.cells #[.int .i64 xr, .int .i64 xs'] 32)).alloc (.cells csc.toArray 33)) w.heap.size 32 [.int .i64 xr, .int .i64 xs'].toArray from (blk_new w _ _).alloc _)
  have CB := Lib.hid (show Blk ((w.alloc (.cells #[.int .i64 xr, .int .i64 xs'] 32)).alloc (.cells csc.toArray 33)) (w.heap.size + 1) 33 csc.toArray from blk_newAt' _ _ _ _ _ (by simp) rfl)
  have BL := Lib.hid (show Below w.heap.size w ((w.alloc (.cells #[.int .i64 xr, .int .i64 xs'] 32)).alloc (.cells csc.toArray 33)) from (by repeat' (first | with_reducible exact Below.refl _ _ | with_reducible exact BW.out | with_reducible refine Below.setCell ?_ ?_ _ | with_reducible refine Below.alloc ?_ ?_ _ | with_reducible refine Below.drew ?_ | (simp; done) | (simp; omega) | omega)))
  have hsz0 : w.heap.size + 1 + 1 ≤ (World.heap ((w.alloc (.cells #[.int .i64 xr, .int .i64 xs'] 32)).alloc (.cells csc.toArray 33))).size := by simp
  go_enter Try.func50, Try.ntmps50
  go_wp2_with fail
  refine (iInstsOk_any xs A n k _ HN.out hwt (HR.out.below BL.out)).mono ?_
  rintro e v1 ⟨rfl, hb1⟩
  have SB1 := Lib.hid (SB.out.below hb1)
  have CB1 := Lib.hid (CB.out.below hb1)
  have BL1 := Lib.hid (BL.out.trans (hb1.mono BL.out.size))
  have hsz1 := Nat.le_trans hsz0 hb1.size
  clear hb1 SB CB BL hsz0 hwt
  cases hok : instsOkB xs
  · have HF := Lib.hid (HNO.out hok)
    go_wp2
    go_ret2
    rw [HF.out]
    exact ⟨none, 0, 0, ret_eq (by first | rfl | simp), rfl, mine_ids (l := []) ⟨rfl, .inl ⟨rfl, rfl⟩⟩ rfl, BL1.out⟩
  have HF := Lib.hid (HY.out hok)
  have HOK := Lib.hid hok; clear hok
  go_wp2_with fail
  go_loopw [8, 9, 18] (fun sv v i wr => ∃ j : Nat, j ≤ n ∧ i = .int .i64 (j : Int) ∧ sv = .int .i64 (S j) ∧ wr.ownsRow (w.heap.size + 1 + 1) 32 2 v (D j).length (idCells (D j)) ∧ Blk wr w.heap.size 32 [.int .i64 xr, .int .i64 xs'].toArray ∧ Blk wr (w.heap.size + 1) 33 csc.toArray ∧ Below w.heap.size w wr) (fun _ _ i _ => n - (intOf i).toNat)
  case atStart =>
    have h1 : S 0 = 0 := by rw [HS.out]; exact HS0.out.1
    have h2 : D 0 = [] := by rw [HD.out]; exact HS0.out.2
    refine ⟨0, Nat.zero_le _, rfl, by rw [h1], ?_, SB1.out.alloc _, CB1.out.alloc _, BL1.out.alloc BL1.out.size _⟩
    rw [h2]
    exact own_nilAt _ _ _ _ _ rfl hsz1
  case round =>
    obtain ⟨j, hj, rfl, rfl, hown, hsb, hcb, hbel⟩ := hrel
    clear SB1 CB1 BL1
    have HO := Lib.hid hown; clear hown
    have hsz := hbel.size
    have hcl0 := hcb.lt
    by_cases hlt : j < n
    · have hjx : j < xs.length := by have := HN.out; omega
      obtain ⟨ad, ci, rfl, _, _, hrc, hl, hc⟩ := (HR.out.below hbel).elem InstD.width j hjx HN.out
      have hkp := HKP.out j hjx
      have hkn := HKN.out j hjx
      have hq1 := HSX.out HOK.out j hjx
      have hdl : (D j).length ≤ j := by rw [HD.out]; exact Nat.le_trans (HD0.out _) (by simp; omega)
      have hsr : 0 ≤ S j ∧ S j ≤ 60 := by rw [HS.out]; exact HSEQ.out HOK.out j (by omega)
      have e1 : depsL ⟨xr, xs'⟩ c (xs.take j) = D j ∧ depsL ⟨xr, xs'⟩ c (xs.take (j + 1)) = D (j + 1) := by rw [HD.out]; exact ⟨rfl, rfl⟩
      have e2 : seqL ⟨xr, xs'⟩ c (xs.take j) = S j ∧ seqL ⟨xr, xs'⟩ c (xs.take (j + 1)) = S (j + 1) := by rw [HS.out]; exact ⟨rfl, rfl⟩
      rw [e1.1, e1.2, e2.1, e2.2] at hkp hkn
      have hwx : (xs[j].cmd.c).wt ≤ 1048576 := by
        have h1 := cat_wt_le (f := InstD.c) (List.getElem_mem hjx)
        have h2 := HWT.out
        have h3 := InstD.cmd_wt xs[j]
        omega
      obtain ⟨B1, k1, B2, k2, rfl, _⟩ := InstD.open hrc
      clear e1 e2
      generalize xs[j] = y at *
      obtain ⟨⟨yr, ys⟩, ybal, yvb, yst, ycmd, yseq, ydeps, ysame⟩ := y
      simp only at hkp hkn hq1 hwx
      have HKPj := Lib.hid hkp; clear hkp
      have HKNj := Lib.hid hkn; clear hkn
      have HC := Lib.hid hc; clear hc
      have HRY := Lib.hid hrc; clear hrc
      have H1C := Lib.hid HRY.out.one
      generalize hDj : D j = Dj at HO HKPj HKNj hdl
      generalize hSj : S j = Sj at HKPj HKNj hsr ⊢
      by_cases e1 : yr = xr ∧ ys = xs'
      · obtain ⟨rfl, rfl⟩ := e1
        have hk := HKNj.out (by simp [keepB])
        have hkS := Lib.hid hk; clear hk
        go_wp2_with (first
          | ((with_reducible show wpList _ _ _ ({ dst := _, op := Op.load 49 _, type := _, pos := _, after := _, guard := _ } :: _) _ _); refine wpList_load_row _ (ad.add (j * 16)) rfl _ agg_Inst rfl HC.out ?_)
          | ((with_reducible show wpList _ _ _ ({ dst := _, op := Op.store 49 _ _, type := _, pos := _, after := _, guard := _ } :: _) _ _); refine wpList_store_row _ wr.heap.size 49 0 _ [] [.int .i64 0, .int .i64 0, .int .i64 0, .int .i64 0, .int .i64 0, .int .i64 0, .int .i64 0, .int .i64 0, .string ⟨#[]⟩, .string ⟨#[]⟩, .string ⟨#[]⟩, .int .i64 0, .slice none 0 0, .int .i64 0, .slice none 0 0, .bool false] [] _ rfl rfl agg_Inst (blk_new wr _ _) rfl rfl rfl H1C.out ?_; intro v2 hsb2 hsg; have hvb := blk_app hsb2; have hsb' := (hsb.alloc _).grown hsg (by omega); have hcb' := (hcb.alloc _).grown hsg (by omega); have hbel' := Below.grown (hbel.alloc hsz _) hsg (Nat.le_trans hsz (by simp)) (fun k hk => by injection hk with hk; omega); have hO' := ownsRow_keep (base' := w.heap.size + 1 + 1) (HO.out.alloc _) (w' := v2) (fun b hb => ⟨(HO.out.lt b hb).1, hsg.block b (Nat.lt_of_lt_of_le (HO.out.lt b hb).2 (by simp)) (fun e => by injection e with e; have := (HO.out.lt b hb).2; omega)⟩); have hwv : Below wr.heap.size wr v2 := (Below.grown ((Below.refl _ wr).alloc (Nat.le_refl _) _) hsg (by simp) (fun k hk => by injection hk with hk; omega)); have HWV := Lib.hid hwv; clear hwv; have hid := id_cells HRY.out (blk_cells hvb); obtain ⟨cmx, hcl, hcr, hcc⟩ := cmd_cells HRY.out (blk_cells hvb); have h4 := blk_cell0 hvb 4 rfl; have h13 := blk_cell0 hvb 13 rfl; have HO' := Lib.hid hO'; clear hO' hsb2 hsg)
          | ((with_reducible show wpList _ _ _ ({ dst := _, op := Op.load 32 _, type := _, pos := _, after := _, guard := _ } :: _) _ _); first | refine wpList_load_row _ ⟨wr.heap.size, 0, none⟩ rfl _ agg_Id rfl hid ?_ | refine wpList_load_row _ ⟨w.heap.size, 0, none⟩ rfl _ agg_Id rfl (blk_cells hsb') ?_)
          | ((with_reducible show wpList _ _ _ ({ dst := _, op := Op.load 33 _, type := _, pos := _, after := _, guard := _ } :: _) _ _); first | refine wpList_load_row_g _ (by first | rfl | kernel_rfl) ⟨wr.heap.size, 5, none⟩ rfl cmx agg_Cmd hcl hcc ?_ | refine wpList_load_row_g _ (by first | rfl | kernel_rfl) ⟨w.heap.size + 1, 0, none⟩ rfl csc agg_Cmd hCL (blk_cells hcb') ?_)
          | fail)
        exact ⟨⟨j + 1, by omega, by go_num, by rw [hkS.out.2], by rw [hkS.out.1]; exact HO'.out, hsb', hcb', hbel'⟩, by simp only [intOf]; omega⟩
      have hne : ¬ (IdD.mk yr ys = IdD.mk xr xs') := fun h => e1 ⟨by injection h, by injection h⟩
      clear e1
      by_cases e3 : yst = 0
      · have e3b : (yst == 0) = true := by simpa using e3
        have e3c : (yst != 0) = false := by simpa using e3
        have hk := HKNj.out (by simp [keepB, e3])
        clear e3
        have hkS := Lib.hid hk; clear hk
        go_wp2_with (first
          | ((with_reducible show wpList _ _ _ ({ dst := _, op := Op.load 49 _, type := _, pos := _, after := _, guard := _ } :: _) _ _); refine wpList_load_row _ (ad.add (j * 16)) rfl _ agg_Inst rfl HC.out ?_)
          | ((with_reducible show wpList _ _ _ ({ dst := _, op := Op.store 49 _ _, type := _, pos := _, after := _, guard := _ } :: _) _ _); refine wpList_store_row _ wr.heap.size 49 0 _ [] [.int .i64 0, .int .i64 0, .int .i64 0, .int .i64 0, .int .i64 0, .int .i64 0, .int .i64 0, .int .i64 0, .string ⟨#[]⟩, .string ⟨#[]⟩, .string ⟨#[]⟩, .int .i64 0, .slice none 0 0, .int .i64 0, .slice none 0 0, .bool false] [] _ rfl rfl agg_Inst (blk_new wr _ _) rfl rfl rfl H1C.out ?_; intro v2 hsb2 hsg; have hvb := blk_app hsb2; have hsb' := (hsb.alloc _).grown hsg (by omega); have hcb' := (hcb.alloc _).grown hsg (by omega); have hbel' := Below.grown (hbel.alloc hsz _) hsg (Nat.le_trans hsz (by simp)) (fun k hk => by injection hk with hk; omega); have hO' := ownsRow_keep (base' := w.heap.size + 1 + 1) (HO.out.alloc _) (w' := v2) (fun b hb => ⟨(HO.out.lt b hb).1, hsg.block b (Nat.lt_of_lt_of_le (HO.out.lt b hb).2 (by simp)) (fun e => by injection e with e; have := (HO.out.lt b hb).2; omega)⟩); have hwv : Below wr.heap.size wr v2 := (Below.grown ((Below.refl _ wr).alloc (Nat.le_refl _) _) hsg (by simp) (fun k hk => by injection hk with hk; omega)); have HWV := Lib.hid hwv; clear hwv; have hid := id_cells HRY.out (blk_cells hvb); obtain ⟨cmx, hcl, hcr, hcc⟩ := cmd_cells HRY.out (blk_cells hvb); have h4 := blk_cell0 hvb 4 rfl; have h13 := blk_cell0 hvb 13 rfl; have HO' := Lib.hid hO'; clear hO' hsb2 hsg)
          | ((with_reducible show wpList _ _ _ ({ dst := _, op := Op.load 32 _, type := _, pos := _, after := _, guard := _ } :: _) _ _); first | refine wpList_load_row _ ⟨wr.heap.size, 0, none⟩ rfl _ agg_Id rfl hid ?_ | refine wpList_load_row _ ⟨w.heap.size, 0, none⟩ rfl _ agg_Id rfl (blk_cells hsb') ?_)
          | ((with_reducible show wpList _ _ _ ({ dst := _, op := Op.load 33 _, type := _, pos := _, after := _, guard := _ } :: _) _ _); first | refine wpList_load_row_g _ (by first | rfl | kernel_rfl) ⟨wr.heap.size, 5, none⟩ rfl cmx agg_Cmd hcl hcc ?_ | refine wpList_load_row_g _ (by first | rfl | kernel_rfl) ⟨w.heap.size + 1, 0, none⟩ rfl csc agg_Cmd hCL (blk_cells hcb') ?_)
          | fail)
        all_goals exact ⟨⟨j + 1, by omega, by go_num, by rw [hkS.out.2], by rw [hkS.out.1]; exact HO'.out, hsb', hcb', hbel'⟩, by simp only [intOf]; omega⟩
      · have e3b : (yst == 0) = false := by simpa using e3
        have e3c : (yst != 0) = true := by simpa using e3
        have HE3 := Lib.hid e3; clear e3
        cases hcl2 : clashB c ycmd
        · have hk := HKNj.out (by simp [keepB, hcl2])
          have hkS := Lib.hid hk; clear hk
          go_wp2_with (first
            | ((with_reducible show wpList _ _ _ ({ dst := _, op := Op.load 49 _, type := _, pos := _, after := _, guard := _ } :: _) _ _); refine wpList_load_row _ (ad.add (j * 16)) rfl _ agg_Inst rfl HC.out ?_)
            | ((with_reducible show wpList _ _ _ ({ dst := _, op := Op.store 49 _ _, type := _, pos := _, after := _, guard := _ } :: _) _ _); refine wpList_store_row _ wr.heap.size 49 0 _ [] [.int .i64 0, .int .i64 0, .int .i64 0, .int .i64 0, .int .i64 0, .int .i64 0, .int .i64 0, .int .i64 0, .string ⟨#[]⟩, .string ⟨#[]⟩, .string ⟨#[]⟩, .int .i64 0, .slice none 0 0, .int .i64 0, .slice none 0 0, .bool false] [] _ rfl rfl agg_Inst (blk_new wr _ _) rfl rfl rfl H1C.out ?_; intro v2 hsb2 hsg; have hvb := blk_app hsb2; have hsb' := (hsb.alloc _).grown hsg (by omega); have hcb' := (hcb.alloc _).grown hsg (by omega); have hbel' := Below.grown (hbel.alloc hsz _) hsg (Nat.le_trans hsz (by simp)) (fun k hk => by injection hk with hk; omega); have hO' := ownsRow_keep (base' := w.heap.size + 1 + 1) (HO.out.alloc _) (w' := v2) (fun b hb => ⟨(HO.out.lt b hb).1, hsg.block b (Nat.lt_of_lt_of_le (HO.out.lt b hb).2 (by simp)) (fun e => by injection e with e; have := (HO.out.lt b hb).2; omega)⟩); have hwv : Below wr.heap.size wr v2 := (Below.grown ((Below.refl _ wr).alloc (Nat.le_refl _) _) hsg (by simp) (fun k hk => by injection hk with hk; omega)); have HWV := Lib.hid hwv; clear hwv; have hid := id_cells HRY.out (blk_cells hvb); obtain ⟨cmx, hcl, hcr, hcc⟩ := cmd_cells HRY.out (blk_cells hvb); have h4 := blk_cell0 hvb 4 rfl; have h13 := blk_cell0 hvb 13 rfl; have HO' := Lib.hid hO'; clear hO' hsb2 hsg)
            | ((with_reducible show wpList _ _ _ ({ dst := _, op := Op.load 32 _, type := _, pos := _, after := _, guard := _ } :: _) _ _); first | refine wpList_load_row _ ⟨wr.heap.size, 0, none⟩ rfl _ agg_Id rfl hid ?_ | refine wpList_load_row _ ⟨w.heap.size, 0, none⟩ rfl _ agg_Id rfl (blk_cells hsb') ?_)
            | ((with_reducible show wpList _ _ _ ({ dst := _, op := Op.load 33 _, type := _, pos := _, after := _, guard := _ } :: _) _ _); first | refine wpList_load_row_g _ (by first | rfl | kernel_rfl) ⟨wr.heap.size, 5, none⟩ rfl cmx agg_Cmd hcl hcc ?_ | refine wpList_load_row_g _ (by first | rfl | kernel_rfl) ⟨w.heap.size + 1, 0, none⟩ rfl csc agg_Cmd hCL (blk_cells hcb') ?_)
            | fail)
          any_goals (exfalso; apply hne; rw [IdD.mk.injEq]; constructor <;> assumption; done)
          all_goals
            refine (iClash_any ycmd c cmx csc _ hwx HWC.out (hcr.below HWV.out) (HRC.out.below hbel')).mono ?_
            rintro e v3 ⟨rfl, hb3⟩
            rw [clash_comm, hcl2]
            have hvb3 := hvb.below hb3
            have hid3 := id_cells HRY.out (blk_cells hvb3)
            have h13' := blk_cell0 hvb3 13 rfl
            have hO3 := ownsRow_keep (base' := w.heap.size + 1 + 1) HO'.out (w' := v3) (fun b hb => ⟨(HO'.out.lt b hb).1, hb3.block b (HO'.out.lt b hb).2⟩)
            have hsb3 := hsb'.below hb3
            have hcb3 := hcb'.below hb3
            have hbel3 := hbel'.trans (hb3.mono hbel'.size)
            have HO3 := Lib.hid hO3; clear hO3 hb3
            go_wp2
            exact ⟨⟨j + 1, by omega, by go_num, by rw [hkS.out.2], by rw [hkS.out.1]; exact HO3.out, hsb3, hcb3, hbel3⟩, by simp only [intOf]; omega⟩
        · have hk := HKPj.out (by simp [keepB, hcl2, HE3.out, hne])
          have hkS := Lib.hid hk; clear hk
          go_wp2_with (first
            | ((with_reducible show wpList _ _ _ ({ dst := _, op := Op.load 49 _, type := _, pos := _, after := _, guard := _ } :: _) _ _); refine wpList_load_row _ (ad.add (j * 16)) rfl _ agg_Inst rfl HC.out ?_)
            | ((with_reducible show wpList _ _ _ ({ dst := _, op := Op.store 49 _ _, type := _, pos := _, after := _, guard := _ } :: _) _ _); refine wpList_store_row _ wr.heap.size 49 0 _ [] [.int .i64 0, .int .i64 0, .int .i64 0, .int .i64 0, .int .i64 0, .int .i64 0, .int .i64 0, .int .i64 0, .string ⟨#[]⟩, .string ⟨#[]⟩, .string ⟨#[]⟩, .int .i64 0, .slice none 0 0, .int .i64 0, .slice none 0 0, .bool false] [] _ rfl rfl agg_Inst (blk_new wr _ _) rfl rfl rfl H1C.out ?_; intro v2 hsb2 hsg; have hvb := blk_app hsb2; have hsb' := (hsb.alloc _).grown hsg (by omega); have hcb' := (hcb.alloc _).grown hsg (by omega); have hbel' := Below.grown (hbel.alloc hsz _) hsg (Nat.le_trans hsz (by simp)) (fun k hk => by injection hk with hk; omega); have hO' := ownsRow_keep (base' := w.heap.size + 1 + 1) (HO.out.alloc _) (w' := v2) (fun b hb => ⟨(HO.out.lt b hb).1, hsg.block b (Nat.lt_of_lt_of_le (HO.out.lt b hb).2 (by simp)) (fun e => by injection e with e; have := (HO.out.lt b hb).2; omega)⟩); have hwv : Below wr.heap.size wr v2 := (Below.grown ((Below.refl _ wr).alloc (Nat.le_refl _) _) hsg (by simp) (fun k hk => by injection hk with hk; omega)); have HWV := Lib.hid hwv; clear hwv; have hid := id_cells HRY.out (blk_cells hvb); obtain ⟨cmx, hcl, hcr, hcc⟩ := cmd_cells HRY.out (blk_cells hvb); have h4 := blk_cell0 hvb 4 rfl; have h13 := blk_cell0 hvb 13 rfl; have HO' := Lib.hid hO'; clear hO' hsb2 hsg)
            | ((with_reducible show wpList _ _ _ ({ dst := _, op := Op.load 32 _, type := _, pos := _, after := _, guard := _ } :: _) _ _); first | refine wpList_load_row _ ⟨wr.heap.size, 0, none⟩ rfl _ agg_Id rfl hid ?_ | refine wpList_load_row _ ⟨w.heap.size, 0, none⟩ rfl _ agg_Id rfl (blk_cells hsb') ?_)
            | ((with_reducible show wpList _ _ _ ({ dst := _, op := Op.load 33 _, type := _, pos := _, after := _, guard := _ } :: _) _ _); first | refine wpList_load_row_g _ (by first | rfl | kernel_rfl) ⟨wr.heap.size, 5, none⟩ rfl cmx agg_Cmd hcl hcc ?_ | refine wpList_load_row_g _ (by first | rfl | kernel_rfl) ⟨w.heap.size + 1, 0, none⟩ rfl csc agg_Cmd hCL (blk_cells hcb') ?_)
            | fail)
          any_goals (exfalso; apply hne; rw [IdD.mk.injEq]; constructor <;> assumption; done)
          all_goals
            refine (iClash_any ycmd c cmx csc _ hwx HWC.out (hcr.below HWV.out) (HRC.out.below hbel')).mono ?_
            rintro e v3 ⟨rfl, hb3⟩
            rw [clash_comm, hcl2]
            have hvb3 := hvb.below hb3
            have hid3 := id_cells HRY.out (blk_cells hvb3)
            have h13' := blk_cell0 hvb3 13 rfl
            have hO3 := ownsRow_keep (base' := w.heap.size + 1 + 1) HO'.out (w' := v3) (fun b hb => ⟨(HO'.out.lt b hb).1, hb3.block b (HO'.out.lt b hb).2⟩)
            have hsb3 := hsb'.below hb3
            have hcb3 := hcb'.below hb3
            have hbel3 := hbel'.trans (hb3.mono hbel'.size)
            have HO3 := Lib.hid hO3; clear hO3 hb3
            go_wp2_with (first
              | ((with_reducible show wpList _ _ _ ({ dst := _, op := Op.load 32 _, type := _, pos := _, after := _, guard := _ } :: _) _ _); refine wpList_load_row _ ⟨wr.heap.size, 0, none⟩ rfl _ agg_Id rfl hid3 ?_)
              | (at_builtin; refine wpList_app E_Id _ rfl (.tmp 41) (.tmp 44) rfl (w.heap.size + 1 + 1) _ Dj.length _ rfl (HO3.out.alloc _) _ _ _ _ rfl (Reads.new (e := 32) rfl) (by intro u hu; simp at hu; rcases hu with rfl | rfl <;> rfl) (by omega) (by have h8 := hcb3.lt; simp; omega) ?_; intro v' v4 hown4 hgr4 hat4; have HOWN4 := Lib.hid hown4; clear hown4; have HGR4 := Lib.hid hgr4; clear hgr4 hat4)
              | fail)
            all_goals
              refine ⟨⟨j + 1, by omega, by go_num, by rw [hkS.out.2]; first | rfl | (simp only [Value.int.injEq, true_and]; omega), ?_, keptB hsb3 HGR4.out (fun e => by have h9 := (HO3.out.lt _ e).1; omega), keptB hcb3 HGR4.out (fun e => by have h9 := (HO3.out.lt _ e).1; omega), Below.grown (hbel3.alloc hbel3.size _) HGR4.out (Nat.le_trans hbel3.size (by simp)) (fun k hk => by have h9 := (HO3.out.lt k hk).1; omega)⟩, by simp only [intOf]; omega⟩
              rw [hkS.out.1, List.length_append, idCells_app]
              first | exact HOWN4.out | (have e : yr = xr := by assumption); rw [e]; exact HOWN4.out
    · have hjn : j = n := by omega
      subst hjn
      have h1 : S j = seqL ⟨xr, xs'⟩ c xs := by rw [HS.out]; exact HFD.out.2
      have h2 : D j = depsL ⟨xr, xs'⟩ c xs := by rw [HD.out]; exact HFD.out.1
      rw [h1]
      have hO := HO.out
      rw [h2] at hO
      clear h1 h2
      have hr60 : 0 ≤ seqL ⟨xr, xs'⟩ c xs ∧ seqL ⟨xr, xs'⟩ c xs ≤ 60 := by have h9 := HSEQ.out HOK.out j (by have := HN.out; omega); rw [HFD.out.2] at h9; exact h9
      obtain ⟨Av, cv, rfl, _⟩ := SlR.of_own hO
      have HO2 := Lib.hid hO; clear hO HO
      go_wp2
      go_ret2
      rw [HF.out]
      exact ⟨Av, _, cv, ret_eq (by first | rfl | simp), rfl, mine_ids (ownsRow_keep (base' := w.heap.size) HO2.out (fun b hb => ⟨by have := (HO2.out.lt b hb).1; omega, rfl⟩)) rfl, hbel⟩

end Go.Proofs.Ytbdblfpepnoafaa
