/-
  The law on LogRead holds for all arguments. No condition.
-/
import Derived.Test.YtifdkjddiohahaaEq
import Derived.Test.YtifdkjddiohahaaOpen
import Derived.Test.YtifdkjddiohahaaLogReadS
import Derived.Test.YtifdkjddiohahaaCnt
import Derived.Test.YtifdkjddiohahaaMk
namespace Go.Proofs.Ytifdkjddiohahaa
open Go.RowKit Go.ChangeShapes Go.WideShapes Go.ChangeAt
open Go.ChangeMaps (open_string)

attribute [local irreducible] markL marks mks cts LogD.mkT LogD.cntT
set_option maxRecDepth 100000 in
set_option maxHeartbeats 4000000 in
theorem lLogRead_all (x0 : LogD) (cs0 : List Value) (w : World) (hok0 : x0.c.ok) (h0 : Rep anyB w x0.c cs0) :
    Calls Try.prog 11 #[.agg cs0.toArray] w fun e w' => e = .returned (.bool true) ∧ Below w.heap.size w w' := by
  have HL0 := Lib.hid (show cs0.length = 3 from h0.length.trans (LogD.width x0))
  have OK0 := Lib.hid hok0; clear hok0
  have A0 := Lib.hid h0; clear h0
  by_cases cc0 : ((x0.c.wt : Nat) : Int) ≤ 1048576
  · skip
    have hs := fun ds0 W g0 => sLogRead_any x0 ds0 W (by omega) g0
    have hi := fun ds0 W g0 => iLogRead_any x0 ds0 W (by omega) g0
    have hbd := bLogRead x0 (by omega)
    generalize fLogRead x0 = r0 at hs hi hbd
    have Hs := Lib.hid hs; clear hs
    have Hi := Lib.hid hi; clear hi
    obtain ⟨hwt0, hcn0⟩ := hbd
    have HWT := Lib.hid hwt0
    have HCN := Lib.hid hcn0
    clear hwt0 hcn0
    have HCX0 := Lib.hid (LogD.cntT_le x0)
    go_enter Try.func11, Try.ntmps11
    go_wp2_with (first | ((with_reducible show wpList _ _ _ ({ dst := _, op := Op.load 53 _, type := _, pos := _, after := _, guard := _ } :: _) _ _); refine wpList_load_row _ ⟨w.heap.size, 0, none⟩ rfl cs0 agg_lLog HL0.out (blk_cells (blk_new _ _ _)) ?_) | ((with_reducible show wpList _ _ _ ({ dst := _, op := Op.load 53 _, type := _, pos := _, after := _, guard := _ } :: _) _ _); refine wpList_load_row_g _ (by first | rfl | kernel_rfl) ⟨w.heap.size, 0, none⟩ rfl cs0 agg_lLog HL0.out (blk_cells (blk_new _ _ _)) ?_) | fail)
    refine (szLog_yes x0 _ cs0 _ (by omega) (by omega) OK0.out (A0.out.below (by repeat' (first | with_reducible exact Below.refl _ _ | with_reducible refine Below.alloc ?_ ?_ _ | (simp; done) | (simp; omega) | omega))) (by omega)).mono ?_; rintro e v1 ⟨q0, rfl, ⟨g0a, g0b⟩, hq, hb⟩
    have HQ0 := Lib.hid hq; clear hq
    have B0 := Lib.hid (Blk.below (blk_new _ _ _) hb)
    have BW := Lib.hid (show Below w.heap.size w v1 from Below.trans (by repeat' (first | with_reducible exact Below.refl _ _ | with_reducible refine Below.alloc ?_ ?_ _ | (simp; done) | (simp; omega) | omega)) (hb.mono (by first | (simp; done) | (simp; omega) | omega)))
    clear hb
    go_wp2_with (first | ((with_reducible show wpList _ _ _ ({ dst := _, op := Op.load 53 _, type := _, pos := _, after := _, guard := _ } :: _) _ _); refine wpList_load_row _ ⟨w.heap.size, 0, none⟩ rfl cs0 agg_lLog HL0.out (blk_cells B0.out) ?_) | ((with_reducible show wpList _ _ _ ({ dst := _, op := Op.load 53 _, type := _, pos := _, after := _, guard := _ } :: _) _ _); refine wpList_load_row_g _ (by first | rfl | kernel_rfl) ⟨w.heap.size, 0, none⟩ rfl cs0 agg_lLog HL0.out (blk_cells B0.out) ?_) | fail)
    have HSZ := Lib.hid BW.out.size
    refine (toLog_any x0 cs0 _ (by omega) (A0.out.below BW.out)).mono ?_; rintro e v2 ⟨cs'1, rfl, hM, hb⟩
    have Lcs1 := Lib.hid (show cs'1.length = 3 from hM.rep.length.trans (LogD.width _))
    obtain ⟨F3, hnd, ho⟩ := hM
    have N4 := Lib.hid hnd; clear hnd
    have D5 := Lib.hid (show w.heap.size ∉ F3 from fun he => by have h1 := (show Blk v1 _ _ _ from B0.out).lt; have h2 := (ho.in _ he).1; first | omega | (revert h1 h2; simp; done) | (revert h1 h2; simp; omega))
    have hbs := hb.size
    have HBS := Lib.hid hbs; clear hbs
    have X := Lib.hid (B0.out.below hb); clear B0
    have B0 := Lib.hid X.out; clear X
    have X := Lib.hid (show Below w.heap.size w v2 from BW.out.trans (hb.mono BW.out.size)); clear BW
    have BW := Lib.hid X.out; clear X
    clear hb
    have O2 := Lib.hid (Own.mono ho (show w.heap.size ≤ _ from HSZ.out)); clear ho HBS
    clear HSZ
    go_wp2_with (first | ((with_reducible show wpList _ _ _ ({ dst := _, op := Op.load 53 _, type := _, pos := _, after := _, guard := _ } :: _) _ _); refine wpList_load_row _ ⟨w.heap.size, 0, none⟩ rfl cs0 agg_lLog HL0.out (blk_cells B0.out) ?_) | ((with_reducible show wpList _ _ _ ({ dst := _, op := Op.load 53 _, type := _, pos := _, after := _, guard := _ } :: _) _ _); refine wpList_load_row_g _ (by first | rfl | kernel_rfl) ⟨w.heap.size, 0, none⟩ rfl cs0 agg_lLog HL0.out (blk_cells B0.out) ?_) | fail)
    have HSZ := Lib.hid BW.out.size
    refine (Hs.out cs'1 _ O2.out.repAny).mono ?_; rintro e v3 ⟨A'6, _, c'7, rfl, rfl, hM0, hb⟩
    obtain ⟨F9, hnd, ho⟩ := hM0
    have N10 := Lib.hid hnd; clear hnd
    have D11 := Lib.hid (show ∀ b ∈ F3, b ∉ F9 from fun b hb he => by have h1 := (O2.out.in b hb).2; have h2 := (ho.in b he).1; first | omega | (revert h1 h2; simp; done) | (revert h1 h2; simp; omega))
    have D12 := Lib.hid (show ∀ b ∈ F9, b ∉ F3 from fun b he hb => by have h1 := (O2.out.in b hb).2; have h2 := (ho.in b he).1; first | omega | (revert h1 h2; simp; done) | (revert h1 h2; simp; omega))
    have D13 := Lib.hid (show w.heap.size ∉ F9 from fun he => by have h1 := (show Blk v2 _ _ _ from B0.out).lt; have h2 := (ho.in _ he).1; first | omega | (revert h1 h2; simp; done) | (revert h1 h2; simp; omega))
    have hbs := hb.size
    have HBS := Lib.hid hbs; clear hbs
    have X := Lib.hid (B0.out.below hb); clear B0
    have B0 := Lib.hid X.out; clear X
    have X := Lib.hid (show Below w.heap.size w v3 from BW.out.trans (hb.mono BW.out.size)); clear BW
    have BW := Lib.hid X.out; clear X
    have X := Lib.hid (O2.out.below hb); clear O2
    have O2 := Lib.hid X.out; clear X
    clear hb
    have O8 := Lib.hid (Own.mono ho (show w.heap.size ≤ _ from HSZ.out)); clear ho HBS
    clear HSZ
    go_wp2_with (first | ((with_reducible show wpList _ _ _ ({ dst := _, op := Op.load 53 _, type := _, pos := _, after := _, guard := _ } :: _) _ _); refine wpList_load_row _ ⟨w.heap.size, 0, none⟩ rfl cs0 agg_lLog HL0.out (blk_cells B0.out) ?_) | ((with_reducible show wpList _ _ _ ({ dst := _, op := Op.load 53 _, type := _, pos := _, after := _, guard := _ } :: _) _ _); refine wpList_load_row_g _ (by first | rfl | kernel_rfl) ⟨w.heap.size, 0, none⟩ rfl cs0 agg_lLog HL0.out (blk_cells B0.out) ?_) | fail)
    have HSZ := Lib.hid BW.out.size
    refine (toLog_any x0 cs0 _ (by omega) (A0.out.below BW.out)).mono ?_; rintro e v4 ⟨cs'14, rfl, hM, hb⟩
    have Lcs14 := Lib.hid (show cs'14.length = 3 from hM.rep.length.trans (LogD.width _))
    obtain ⟨F16, hnd, ho⟩ := hM
    have N17 := Lib.hid hnd; clear hnd
    have D18 := Lib.hid (show ∀ b ∈ F3, b ∉ F16 from fun b hb he => by have h1 := (O2.out.in b hb).2; have h2 := (ho.in b he).1; first | omega | (revert h1 h2; simp; done) | (revert h1 h2; simp; omega))
    have D19 := Lib.hid (show ∀ b ∈ F16, b ∉ F3 from fun b he hb => by have h1 := (O2.out.in b hb).2; have h2 := (ho.in b he).1; first | omega | (revert h1 h2; simp; done) | (revert h1 h2; simp; omega))
    have D20 := Lib.hid (show ∀ b ∈ F9, b ∉ F16 from fun b hb he => by have h1 := (O8.out.in b hb).2; have h2 := (ho.in b he).1; first | omega | (revert h1 h2; simp; done) | (revert h1 h2; simp; omega))
    have D21 := Lib.hid (show ∀ b ∈ F16, b ∉ F9 from fun b he hb => by have h1 := (O8.out.in b hb).2; have h2 := (ho.in b he).1; first | omega | (revert h1 h2; simp; done) | (revert h1 h2; simp; omega))
    have D22 := Lib.hid (show w.heap.size ∉ F16 from fun he => by have h1 := (show Blk v3 _ _ _ from B0.out).lt; have h2 := (ho.in _ he).1; first | omega | (revert h1 h2; simp; done) | (revert h1 h2; simp; omega))
    have hbs := hb.size
    have HBS := Lib.hid hbs; clear hbs
    have X := Lib.hid (B0.out.below hb); clear B0
    have B0 := Lib.hid X.out; clear X
    have X := Lib.hid (show Below w.heap.size w v4 from BW.out.trans (hb.mono BW.out.size)); clear BW
    have BW := Lib.hid X.out; clear X
    have X := Lib.hid (O2.out.below hb); clear O2
    have O2 := Lib.hid X.out; clear X
    have X := Lib.hid (O8.out.below hb); clear O8
    have O8 := Lib.hid X.out; clear X
    clear hb
    have O15 := Lib.hid (Own.mono ho (show w.heap.size ≤ _ from HSZ.out)); clear ho HBS
    clear HSZ
    go_wp2_with (first | ((with_reducible show wpList _ _ _ ({ dst := _, op := Op.load 53 _, type := _, pos := _, after := _, guard := _ } :: _) _ _); refine wpList_load_row _ ⟨w.heap.size, 0, none⟩ rfl cs0 agg_lLog HL0.out (blk_cells B0.out) ?_) | ((with_reducible show wpList _ _ _ ({ dst := _, op := Op.load 53 _, type := _, pos := _, after := _, guard := _ } :: _) _ _); refine wpList_load_row_g _ (by first | rfl | kernel_rfl) ⟨w.heap.size, 0, none⟩ rfl cs0 agg_lLog HL0.out (blk_cells B0.out) ?_) | ((with_reducible show wpList _ _ _ ({ dst := _, op := Op.load 46 _, type := _, pos := _, after := _, guard := _ } :: _) _ _); refine wpList_load_row _ ⟨World.heap v4 |>.size, 0, none⟩ rfl cs'14 agg_Log Lcs14.out (blk_cells XB23.out) ?_) | ((with_reducible show wpList _ _ _ ({ dst := _, op := Op.store 46 _ _, type := _, pos := _, after := _, guard := _ } :: _) _ _); refine wpList_store_row _ (World.heap v4).size 46 0 cs'14 [] [.slice none 0 0, .int .i64 0, .int .i64 0] [] _ rfl rfl (Lcs14.out ▸ agg_Log) (blk_new v4 _ _) rfl rfl Lcs14.out.symm O15.out.one ?_; intro v5 hsb hsg; have hb : Below (World.heap v4).size v4 v5 := Below.grown (Below.alloc (Below.refl _ _) (Nat.le_refl _) _) hsg (by simp) (fun k hk => by injection hk with hk; omega); have hsb2 : Blk v5 (World.heap v4).size 46 cs'14.toArray := (by simpa using hsb); have XB23 := Lib.hid hsb2; clear hsb hsb2 hsg; have D24 := Lib.hid (show (World.heap v4).size ∉ F3 from fun he => by have h1 := (O2.out.in _ he).2; omega); have D25 := Lib.hid (show (World.heap v4).size ∉ F9 from fun he => by have h1 := (O8.out.in _ he).2; omega); have D26 := Lib.hid (show (World.heap v4).size ∉ F16 from fun he => by have h1 := (O15.out.in _ he).2; omega); have X := Lib.hid (B0.out.below hb); clear B0; have B0 := Lib.hid X.out; clear X; have X := Lib.hid (show Below w.heap.size w v5 from BW.out.trans (hb.mono BW.out.size)); clear BW; have BW := Lib.hid X.out; clear X; have X := Lib.hid (O2.out.below hb); clear O2; have O2 := Lib.hid X.out; clear X; have X := Lib.hid (O8.out.below hb); clear O8; have O8 := Lib.hid X.out; clear X; have X := Lib.hid (O15.out.below hb); clear O15; have O15 := Lib.hid X.out; clear X; clear hb) | fail)
    go_wp2_with (first | ((with_reducible show wpList _ _ _ ({ dst := _, op := Op.load 53 _, type := _, pos := _, after := _, guard := _ } :: _) _ _); refine wpList_load_row _ ⟨w.heap.size, 0, none⟩ rfl cs0 agg_lLog HL0.out (blk_cells B0.out) ?_) | ((with_reducible show wpList _ _ _ ({ dst := _, op := Op.load 53 _, type := _, pos := _, after := _, guard := _ } :: _) _ _); refine wpList_load_row_g _ (by first | rfl | kernel_rfl) ⟨w.heap.size, 0, none⟩ rfl cs0 agg_lLog HL0.out (blk_cells B0.out) ?_) | ((with_reducible show wpList _ _ _ ({ dst := _, op := Op.load 46 _, type := _, pos := _, after := _, guard := _ } :: _) _ _); refine wpList_load_row _ ⟨(World.heap v4).size, 0, none⟩ rfl cs'14 agg_Log Lcs14.out (blk_cells XB23.out) ?_) | ((with_reducible show wpList _ _ _ ({ dst := _, op := Op.load 46 _, type := _, pos := _, after := _, guard := _ } :: _) _ _); refine wpList_load_row_g _ (by first | rfl | kernel_rfl) ⟨(World.heap v4).size, 0, none⟩ rfl cs'14 agg_Log Lcs14.out (blk_cells XB23.out) ?_) | fail)
    have HSZ := Lib.hid BW.out.size
    refine (Hi.out cs'14 _ O15.out.repAny).mono ?_; rintro e v6 ⟨A'27, _, c'28, rfl, rfl, hM0, hb⟩
    obtain ⟨F30, hnd, ho⟩ := hM0
    have N31 := Lib.hid hnd; clear hnd
    have D32 := Lib.hid (show ∀ b ∈ F3, b ∉ F30 from fun b hb he => by have h1 := (O2.out.in b hb).2; have h2 := (ho.in b he).1; first | omega | (revert h1 h2; simp; done) | (revert h1 h2; simp; omega))
    have D33 := Lib.hid (show ∀ b ∈ F30, b ∉ F3 from fun b he hb => by have h1 := (O2.out.in b hb).2; have h2 := (ho.in b he).1; first | omega | (revert h1 h2; simp; done) | (revert h1 h2; simp; omega))
    have D34 := Lib.hid (show ∀ b ∈ F9, b ∉ F30 from fun b hb he => by have h1 := (O8.out.in b hb).2; have h2 := (ho.in b he).1; first | omega | (revert h1 h2; simp; done) | (revert h1 h2; simp; omega))
    have D35 := Lib.hid (show ∀ b ∈ F30, b ∉ F9 from fun b he hb => by have h1 := (O8.out.in b hb).2; have h2 := (ho.in b he).1; first | omega | (revert h1 h2; simp; done) | (revert h1 h2; simp; omega))
    have D36 := Lib.hid (show ∀ b ∈ F16, b ∉ F30 from fun b hb he => by have h1 := (O15.out.in b hb).2; have h2 := (ho.in b he).1; first | omega | (revert h1 h2; simp; done) | (revert h1 h2; simp; omega))
    have D37 := Lib.hid (show ∀ b ∈ F30, b ∉ F16 from fun b he hb => by have h1 := (O15.out.in b hb).2; have h2 := (ho.in b he).1; first | omega | (revert h1 h2; simp; done) | (revert h1 h2; simp; omega))
    have D38 := Lib.hid (show (World.heap v4).size ∉ F30 from fun he => by have h1 := XB23.out.lt; have h2 := (ho.in _ he).1; first | omega | (revert h1 h2; simp; done) | (revert h1 h2; simp; omega))
    have D39 := Lib.hid (show w.heap.size ∉ F30 from fun he => by have h1 := (show Blk v5 _ _ _ from B0.out).lt; have h2 := (ho.in _ he).1; first | omega | (revert h1 h2; simp; done) | (revert h1 h2; simp; omega))
    have hbs := hb.size
    have HBS := Lib.hid hbs; clear hbs
    have X := Lib.hid (B0.out.below hb); clear B0
    have B0 := Lib.hid X.out; clear X
    have X := Lib.hid (show Below w.heap.size w v6 from BW.out.trans (hb.mono BW.out.size)); clear BW
    have BW := Lib.hid X.out; clear X
    have X := Lib.hid (O2.out.below hb); clear O2
    have O2 := Lib.hid X.out; clear X
    have X := Lib.hid (O8.out.below hb); clear O8
    have O8 := Lib.hid X.out; clear X
    have X := Lib.hid (O15.out.below hb); clear O15
    have O15 := Lib.hid X.out; clear X
    have X := Lib.hid (XB23.out.below hb); clear XB23
    have XB23 := Lib.hid X.out; clear X
    clear hb
    have O29 := Lib.hid (Own.mono ho (show w.heap.size ≤ _ from HSZ.out)); clear ho HBS
    clear HSZ
    go_wp2_with (first | ((with_reducible show wpList _ _ _ ({ dst := _, op := Op.load 53 _, type := _, pos := _, after := _, guard := _ } :: _) _ _); refine wpList_load_row _ ⟨w.heap.size, 0, none⟩ rfl cs0 agg_lLog HL0.out (blk_cells B0.out) ?_) | ((with_reducible show wpList _ _ _ ({ dst := _, op := Op.load 53 _, type := _, pos := _, after := _, guard := _ } :: _) _ _); refine wpList_load_row_g _ (by first | rfl | kernel_rfl) ⟨w.heap.size, 0, none⟩ rfl cs0 agg_lLog HL0.out (blk_cells B0.out) ?_) | ((with_reducible show wpList _ _ _ ({ dst := _, op := Op.load 46 _, type := _, pos := _, after := _, guard := _ } :: _) _ _); refine wpList_load_row _ ⟨(World.heap v4).size, 0, none⟩ rfl cs'14 agg_Log Lcs14.out (blk_cells XB23.out) ?_) | ((with_reducible show wpList _ _ _ ({ dst := _, op := Op.load 46 _, type := _, pos := _, after := _, guard := _ } :: _) _ _); refine wpList_load_row_g _ (by first | rfl | kernel_rfl) ⟨(World.heap v4).size, 0, none⟩ rfl cs'14 agg_Log Lcs14.out (blk_cells XB23.out) ?_) | fail)
    have HSZ := Lib.hid BW.out.size
    refine (eqStringS_any' r0 A'27 A'6 r0.length c'28 c'7 _ rfl (by first | omega | (have := HWT.out; omega)) O29.out.repAny O8.out.repAny).mono ?_; rintro e v7 ⟨rfl, hb⟩
    have X := Lib.hid (B0.out.below hb); clear B0
    have B0 := Lib.hid X.out; clear X
    have X := Lib.hid (show Below w.heap.size w v7 from BW.out.trans (hb.mono BW.out.size)); clear BW
    have BW := Lib.hid X.out; clear X
    have X := Lib.hid (O2.out.below hb); clear O2
    have O2 := Lib.hid X.out; clear X
    have X := Lib.hid (O8.out.below hb); clear O8
    have O8 := Lib.hid X.out; clear X
    have X := Lib.hid (O15.out.below hb); clear O15
    have O15 := Lib.hid X.out; clear X
    have X := Lib.hid (O29.out.below hb); clear O29
    have O29 := Lib.hid X.out; clear X
    have X := Lib.hid (XB23.out.below hb); clear XB23
    have XB23 := Lib.hid X.out; clear X
    clear hb
    clear HSZ
    go_wp2
    refine wp_region_x 5 [0, 1, 2, 3, 4] (by kernel_rfl) (by kernel_rfl) ?_
    refine wpX_quiet rfl (by kernel_rfl) rfl ?_; go_wp2_with (first | (refine wpList_load_row _ ⟨w.heap.size, 0, none⟩ rfl cs0 agg_lLog HL0.out (blk_cells B0.out.drew) ?_) | (refine wpList_load_row _ ⟨(World.heap v4).size, 0, none⟩ rfl cs'14 agg_Log Lcs14.out (blk_cells XB23.out.drew) ?_) | fail); refine ⟨rfl, ?_⟩
    refine wpX_quiet rfl (by kernel_rfl) rfl ?_; go_wp2_with (first | (refine wpList_load_row _ ⟨w.heap.size, 0, none⟩ rfl cs0 agg_lLog HL0.out (blk_cells B0.out.drew) ?_) | (refine wpList_load_row _ ⟨(World.heap v4).size, 0, none⟩ rfl cs'14 agg_Log Lcs14.out (blk_cells XB23.out.drew) ?_) | fail); refine ⟨rfl, ?_⟩
    refine wpX_actor rfl (by kernel_rfl) ?_
    go_wp2_with fail
    have HSZ := Lib.hid BW.out.size
    refine (toLog_any x0 cs0 _ (by omega) ((A0.out.below BW.out).drew)).mono ?_; rintro e v8 ⟨cs'40, rfl, hM, hb⟩
    have Lcs40 := Lib.hid (show cs'40.length = 3 from hM.rep.length.trans (LogD.width _))
    obtain ⟨F42, hnd, ho⟩ := hM
    have N43 := Lib.hid hnd; clear hnd
    have D44 := Lib.hid (show ∀ b ∈ F3, b ∉ F42 from fun b hb he => by have h1 := (O2.out.in b hb).2; have h2 := (ho.in b he).1; first | omega | (revert h1 h2; simp; done) | (revert h1 h2; simp; omega))
    have D45 := Lib.hid (show ∀ b ∈ F42, b ∉ F3 from fun b he hb => by have h1 := (O2.out.in b hb).2; have h2 := (ho.in b he).1; first | omega | (revert h1 h2; simp; done) | (revert h1 h2; simp; omega))
    have D46 := Lib.hid (show ∀ b ∈ F9, b ∉ F42 from fun b hb he => by have h1 := (O8.out.in b hb).2; have h2 := (ho.in b he).1; first | omega | (revert h1 h2; simp; done) | (revert h1 h2; simp; omega))
    have D47 := Lib.hid (show ∀ b ∈ F42, b ∉ F9 from fun b he hb => by have h1 := (O8.out.in b hb).2; have h2 := (ho.in b he).1; first | omega | (revert h1 h2; simp; done) | (revert h1 h2; simp; omega))
    have D48 := Lib.hid (show ∀ b ∈ F16, b ∉ F42 from fun b hb he => by have h1 := (O15.out.in b hb).2; have h2 := (ho.in b he).1; first | omega | (revert h1 h2; simp; done) | (revert h1 h2; simp; omega))
    have D49 := Lib.hid (show ∀ b ∈ F42, b ∉ F16 from fun b he hb => by have h1 := (O15.out.in b hb).2; have h2 := (ho.in b he).1; first | omega | (revert h1 h2; simp; done) | (revert h1 h2; simp; omega))
    have D50 := Lib.hid (show ∀ b ∈ F30, b ∉ F42 from fun b hb he => by have h1 := (O29.out.in b hb).2; have h2 := (ho.in b he).1; first | omega | (revert h1 h2; simp; done) | (revert h1 h2; simp; omega))
    have D51 := Lib.hid (show ∀ b ∈ F42, b ∉ F30 from fun b he hb => by have h1 := (O29.out.in b hb).2; have h2 := (ho.in b he).1; first | omega | (revert h1 h2; simp; done) | (revert h1 h2; simp; omega))
    have D52 := Lib.hid (show (World.heap v4).size ∉ F42 from fun he => by have h1 := XB23.out.lt; have h2 := (ho.in _ he).1; first | omega | (revert h1 h2; simp; done) | (revert h1 h2; simp; omega))
    have D53 := Lib.hid (show w.heap.size ∉ F42 from fun he => by have h1 := (show Blk v7 _ _ _ from B0.out).lt; have h2 := (ho.in _ he).1; first | omega | (revert h1 h2; simp; done) | (revert h1 h2; simp; omega))
    have HB := Lib.hid hb
    have hb2 := below_drewL hb; clear hb
    have hb := hb2; clear hb2
    have hbs := hb.size
    have HBS := Lib.hid hbs; clear hbs
    have X := Lib.hid (B0.out.below hb); clear B0
    have B0 := Lib.hid X.out; clear X
    have X := Lib.hid (show Below w.heap.size w v8 from BW.out.trans (hb.mono BW.out.size)); clear BW
    have BW := Lib.hid X.out; clear X
    have X := Lib.hid (O2.out.below hb); clear O2
    have O2 := Lib.hid X.out; clear X
    have X := Lib.hid (O8.out.below hb); clear O8
    have O8 := Lib.hid X.out; clear X
    have X := Lib.hid (O15.out.below hb); clear O15
    have O15 := Lib.hid X.out; clear X
    have X := Lib.hid (O29.out.below hb); clear O29
    have O29 := Lib.hid X.out; clear X
    have X := Lib.hid (XB23.out.below hb); clear XB23
    have XB23 := Lib.hid X.out; clear X
    clear hb
    have O41 := Lib.hid (Own.mono ho (show w.heap.size ≤ _ from HSZ.out)); clear ho HBS
    clear HSZ
    go_wp2
    refine ⟨Ext.of_below HB.out, ?_⟩
    clear HB
    refine wpX_actor rfl (by kernel_rfl) ?_
    go_wp2_with fail
    have HSZ := Lib.hid BW.out.size
    refine (eqLog_any x0 cs'14 cs'40 _ (by omega) O15.out.repAny O41.out.repAny).mono ?_; rintro e v9 ⟨rfl, hb⟩
    have HB := Lib.hid hb
    have X := Lib.hid (B0.out.below hb); clear B0
    have B0 := Lib.hid X.out; clear X
    have X := Lib.hid (show Below w.heap.size w v9 from BW.out.trans (hb.mono BW.out.size)); clear BW
    have BW := Lib.hid X.out; clear X
    have X := Lib.hid (O2.out.below hb); clear O2
    have O2 := Lib.hid X.out; clear X
    have X := Lib.hid (O8.out.below hb); clear O8
    have O8 := Lib.hid X.out; clear X
    have X := Lib.hid (O15.out.below hb); clear O15
    have O15 := Lib.hid X.out; clear X
    have X := Lib.hid (O29.out.below hb); clear O29
    have O29 := Lib.hid X.out; clear X
    have X := Lib.hid (O41.out.below hb); clear O41
    have O41 := Lib.hid X.out; clear X
    have X := Lib.hid (XB23.out.below hb); clear XB23
    have XB23 := Lib.hid X.out; clear X
    clear hb
    clear HSZ
    go_wp2
    refine ⟨Ext.of_below HB.out, ?_⟩
    clear HB
    refine wpX_quiet rfl (by kernel_rfl) rfl ?_; go_wp2; refine ⟨rfl, ?_⟩
    refine wpX_nil ?_
    try simp only [List.drop_succ_cons, List.drop_zero]
    go_wp2_with (first | ((with_reducible show wpList _ _ _ ({ dst := _, op := Op.load 53 _, type := _, pos := _, after := _, guard := _ } :: _) _ _); refine wpList_load_row _ ⟨w.heap.size, 0, none⟩ rfl cs0 agg_lLog HL0.out (blk_cells B0.out) ?_) | ((with_reducible show wpList _ _ _ ({ dst := _, op := Op.load 53 _, type := _, pos := _, after := _, guard := _ } :: _) _ _); refine wpList_load_row_g _ (by first | rfl | kernel_rfl) ⟨w.heap.size, 0, none⟩ rfl cs0 agg_lLog HL0.out (blk_cells B0.out) ?_) | ((with_reducible show wpList _ _ _ ({ dst := _, op := Op.load 46 _, type := _, pos := _, after := _, guard := _ } :: _) _ _); refine wpList_load_row _ ⟨(World.heap v4).size, 0, none⟩ rfl cs'14 agg_Log Lcs14.out (blk_cells XB23.out) ?_) | ((with_reducible show wpList _ _ _ ({ dst := _, op := Op.load 46 _, type := _, pos := _, after := _, guard := _ } :: _) _ _); refine wpList_load_row_g _ (by first | rfl | kernel_rfl) ⟨(World.heap v4).size, 0, none⟩ rfl cs'14 agg_Log Lcs14.out (blk_cells XB23.out) ?_) | fail)
    have HSZ := Lib.hid BW.out.size
    refine (markLog_any x0 (1) _ w.heap.size cs'14 F16 _ (by first | rfl | omega) (by omega) (by first | omega | (have := HCN.out; omega) | (have := HCX0.out; omega)) N17.out O15.out).mono ?_; rintro e v10 ⟨q54, rfl, hq, ho, hm⟩
    have hq0 : 0 ≤ q54 := by omega
    have HY55 := Lib.hid hq; clear hq
    have q54z := Lib.hid hq0
    have hdq54 : decide (q54 < 0) = false := by simp only [decide_eq_false_iff_not]; omega
    have X := Lib.hid (B0.out.mod hm D22.out); clear B0
    have B0 := Lib.hid X.out; clear X
    have X := Lib.hid (XB23.out.mod hm D26.out); clear XB23
    have XB23 := Lib.hid X.out; clear X
    have X := Lib.hid (O2.out.mod1 hm D18.out); clear O2
    have O2 := Lib.hid X.out; clear X
    have X := Lib.hid (O8.out.mod1 hm D20.out); clear O8
    have O8 := Lib.hid X.out; clear X
    have X := Lib.hid (O29.out.mod1 hm D37.out); clear O29
    have O29 := Lib.hid X.out; clear X
    have X := Lib.hid (O41.out.mod1 hm D49.out); clear O41
    have O41 := Lib.hid X.out; clear X
    have X := Lib.hid (show Below w.heap.size w v10 from Mod.below BW.out hm BW.out.size (fun b hb => (O15.out.in b hb).1)); clear BW O15
    have BW := Lib.hid X.out; clear X
    have O15 := Lib.hid ho; clear ho hm
    clear HSZ
    go_wp2_with (first | ((with_reducible show wpList _ _ _ ({ dst := _, op := Op.load 53 _, type := _, pos := _, after := _, guard := _ } :: _) _ _); refine wpList_load_row _ ⟨w.heap.size, 0, none⟩ rfl cs0 agg_lLog HL0.out (blk_cells B0.out) ?_) | ((with_reducible show wpList _ _ _ ({ dst := _, op := Op.load 53 _, type := _, pos := _, after := _, guard := _ } :: _) _ _); refine wpList_load_row_g _ (by first | rfl | kernel_rfl) ⟨w.heap.size, 0, none⟩ rfl cs0 agg_lLog HL0.out (blk_cells B0.out) ?_) | ((with_reducible show wpList _ _ _ ({ dst := _, op := Op.load 46 _, type := _, pos := _, after := _, guard := _ } :: _) _ _); refine wpList_load_row _ ⟨(World.heap v4).size, 0, none⟩ rfl cs'14 agg_Log Lcs14.out (blk_cells XB23.out) ?_) | ((with_reducible show wpList _ _ _ ({ dst := _, op := Op.load 46 _, type := _, pos := _, after := _, guard := _ } :: _) _ _); refine wpList_load_row_g _ (by first | rfl | kernel_rfl) ⟨(World.heap v4).size, 0, none⟩ rfl cs'14 agg_Log Lcs14.out (blk_cells XB23.out) ?_) | fail)
    have HSZ := Lib.hid BW.out.size
    refine (eqStringS_any' r0 A'27 A'6 r0.length c'28 c'7 _ rfl (by first | omega | (have := HWT.out; omega)) O29.out.repAny O8.out.repAny).mono ?_; rintro e v11 ⟨rfl, hb⟩
    have X := Lib.hid (B0.out.below hb); clear B0
    have B0 := Lib.hid X.out; clear X
    have X := Lib.hid (show Below w.heap.size w v11 from BW.out.trans (hb.mono BW.out.size)); clear BW
    have BW := Lib.hid X.out; clear X
    have X := Lib.hid (O2.out.below hb); clear O2
    have O2 := Lib.hid X.out; clear X
    have X := Lib.hid (O8.out.below hb); clear O8
    have O8 := Lib.hid X.out; clear X
    have X := Lib.hid (O15.out.below hb); clear O15
    have O15 := Lib.hid X.out; clear X
    have X := Lib.hid (O29.out.below hb); clear O29
    have O29 := Lib.hid X.out; clear X
    have X := Lib.hid (O41.out.below hb); clear O41
    have O41 := Lib.hid X.out; clear X
    have X := Lib.hid (XB23.out.below hb); clear XB23
    have XB23 := Lib.hid X.out; clear X
    clear hb
    clear HSZ
    go_wp2_with (first | ((with_reducible show wpList _ _ _ ({ dst := _, op := Op.load 53 _, type := _, pos := _, after := _, guard := _ } :: _) _ _); refine wpList_load_row _ ⟨w.heap.size, 0, none⟩ rfl cs0 agg_lLog HL0.out (blk_cells B0.out) ?_) | ((with_reducible show wpList _ _ _ ({ dst := _, op := Op.load 53 _, type := _, pos := _, after := _, guard := _ } :: _) _ _); refine wpList_load_row_g _ (by first | rfl | kernel_rfl) ⟨w.heap.size, 0, none⟩ rfl cs0 agg_lLog HL0.out (blk_cells B0.out) ?_) | ((with_reducible show wpList _ _ _ ({ dst := _, op := Op.load 46 _, type := _, pos := _, after := _, guard := _ } :: _) _ _); refine wpList_load_row _ ⟨(World.heap v4).size, 0, none⟩ rfl cs'14 agg_Log Lcs14.out (blk_cells XB23.out) ?_) | ((with_reducible show wpList _ _ _ ({ dst := _, op := Op.load 46 _, type := _, pos := _, after := _, guard := _ } :: _) _ _); refine wpList_load_row_g _ (by first | rfl | kernel_rfl) ⟨(World.heap v4).size, 0, none⟩ rfl cs'14 agg_Log Lcs14.out (blk_cells XB23.out) ?_) | fail)
    have HSZ := Lib.hid BW.out.size
    refine (markStringS_any' r0 (1) _ w.heap.size A'27 r0.length c'28 F30 _ rfl (by first | rfl | omega) (by omega) (by first | omega | (have := HCN.out; omega) | (have := HCX0.out; omega)) N31.out O29.out).mono ?_; rintro e v12 ⟨q56, rfl, hq, ho, hm⟩
    have hq0 : 0 ≤ q56 := by omega
    have HY57 := Lib.hid hq; clear hq
    have q56z := Lib.hid hq0
    have hdq56 : decide (q56 < 0) = false := by simp only [decide_eq_false_iff_not]; omega
    have X := Lib.hid (B0.out.mod hm D39.out); clear B0
    have B0 := Lib.hid X.out; clear X
    have X := Lib.hid (XB23.out.mod hm D38.out); clear XB23
    have XB23 := Lib.hid X.out; clear X
    have X := Lib.hid (O2.out.mod1 hm D32.out); clear O2
    have O2 := Lib.hid X.out; clear X
    have X := Lib.hid (O8.out.mod1 hm D34.out); clear O8
    have O8 := Lib.hid X.out; clear X
    have X := Lib.hid (O15.out.mod1 hm D36.out); clear O15
    have O15 := Lib.hid X.out; clear X
    have X := Lib.hid (O41.out.mod1 hm D51.out); clear O41
    have O41 := Lib.hid X.out; clear X
    have X := Lib.hid (show Below w.heap.size w v12 from Mod.below BW.out hm BW.out.size (fun b hb => (O29.out.in b hb).1)); clear BW O29
    have BW := Lib.hid X.out; clear X
    have O29 := Lib.hid ho; clear ho hm
    clear HSZ
    go_wp2_with (first | ((with_reducible show wpList _ _ _ ({ dst := _, op := Op.load 53 _, type := _, pos := _, after := _, guard := _ } :: _) _ _); refine wpList_load_row _ ⟨w.heap.size, 0, none⟩ rfl cs0 agg_lLog HL0.out (blk_cells B0.out) ?_) | ((with_reducible show wpList _ _ _ ({ dst := _, op := Op.load 53 _, type := _, pos := _, after := _, guard := _ } :: _) _ _); refine wpList_load_row_g _ (by first | rfl | kernel_rfl) ⟨w.heap.size, 0, none⟩ rfl cs0 agg_lLog HL0.out (blk_cells B0.out) ?_) | ((with_reducible show wpList _ _ _ ({ dst := _, op := Op.load 46 _, type := _, pos := _, after := _, guard := _ } :: _) _ _); refine wpList_load_row _ ⟨(World.heap v4).size, 0, none⟩ rfl cs'14 agg_Log Lcs14.out (blk_cells XB23.out) ?_) | ((with_reducible show wpList _ _ _ ({ dst := _, op := Op.load 46 _, type := _, pos := _, after := _, guard := _ } :: _) _ _); refine wpList_load_row_g _ (by first | rfl | kernel_rfl) ⟨(World.heap v4).size, 0, none⟩ rfl cs'14 agg_Log Lcs14.out (blk_cells XB23.out) ?_) | fail)
    have HSZ := Lib.hid BW.out.size
    refine (heldStringS_any' r0 (1) _ A'27 r0.length c'28 _ rfl (by first | rfl | omega) (by omega) (by first | omega | (have := HCN.out; omega)) O29.out.repAny).mono ?_; rintro e v13 ⟨q58, rfl, hq, hb⟩
    have hq1 : q56 = q58 := (hq.trans HY57.out.symm).symm
    subst hq1
    clear hq
    have X := Lib.hid (B0.out.below hb); clear B0
    have B0 := Lib.hid X.out; clear X
    have X := Lib.hid (show Below w.heap.size w v13 from BW.out.trans (hb.mono BW.out.size)); clear BW
    have BW := Lib.hid X.out; clear X
    have X := Lib.hid (O2.out.below hb); clear O2
    have O2 := Lib.hid X.out; clear X
    have X := Lib.hid (O8.out.below hb); clear O8
    have O8 := Lib.hid X.out; clear X
    have X := Lib.hid (O15.out.below hb); clear O15
    have O15 := Lib.hid X.out; clear X
    have X := Lib.hid (O29.out.below hb); clear O29
    have O29 := Lib.hid X.out; clear X
    have X := Lib.hid (O41.out.below hb); clear O41
    have O41 := Lib.hid X.out; clear X
    have X := Lib.hid (XB23.out.below hb); clear XB23
    have XB23 := Lib.hid X.out; clear X
    clear hb
    clear HSZ
    go_wp2_with (first | ((with_reducible show wpList _ _ _ ({ dst := _, op := Op.load 53 _, type := _, pos := _, after := _, guard := _ } :: _) _ _); refine wpList_load_row _ ⟨w.heap.size, 0, none⟩ rfl cs0 agg_lLog HL0.out (blk_cells B0.out) ?_) | ((with_reducible show wpList _ _ _ ({ dst := _, op := Op.load 53 _, type := _, pos := _, after := _, guard := _ } :: _) _ _); refine wpList_load_row_g _ (by first | rfl | kernel_rfl) ⟨w.heap.size, 0, none⟩ rfl cs0 agg_lLog HL0.out (blk_cells B0.out) ?_) | ((with_reducible show wpList _ _ _ ({ dst := _, op := Op.load 46 _, type := _, pos := _, after := _, guard := _ } :: _) _ _); refine wpList_load_row _ ⟨(World.heap v4).size, 0, none⟩ rfl cs'14 agg_Log Lcs14.out (blk_cells XB23.out) ?_) | ((with_reducible show wpList _ _ _ ({ dst := _, op := Op.load 46 _, type := _, pos := _, after := _, guard := _ } :: _) _ _); refine wpList_load_row_g _ (by first | rfl | kernel_rfl) ⟨(World.heap v4).size, 0, none⟩ rfl cs'14 agg_Log Lcs14.out (blk_cells XB23.out) ?_) | fail)
    have HSZ := Lib.hid BW.out.size
    refine (toLog_any x0 cs0 _ (by omega) (A0.out.below BW.out)).mono ?_; rintro e v14 ⟨cs'59, rfl, hM, hb⟩
    have Lcs59 := Lib.hid (show cs'59.length = 3 from hM.rep.length.trans (LogD.width _))
    obtain ⟨F61, hnd, ho⟩ := hM
    have N62 := Lib.hid hnd; clear hnd
    have D63 := Lib.hid (show ∀ b ∈ F3, b ∉ F61 from fun b hb he => by have h1 := (O2.out.in b hb).2; have h2 := (ho.in b he).1; first | omega | (revert h1 h2; simp; done) | (revert h1 h2; simp; omega))
    have D64 := Lib.hid (show ∀ b ∈ F61, b ∉ F3 from fun b he hb => by have h1 := (O2.out.in b hb).2; have h2 := (ho.in b he).1; first | omega | (revert h1 h2; simp; done) | (revert h1 h2; simp; omega))
    have D65 := Lib.hid (show ∀ b ∈ F9, b ∉ F61 from fun b hb he => by have h1 := (O8.out.in b hb).2; have h2 := (ho.in b he).1; first | omega | (revert h1 h2; simp; done) | (revert h1 h2; simp; omega))
    have D66 := Lib.hid (show ∀ b ∈ F61, b ∉ F9 from fun b he hb => by have h1 := (O8.out.in b hb).2; have h2 := (ho.in b he).1; first | omega | (revert h1 h2; simp; done) | (revert h1 h2; simp; omega))
    have D67 := Lib.hid (show ∀ b ∈ F16, b ∉ F61 from fun b hb he => by have h1 := (O15.out.in b hb).2; have h2 := (ho.in b he).1; first | omega | (revert h1 h2; simp; done) | (revert h1 h2; simp; omega))
    have D68 := Lib.hid (show ∀ b ∈ F61, b ∉ F16 from fun b he hb => by have h1 := (O15.out.in b hb).2; have h2 := (ho.in b he).1; first | omega | (revert h1 h2; simp; done) | (revert h1 h2; simp; omega))
    have D69 := Lib.hid (show ∀ b ∈ F30, b ∉ F61 from fun b hb he => by have h1 := (O29.out.in b hb).2; have h2 := (ho.in b he).1; first | omega | (revert h1 h2; simp; done) | (revert h1 h2; simp; omega))
    have D70 := Lib.hid (show ∀ b ∈ F61, b ∉ F30 from fun b he hb => by have h1 := (O29.out.in b hb).2; have h2 := (ho.in b he).1; first | omega | (revert h1 h2; simp; done) | (revert h1 h2; simp; omega))
    have D71 := Lib.hid (show ∀ b ∈ F42, b ∉ F61 from fun b hb he => by have h1 := (O41.out.in b hb).2; have h2 := (ho.in b he).1; first | omega | (revert h1 h2; simp; done) | (revert h1 h2; simp; omega))
    have D72 := Lib.hid (show ∀ b ∈ F61, b ∉ F42 from fun b he hb => by have h1 := (O41.out.in b hb).2; have h2 := (ho.in b he).1; first | omega | (revert h1 h2; simp; done) | (revert h1 h2; simp; omega))
    have D73 := Lib.hid (show (World.heap v4).size ∉ F61 from fun he => by have h1 := XB23.out.lt; have h2 := (ho.in _ he).1; first | omega | (revert h1 h2; simp; done) | (revert h1 h2; simp; omega))
    have D74 := Lib.hid (show w.heap.size ∉ F61 from fun he => by have h1 := (show Blk v13 _ _ _ from B0.out).lt; have h2 := (ho.in _ he).1; first | omega | (revert h1 h2; simp; done) | (revert h1 h2; simp; omega))
    have hbs := hb.size
    have HBS := Lib.hid hbs; clear hbs
    have X := Lib.hid (B0.out.below hb); clear B0
    have B0 := Lib.hid X.out; clear X
    have X := Lib.hid (show Below w.heap.size w v14 from BW.out.trans (hb.mono BW.out.size)); clear BW
    have BW := Lib.hid X.out; clear X
    have X := Lib.hid (O2.out.below hb); clear O2
    have O2 := Lib.hid X.out; clear X
    have X := Lib.hid (O8.out.below hb); clear O8
    have O8 := Lib.hid X.out; clear X
    have X := Lib.hid (O15.out.below hb); clear O15
    have O15 := Lib.hid X.out; clear X
    have X := Lib.hid (O29.out.below hb); clear O29
    have O29 := Lib.hid X.out; clear X
    have X := Lib.hid (O41.out.below hb); clear O41
    have O41 := Lib.hid X.out; clear X
    have X := Lib.hid (XB23.out.below hb); clear XB23
    have XB23 := Lib.hid X.out; clear X
    clear hb
    have O60 := Lib.hid (Own.mono ho (show w.heap.size ≤ _ from HSZ.out)); clear ho HBS
    clear HSZ
    go_wp2_with (first | ((with_reducible show wpList _ _ _ ({ dst := _, op := Op.load 53 _, type := _, pos := _, after := _, guard := _ } :: _) _ _); refine wpList_load_row _ ⟨w.heap.size, 0, none⟩ rfl cs0 agg_lLog HL0.out (blk_cells B0.out) ?_) | ((with_reducible show wpList _ _ _ ({ dst := _, op := Op.load 53 _, type := _, pos := _, after := _, guard := _ } :: _) _ _); refine wpList_load_row_g _ (by first | rfl | kernel_rfl) ⟨w.heap.size, 0, none⟩ rfl cs0 agg_lLog HL0.out (blk_cells B0.out) ?_) | ((with_reducible show wpList _ _ _ ({ dst := _, op := Op.load 46 _, type := _, pos := _, after := _, guard := _ } :: _) _ _); refine wpList_load_row _ ⟨(World.heap v4).size, 0, none⟩ rfl cs'14 agg_Log Lcs14.out (blk_cells XB23.out) ?_) | ((with_reducible show wpList _ _ _ ({ dst := _, op := Op.load 46 _, type := _, pos := _, after := _, guard := _ } :: _) _ _); refine wpList_load_row_g _ (by first | rfl | kernel_rfl) ⟨(World.heap v4).size, 0, none⟩ rfl cs'14 agg_Log Lcs14.out (blk_cells XB23.out) ?_) | fail)
    have HSZ := Lib.hid BW.out.size
    refine (Hi.out cs'59 _ O60.out.repAny).mono ?_; rintro e v15 ⟨A'75, _, c'76, rfl, rfl, hM0, hb⟩
    obtain ⟨F78, hnd, ho⟩ := hM0
    have N79 := Lib.hid hnd; clear hnd
    have D80 := Lib.hid (show ∀ b ∈ F3, b ∉ F78 from fun b hb he => by have h1 := (O2.out.in b hb).2; have h2 := (ho.in b he).1; first | omega | (revert h1 h2; simp; done) | (revert h1 h2; simp; omega))
    have D81 := Lib.hid (show ∀ b ∈ F78, b ∉ F3 from fun b he hb => by have h1 := (O2.out.in b hb).2; have h2 := (ho.in b he).1; first | omega | (revert h1 h2; simp; done) | (revert h1 h2; simp; omega))
    have D82 := Lib.hid (show ∀ b ∈ F9, b ∉ F78 from fun b hb he => by have h1 := (O8.out.in b hb).2; have h2 := (ho.in b he).1; first | omega | (revert h1 h2; simp; done) | (revert h1 h2; simp; omega))
    have D83 := Lib.hid (show ∀ b ∈ F78, b ∉ F9 from fun b he hb => by have h1 := (O8.out.in b hb).2; have h2 := (ho.in b he).1; first | omega | (revert h1 h2; simp; done) | (revert h1 h2; simp; omega))
    have D84 := Lib.hid (show ∀ b ∈ F16, b ∉ F78 from fun b hb he => by have h1 := (O15.out.in b hb).2; have h2 := (ho.in b he).1; first | omega | (revert h1 h2; simp; done) | (revert h1 h2; simp; omega))
    have D85 := Lib.hid (show ∀ b ∈ F78, b ∉ F16 from fun b he hb => by have h1 := (O15.out.in b hb).2; have h2 := (ho.in b he).1; first | omega | (revert h1 h2; simp; done) | (revert h1 h2; simp; omega))
    have D86 := Lib.hid (show ∀ b ∈ F30, b ∉ F78 from fun b hb he => by have h1 := (O29.out.in b hb).2; have h2 := (ho.in b he).1; first | omega | (revert h1 h2; simp; done) | (revert h1 h2; simp; omega))
    have D87 := Lib.hid (show ∀ b ∈ F78, b ∉ F30 from fun b he hb => by have h1 := (O29.out.in b hb).2; have h2 := (ho.in b he).1; first | omega | (revert h1 h2; simp; done) | (revert h1 h2; simp; omega))
    have D88 := Lib.hid (show ∀ b ∈ F42, b ∉ F78 from fun b hb he => by have h1 := (O41.out.in b hb).2; have h2 := (ho.in b he).1; first | omega | (revert h1 h2; simp; done) | (revert h1 h2; simp; omega))
    have D89 := Lib.hid (show ∀ b ∈ F78, b ∉ F42 from fun b he hb => by have h1 := (O41.out.in b hb).2; have h2 := (ho.in b he).1; first | omega | (revert h1 h2; simp; done) | (revert h1 h2; simp; omega))
    have D90 := Lib.hid (show ∀ b ∈ F61, b ∉ F78 from fun b hb he => by have h1 := (O60.out.in b hb).2; have h2 := (ho.in b he).1; first | omega | (revert h1 h2; simp; done) | (revert h1 h2; simp; omega))
    have D91 := Lib.hid (show ∀ b ∈ F78, b ∉ F61 from fun b he hb => by have h1 := (O60.out.in b hb).2; have h2 := (ho.in b he).1; first | omega | (revert h1 h2; simp; done) | (revert h1 h2; simp; omega))
    have D92 := Lib.hid (show (World.heap v4).size ∉ F78 from fun he => by have h1 := XB23.out.lt; have h2 := (ho.in _ he).1; first | omega | (revert h1 h2; simp; done) | (revert h1 h2; simp; omega))
    have D93 := Lib.hid (show w.heap.size ∉ F78 from fun he => by have h1 := (show Blk v14 _ _ _ from B0.out).lt; have h2 := (ho.in _ he).1; first | omega | (revert h1 h2; simp; done) | (revert h1 h2; simp; omega))
    have hbs := hb.size
    have HBS := Lib.hid hbs; clear hbs
    have X := Lib.hid (B0.out.below hb); clear B0
    have B0 := Lib.hid X.out; clear X
    have X := Lib.hid (show Below w.heap.size w v15 from BW.out.trans (hb.mono BW.out.size)); clear BW
    have BW := Lib.hid X.out; clear X
    have X := Lib.hid (O2.out.below hb); clear O2
    have O2 := Lib.hid X.out; clear X
    have X := Lib.hid (O8.out.below hb); clear O8
    have O8 := Lib.hid X.out; clear X
    have X := Lib.hid (O15.out.below hb); clear O15
    have O15 := Lib.hid X.out; clear X
    have X := Lib.hid (O29.out.below hb); clear O29
    have O29 := Lib.hid X.out; clear X
    have X := Lib.hid (O41.out.below hb); clear O41
    have O41 := Lib.hid X.out; clear X
    have X := Lib.hid (O60.out.below hb); clear O60
    have O60 := Lib.hid X.out; clear X
    have X := Lib.hid (XB23.out.below hb); clear XB23
    have XB23 := Lib.hid X.out; clear X
    clear hb
    have O77 := Lib.hid (Own.mono ho (show w.heap.size ≤ _ from HSZ.out)); clear ho HBS
    clear HSZ
    go_wp2_with (first | ((with_reducible show wpList _ _ _ ({ dst := _, op := Op.load 53 _, type := _, pos := _, after := _, guard := _ } :: _) _ _); refine wpList_load_row _ ⟨w.heap.size, 0, none⟩ rfl cs0 agg_lLog HL0.out (blk_cells B0.out) ?_) | ((with_reducible show wpList _ _ _ ({ dst := _, op := Op.load 53 _, type := _, pos := _, after := _, guard := _ } :: _) _ _); refine wpList_load_row_g _ (by first | rfl | kernel_rfl) ⟨w.heap.size, 0, none⟩ rfl cs0 agg_lLog HL0.out (blk_cells B0.out) ?_) | ((with_reducible show wpList _ _ _ ({ dst := _, op := Op.load 46 _, type := _, pos := _, after := _, guard := _ } :: _) _ _); refine wpList_load_row _ ⟨(World.heap v4).size, 0, none⟩ rfl cs'14 agg_Log Lcs14.out (blk_cells XB23.out) ?_) | ((with_reducible show wpList _ _ _ ({ dst := _, op := Op.load 46 _, type := _, pos := _, after := _, guard := _ } :: _) _ _); refine wpList_load_row_g _ (by first | rfl | kernel_rfl) ⟨(World.heap v4).size, 0, none⟩ rfl cs'14 agg_Log Lcs14.out (blk_cells XB23.out) ?_) | fail)
    have HSZ := Lib.hid BW.out.size
    refine (eqStringS_any' r0 A'75 A'6 r0.length c'76 c'7 _ rfl (by first | omega | (have := HWT.out; omega)) O77.out.repAny O8.out.repAny).mono ?_; rintro e v16 ⟨rfl, hb⟩
    have X := Lib.hid (B0.out.below hb); clear B0
    have B0 := Lib.hid X.out; clear X
    have X := Lib.hid (show Below w.heap.size w v16 from BW.out.trans (hb.mono BW.out.size)); clear BW
    have BW := Lib.hid X.out; clear X
    have X := Lib.hid (O2.out.below hb); clear O2
    have O2 := Lib.hid X.out; clear X
    have X := Lib.hid (O8.out.below hb); clear O8
    have O8 := Lib.hid X.out; clear X
    have X := Lib.hid (O15.out.below hb); clear O15
    have O15 := Lib.hid X.out; clear X
    have X := Lib.hid (O29.out.below hb); clear O29
    have O29 := Lib.hid X.out; clear X
    have X := Lib.hid (O41.out.below hb); clear O41
    have O41 := Lib.hid X.out; clear X
    have X := Lib.hid (O60.out.below hb); clear O60
    have O60 := Lib.hid X.out; clear X
    have X := Lib.hid (O77.out.below hb); clear O77
    have O77 := Lib.hid X.out; clear X
    have X := Lib.hid (XB23.out.below hb); clear XB23
    have XB23 := Lib.hid X.out; clear X
    clear hb
    clear HSZ
    go_wp2_with (first | ((with_reducible show wpList _ _ _ ({ dst := _, op := Op.load 53 _, type := _, pos := _, after := _, guard := _ } :: _) _ _); refine wpList_load_row _ ⟨w.heap.size, 0, none⟩ rfl cs0 agg_lLog HL0.out (blk_cells B0.out) ?_) | ((with_reducible show wpList _ _ _ ({ dst := _, op := Op.load 53 _, type := _, pos := _, after := _, guard := _ } :: _) _ _); refine wpList_load_row_g _ (by first | rfl | kernel_rfl) ⟨w.heap.size, 0, none⟩ rfl cs0 agg_lLog HL0.out (blk_cells B0.out) ?_) | ((with_reducible show wpList _ _ _ ({ dst := _, op := Op.load 46 _, type := _, pos := _, after := _, guard := _ } :: _) _ _); refine wpList_load_row _ ⟨(World.heap v4).size, 0, none⟩ rfl cs'14 agg_Log Lcs14.out (blk_cells XB23.out) ?_) | ((with_reducible show wpList _ _ _ ({ dst := _, op := Op.load 46 _, type := _, pos := _, after := _, guard := _ } :: _) _ _); refine wpList_load_row_g _ (by first | rfl | kernel_rfl) ⟨(World.heap v4).size, 0, none⟩ rfl cs'14 agg_Log Lcs14.out (blk_cells XB23.out) ?_) | fail)
    have HSZ := Lib.hid BW.out.size
    refine (heldStringS_any' r0 (1) _ A'27 r0.length c'28 _ rfl (by first | rfl | omega) (by omega) (by first | omega | (have := HCN.out; omega)) O29.out.repAny).mono ?_; rintro e v17 ⟨q94, rfl, hq, hb⟩
    have hq1 : q56 = q94 := (hq.trans HY57.out.symm).symm
    subst hq1
    clear hq
    have X := Lib.hid (B0.out.below hb); clear B0
    have B0 := Lib.hid X.out; clear X
    have X := Lib.hid (show Below w.heap.size w v17 from BW.out.trans (hb.mono BW.out.size)); clear BW
    have BW := Lib.hid X.out; clear X
    have X := Lib.hid (O2.out.below hb); clear O2
    have O2 := Lib.hid X.out; clear X
    have X := Lib.hid (O8.out.below hb); clear O8
    have O8 := Lib.hid X.out; clear X
    have X := Lib.hid (O15.out.below hb); clear O15
    have O15 := Lib.hid X.out; clear X
    have X := Lib.hid (O29.out.below hb); clear O29
    have O29 := Lib.hid X.out; clear X
    have X := Lib.hid (O41.out.below hb); clear O41
    have O41 := Lib.hid X.out; clear X
    have X := Lib.hid (O60.out.below hb); clear O60
    have O60 := Lib.hid X.out; clear X
    have X := Lib.hid (O77.out.below hb); clear O77
    have O77 := Lib.hid X.out; clear X
    have X := Lib.hid (XB23.out.below hb); clear XB23
    have XB23 := Lib.hid X.out; clear X
    clear hb
    clear HSZ
    go_wp2
    go_ret
    exact ⟨ret_eq (by first | rfl | simp), BW.out⟩
  · skip
    go_enter Try.func11, Try.ntmps11
    go_wp2_with (first | ((with_reducible show wpList _ _ _ ({ dst := _, op := Op.load 53 _, type := _, pos := _, after := _, guard := _ } :: _) _ _); refine wpList_load_row _ ⟨w.heap.size, 0, none⟩ rfl cs0 agg_lLog HL0.out (blk_cells (blk_new _ _ _)) ?_) | ((with_reducible show wpList _ _ _ ({ dst := _, op := Op.load 53 _, type := _, pos := _, after := _, guard := _ } :: _) _ _); refine wpList_load_row_g _ (by first | rfl | kernel_rfl) ⟨w.heap.size, 0, none⟩ rfl cs0 agg_lLog HL0.out (blk_cells (blk_new _ _ _)) ?_) | fail)
    refine (szLog_no x0 _ cs0 _ (by omega) (by omega) OK0.out (A0.out.below (by repeat' (first | with_reducible exact Below.refl _ _ | with_reducible refine Below.alloc ?_ ?_ _ | (simp; done) | (simp; omega) | omega))) (by omega)).mono ?_; rintro e v1 ⟨rfl, hb⟩
    have B0 := Lib.hid (Blk.below (blk_new _ _ _) hb)
    have BW := Lib.hid (show Below w.heap.size w v1 from Below.trans (by repeat' (first | with_reducible exact Below.refl _ _ | with_reducible refine Below.alloc ?_ ?_ _ | (simp; done) | (simp; omega) | omega)) (hb.mono (by first | (simp; done) | (simp; omega) | omega)))
    clear hb
    go_wp2
    go_ret
    exact ⟨ret_eq (by first | rfl | simp), BW.out⟩
set_option maxRecDepth 100000 in
theorem FnExactLogRead_lifted (os : Os) (started : os.Started) (H : Type) (enc : TypeId × Value → H) :
    ReturnsInHanded {} Try.checked os 11 .any (Rows.fnExactLogReadSpec.pre6 enc Try.prog Try.f11 Rows.fnExactLogReadRow.domain false) (Rows.fnExactLogReadSpec.post enc Try.prog Try.f11 false true false false) := by
  refine returnsInHanded_of_change (C := Try.checked) own started (by kernel_rfl) Try.func11
    (ChangeSpec.witness6 (enc := enc) (C := Try.checked) false ⟨#[], #[.agg #[.slice none 0 0, .int .i64 0, .int .i64 0]], []⟩ 8 (by kernel_rfl) (by kernel_rfl) (by kernel_rfl) (by kernel_rfl)) ?_
  intro W base args ds gs before hval0 hW _ _
  have hval : ∀ (j : Nat) t v, Try.f11.params[j]? = some t → args[j]? = some v → Value.okWide Try.prog W .any base t v := hval0
  have hW' := hW
  obtain ⟨p, q, hA0, hV, rfl, hfz, hnd⟩ := hW
  have hA : DataW.TrodAll enc Try.prog W 0 (fun _ => true) true Try.f11.params.toList args.toList ds p := hA0
  rw [Try.params11] at hA hval
  obtain ⟨v0, vs0, d0, ds0, p0, q0, hargs, rfl, rfl, h0, r0⟩ := trodAll_cons hA
  obtain ⟨rfl, rfl, rfl⟩ := trodAll_nil r0
  obtain rfl : args = #[v0] := Array.ext' hargs
  obtain ⟨x0, cs0, rfl, ok0, rp0⟩ := openV_Log (hval 0 53 v0 rfl rfl) h0
  refine (lLogRead_all x0 cs0 W ok0 rp0).mono fun e W' ⟨he, hb⟩ => ?_
  subst he
  refine ⟨_, rfl, law_post (tb := 4) laidOut (by kernel_rfl) rfl Try.underlying4 rfl ?_ hW' hb⟩
  intro ds hl
  rw [Try.params11] at hl
  match ds, hl with
  | [_], _ => rfl
theorem FnExactLogRead_holds : Rows.FnExactLogReadSaid :=
  OpenClaim.holds_of_wide 11 Try.f11 rfl rfl rfl rfl rfl rfl rfl ⟨rfl, rfl, rfl, rfl, rfl⟩ rfl rfl rfl rfl rfl (by kernel_rfl) Try.func11 (by kernel_rfl)
    (of_decide_eq_true (by kernel_rfl)) (by unfold Func.isWrapper; first | (rw [if_pos (by decide +kernel)]; kernel_rfl) | (rw [if_neg (by decide +kernel)]; exact ⟨rfl, rfl⟩))
    (fun os started H enc _ => FnExactLogRead_lifted os started H enc)
end Go.Proofs.Ytifdkjddiohahaa
