/-
  The law on InstPut holds for all arguments. No condition.
-/
import Derived.Test.YtoffelfcmfpooaaEq
import Derived.Test.YtoffelfcmfpooaaOpen
import Derived.Test.YtoffelfcmfpooaaMgP
import Derived.Test.YtoffelfcmfpooaaMkB
namespace Go.Proofs.Ytoffelfcmfpooaa
open Go.RowKit Go.ChangeShapes Go.WideShapes Go.ChangeAt
open Go.ChangeMaps (open_string)

attribute [local irreducible] markL marks mks cts InstD.mkT InstD.cntT
set_option maxRecDepth 100000 in
set_option maxHeartbeats 4000000 in
theorem lInstPut_all (x0 : List InstD) (A0 : Option Addr) (n0 c0 : Nat) (x1 : InstD) (cs1 : List Value) (w : World) (hn0 : n0 = x0.length) (hm0 : n0 ≤ 9223372036854775807) (hok0 : (cat InstD.c x0).ok) (h0 : Rep anyB w (.sl 40 16 n0 (cat InstD.c x0) .nil) [.slice A0 n0 c0]) (hok1 : x1.c.ok) (h1 : Rep anyB w x1.c cs1) :
    Calls Try.prog 3 #[.slice A0 n0 c0, .agg cs1.toArray] w fun e w' => e = .returned (.bool true) ∧ Below w.heap.size w w' := by
  have HN0 := Lib.hid hn0; clear hn0
  have OK0 := Lib.hid hok0; clear hok0
  have RA0 := Lib.hid h0; clear h0
  have HL1 := Lib.hid (show cs1.length = 16 from h1.length.trans (InstD.width x1))
  have OK1 := Lib.hid hok1; clear hok1
  have A1 := Lib.hid h1; clear h1
  by_cases cc0 : (((n0 + (cat InstD.c x0).wt) : Nat) : Int) ≤ 1048576
  · skip
    by_cases cc1 : ((x1.c.wt : Nat) : Int) ≤ 1048576 - (((n0 + (cat InstD.c x0).wt) : Nat) : Int)
    · skip
      have hs := fun B0 C0 ds1 W g0 g1 => sInstPut_any x0 x1 B0 n0 C0 ds1 W HN0.out (by omega) (by omega) g0 g1
      have hi := fun B0 C0 ds1 W g0 g1 => iInstPut_any x0 x1 B0 n0 C0 ds1 W HN0.out (by omega) (by omega) g0 g1
      have hbd := bInstPut x0 x1 (by have := HN0.out; omega) (by omega)
      generalize fInstPut x0 x1 = r0 at hs hi hbd
      have Hs := Lib.hid hs; clear hs
      have Hi := Lib.hid hi; clear hi
      obtain ⟨hwt0, hcn0⟩ := hbd
      have HWT := Lib.hid hwt0
      have HCN := Lib.hid hcn0
      clear hwt0 hcn0
      have HCX0 := Lib.hid (InstD.cts_le x0)
      have HCX1 := Lib.hid (InstD.cntT_le x1)
      go_enter Try.func3, Try.ntmps3
      go_wp2_with (first | ((with_reducible show wpList _ _ _ ({ dst := _, op := Op.load 30 _, type := _, pos := _, after := _, guard := _ } :: _) _ _); refine wpList_load_row _ ⟨w.heap.size, 0, none⟩ rfl cs1 agg_lInst HL1.out (blk_cells (blk_new _ _ _)) ?_) | ((with_reducible show wpList _ _ _ ({ dst := _, op := Op.load 30 _, type := _, pos := _, after := _, guard := _ } :: _) _ _); refine wpList_load_row_g _ (by first | rfl | kernel_rfl) ⟨w.heap.size, 0, none⟩ rfl cs1 agg_lInst HL1.out (blk_cells (blk_new _ _ _)) ?_) | fail)
      refine (szInstS_yes x0 _ A0 n0 c0 _ HN0.out (by omega) (by omega) hm0 OK0.out (RA0.out.below (by repeat' (first | with_reducible exact Below.refl _ _ | with_reducible refine Below.alloc ?_ ?_ _ | (simp; done) | (simp; omega) | omega))) (by omega)).mono ?_; rintro e v1 ⟨q0, rfl, ⟨g0a, g0b⟩, hq, hb⟩
      have HQ0 := Lib.hid hq; clear hq
      have B0 := Lib.hid (Blk.below (blk_new _ _ _) hb)
      have BW := Lib.hid (show Below w.heap.size w v1 from Below.trans (by repeat' (first | with_reducible exact Below.refl _ _ | with_reducible refine Below.alloc ?_ ?_ _ | (simp; done) | (simp; omega) | omega)) (hb.mono (by first | (simp; done) | (simp; omega) | omega)))
      clear hb
      go_wp2_with (first | ((with_reducible show wpList _ _ _ ({ dst := _, op := Op.load 30 _, type := _, pos := _, after := _, guard := _ } :: _) _ _); refine wpList_load_row _ ⟨w.heap.size, 0, none⟩ rfl cs1 agg_lInst HL1.out (blk_cells B0.out) ?_) | ((with_reducible show wpList _ _ _ ({ dst := _, op := Op.load 30 _, type := _, pos := _, after := _, guard := _ } :: _) _ _); refine wpList_load_row_g _ (by first | rfl | kernel_rfl) ⟨w.heap.size, 0, none⟩ rfl cs1 agg_lInst HL1.out (blk_cells B0.out) ?_) | fail)
      have HSZ := Lib.hid BW.out.size
      refine (szInst_yes x1 _ cs1 _ (by omega) (by omega) OK1.out (A1.out.below BW.out) (by have := HQ0.out; omega)).mono ?_; rintro e v2 ⟨q1, rfl, ⟨g1a, g1b⟩, hq, hb⟩
      have HQ1 := Lib.hid hq; clear hq
      have X := Lib.hid (B0.out.below hb); clear B0
      have B0 := Lib.hid X.out; clear X
      have X := Lib.hid (show Below w.heap.size w v2 from BW.out.trans (hb.mono BW.out.size)); clear BW
      have BW := Lib.hid X.out; clear X
      clear hb
      clear HSZ
      go_wp2
      refine wp_region_x 6 [0, 2, 1, 3, 4, 5] (by kernel_rfl) (by kernel_rfl) ?_
      refine wpX_quiet rfl (by kernel_rfl) rfl ?_; go_wp2; refine ⟨rfl, ?_⟩
      refine wpX_quiet rfl (by kernel_rfl) rfl ?_; go_wp2_with (first | (refine wpList_load_row _ ⟨w.heap.size, 0, none⟩ rfl cs1 agg_lInst HL1.out (blk_cells B0.out.drew) ?_) | fail); refine ⟨rfl, ?_⟩
      refine wpX_actor rfl (by kernel_rfl) ?_
      go_wp2_with fail
      have HSZ := Lib.hid BW.out.size
      refine (toInstS_any x0 A0 n0 c0 _ HN0.out (by omega) ((RA0.out.below BW.out).drew)).mono ?_; rintro e v3 ⟨A'1, c'2, rfl, hM, hb⟩
      obtain ⟨F4, hnd, ho⟩ := hM
      have N5 := Lib.hid hnd; clear hnd
      have D6 := Lib.hid (show w.heap.size ∉ F4 from fun he => by have h1 := (show Blk v2 _ _ _ from B0.out).lt; have h2 := (ho.in _ he).1; first | omega | (revert h1 h2; simp; done) | (revert h1 h2; simp; omega))
      have HB := Lib.hid hb
      have hb2 := below_drewL hb; clear hb
      have hb := hb2; clear hb2
      have hbs := hb.size
      have HBS := Lib.hid hbs; clear hbs
      have X := Lib.hid (B0.out.below hb); clear B0
      have B0 := Lib.hid X.out; clear X
      have X := Lib.hid (show Below w.heap.size w v3 from BW.out.trans (hb.mono BW.out.size)); clear BW
      have BW := Lib.hid X.out; clear X
      clear hb
      have O3 := Lib.hid (Own.mono ho (show w.heap.size ≤ _ from HSZ.out)); clear ho HBS
      clear HSZ
      go_wp2
      refine ⟨Ext.of_below HB.out, ?_⟩
      clear HB
      refine wpX_actor rfl (by kernel_rfl) ?_
      go_wp2_with fail
      have HSZ := Lib.hid BW.out.size
      refine (toInst_any x1 cs1 _ (by omega) (A1.out.below BW.out)).mono ?_; rintro e v4 ⟨cs'7, rfl, hM, hb⟩
      have Lcs7 := Lib.hid (show cs'7.length = 16 from hM.rep.length.trans (InstD.width _))
      obtain ⟨F9, hnd, ho⟩ := hM
      have N10 := Lib.hid hnd; clear hnd
      have D11 := Lib.hid (show ∀ b ∈ F4, b ∉ F9 from fun b hb he => by have h1 := (O3.out.in b hb).2; have h2 := (ho.in b he).1; first | omega | (revert h1 h2; simp; done) | (revert h1 h2; simp; omega))
      have D12 := Lib.hid (show ∀ b ∈ F9, b ∉ F4 from fun b he hb => by have h1 := (O3.out.in b hb).2; have h2 := (ho.in b he).1; first | omega | (revert h1 h2; simp; done) | (revert h1 h2; simp; omega))
      have D13 := Lib.hid (show w.heap.size ∉ F9 from fun he => by have h1 := (show Blk v3 _ _ _ from B0.out).lt; have h2 := (ho.in _ he).1; first | omega | (revert h1 h2; simp; done) | (revert h1 h2; simp; omega))
      have HB := Lib.hid hb
      have hbs := hb.size
      have HBS := Lib.hid hbs; clear hbs
      have X := Lib.hid (B0.out.below hb); clear B0
      have B0 := Lib.hid X.out; clear X
      have X := Lib.hid (show Below w.heap.size w v4 from BW.out.trans (hb.mono BW.out.size)); clear BW
      have BW := Lib.hid X.out; clear X
      have X := Lib.hid (O3.out.below hb); clear O3
      have O3 := Lib.hid X.out; clear X
      clear hb
      have O8 := Lib.hid (Own.mono ho (show w.heap.size ≤ _ from HSZ.out)); clear ho HBS
      clear HSZ
      go_wp2
      refine ⟨Ext.of_below HB.out, ?_⟩
      clear HB
      refine wpX_actor rfl (by kernel_rfl) ?_
      go_wp2_with fail
      have HSZ := Lib.hid BW.out.size
      refine (Hs.out A'1 c'2 cs'7 _ O3.out.repAny O8.out.repAny).mono ?_; rintro e v5 ⟨A'14, _, c'15, rfl, rfl, hM0, hb⟩
      obtain ⟨F17, hnd, ho⟩ := hM0
      have N18 := Lib.hid hnd; clear hnd
      have D19 := Lib.hid (show ∀ b ∈ F4, b ∉ F17 from fun b hb he => by have h1 := (O3.out.in b hb).2; have h2 := (ho.in b he).1; first | omega | (revert h1 h2; simp; done) | (revert h1 h2; simp; omega))
      have D20 := Lib.hid (show ∀ b ∈ F17, b ∉ F4 from fun b he hb => by have h1 := (O3.out.in b hb).2; have h2 := (ho.in b he).1; first | omega | (revert h1 h2; simp; done) | (revert h1 h2; simp; omega))
      have D21 := Lib.hid (show ∀ b ∈ F9, b ∉ F17 from fun b hb he => by have h1 := (O8.out.in b hb).2; have h2 := (ho.in b he).1; first | omega | (revert h1 h2; simp; done) | (revert h1 h2; simp; omega))
      have D22 := Lib.hid (show ∀ b ∈ F17, b ∉ F9 from fun b he hb => by have h1 := (O8.out.in b hb).2; have h2 := (ho.in b he).1; first | omega | (revert h1 h2; simp; done) | (revert h1 h2; simp; omega))
      have D23 := Lib.hid (show w.heap.size ∉ F17 from fun he => by have h1 := (show Blk v4 _ _ _ from B0.out).lt; have h2 := (ho.in _ he).1; first | omega | (revert h1 h2; simp; done) | (revert h1 h2; simp; omega))
      have HB := Lib.hid hb
      have hbs := hb.size
      have HBS := Lib.hid hbs; clear hbs
      have X := Lib.hid (B0.out.below hb); clear B0
      have B0 := Lib.hid X.out; clear X
      have X := Lib.hid (show Below w.heap.size w v5 from BW.out.trans (hb.mono BW.out.size)); clear BW
      have BW := Lib.hid X.out; clear X
      have X := Lib.hid (O3.out.below hb); clear O3
      have O3 := Lib.hid X.out; clear X
      have X := Lib.hid (O8.out.below hb); clear O8
      have O8 := Lib.hid X.out; clear X
      clear hb
      have O16 := Lib.hid (Own.mono ho (show w.heap.size ≤ _ from HSZ.out)); clear ho HBS
      clear HSZ
      go_wp2
      refine ⟨Ext.of_below HB.out, ?_⟩
      clear HB
      refine wpX_quiet rfl (by kernel_rfl) rfl ?_; go_wp2; refine ⟨rfl, ?_⟩
      refine wpX_nil ?_
      try simp only [List.drop_succ_cons, List.drop_zero]
      go_wp2_with (first | ((with_reducible show wpList _ _ _ ({ dst := _, op := Op.load 30 _, type := _, pos := _, after := _, guard := _ } :: _) _ _); refine wpList_load_row _ ⟨w.heap.size, 0, none⟩ rfl cs1 agg_lInst HL1.out (blk_cells B0.out) ?_) | ((with_reducible show wpList _ _ _ ({ dst := _, op := Op.load 30 _, type := _, pos := _, after := _, guard := _ } :: _) _ _); refine wpList_load_row_g _ (by first | rfl | kernel_rfl) ⟨w.heap.size, 0, none⟩ rfl cs1 agg_lInst HL1.out (blk_cells B0.out) ?_) | fail)
      have HSZ := Lib.hid BW.out.size
      refine (toInstS_any x0 A0 n0 c0 _ HN0.out (by omega) (RA0.out.below BW.out)).mono ?_; rintro e v6 ⟨A'24, c'25, rfl, hM, hb⟩
      obtain ⟨F27, hnd, ho⟩ := hM
      have N28 := Lib.hid hnd; clear hnd
      have D29 := Lib.hid (show ∀ b ∈ F4, b ∉ F27 from fun b hb he => by have h1 := (O3.out.in b hb).2; have h2 := (ho.in b he).1; first | omega | (revert h1 h2; simp; done) | (revert h1 h2; simp; omega))
      have D30 := Lib.hid (show ∀ b ∈ F27, b ∉ F4 from fun b he hb => by have h1 := (O3.out.in b hb).2; have h2 := (ho.in b he).1; first | omega | (revert h1 h2; simp; done) | (revert h1 h2; simp; omega))
      have D31 := Lib.hid (show ∀ b ∈ F9, b ∉ F27 from fun b hb he => by have h1 := (O8.out.in b hb).2; have h2 := (ho.in b he).1; first | omega | (revert h1 h2; simp; done) | (revert h1 h2; simp; omega))
      have D32 := Lib.hid (show ∀ b ∈ F27, b ∉ F9 from fun b he hb => by have h1 := (O8.out.in b hb).2; have h2 := (ho.in b he).1; first | omega | (revert h1 h2; simp; done) | (revert h1 h2; simp; omega))
      have D33 := Lib.hid (show ∀ b ∈ F17, b ∉ F27 from fun b hb he => by have h1 := (O16.out.in b hb).2; have h2 := (ho.in b he).1; first | omega | (revert h1 h2; simp; done) | (revert h1 h2; simp; omega))
      have D34 := Lib.hid (show ∀ b ∈ F27, b ∉ F17 from fun b he hb => by have h1 := (O16.out.in b hb).2; have h2 := (ho.in b he).1; first | omega | (revert h1 h2; simp; done) | (revert h1 h2; simp; omega))
      have D35 := Lib.hid (show w.heap.size ∉ F27 from fun he => by have h1 := (show Blk v5 _ _ _ from B0.out).lt; have h2 := (ho.in _ he).1; first | omega | (revert h1 h2; simp; done) | (revert h1 h2; simp; omega))
      have hbs := hb.size
      have HBS := Lib.hid hbs; clear hbs
      have X := Lib.hid (B0.out.below hb); clear B0
      have B0 := Lib.hid X.out; clear X
      have X := Lib.hid (show Below w.heap.size w v6 from BW.out.trans (hb.mono BW.out.size)); clear BW
      have BW := Lib.hid X.out; clear X
      have X := Lib.hid (O3.out.below hb); clear O3
      have O3 := Lib.hid X.out; clear X
      have X := Lib.hid (O8.out.below hb); clear O8
      have O8 := Lib.hid X.out; clear X
      have X := Lib.hid (O16.out.below hb); clear O16
      have O16 := Lib.hid X.out; clear X
      clear hb
      have O26 := Lib.hid (Own.mono ho (show w.heap.size ≤ _ from HSZ.out)); clear ho HBS
      clear HSZ
      go_wp2_with (first | ((with_reducible show wpList _ _ _ ({ dst := _, op := Op.load 30 _, type := _, pos := _, after := _, guard := _ } :: _) _ _); refine wpList_load_row _ ⟨w.heap.size, 0, none⟩ rfl cs1 agg_lInst HL1.out (blk_cells B0.out) ?_) | ((with_reducible show wpList _ _ _ ({ dst := _, op := Op.load 30 _, type := _, pos := _, after := _, guard := _ } :: _) _ _); refine wpList_load_row_g _ (by first | rfl | kernel_rfl) ⟨w.heap.size, 0, none⟩ rfl cs1 agg_lInst HL1.out (blk_cells B0.out) ?_) | fail)
      have HSZ := Lib.hid BW.out.size
      refine (toInst_any x1 cs1 _ (by omega) (A1.out.below BW.out)).mono ?_; rintro e v7 ⟨cs'36, rfl, hM, hb⟩
      have Lcs36 := Lib.hid (show cs'36.length = 16 from hM.rep.length.trans (InstD.width _))
      obtain ⟨F38, hnd, ho⟩ := hM
      have N39 := Lib.hid hnd; clear hnd
      have D40 := Lib.hid (show ∀ b ∈ F4, b ∉ F38 from fun b hb he => by have h1 := (O3.out.in b hb).2; have h2 := (ho.in b he).1; first | omega | (revert h1 h2; simp; done) | (revert h1 h2; simp; omega))
      have D41 := Lib.hid (show ∀ b ∈ F38, b ∉ F4 from fun b he hb => by have h1 := (O3.out.in b hb).2; have h2 := (ho.in b he).1; first | omega | (revert h1 h2; simp; done) | (revert h1 h2; simp; omega))
      have D42 := Lib.hid (show ∀ b ∈ F9, b ∉ F38 from fun b hb he => by have h1 := (O8.out.in b hb).2; have h2 := (ho.in b he).1; first | omega | (revert h1 h2; simp; done) | (revert h1 h2; simp; omega))
      have D43 := Lib.hid (show ∀ b ∈ F38, b ∉ F9 from fun b he hb => by have h1 := (O8.out.in b hb).2; have h2 := (ho.in b he).1; first | omega | (revert h1 h2; simp; done) | (revert h1 h2; simp; omega))
      have D44 := Lib.hid (show ∀ b ∈ F17, b ∉ F38 from fun b hb he => by have h1 := (O16.out.in b hb).2; have h2 := (ho.in b he).1; first | omega | (revert h1 h2; simp; done) | (revert h1 h2; simp; omega))
      have D45 := Lib.hid (show ∀ b ∈ F38, b ∉ F17 from fun b he hb => by have h1 := (O16.out.in b hb).2; have h2 := (ho.in b he).1; first | omega | (revert h1 h2; simp; done) | (revert h1 h2; simp; omega))
      have D46 := Lib.hid (show ∀ b ∈ F27, b ∉ F38 from fun b hb he => by have h1 := (O26.out.in b hb).2; have h2 := (ho.in b he).1; first | omega | (revert h1 h2; simp; done) | (revert h1 h2; simp; omega))
      have D47 := Lib.hid (show ∀ b ∈ F38, b ∉ F27 from fun b he hb => by have h1 := (O26.out.in b hb).2; have h2 := (ho.in b he).1; first | omega | (revert h1 h2; simp; done) | (revert h1 h2; simp; omega))
      have D48 := Lib.hid (show w.heap.size ∉ F38 from fun he => by have h1 := (show Blk v6 _ _ _ from B0.out).lt; have h2 := (ho.in _ he).1; first | omega | (revert h1 h2; simp; done) | (revert h1 h2; simp; omega))
      have hbs := hb.size
      have HBS := Lib.hid hbs; clear hbs
      have X := Lib.hid (B0.out.below hb); clear B0
      have B0 := Lib.hid X.out; clear X
      have X := Lib.hid (show Below w.heap.size w v7 from BW.out.trans (hb.mono BW.out.size)); clear BW
      have BW := Lib.hid X.out; clear X
      have X := Lib.hid (O3.out.below hb); clear O3
      have O3 := Lib.hid X.out; clear X
      have X := Lib.hid (O8.out.below hb); clear O8
      have O8 := Lib.hid X.out; clear X
      have X := Lib.hid (O16.out.below hb); clear O16
      have O16 := Lib.hid X.out; clear X
      have X := Lib.hid (O26.out.below hb); clear O26
      have O26 := Lib.hid X.out; clear X
      clear hb
      have O37 := Lib.hid (Own.mono ho (show w.heap.size ≤ _ from HSZ.out)); clear ho HBS
      clear HSZ
      go_wp2_with (first | ((with_reducible show wpList _ _ _ ({ dst := _, op := Op.load 30 _, type := _, pos := _, after := _, guard := _ } :: _) _ _); refine wpList_load_row _ ⟨w.heap.size, 0, none⟩ rfl cs1 agg_lInst HL1.out (blk_cells B0.out) ?_) | ((with_reducible show wpList _ _ _ ({ dst := _, op := Op.load 30 _, type := _, pos := _, after := _, guard := _ } :: _) _ _); refine wpList_load_row_g _ (by first | rfl | kernel_rfl) ⟨w.heap.size, 0, none⟩ rfl cs1 agg_lInst HL1.out (blk_cells B0.out) ?_) | ((with_reducible show wpList _ _ _ ({ dst := _, op := Op.load 40 _, type := _, pos := _, after := _, guard := _ } :: _) _ _); refine wpList_load_row _ ⟨World.heap v7 |>.size, 0, none⟩ rfl cs'36 agg_Inst Lcs36.out (blk_cells XB49.out) ?_) | ((with_reducible show wpList _ _ _ ({ dst := _, op := Op.store 40 _ _, type := _, pos := _, after := _, guard := _ } :: _) _ _); refine wpList_store_row _ (World.heap v7).size 40 0 cs'36 [] [.int .i64 0, .int .i64 0, .int .i64 0, .int .i64 0, .int .i64 0, .int .i64 0, .int .i64 0, .int .i64 0, .string ⟨#[]⟩, .string ⟨#[]⟩, .string ⟨#[]⟩, .int .i64 0, .slice none 0 0, .int .i64 0, .slice none 0 0, .bool false] [] _ rfl rfl (Lcs36.out ▸ agg_Inst) (blk_new v7 _ _) rfl rfl Lcs36.out.symm O37.out.one ?_; intro v8 hsb hsg; have hb : Below (World.heap v7).size v7 v8 := Below.grown (Below.alloc (Below.refl _ _) (Nat.le_refl _) _) hsg (by simp) (fun k hk => by injection hk with hk; omega); have hsb2 : Blk v8 (World.heap v7).size 40 cs'36.toArray := (by simpa using hsb); have XB49 := Lib.hid hsb2; clear hsb hsb2 hsg; have D50 := Lib.hid (show (World.heap v7).size ∉ F4 from fun he => by have h1 := (O3.out.in _ he).2; omega); have D51 := Lib.hid (show (World.heap v7).size ∉ F9 from fun he => by have h1 := (O8.out.in _ he).2; omega); have D52 := Lib.hid (show (World.heap v7).size ∉ F17 from fun he => by have h1 := (O16.out.in _ he).2; omega); have D53 := Lib.hid (show (World.heap v7).size ∉ F27 from fun he => by have h1 := (O26.out.in _ he).2; omega); have D54 := Lib.hid (show (World.heap v7).size ∉ F38 from fun he => by have h1 := (O37.out.in _ he).2; omega); have X := Lib.hid (B0.out.below hb); clear B0; have B0 := Lib.hid X.out; clear X; have X := Lib.hid (show Below w.heap.size w v8 from BW.out.trans (hb.mono BW.out.size)); clear BW; have BW := Lib.hid X.out; clear X; have X := Lib.hid (O3.out.below hb); clear O3; have O3 := Lib.hid X.out; clear X; have X := Lib.hid (O8.out.below hb); clear O8; have O8 := Lib.hid X.out; clear X; have X := Lib.hid (O16.out.below hb); clear O16; have O16 := Lib.hid X.out; clear X; have X := Lib.hid (O26.out.below hb); clear O26; have O26 := Lib.hid X.out; clear X; have X := Lib.hid (O37.out.below hb); clear O37; have O37 := Lib.hid X.out; clear X; clear hb) | fail)
      go_wp2_with (first | ((with_reducible show wpList _ _ _ ({ dst := _, op := Op.load 30 _, type := _, pos := _, after := _, guard := _ } :: _) _ _); refine wpList_load_row _ ⟨w.heap.size, 0, none⟩ rfl cs1 agg_lInst HL1.out (blk_cells B0.out) ?_) | ((with_reducible show wpList _ _ _ ({ dst := _, op := Op.load 30 _, type := _, pos := _, after := _, guard := _ } :: _) _ _); refine wpList_load_row_g _ (by first | rfl | kernel_rfl) ⟨w.heap.size, 0, none⟩ rfl cs1 agg_lInst HL1.out (blk_cells B0.out) ?_) | ((with_reducible show wpList _ _ _ ({ dst := _, op := Op.load 40 _, type := _, pos := _, after := _, guard := _ } :: _) _ _); refine wpList_load_row _ ⟨(World.heap v7).size, 0, none⟩ rfl cs'36 agg_Inst Lcs36.out (blk_cells XB49.out) ?_) | ((with_reducible show wpList _ _ _ ({ dst := _, op := Op.load 40 _, type := _, pos := _, after := _, guard := _ } :: _) _ _); refine wpList_load_row_g _ (by first | rfl | kernel_rfl) ⟨(World.heap v7).size, 0, none⟩ rfl cs'36 agg_Inst Lcs36.out (blk_cells XB49.out) ?_) | fail)
      have HSZ := Lib.hid BW.out.size
      refine (Hi.out A'24 c'25 cs'36 _ O26.out.repAny O37.out.repAny).mono ?_; rintro e v9 ⟨A'55, _, c'56, rfl, rfl, hM0, hb⟩
      obtain ⟨F58, hnd, ho⟩ := hM0
      have N59 := Lib.hid hnd; clear hnd
      have D60 := Lib.hid (show ∀ b ∈ F4, b ∉ F58 from fun b hb he => by have h1 := (O3.out.in b hb).2; have h2 := (ho.in b he).1; first | omega | (revert h1 h2; simp; done) | (revert h1 h2; simp; omega))
      have D61 := Lib.hid (show ∀ b ∈ F58, b ∉ F4 from fun b he hb => by have h1 := (O3.out.in b hb).2; have h2 := (ho.in b he).1; first | omega | (revert h1 h2; simp; done) | (revert h1 h2; simp; omega))
      have D62 := Lib.hid (show ∀ b ∈ F9, b ∉ F58 from fun b hb he => by have h1 := (O8.out.in b hb).2; have h2 := (ho.in b he).1; first | omega | (revert h1 h2; simp; done) | (revert h1 h2; simp; omega))
      have D63 := Lib.hid (show ∀ b ∈ F58, b ∉ F9 from fun b he hb => by have h1 := (O8.out.in b hb).2; have h2 := (ho.in b he).1; first | omega | (revert h1 h2; simp; done) | (revert h1 h2; simp; omega))
      have D64 := Lib.hid (show ∀ b ∈ F17, b ∉ F58 from fun b hb he => by have h1 := (O16.out.in b hb).2; have h2 := (ho.in b he).1; first | omega | (revert h1 h2; simp; done) | (revert h1 h2; simp; omega))
      have D65 := Lib.hid (show ∀ b ∈ F58, b ∉ F17 from fun b he hb => by have h1 := (O16.out.in b hb).2; have h2 := (ho.in b he).1; first | omega | (revert h1 h2; simp; done) | (revert h1 h2; simp; omega))
      have D66 := Lib.hid (show ∀ b ∈ F27, b ∉ F58 from fun b hb he => by have h1 := (O26.out.in b hb).2; have h2 := (ho.in b he).1; first | omega | (revert h1 h2; simp; done) | (revert h1 h2; simp; omega))
      have D67 := Lib.hid (show ∀ b ∈ F58, b ∉ F27 from fun b he hb => by have h1 := (O26.out.in b hb).2; have h2 := (ho.in b he).1; first | omega | (revert h1 h2; simp; done) | (revert h1 h2; simp; omega))
      have D68 := Lib.hid (show ∀ b ∈ F38, b ∉ F58 from fun b hb he => by have h1 := (O37.out.in b hb).2; have h2 := (ho.in b he).1; first | omega | (revert h1 h2; simp; done) | (revert h1 h2; simp; omega))
      have D69 := Lib.hid (show ∀ b ∈ F58, b ∉ F38 from fun b he hb => by have h1 := (O37.out.in b hb).2; have h2 := (ho.in b he).1; first | omega | (revert h1 h2; simp; done) | (revert h1 h2; simp; omega))
      have D70 := Lib.hid (show (World.heap v7).size ∉ F58 from fun he => by have h1 := XB49.out.lt; have h2 := (ho.in _ he).1; first | omega | (revert h1 h2; simp; done) | (revert h1 h2; simp; omega))
      have D71 := Lib.hid (show w.heap.size ∉ F58 from fun he => by have h1 := (show Blk v8 _ _ _ from B0.out).lt; have h2 := (ho.in _ he).1; first | omega | (revert h1 h2; simp; done) | (revert h1 h2; simp; omega))
      have hbs := hb.size
      have HBS := Lib.hid hbs; clear hbs
      have X := Lib.hid (B0.out.below hb); clear B0
      have B0 := Lib.hid X.out; clear X
      have X := Lib.hid (show Below w.heap.size w v9 from BW.out.trans (hb.mono BW.out.size)); clear BW
      have BW := Lib.hid X.out; clear X
      have X := Lib.hid (O3.out.below hb); clear O3
      have O3 := Lib.hid X.out; clear X
      have X := Lib.hid (O8.out.below hb); clear O8
      have O8 := Lib.hid X.out; clear X
      have X := Lib.hid (O16.out.below hb); clear O16
      have O16 := Lib.hid X.out; clear X
      have X := Lib.hid (O26.out.below hb); clear O26
      have O26 := Lib.hid X.out; clear X
      have X := Lib.hid (O37.out.below hb); clear O37
      have O37 := Lib.hid X.out; clear X
      have X := Lib.hid (XB49.out.below hb); clear XB49
      have XB49 := Lib.hid X.out; clear X
      clear hb
      have O57 := Lib.hid (Own.mono ho (show w.heap.size ≤ _ from HSZ.out)); clear ho HBS
      clear HSZ
      go_wp2_with (first | ((with_reducible show wpList _ _ _ ({ dst := _, op := Op.load 30 _, type := _, pos := _, after := _, guard := _ } :: _) _ _); refine wpList_load_row _ ⟨w.heap.size, 0, none⟩ rfl cs1 agg_lInst HL1.out (blk_cells B0.out) ?_) | ((with_reducible show wpList _ _ _ ({ dst := _, op := Op.load 30 _, type := _, pos := _, after := _, guard := _ } :: _) _ _); refine wpList_load_row_g _ (by first | rfl | kernel_rfl) ⟨w.heap.size, 0, none⟩ rfl cs1 agg_lInst HL1.out (blk_cells B0.out) ?_) | ((with_reducible show wpList _ _ _ ({ dst := _, op := Op.load 40 _, type := _, pos := _, after := _, guard := _ } :: _) _ _); refine wpList_load_row _ ⟨(World.heap v7).size, 0, none⟩ rfl cs'36 agg_Inst Lcs36.out (blk_cells XB49.out) ?_) | ((with_reducible show wpList _ _ _ ({ dst := _, op := Op.load 40 _, type := _, pos := _, after := _, guard := _ } :: _) _ _); refine wpList_load_row_g _ (by first | rfl | kernel_rfl) ⟨(World.heap v7).size, 0, none⟩ rfl cs'36 agg_Inst Lcs36.out (blk_cells XB49.out) ?_) | fail)
      have HSZ := Lib.hid BW.out.size
      refine (eqInstS_any r0 A'55 A'14 r0.length c'56 c'15 _ rfl (by first | omega | (have := HWT.out; omega)) O57.out.repAny O16.out.repAny).mono ?_; rintro e v10 ⟨rfl, hb⟩
      have X := Lib.hid (B0.out.below hb); clear B0
      have B0 := Lib.hid X.out; clear X
      have X := Lib.hid (show Below w.heap.size w v10 from BW.out.trans (hb.mono BW.out.size)); clear BW
      have BW := Lib.hid X.out; clear X
      have X := Lib.hid (O3.out.below hb); clear O3
      have O3 := Lib.hid X.out; clear X
      have X := Lib.hid (O8.out.below hb); clear O8
      have O8 := Lib.hid X.out; clear X
      have X := Lib.hid (O16.out.below hb); clear O16
      have O16 := Lib.hid X.out; clear X
      have X := Lib.hid (O26.out.below hb); clear O26
      have O26 := Lib.hid X.out; clear X
      have X := Lib.hid (O37.out.below hb); clear O37
      have O37 := Lib.hid X.out; clear X
      have X := Lib.hid (O57.out.below hb); clear O57
      have O57 := Lib.hid X.out; clear X
      have X := Lib.hid (XB49.out.below hb); clear XB49
      have XB49 := Lib.hid X.out; clear X
      clear hb
      clear HSZ
      go_wp2_with (first | ((with_reducible show wpList _ _ _ ({ dst := _, op := Op.load 30 _, type := _, pos := _, after := _, guard := _ } :: _) _ _); refine wpList_load_row _ ⟨w.heap.size, 0, none⟩ rfl cs1 agg_lInst HL1.out (blk_cells B0.out) ?_) | ((with_reducible show wpList _ _ _ ({ dst := _, op := Op.load 30 _, type := _, pos := _, after := _, guard := _ } :: _) _ _); refine wpList_load_row_g _ (by first | rfl | kernel_rfl) ⟨w.heap.size, 0, none⟩ rfl cs1 agg_lInst HL1.out (blk_cells B0.out) ?_) | ((with_reducible show wpList _ _ _ ({ dst := _, op := Op.load 40 _, type := _, pos := _, after := _, guard := _ } :: _) _ _); refine wpList_load_row _ ⟨(World.heap v7).size, 0, none⟩ rfl cs'36 agg_Inst Lcs36.out (blk_cells XB49.out) ?_) | ((with_reducible show wpList _ _ _ ({ dst := _, op := Op.load 40 _, type := _, pos := _, after := _, guard := _ } :: _) _ _); refine wpList_load_row_g _ (by first | rfl | kernel_rfl) ⟨(World.heap v7).size, 0, none⟩ rfl cs'36 agg_Inst Lcs36.out (blk_cells XB49.out) ?_) | fail)
      have HSZ := Lib.hid BW.out.size
      refine (toInstS_any x0 A0 n0 c0 _ HN0.out (by omega) (RA0.out.below BW.out)).mono ?_; rintro e v11 ⟨A'72, c'73, rfl, hM, hb⟩
      obtain ⟨F75, hnd, ho⟩ := hM
      have N76 := Lib.hid hnd; clear hnd
      have D77 := Lib.hid (show ∀ b ∈ F4, b ∉ F75 from fun b hb he => by have h1 := (O3.out.in b hb).2; have h2 := (ho.in b he).1; first | omega | (revert h1 h2; simp; done) | (revert h1 h2; simp; omega))
      have D78 := Lib.hid (show ∀ b ∈ F75, b ∉ F4 from fun b he hb => by have h1 := (O3.out.in b hb).2; have h2 := (ho.in b he).1; first | omega | (revert h1 h2; simp; done) | (revert h1 h2; simp; omega))
      have D79 := Lib.hid (show ∀ b ∈ F9, b ∉ F75 from fun b hb he => by have h1 := (O8.out.in b hb).2; have h2 := (ho.in b he).1; first | omega | (revert h1 h2; simp; done) | (revert h1 h2; simp; omega))
      have D80 := Lib.hid (show ∀ b ∈ F75, b ∉ F9 from fun b he hb => by have h1 := (O8.out.in b hb).2; have h2 := (ho.in b he).1; first | omega | (revert h1 h2; simp; done) | (revert h1 h2; simp; omega))
      have D81 := Lib.hid (show ∀ b ∈ F17, b ∉ F75 from fun b hb he => by have h1 := (O16.out.in b hb).2; have h2 := (ho.in b he).1; first | omega | (revert h1 h2; simp; done) | (revert h1 h2; simp; omega))
      have D82 := Lib.hid (show ∀ b ∈ F75, b ∉ F17 from fun b he hb => by have h1 := (O16.out.in b hb).2; have h2 := (ho.in b he).1; first | omega | (revert h1 h2; simp; done) | (revert h1 h2; simp; omega))
      have D83 := Lib.hid (show ∀ b ∈ F27, b ∉ F75 from fun b hb he => by have h1 := (O26.out.in b hb).2; have h2 := (ho.in b he).1; first | omega | (revert h1 h2; simp; done) | (revert h1 h2; simp; omega))
      have D84 := Lib.hid (show ∀ b ∈ F75, b ∉ F27 from fun b he hb => by have h1 := (O26.out.in b hb).2; have h2 := (ho.in b he).1; first | omega | (revert h1 h2; simp; done) | (revert h1 h2; simp; omega))
      have D85 := Lib.hid (show ∀ b ∈ F38, b ∉ F75 from fun b hb he => by have h1 := (O37.out.in b hb).2; have h2 := (ho.in b he).1; first | omega | (revert h1 h2; simp; done) | (revert h1 h2; simp; omega))
      have D86 := Lib.hid (show ∀ b ∈ F75, b ∉ F38 from fun b he hb => by have h1 := (O37.out.in b hb).2; have h2 := (ho.in b he).1; first | omega | (revert h1 h2; simp; done) | (revert h1 h2; simp; omega))
      have D87 := Lib.hid (show ∀ b ∈ F58, b ∉ F75 from fun b hb he => by have h1 := (O57.out.in b hb).2; have h2 := (ho.in b he).1; first | omega | (revert h1 h2; simp; done) | (revert h1 h2; simp; omega))
      have D88 := Lib.hid (show ∀ b ∈ F75, b ∉ F58 from fun b he hb => by have h1 := (O57.out.in b hb).2; have h2 := (ho.in b he).1; first | omega | (revert h1 h2; simp; done) | (revert h1 h2; simp; omega))
      have D89 := Lib.hid (show (World.heap v7).size ∉ F75 from fun he => by have h1 := XB49.out.lt; have h2 := (ho.in _ he).1; first | omega | (revert h1 h2; simp; done) | (revert h1 h2; simp; omega))
      have D90 := Lib.hid (show w.heap.size ∉ F75 from fun he => by have h1 := (show Blk v10 _ _ _ from B0.out).lt; have h2 := (ho.in _ he).1; first | omega | (revert h1 h2; simp; done) | (revert h1 h2; simp; omega))
      have hbs := hb.size
      have HBS := Lib.hid hbs; clear hbs
      have X := Lib.hid (B0.out.below hb); clear B0
      have B0 := Lib.hid X.out; clear X
      have X := Lib.hid (show Below w.heap.size w v11 from BW.out.trans (hb.mono BW.out.size)); clear BW
      have BW := Lib.hid X.out; clear X
      have X := Lib.hid (O3.out.below hb); clear O3
      have O3 := Lib.hid X.out; clear X
      have X := Lib.hid (O8.out.below hb); clear O8
      have O8 := Lib.hid X.out; clear X
      have X := Lib.hid (O16.out.below hb); clear O16
      have O16 := Lib.hid X.out; clear X
      have X := Lib.hid (O26.out.below hb); clear O26
      have O26 := Lib.hid X.out; clear X
      have X := Lib.hid (O37.out.below hb); clear O37
      have O37 := Lib.hid X.out; clear X
      have X := Lib.hid (O57.out.below hb); clear O57
      have O57 := Lib.hid X.out; clear X
      have X := Lib.hid (XB49.out.below hb); clear XB49
      have XB49 := Lib.hid X.out; clear X
      clear hb
      have O74 := Lib.hid (Own.mono ho (show w.heap.size ≤ _ from HSZ.out)); clear ho HBS
      clear HSZ
      go_wp2_with (first | ((with_reducible show wpList _ _ _ ({ dst := _, op := Op.load 30 _, type := _, pos := _, after := _, guard := _ } :: _) _ _); refine wpList_load_row _ ⟨w.heap.size, 0, none⟩ rfl cs1 agg_lInst HL1.out (blk_cells B0.out) ?_) | ((with_reducible show wpList _ _ _ ({ dst := _, op := Op.load 30 _, type := _, pos := _, after := _, guard := _ } :: _) _ _); refine wpList_load_row_g _ (by first | rfl | kernel_rfl) ⟨w.heap.size, 0, none⟩ rfl cs1 agg_lInst HL1.out (blk_cells B0.out) ?_) | ((with_reducible show wpList _ _ _ ({ dst := _, op := Op.load 40 _, type := _, pos := _, after := _, guard := _ } :: _) _ _); refine wpList_load_row _ ⟨(World.heap v7).size, 0, none⟩ rfl cs'36 agg_Inst Lcs36.out (blk_cells XB49.out) ?_) | ((with_reducible show wpList _ _ _ ({ dst := _, op := Op.load 40 _, type := _, pos := _, after := _, guard := _ } :: _) _ _); refine wpList_load_row_g _ (by first | rfl | kernel_rfl) ⟨(World.heap v7).size, 0, none⟩ rfl cs'36 agg_Inst Lcs36.out (blk_cells XB49.out) ?_) | fail)
      have HSZ := Lib.hid BW.out.size
      refine (eqInstS_any x0 A'24 A'72 n0 c'25 c'73 _ HN0.out (by omega) O26.out.repAny O74.out.repAny).mono ?_; rintro e v12 ⟨rfl, hb⟩
      have X := Lib.hid (B0.out.below hb); clear B0
      have B0 := Lib.hid X.out; clear X
      have X := Lib.hid (show Below w.heap.size w v12 from BW.out.trans (hb.mono BW.out.size)); clear BW
      have BW := Lib.hid X.out; clear X
      have X := Lib.hid (O3.out.below hb); clear O3
      have O3 := Lib.hid X.out; clear X
      have X := Lib.hid (O8.out.below hb); clear O8
      have O8 := Lib.hid X.out; clear X
      have X := Lib.hid (O16.out.below hb); clear O16
      have O16 := Lib.hid X.out; clear X
      have X := Lib.hid (O26.out.below hb); clear O26
      have O26 := Lib.hid X.out; clear X
      have X := Lib.hid (O37.out.below hb); clear O37
      have O37 := Lib.hid X.out; clear X
      have X := Lib.hid (O57.out.below hb); clear O57
      have O57 := Lib.hid X.out; clear X
      have X := Lib.hid (O74.out.below hb); clear O74
      have O74 := Lib.hid X.out; clear X
      have X := Lib.hid (XB49.out.below hb); clear XB49
      have XB49 := Lib.hid X.out; clear X
      clear hb
      clear HSZ
      go_wp2
      refine wp_region_x 5 [0, 1, 2, 3, 4] (by kernel_rfl) (by kernel_rfl) ?_
      refine wpX_quiet rfl (by kernel_rfl) rfl ?_; go_wp2_with (first | (refine wpList_load_row _ ⟨w.heap.size, 0, none⟩ rfl cs1 agg_lInst HL1.out (blk_cells B0.out.drew) ?_) | (refine wpList_load_row _ ⟨(World.heap v7).size, 0, none⟩ rfl cs'36 agg_Inst Lcs36.out (blk_cells XB49.out.drew) ?_) | fail); refine ⟨rfl, ?_⟩
      refine wpX_quiet rfl (by kernel_rfl) rfl ?_; go_wp2_with (first | (refine wpList_load_row _ ⟨w.heap.size, 0, none⟩ rfl cs1 agg_lInst HL1.out (blk_cells B0.out.drew) ?_) | (refine wpList_load_row _ ⟨(World.heap v7).size, 0, none⟩ rfl cs'36 agg_Inst Lcs36.out (blk_cells XB49.out.drew) ?_) | fail); refine ⟨rfl, ?_⟩
      refine wpX_actor rfl (by kernel_rfl) ?_
      go_wp2_with fail
      have HSZ := Lib.hid BW.out.size
      refine (toInst_any x1 cs1 _ (by omega) ((A1.out.below BW.out).drew)).mono ?_; rintro e v13 ⟨cs'91, rfl, hM, hb⟩
      have Lcs91 := Lib.hid (show cs'91.length = 16 from hM.rep.length.trans (InstD.width _))
      obtain ⟨F93, hnd, ho⟩ := hM
      have N94 := Lib.hid hnd; clear hnd
      have D95 := Lib.hid (show ∀ b ∈ F4, b ∉ F93 from fun b hb he => by have h1 := (O3.out.in b hb).2; have h2 := (ho.in b he).1; first | omega | (revert h1 h2; simp; done) | (revert h1 h2; simp; omega))
      have D96 := Lib.hid (show ∀ b ∈ F93, b ∉ F4 from fun b he hb => by have h1 := (O3.out.in b hb).2; have h2 := (ho.in b he).1; first | omega | (revert h1 h2; simp; done) | (revert h1 h2; simp; omega))
      have D97 := Lib.hid (show ∀ b ∈ F9, b ∉ F93 from fun b hb he => by have h1 := (O8.out.in b hb).2; have h2 := (ho.in b he).1; first | omega | (revert h1 h2; simp; done) | (revert h1 h2; simp; omega))
      have D98 := Lib.hid (show ∀ b ∈ F93, b ∉ F9 from fun b he hb => by have h1 := (O8.out.in b hb).2; have h2 := (ho.in b he).1; first | omega | (revert h1 h2; simp; done) | (revert h1 h2; simp; omega))
      have D99 := Lib.hid (show ∀ b ∈ F17, b ∉ F93 from fun b hb he => by have h1 := (O16.out.in b hb).2; have h2 := (ho.in b he).1; first | omega | (revert h1 h2; simp; done) | (revert h1 h2; simp; omega))
      have D100 := Lib.hid (show ∀ b ∈ F93, b ∉ F17 from fun b he hb => by have h1 := (O16.out.in b hb).2; have h2 := (ho.in b he).1; first | omega | (revert h1 h2; simp; done) | (revert h1 h2; simp; omega))
      have D101 := Lib.hid (show ∀ b ∈ F27, b ∉ F93 from fun b hb he => by have h1 := (O26.out.in b hb).2; have h2 := (ho.in b he).1; first | omega | (revert h1 h2; simp; done) | (revert h1 h2; simp; omega))
      have D102 := Lib.hid (show ∀ b ∈ F93, b ∉ F27 from fun b he hb => by have h1 := (O26.out.in b hb).2; have h2 := (ho.in b he).1; first | omega | (revert h1 h2; simp; done) | (revert h1 h2; simp; omega))
      have D103 := Lib.hid (show ∀ b ∈ F38, b ∉ F93 from fun b hb he => by have h1 := (O37.out.in b hb).2; have h2 := (ho.in b he).1; first | omega | (revert h1 h2; simp; done) | (revert h1 h2; simp; omega))
      have D104 := Lib.hid (show ∀ b ∈ F93, b ∉ F38 from fun b he hb => by have h1 := (O37.out.in b hb).2; have h2 := (ho.in b he).1; first | omega | (revert h1 h2; simp; done) | (revert h1 h2; simp; omega))
      have D105 := Lib.hid (show ∀ b ∈ F58, b ∉ F93 from fun b hb he => by have h1 := (O57.out.in b hb).2; have h2 := (ho.in b he).1; first | omega | (revert h1 h2; simp; done) | (revert h1 h2; simp; omega))
      have D106 := Lib.hid (show ∀ b ∈ F93, b ∉ F58 from fun b he hb => by have h1 := (O57.out.in b hb).2; have h2 := (ho.in b he).1; first | omega | (revert h1 h2; simp; done) | (revert h1 h2; simp; omega))
      have D107 := Lib.hid (show ∀ b ∈ F75, b ∉ F93 from fun b hb he => by have h1 := (O74.out.in b hb).2; have h2 := (ho.in b he).1; first | omega | (revert h1 h2; simp; done) | (revert h1 h2; simp; omega))
      have D108 := Lib.hid (show ∀ b ∈ F93, b ∉ F75 from fun b he hb => by have h1 := (O74.out.in b hb).2; have h2 := (ho.in b he).1; first | omega | (revert h1 h2; simp; done) | (revert h1 h2; simp; omega))
      have D109 := Lib.hid (show (World.heap v7).size ∉ F93 from fun he => by have h1 := XB49.out.lt; have h2 := (ho.in _ he).1; first | omega | (revert h1 h2; simp; done) | (revert h1 h2; simp; omega))
      have D110 := Lib.hid (show w.heap.size ∉ F93 from fun he => by have h1 := (show Blk v12 _ _ _ from B0.out).lt; have h2 := (ho.in _ he).1; first | omega | (revert h1 h2; simp; done) | (revert h1 h2; simp; omega))
      have HB := Lib.hid hb
      have hb2 := below_drewL hb; clear hb
      have hb := hb2; clear hb2
      have hbs := hb.size
      have HBS := Lib.hid hbs; clear hbs
      have X := Lib.hid (B0.out.below hb); clear B0
      have B0 := Lib.hid X.out; clear X
      have X := Lib.hid (show Below w.heap.size w v13 from BW.out.trans (hb.mono BW.out.size)); clear BW
      have BW := Lib.hid X.out; clear X
      have X := Lib.hid (O3.out.below hb); clear O3
      have O3 := Lib.hid X.out; clear X
      have X := Lib.hid (O8.out.below hb); clear O8
      have O8 := Lib.hid X.out; clear X
      have X := Lib.hid (O16.out.below hb); clear O16
      have O16 := Lib.hid X.out; clear X
      have X := Lib.hid (O26.out.below hb); clear O26
      have O26 := Lib.hid X.out; clear X
      have X := Lib.hid (O37.out.below hb); clear O37
      have O37 := Lib.hid X.out; clear X
      have X := Lib.hid (O57.out.below hb); clear O57
      have O57 := Lib.hid X.out; clear X
      have X := Lib.hid (O74.out.below hb); clear O74
      have O74 := Lib.hid X.out; clear X
      have X := Lib.hid (XB49.out.below hb); clear XB49
      have XB49 := Lib.hid X.out; clear X
      clear hb
      have O92 := Lib.hid (Own.mono ho (show w.heap.size ≤ _ from HSZ.out)); clear ho HBS
      clear HSZ
      go_wp2
      refine ⟨Ext.of_below HB.out, ?_⟩
      clear HB
      refine wpX_actor rfl (by kernel_rfl) ?_
      go_wp2_with fail
      have HSZ := Lib.hid BW.out.size
      refine (eqInst_any x1 cs'36 cs'91 _ (by omega) O37.out.repAny O92.out.repAny).mono ?_; rintro e v14 ⟨rfl, hb⟩
      have HB := Lib.hid hb
      have X := Lib.hid (B0.out.below hb); clear B0
      have B0 := Lib.hid X.out; clear X
      have X := Lib.hid (show Below w.heap.size w v14 from BW.out.trans (hb.mono BW.out.size)); clear BW
      have BW := Lib.hid X.out; clear X
      have X := Lib.hid (O3.out.below hb); clear O3
      have O3 := Lib.hid X.out; clear X
      have X := Lib.hid (O8.out.below hb); clear O8
      have O8 := Lib.hid X.out; clear X
      have X := Lib.hid (O16.out.below hb); clear O16
      have O16 := Lib.hid X.out; clear X
      have X := Lib.hid (O26.out.below hb); clear O26
      have O26 := Lib.hid X.out; clear X
      have X := Lib.hid (O37.out.below hb); clear O37
      have O37 := Lib.hid X.out; clear X
      have X := Lib.hid (O57.out.below hb); clear O57
      have O57 := Lib.hid X.out; clear X
      have X := Lib.hid (O74.out.below hb); clear O74
      have O74 := Lib.hid X.out; clear X
      have X := Lib.hid (O92.out.below hb); clear O92
      have O92 := Lib.hid X.out; clear X
      have X := Lib.hid (XB49.out.below hb); clear XB49
      have XB49 := Lib.hid X.out; clear X
      clear hb
      clear HSZ
      go_wp2
      refine ⟨Ext.of_below HB.out, ?_⟩
      clear HB
      refine wpX_quiet rfl (by kernel_rfl) rfl ?_; go_wp2; refine ⟨rfl, ?_⟩
      refine wpX_nil ?_
      try simp only [List.drop_succ_cons, List.drop_zero]
      go_wp2_with (first | ((with_reducible show wpList _ _ _ ({ dst := _, op := Op.load 30 _, type := _, pos := _, after := _, guard := _ } :: _) _ _); refine wpList_load_row _ ⟨w.heap.size, 0, none⟩ rfl cs1 agg_lInst HL1.out (blk_cells B0.out) ?_) | ((with_reducible show wpList _ _ _ ({ dst := _, op := Op.load 30 _, type := _, pos := _, after := _, guard := _ } :: _) _ _); refine wpList_load_row_g _ (by first | rfl | kernel_rfl) ⟨w.heap.size, 0, none⟩ rfl cs1 agg_lInst HL1.out (blk_cells B0.out) ?_) | ((with_reducible show wpList _ _ _ ({ dst := _, op := Op.load 40 _, type := _, pos := _, after := _, guard := _ } :: _) _ _); refine wpList_load_row _ ⟨(World.heap v7).size, 0, none⟩ rfl cs'36 agg_Inst Lcs36.out (blk_cells XB49.out) ?_) | ((with_reducible show wpList _ _ _ ({ dst := _, op := Op.load 40 _, type := _, pos := _, after := _, guard := _ } :: _) _ _); refine wpList_load_row_g _ (by first | rfl | kernel_rfl) ⟨(World.heap v7).size, 0, none⟩ rfl cs'36 agg_Inst Lcs36.out (blk_cells XB49.out) ?_) | fail)
      have HSZ := Lib.hid BW.out.size
      refine (markInstS_any x0 (1) _ w.heap.size A'24 n0 c'25 F27 _ HN0.out (by first | rfl | omega) (by omega) (by first | omega | (have := HCN.out; omega) | (have := HCX0.out; have := HN0.out; omega) | (have := HCX1.out; omega) | (have := HCX0.out; have := HN0.out; have := HCX1.out; omega)) N28.out O26.out).mono ?_; rintro e v15 ⟨q111, rfl, hq, ho, hm⟩
      have hq0 : 0 ≤ q111 := by omega
      have HY112 := Lib.hid hq; clear hq
      have q111z := Lib.hid hq0
      have hdq111 : decide (q111 < 0) = false := by simp only [decide_eq_false_iff_not]; omega
      have X := Lib.hid (B0.out.mod hm D35.out); clear B0
      have B0 := Lib.hid X.out; clear X
      have X := Lib.hid (XB49.out.mod hm D53.out); clear XB49
      have XB49 := Lib.hid X.out; clear X
      have X := Lib.hid (O3.out.mod1 hm D29.out); clear O3
      have O3 := Lib.hid X.out; clear X
      have X := Lib.hid (O8.out.mod1 hm D31.out); clear O8
      have O8 := Lib.hid X.out; clear X
      have X := Lib.hid (O16.out.mod1 hm D33.out); clear O16
      have O16 := Lib.hid X.out; clear X
      have X := Lib.hid (O37.out.mod1 hm D47.out); clear O37
      have O37 := Lib.hid X.out; clear X
      have X := Lib.hid (O57.out.mod1 hm D67.out); clear O57
      have O57 := Lib.hid X.out; clear X
      have X := Lib.hid (O74.out.mod1 hm D84.out); clear O74
      have O74 := Lib.hid X.out; clear X
      have X := Lib.hid (O92.out.mod1 hm D102.out); clear O92
      have O92 := Lib.hid X.out; clear X
      have X := Lib.hid (show Below w.heap.size w v15 from Mod.below BW.out hm BW.out.size (fun b hb => (O26.out.in b hb).1)); clear BW O26
      have BW := Lib.hid X.out; clear X
      have O26 := Lib.hid ho; clear ho hm
      clear HSZ
      go_wp2_with (first | ((with_reducible show wpList _ _ _ ({ dst := _, op := Op.load 30 _, type := _, pos := _, after := _, guard := _ } :: _) _ _); refine wpList_load_row _ ⟨w.heap.size, 0, none⟩ rfl cs1 agg_lInst HL1.out (blk_cells B0.out) ?_) | ((with_reducible show wpList _ _ _ ({ dst := _, op := Op.load 30 _, type := _, pos := _, after := _, guard := _ } :: _) _ _); refine wpList_load_row_g _ (by first | rfl | kernel_rfl) ⟨w.heap.size, 0, none⟩ rfl cs1 agg_lInst HL1.out (blk_cells B0.out) ?_) | ((with_reducible show wpList _ _ _ ({ dst := _, op := Op.load 40 _, type := _, pos := _, after := _, guard := _ } :: _) _ _); refine wpList_load_row _ ⟨(World.heap v7).size, 0, none⟩ rfl cs'36 agg_Inst Lcs36.out (blk_cells XB49.out) ?_) | ((with_reducible show wpList _ _ _ ({ dst := _, op := Op.load 40 _, type := _, pos := _, after := _, guard := _ } :: _) _ _); refine wpList_load_row_g _ (by first | rfl | kernel_rfl) ⟨(World.heap v7).size, 0, none⟩ rfl cs'36 agg_Inst Lcs36.out (blk_cells XB49.out) ?_) | fail)
      have HSZ := Lib.hid BW.out.size
      refine (markInst_any x1 (1 + cts InstD.cnt x0) _ w.heap.size cs'36 F38 _ (by first | rfl | exact HY112.out) (by omega) (by first | omega | (have := HCN.out; omega) | (have := HCX0.out; have := HN0.out; omega) | (have := HCX1.out; omega) | (have := HCX0.out; have := HN0.out; have := HCX1.out; omega)) N39.out O37.out).mono ?_; rintro e v16 ⟨q113, rfl, hq, ho, hm⟩
      have hq0 : 0 ≤ q113 := by omega
      have HY114 := Lib.hid hq; clear hq
      have q113z := Lib.hid hq0
      have hdq113 : decide (q113 < 0) = false := by simp only [decide_eq_false_iff_not]; omega
      have X := Lib.hid (B0.out.mod hm D48.out); clear B0
      have B0 := Lib.hid X.out; clear X
      have X := Lib.hid (XB49.out.mod hm D54.out); clear XB49
      have XB49 := Lib.hid X.out; clear X
      have X := Lib.hid (O3.out.mod1 hm D40.out); clear O3
      have O3 := Lib.hid X.out; clear X
      have X := Lib.hid (O8.out.mod1 hm D42.out); clear O8
      have O8 := Lib.hid X.out; clear X
      have X := Lib.hid (O16.out.mod1 hm D44.out); clear O16
      have O16 := Lib.hid X.out; clear X
      have X := Lib.hid (O26.out.mod1 hm D46.out); clear O26
      have O26 := Lib.hid X.out; clear X
      have X := Lib.hid (O57.out.mod1 hm D69.out); clear O57
      have O57 := Lib.hid X.out; clear X
      have X := Lib.hid (O74.out.mod1 hm D86.out); clear O74
      have O74 := Lib.hid X.out; clear X
      have X := Lib.hid (O92.out.mod1 hm D104.out); clear O92
      have O92 := Lib.hid X.out; clear X
      have X := Lib.hid (show Below w.heap.size w v16 from Mod.below BW.out hm BW.out.size (fun b hb => (O37.out.in b hb).1)); clear BW O37
      have BW := Lib.hid X.out; clear X
      have O37 := Lib.hid ho; clear ho hm
      clear HSZ
      go_wp2_with (first | ((with_reducible show wpList _ _ _ ({ dst := _, op := Op.load 30 _, type := _, pos := _, after := _, guard := _ } :: _) _ _); refine wpList_load_row _ ⟨w.heap.size, 0, none⟩ rfl cs1 agg_lInst HL1.out (blk_cells B0.out) ?_) | ((with_reducible show wpList _ _ _ ({ dst := _, op := Op.load 30 _, type := _, pos := _, after := _, guard := _ } :: _) _ _); refine wpList_load_row_g _ (by first | rfl | kernel_rfl) ⟨w.heap.size, 0, none⟩ rfl cs1 agg_lInst HL1.out (blk_cells B0.out) ?_) | ((with_reducible show wpList _ _ _ ({ dst := _, op := Op.load 40 _, type := _, pos := _, after := _, guard := _ } :: _) _ _); refine wpList_load_row _ ⟨(World.heap v7).size, 0, none⟩ rfl cs'36 agg_Inst Lcs36.out (blk_cells XB49.out) ?_) | ((with_reducible show wpList _ _ _ ({ dst := _, op := Op.load 40 _, type := _, pos := _, after := _, guard := _ } :: _) _ _); refine wpList_load_row_g _ (by first | rfl | kernel_rfl) ⟨(World.heap v7).size, 0, none⟩ rfl cs'36 agg_Inst Lcs36.out (blk_cells XB49.out) ?_) | fail)
      have HSZ := Lib.hid BW.out.size
      refine (eqInstS_any r0 A'55 A'14 r0.length c'56 c'15 _ rfl (by first | omega | (have := HWT.out; omega)) O57.out.repAny O16.out.repAny).mono ?_; rintro e v17 ⟨rfl, hb⟩
      have X := Lib.hid (B0.out.below hb); clear B0
      have B0 := Lib.hid X.out; clear X
      have X := Lib.hid (show Below w.heap.size w v17 from BW.out.trans (hb.mono BW.out.size)); clear BW
      have BW := Lib.hid X.out; clear X
      have X := Lib.hid (O3.out.below hb); clear O3
      have O3 := Lib.hid X.out; clear X
      have X := Lib.hid (O8.out.below hb); clear O8
      have O8 := Lib.hid X.out; clear X
      have X := Lib.hid (O16.out.below hb); clear O16
      have O16 := Lib.hid X.out; clear X
      have X := Lib.hid (O26.out.below hb); clear O26
      have O26 := Lib.hid X.out; clear X
      have X := Lib.hid (O37.out.below hb); clear O37
      have O37 := Lib.hid X.out; clear X
      have X := Lib.hid (O57.out.below hb); clear O57
      have O57 := Lib.hid X.out; clear X
      have X := Lib.hid (O74.out.below hb); clear O74
      have O74 := Lib.hid X.out; clear X
      have X := Lib.hid (O92.out.below hb); clear O92
      have O92 := Lib.hid X.out; clear X
      have X := Lib.hid (XB49.out.below hb); clear XB49
      have XB49 := Lib.hid X.out; clear X
      clear hb
      clear HSZ
      go_wp2_with (first | ((with_reducible show wpList _ _ _ ({ dst := _, op := Op.load 30 _, type := _, pos := _, after := _, guard := _ } :: _) _ _); refine wpList_load_row _ ⟨w.heap.size, 0, none⟩ rfl cs1 agg_lInst HL1.out (blk_cells B0.out) ?_) | ((with_reducible show wpList _ _ _ ({ dst := _, op := Op.load 30 _, type := _, pos := _, after := _, guard := _ } :: _) _ _); refine wpList_load_row_g _ (by first | rfl | kernel_rfl) ⟨w.heap.size, 0, none⟩ rfl cs1 agg_lInst HL1.out (blk_cells B0.out) ?_) | ((with_reducible show wpList _ _ _ ({ dst := _, op := Op.load 40 _, type := _, pos := _, after := _, guard := _ } :: _) _ _); refine wpList_load_row _ ⟨(World.heap v7).size, 0, none⟩ rfl cs'36 agg_Inst Lcs36.out (blk_cells XB49.out) ?_) | ((with_reducible show wpList _ _ _ ({ dst := _, op := Op.load 40 _, type := _, pos := _, after := _, guard := _ } :: _) _ _); refine wpList_load_row_g _ (by first | rfl | kernel_rfl) ⟨(World.heap v7).size, 0, none⟩ rfl cs'36 agg_Inst Lcs36.out (blk_cells XB49.out) ?_) | fail)
      have HSZ := Lib.hid BW.out.size
      refine (markInstS_any r0 (1) _ w.heap.size A'55 r0.length c'56 F58 _ rfl (by first | rfl | omega) (by omega) (by first | omega | (have := HCN.out; omega) | (have := HCX0.out; have := HN0.out; omega) | (have := HCX1.out; omega) | (have := HCX0.out; have := HN0.out; have := HCX1.out; omega)) N59.out O57.out).mono ?_; rintro e v18 ⟨q115, rfl, hq, ho, hm⟩
      have hq0 : 0 ≤ q115 := by omega
      have HY116 := Lib.hid hq; clear hq
      have q115z := Lib.hid hq0
      have hdq115 : decide (q115 < 0) = false := by simp only [decide_eq_false_iff_not]; omega
      have X := Lib.hid (B0.out.mod hm D71.out); clear B0
      have B0 := Lib.hid X.out; clear X
      have X := Lib.hid (XB49.out.mod hm D70.out); clear XB49
      have XB49 := Lib.hid X.out; clear X
      have X := Lib.hid (O3.out.mod1 hm D60.out); clear O3
      have O3 := Lib.hid X.out; clear X
      have X := Lib.hid (O8.out.mod1 hm D62.out); clear O8
      have O8 := Lib.hid X.out; clear X
      have X := Lib.hid (O16.out.mod1 hm D64.out); clear O16
      have O16 := Lib.hid X.out; clear X
      have X := Lib.hid (O26.out.mod1 hm D66.out); clear O26
      have O26 := Lib.hid X.out; clear X
      have X := Lib.hid (O37.out.mod1 hm D68.out); clear O37
      have O37 := Lib.hid X.out; clear X
      have X := Lib.hid (O74.out.mod1 hm D88.out); clear O74
      have O74 := Lib.hid X.out; clear X
      have X := Lib.hid (O92.out.mod1 hm D106.out); clear O92
      have O92 := Lib.hid X.out; clear X
      have X := Lib.hid (show Below w.heap.size w v18 from Mod.below BW.out hm BW.out.size (fun b hb => (O57.out.in b hb).1)); clear BW O57
      have BW := Lib.hid X.out; clear X
      have O57 := Lib.hid ho; clear ho hm
      clear HSZ
      go_wp2_with (first | ((with_reducible show wpList _ _ _ ({ dst := _, op := Op.load 30 _, type := _, pos := _, after := _, guard := _ } :: _) _ _); refine wpList_load_row _ ⟨w.heap.size, 0, none⟩ rfl cs1 agg_lInst HL1.out (blk_cells B0.out) ?_) | ((with_reducible show wpList _ _ _ ({ dst := _, op := Op.load 30 _, type := _, pos := _, after := _, guard := _ } :: _) _ _); refine wpList_load_row_g _ (by first | rfl | kernel_rfl) ⟨w.heap.size, 0, none⟩ rfl cs1 agg_lInst HL1.out (blk_cells B0.out) ?_) | ((with_reducible show wpList _ _ _ ({ dst := _, op := Op.load 40 _, type := _, pos := _, after := _, guard := _ } :: _) _ _); refine wpList_load_row _ ⟨(World.heap v7).size, 0, none⟩ rfl cs'36 agg_Inst Lcs36.out (blk_cells XB49.out) ?_) | ((with_reducible show wpList _ _ _ ({ dst := _, op := Op.load 40 _, type := _, pos := _, after := _, guard := _ } :: _) _ _); refine wpList_load_row_g _ (by first | rfl | kernel_rfl) ⟨(World.heap v7).size, 0, none⟩ rfl cs'36 agg_Inst Lcs36.out (blk_cells XB49.out) ?_) | fail)
      have HSZ := Lib.hid BW.out.size
      refine (heldInstS_any r0 (1) _ A'55 r0.length c'56 _ rfl (by first | rfl | omega) (by omega) (by first | omega | (have := HCN.out; omega)) O57.out.repAny).mono ?_; rintro e v19 ⟨q117, rfl, hq, hb⟩
      have hq1 : q115 = q117 := (hq.trans HY116.out.symm).symm
      subst hq1
      clear hq
      have X := Lib.hid (B0.out.below hb); clear B0
      have B0 := Lib.hid X.out; clear X
      have X := Lib.hid (show Below w.heap.size w v19 from BW.out.trans (hb.mono BW.out.size)); clear BW
      have BW := Lib.hid X.out; clear X
      have X := Lib.hid (O3.out.below hb); clear O3
      have O3 := Lib.hid X.out; clear X
      have X := Lib.hid (O8.out.below hb); clear O8
      have O8 := Lib.hid X.out; clear X
      have X := Lib.hid (O16.out.below hb); clear O16
      have O16 := Lib.hid X.out; clear X
      have X := Lib.hid (O26.out.below hb); clear O26
      have O26 := Lib.hid X.out; clear X
      have X := Lib.hid (O37.out.below hb); clear O37
      have O37 := Lib.hid X.out; clear X
      have X := Lib.hid (O57.out.below hb); clear O57
      have O57 := Lib.hid X.out; clear X
      have X := Lib.hid (O74.out.below hb); clear O74
      have O74 := Lib.hid X.out; clear X
      have X := Lib.hid (O92.out.below hb); clear O92
      have O92 := Lib.hid X.out; clear X
      have X := Lib.hid (XB49.out.below hb); clear XB49
      have XB49 := Lib.hid X.out; clear X
      clear hb
      clear HSZ
      go_wp2
      refine wp_region_x 6 [0, 2, 1, 3, 4, 5] (by kernel_rfl) (by kernel_rfl) ?_
      refine wpX_quiet rfl (by kernel_rfl) rfl ?_; go_wp2; refine ⟨rfl, ?_⟩
      refine wpX_quiet rfl (by kernel_rfl) rfl ?_; go_wp2_with (first | (refine wpList_load_row _ ⟨w.heap.size, 0, none⟩ rfl cs1 agg_lInst HL1.out (blk_cells B0.out.drew) ?_) | (refine wpList_load_row _ ⟨(World.heap v7).size, 0, none⟩ rfl cs'36 agg_Inst Lcs36.out (blk_cells XB49.out.drew) ?_) | fail); refine ⟨rfl, ?_⟩
      refine wpX_actor rfl (by kernel_rfl) ?_
      go_wp2_with fail
      have HSZ := Lib.hid BW.out.size
      refine (toInstS_any x0 A0 n0 c0 _ HN0.out (by omega) ((RA0.out.below BW.out).drew)).mono ?_; rintro e v20 ⟨A'118, c'119, rfl, hM, hb⟩
      obtain ⟨F121, hnd, ho⟩ := hM
      have N122 := Lib.hid hnd; clear hnd
      have D123 := Lib.hid (show ∀ b ∈ F4, b ∉ F121 from fun b hb he => by have h1 := (O3.out.in b hb).2; have h2 := (ho.in b he).1; first | omega | (revert h1 h2; simp; done) | (revert h1 h2; simp; omega))
      have D124 := Lib.hid (show ∀ b ∈ F121, b ∉ F4 from fun b he hb => by have h1 := (O3.out.in b hb).2; have h2 := (ho.in b he).1; first | omega | (revert h1 h2; simp; done) | (revert h1 h2; simp; omega))
      have D125 := Lib.hid (show ∀ b ∈ F9, b ∉ F121 from fun b hb he => by have h1 := (O8.out.in b hb).2; have h2 := (ho.in b he).1; first | omega | (revert h1 h2; simp; done) | (revert h1 h2; simp; omega))
      have D126 := Lib.hid (show ∀ b ∈ F121, b ∉ F9 from fun b he hb => by have h1 := (O8.out.in b hb).2; have h2 := (ho.in b he).1; first | omega | (revert h1 h2; simp; done) | (revert h1 h2; simp; omega))
      have D127 := Lib.hid (show ∀ b ∈ F17, b ∉ F121 from fun b hb he => by have h1 := (O16.out.in b hb).2; have h2 := (ho.in b he).1; first | omega | (revert h1 h2; simp; done) | (revert h1 h2; simp; omega))
      have D128 := Lib.hid (show ∀ b ∈ F121, b ∉ F17 from fun b he hb => by have h1 := (O16.out.in b hb).2; have h2 := (ho.in b he).1; first | omega | (revert h1 h2; simp; done) | (revert h1 h2; simp; omega))
      have D129 := Lib.hid (show ∀ b ∈ F27, b ∉ F121 from fun b hb he => by have h1 := (O26.out.in b hb).2; have h2 := (ho.in b he).1; first | omega | (revert h1 h2; simp; done) | (revert h1 h2; simp; omega))
      have D130 := Lib.hid (show ∀ b ∈ F121, b ∉ F27 from fun b he hb => by have h1 := (O26.out.in b hb).2; have h2 := (ho.in b he).1; first | omega | (revert h1 h2; simp; done) | (revert h1 h2; simp; omega))
      have D131 := Lib.hid (show ∀ b ∈ F38, b ∉ F121 from fun b hb he => by have h1 := (O37.out.in b hb).2; have h2 := (ho.in b he).1; first | omega | (revert h1 h2; simp; done) | (revert h1 h2; simp; omega))
      have D132 := Lib.hid (show ∀ b ∈ F121, b ∉ F38 from fun b he hb => by have h1 := (O37.out.in b hb).2; have h2 := (ho.in b he).1; first | omega | (revert h1 h2; simp; done) | (revert h1 h2; simp; omega))
      have D133 := Lib.hid (show ∀ b ∈ F58, b ∉ F121 from fun b hb he => by have h1 := (O57.out.in b hb).2; have h2 := (ho.in b he).1; first | omega | (revert h1 h2; simp; done) | (revert h1 h2; simp; omega))
      have D134 := Lib.hid (show ∀ b ∈ F121, b ∉ F58 from fun b he hb => by have h1 := (O57.out.in b hb).2; have h2 := (ho.in b he).1; first | omega | (revert h1 h2; simp; done) | (revert h1 h2; simp; omega))
      have D135 := Lib.hid (show ∀ b ∈ F75, b ∉ F121 from fun b hb he => by have h1 := (O74.out.in b hb).2; have h2 := (ho.in b he).1; first | omega | (revert h1 h2; simp; done) | (revert h1 h2; simp; omega))
      have D136 := Lib.hid (show ∀ b ∈ F121, b ∉ F75 from fun b he hb => by have h1 := (O74.out.in b hb).2; have h2 := (ho.in b he).1; first | omega | (revert h1 h2; simp; done) | (revert h1 h2; simp; omega))
      have D137 := Lib.hid (show ∀ b ∈ F93, b ∉ F121 from fun b hb he => by have h1 := (O92.out.in b hb).2; have h2 := (ho.in b he).1; first | omega | (revert h1 h2; simp; done) | (revert h1 h2; simp; omega))
      have D138 := Lib.hid (show ∀ b ∈ F121, b ∉ F93 from fun b he hb => by have h1 := (O92.out.in b hb).2; have h2 := (ho.in b he).1; first | omega | (revert h1 h2; simp; done) | (revert h1 h2; simp; omega))
      have D139 := Lib.hid (show (World.heap v7).size ∉ F121 from fun he => by have h1 := XB49.out.lt; have h2 := (ho.in _ he).1; first | omega | (revert h1 h2; simp; done) | (revert h1 h2; simp; omega))
      have D140 := Lib.hid (show w.heap.size ∉ F121 from fun he => by have h1 := (show Blk v19 _ _ _ from B0.out).lt; have h2 := (ho.in _ he).1; first | omega | (revert h1 h2; simp; done) | (revert h1 h2; simp; omega))
      have HB := Lib.hid hb
      have hb2 := below_drewL hb; clear hb
      have hb := hb2; clear hb2
      have hbs := hb.size
      have HBS := Lib.hid hbs; clear hbs
      have X := Lib.hid (B0.out.below hb); clear B0
      have B0 := Lib.hid X.out; clear X
      have X := Lib.hid (show Below w.heap.size w v20 from BW.out.trans (hb.mono BW.out.size)); clear BW
      have BW := Lib.hid X.out; clear X
      have X := Lib.hid (O3.out.below hb); clear O3
      have O3 := Lib.hid X.out; clear X
      have X := Lib.hid (O8.out.below hb); clear O8
      have O8 := Lib.hid X.out; clear X
      have X := Lib.hid (O16.out.below hb); clear O16
      have O16 := Lib.hid X.out; clear X
      have X := Lib.hid (O26.out.below hb); clear O26
      have O26 := Lib.hid X.out; clear X
      have X := Lib.hid (O37.out.below hb); clear O37
      have O37 := Lib.hid X.out; clear X
      have X := Lib.hid (O57.out.below hb); clear O57
      have O57 := Lib.hid X.out; clear X
      have X := Lib.hid (O74.out.below hb); clear O74
      have O74 := Lib.hid X.out; clear X
      have X := Lib.hid (O92.out.below hb); clear O92
      have O92 := Lib.hid X.out; clear X
      have X := Lib.hid (XB49.out.below hb); clear XB49
      have XB49 := Lib.hid X.out; clear X
      clear hb
      have O120 := Lib.hid (Own.mono ho (show w.heap.size ≤ _ from HSZ.out)); clear ho HBS
      clear HSZ
      go_wp2
      refine ⟨Ext.of_below HB.out, ?_⟩
      clear HB
      refine wpX_actor rfl (by kernel_rfl) ?_
      go_wp2_with fail
      have HSZ := Lib.hid BW.out.size
      refine (toInst_any x1 cs1 _ (by omega) (A1.out.below BW.out)).mono ?_; rintro e v21 ⟨cs'141, rfl, hM, hb⟩
      have Lcs141 := Lib.hid (show cs'141.length = 16 from hM.rep.length.trans (InstD.width _))
      obtain ⟨F143, hnd, ho⟩ := hM
      have N144 := Lib.hid hnd; clear hnd
      have D145 := Lib.hid (show ∀ b ∈ F4, b ∉ F143 from fun b hb he => by have h1 := (O3.out.in b hb).2; have h2 := (ho.in b he).1; first | omega | (revert h1 h2; simp; done) | (revert h1 h2; simp; omega))
      have D146 := Lib.hid (show ∀ b ∈ F143, b ∉ F4 from fun b he hb => by have h1 := (O3.out.in b hb).2; have h2 := (ho.in b he).1; first | omega | (revert h1 h2; simp; done) | (revert h1 h2; simp; omega))
      have D147 := Lib.hid (show ∀ b ∈ F9, b ∉ F143 from fun b hb he => by have h1 := (O8.out.in b hb).2; have h2 := (ho.in b he).1; first | omega | (revert h1 h2; simp; done) | (revert h1 h2; simp; omega))
      have D148 := Lib.hid (show ∀ b ∈ F143, b ∉ F9 from fun b he hb => by have h1 := (O8.out.in b hb).2; have h2 := (ho.in b he).1; first | omega | (revert h1 h2; simp; done) | (revert h1 h2; simp; omega))
      have D149 := Lib.hid (show ∀ b ∈ F17, b ∉ F143 from fun b hb he => by have h1 := (O16.out.in b hb).2; have h2 := (ho.in b he).1; first | omega | (revert h1 h2; simp; done) | (revert h1 h2; simp; omega))
      have D150 := Lib.hid (show ∀ b ∈ F143, b ∉ F17 from fun b he hb => by have h1 := (O16.out.in b hb).2; have h2 := (ho.in b he).1; first | omega | (revert h1 h2; simp; done) | (revert h1 h2; simp; omega))
      have D151 := Lib.hid (show ∀ b ∈ F27, b ∉ F143 from fun b hb he => by have h1 := (O26.out.in b hb).2; have h2 := (ho.in b he).1; first | omega | (revert h1 h2; simp; done) | (revert h1 h2; simp; omega))
      have D152 := Lib.hid (show ∀ b ∈ F143, b ∉ F27 from fun b he hb => by have h1 := (O26.out.in b hb).2; have h2 := (ho.in b he).1; first | omega | (revert h1 h2; simp; done) | (revert h1 h2; simp; omega))
      have D153 := Lib.hid (show ∀ b ∈ F38, b ∉ F143 from fun b hb he => by have h1 := (O37.out.in b hb).2; have h2 := (ho.in b he).1; first | omega | (revert h1 h2; simp; done) | (revert h1 h2; simp; omega))
      have D154 := Lib.hid (show ∀ b ∈ F143, b ∉ F38 from fun b he hb => by have h1 := (O37.out.in b hb).2; have h2 := (ho.in b he).1; first | omega | (revert h1 h2; simp; done) | (revert h1 h2; simp; omega))
      have D155 := Lib.hid (show ∀ b ∈ F58, b ∉ F143 from fun b hb he => by have h1 := (O57.out.in b hb).2; have h2 := (ho.in b he).1; first | omega | (revert h1 h2; simp; done) | (revert h1 h2; simp; omega))
      have D156 := Lib.hid (show ∀ b ∈ F143, b ∉ F58 from fun b he hb => by have h1 := (O57.out.in b hb).2; have h2 := (ho.in b he).1; first | omega | (revert h1 h2; simp; done) | (revert h1 h2; simp; omega))
      have D157 := Lib.hid (show ∀ b ∈ F75, b ∉ F143 from fun b hb he => by have h1 := (O74.out.in b hb).2; have h2 := (ho.in b he).1; first | omega | (revert h1 h2; simp; done) | (revert h1 h2; simp; omega))
      have D158 := Lib.hid (show ∀ b ∈ F143, b ∉ F75 from fun b he hb => by have h1 := (O74.out.in b hb).2; have h2 := (ho.in b he).1; first | omega | (revert h1 h2; simp; done) | (revert h1 h2; simp; omega))
      have D159 := Lib.hid (show ∀ b ∈ F93, b ∉ F143 from fun b hb he => by have h1 := (O92.out.in b hb).2; have h2 := (ho.in b he).1; first | omega | (revert h1 h2; simp; done) | (revert h1 h2; simp; omega))
      have D160 := Lib.hid (show ∀ b ∈ F143, b ∉ F93 from fun b he hb => by have h1 := (O92.out.in b hb).2; have h2 := (ho.in b he).1; first | omega | (revert h1 h2; simp; done) | (revert h1 h2; simp; omega))
      have D161 := Lib.hid (show ∀ b ∈ F121, b ∉ F143 from fun b hb he => by have h1 := (O120.out.in b hb).2; have h2 := (ho.in b he).1; first | omega | (revert h1 h2; simp; done) | (revert h1 h2; simp; omega))
      have D162 := Lib.hid (show ∀ b ∈ F143, b ∉ F121 from fun b he hb => by have h1 := (O120.out.in b hb).2; have h2 := (ho.in b he).1; first | omega | (revert h1 h2; simp; done) | (revert h1 h2; simp; omega))
      have D163 := Lib.hid (show (World.heap v7).size ∉ F143 from fun he => by have h1 := XB49.out.lt; have h2 := (ho.in _ he).1; first | omega | (revert h1 h2; simp; done) | (revert h1 h2; simp; omega))
      have D164 := Lib.hid (show w.heap.size ∉ F143 from fun he => by have h1 := (show Blk v20 _ _ _ from B0.out).lt; have h2 := (ho.in _ he).1; first | omega | (revert h1 h2; simp; done) | (revert h1 h2; simp; omega))
      have HB := Lib.hid hb
      have hbs := hb.size
      have HBS := Lib.hid hbs; clear hbs
      have X := Lib.hid (B0.out.below hb); clear B0
      have B0 := Lib.hid X.out; clear X
      have X := Lib.hid (show Below w.heap.size w v21 from BW.out.trans (hb.mono BW.out.size)); clear BW
      have BW := Lib.hid X.out; clear X
      have X := Lib.hid (O3.out.below hb); clear O3
      have O3 := Lib.hid X.out; clear X
      have X := Lib.hid (O8.out.below hb); clear O8
      have O8 := Lib.hid X.out; clear X
      have X := Lib.hid (O16.out.below hb); clear O16
      have O16 := Lib.hid X.out; clear X
      have X := Lib.hid (O26.out.below hb); clear O26
      have O26 := Lib.hid X.out; clear X
      have X := Lib.hid (O37.out.below hb); clear O37
      have O37 := Lib.hid X.out; clear X
      have X := Lib.hid (O57.out.below hb); clear O57
      have O57 := Lib.hid X.out; clear X
      have X := Lib.hid (O74.out.below hb); clear O74
      have O74 := Lib.hid X.out; clear X
      have X := Lib.hid (O92.out.below hb); clear O92
      have O92 := Lib.hid X.out; clear X
      have X := Lib.hid (O120.out.below hb); clear O120
      have O120 := Lib.hid X.out; clear X
      have X := Lib.hid (XB49.out.below hb); clear XB49
      have XB49 := Lib.hid X.out; clear X
      clear hb
      have O142 := Lib.hid (Own.mono ho (show w.heap.size ≤ _ from HSZ.out)); clear ho HBS
      clear HSZ
      go_wp2
      refine ⟨Ext.of_below HB.out, ?_⟩
      clear HB
      refine wpX_actor rfl (by kernel_rfl) ?_
      go_wp2_with fail
      have HSZ := Lib.hid BW.out.size
      refine (Hi.out A'118 c'119 cs'141 _ O120.out.repAny O142.out.repAny).mono ?_; rintro e v22 ⟨A'165, _, c'166, rfl, rfl, hM0, hb⟩
      obtain ⟨F168, hnd, ho⟩ := hM0
      have N169 := Lib.hid hnd; clear hnd
      have D170 := Lib.hid (show ∀ b ∈ F4, b ∉ F168 from fun b hb he => by have h1 := (O3.out.in b hb).2; have h2 := (ho.in b he).1; first | omega | (revert h1 h2; simp; done) | (revert h1 h2; simp; omega))
      have D171 := Lib.hid (show ∀ b ∈ F168, b ∉ F4 from fun b he hb => by have h1 := (O3.out.in b hb).2; have h2 := (ho.in b he).1; first | omega | (revert h1 h2; simp; done) | (revert h1 h2; simp; omega))
      have D172 := Lib.hid (show ∀ b ∈ F9, b ∉ F168 from fun b hb he => by have h1 := (O8.out.in b hb).2; have h2 := (ho.in b he).1; first | omega | (revert h1 h2; simp; done) | (revert h1 h2; simp; omega))
      have D173 := Lib.hid (show ∀ b ∈ F168, b ∉ F9 from fun b he hb => by have h1 := (O8.out.in b hb).2; have h2 := (ho.in b he).1; first | omega | (revert h1 h2; simp; done) | (revert h1 h2; simp; omega))
      have D174 := Lib.hid (show ∀ b ∈ F17, b ∉ F168 from fun b hb he => by have h1 := (O16.out.in b hb).2; have h2 := (ho.in b he).1; first | omega | (revert h1 h2; simp; done) | (revert h1 h2; simp; omega))
      have D175 := Lib.hid (show ∀ b ∈ F168, b ∉ F17 from fun b he hb => by have h1 := (O16.out.in b hb).2; have h2 := (ho.in b he).1; first | omega | (revert h1 h2; simp; done) | (revert h1 h2; simp; omega))
      have D176 := Lib.hid (show ∀ b ∈ F27, b ∉ F168 from fun b hb he => by have h1 := (O26.out.in b hb).2; have h2 := (ho.in b he).1; first | omega | (revert h1 h2; simp; done) | (revert h1 h2; simp; omega))
      have D177 := Lib.hid (show ∀ b ∈ F168, b ∉ F27 from fun b he hb => by have h1 := (O26.out.in b hb).2; have h2 := (ho.in b he).1; first | omega | (revert h1 h2; simp; done) | (revert h1 h2; simp; omega))
      have D178 := Lib.hid (show ∀ b ∈ F38, b ∉ F168 from fun b hb he => by have h1 := (O37.out.in b hb).2; have h2 := (ho.in b he).1; first | omega | (revert h1 h2; simp; done) | (revert h1 h2; simp; omega))
      have D179 := Lib.hid (show ∀ b ∈ F168, b ∉ F38 from fun b he hb => by have h1 := (O37.out.in b hb).2; have h2 := (ho.in b he).1; first | omega | (revert h1 h2; simp; done) | (revert h1 h2; simp; omega))
      have D180 := Lib.hid (show ∀ b ∈ F58, b ∉ F168 from fun b hb he => by have h1 := (O57.out.in b hb).2; have h2 := (ho.in b he).1; first | omega | (revert h1 h2; simp; done) | (revert h1 h2; simp; omega))
      have D181 := Lib.hid (show ∀ b ∈ F168, b ∉ F58 from fun b he hb => by have h1 := (O57.out.in b hb).2; have h2 := (ho.in b he).1; first | omega | (revert h1 h2; simp; done) | (revert h1 h2; simp; omega))
      have D182 := Lib.hid (show ∀ b ∈ F75, b ∉ F168 from fun b hb he => by have h1 := (O74.out.in b hb).2; have h2 := (ho.in b he).1; first | omega | (revert h1 h2; simp; done) | (revert h1 h2; simp; omega))
      have D183 := Lib.hid (show ∀ b ∈ F168, b ∉ F75 from fun b he hb => by have h1 := (O74.out.in b hb).2; have h2 := (ho.in b he).1; first | omega | (revert h1 h2; simp; done) | (revert h1 h2; simp; omega))
      have D184 := Lib.hid (show ∀ b ∈ F93, b ∉ F168 from fun b hb he => by have h1 := (O92.out.in b hb).2; have h2 := (ho.in b he).1; first | omega | (revert h1 h2; simp; done) | (revert h1 h2; simp; omega))
      have D185 := Lib.hid (show ∀ b ∈ F168, b ∉ F93 from fun b he hb => by have h1 := (O92.out.in b hb).2; have h2 := (ho.in b he).1; first | omega | (revert h1 h2; simp; done) | (revert h1 h2; simp; omega))
      have D186 := Lib.hid (show ∀ b ∈ F121, b ∉ F168 from fun b hb he => by have h1 := (O120.out.in b hb).2; have h2 := (ho.in b he).1; first | omega | (revert h1 h2; simp; done) | (revert h1 h2; simp; omega))
      have D187 := Lib.hid (show ∀ b ∈ F168, b ∉ F121 from fun b he hb => by have h1 := (O120.out.in b hb).2; have h2 := (ho.in b he).1; first | omega | (revert h1 h2; simp; done) | (revert h1 h2; simp; omega))
      have D188 := Lib.hid (show ∀ b ∈ F143, b ∉ F168 from fun b hb he => by have h1 := (O142.out.in b hb).2; have h2 := (ho.in b he).1; first | omega | (revert h1 h2; simp; done) | (revert h1 h2; simp; omega))
      have D189 := Lib.hid (show ∀ b ∈ F168, b ∉ F143 from fun b he hb => by have h1 := (O142.out.in b hb).2; have h2 := (ho.in b he).1; first | omega | (revert h1 h2; simp; done) | (revert h1 h2; simp; omega))
      have D190 := Lib.hid (show (World.heap v7).size ∉ F168 from fun he => by have h1 := XB49.out.lt; have h2 := (ho.in _ he).1; first | omega | (revert h1 h2; simp; done) | (revert h1 h2; simp; omega))
      have D191 := Lib.hid (show w.heap.size ∉ F168 from fun he => by have h1 := (show Blk v21 _ _ _ from B0.out).lt; have h2 := (ho.in _ he).1; first | omega | (revert h1 h2; simp; done) | (revert h1 h2; simp; omega))
      have HB := Lib.hid hb
      have hbs := hb.size
      have HBS := Lib.hid hbs; clear hbs
      have X := Lib.hid (B0.out.below hb); clear B0
      have B0 := Lib.hid X.out; clear X
      have X := Lib.hid (show Below w.heap.size w v22 from BW.out.trans (hb.mono BW.out.size)); clear BW
      have BW := Lib.hid X.out; clear X
      have X := Lib.hid (O3.out.below hb); clear O3
      have O3 := Lib.hid X.out; clear X
      have X := Lib.hid (O8.out.below hb); clear O8
      have O8 := Lib.hid X.out; clear X
      have X := Lib.hid (O16.out.below hb); clear O16
      have O16 := Lib.hid X.out; clear X
      have X := Lib.hid (O26.out.below hb); clear O26
      have O26 := Lib.hid X.out; clear X
      have X := Lib.hid (O37.out.below hb); clear O37
      have O37 := Lib.hid X.out; clear X
      have X := Lib.hid (O57.out.below hb); clear O57
      have O57 := Lib.hid X.out; clear X
      have X := Lib.hid (O74.out.below hb); clear O74
      have O74 := Lib.hid X.out; clear X
      have X := Lib.hid (O92.out.below hb); clear O92
      have O92 := Lib.hid X.out; clear X
      have X := Lib.hid (O120.out.below hb); clear O120
      have O120 := Lib.hid X.out; clear X
      have X := Lib.hid (O142.out.below hb); clear O142
      have O142 := Lib.hid X.out; clear X
      have X := Lib.hid (XB49.out.below hb); clear XB49
      have XB49 := Lib.hid X.out; clear X
      clear hb
      have O167 := Lib.hid (Own.mono ho (show w.heap.size ≤ _ from HSZ.out)); clear ho HBS
      clear HSZ
      go_wp2
      refine ⟨Ext.of_below HB.out, ?_⟩
      clear HB
      refine wpX_quiet rfl (by kernel_rfl) rfl ?_; go_wp2; refine ⟨rfl, ?_⟩
      refine wpX_nil ?_
      try simp only [List.drop_succ_cons, List.drop_zero]
      go_wp2_with (first | ((with_reducible show wpList _ _ _ ({ dst := _, op := Op.load 30 _, type := _, pos := _, after := _, guard := _ } :: _) _ _); refine wpList_load_row _ ⟨w.heap.size, 0, none⟩ rfl cs1 agg_lInst HL1.out (blk_cells B0.out) ?_) | ((with_reducible show wpList _ _ _ ({ dst := _, op := Op.load 30 _, type := _, pos := _, after := _, guard := _ } :: _) _ _); refine wpList_load_row_g _ (by first | rfl | kernel_rfl) ⟨w.heap.size, 0, none⟩ rfl cs1 agg_lInst HL1.out (blk_cells B0.out) ?_) | ((with_reducible show wpList _ _ _ ({ dst := _, op := Op.load 40 _, type := _, pos := _, after := _, guard := _ } :: _) _ _); refine wpList_load_row _ ⟨(World.heap v7).size, 0, none⟩ rfl cs'36 agg_Inst Lcs36.out (blk_cells XB49.out) ?_) | ((with_reducible show wpList _ _ _ ({ dst := _, op := Op.load 40 _, type := _, pos := _, after := _, guard := _ } :: _) _ _); refine wpList_load_row_g _ (by first | rfl | kernel_rfl) ⟨(World.heap v7).size, 0, none⟩ rfl cs'36 agg_Inst Lcs36.out (blk_cells XB49.out) ?_) | fail)
      have HSZ := Lib.hid BW.out.size
      refine (eqInstS_any r0 A'165 A'14 r0.length c'166 c'15 _ rfl (by first | omega | (have := HWT.out; omega)) O167.out.repAny O16.out.repAny).mono ?_; rintro e v23 ⟨rfl, hb⟩
      have X := Lib.hid (B0.out.below hb); clear B0
      have B0 := Lib.hid X.out; clear X
      have X := Lib.hid (show Below w.heap.size w v23 from BW.out.trans (hb.mono BW.out.size)); clear BW
      have BW := Lib.hid X.out; clear X
      have X := Lib.hid (O3.out.below hb); clear O3
      have O3 := Lib.hid X.out; clear X
      have X := Lib.hid (O8.out.below hb); clear O8
      have O8 := Lib.hid X.out; clear X
      have X := Lib.hid (O16.out.below hb); clear O16
      have O16 := Lib.hid X.out; clear X
      have X := Lib.hid (O26.out.below hb); clear O26
      have O26 := Lib.hid X.out; clear X
      have X := Lib.hid (O37.out.below hb); clear O37
      have O37 := Lib.hid X.out; clear X
      have X := Lib.hid (O57.out.below hb); clear O57
      have O57 := Lib.hid X.out; clear X
      have X := Lib.hid (O74.out.below hb); clear O74
      have O74 := Lib.hid X.out; clear X
      have X := Lib.hid (O92.out.below hb); clear O92
      have O92 := Lib.hid X.out; clear X
      have X := Lib.hid (O120.out.below hb); clear O120
      have O120 := Lib.hid X.out; clear X
      have X := Lib.hid (O142.out.below hb); clear O142
      have O142 := Lib.hid X.out; clear X
      have X := Lib.hid (O167.out.below hb); clear O167
      have O167 := Lib.hid X.out; clear X
      have X := Lib.hid (XB49.out.below hb); clear XB49
      have XB49 := Lib.hid X.out; clear X
      clear hb
      clear HSZ
      go_wp2_with (first | ((with_reducible show wpList _ _ _ ({ dst := _, op := Op.load 30 _, type := _, pos := _, after := _, guard := _ } :: _) _ _); refine wpList_load_row _ ⟨w.heap.size, 0, none⟩ rfl cs1 agg_lInst HL1.out (blk_cells B0.out) ?_) | ((with_reducible show wpList _ _ _ ({ dst := _, op := Op.load 30 _, type := _, pos := _, after := _, guard := _ } :: _) _ _); refine wpList_load_row_g _ (by first | rfl | kernel_rfl) ⟨w.heap.size, 0, none⟩ rfl cs1 agg_lInst HL1.out (blk_cells B0.out) ?_) | ((with_reducible show wpList _ _ _ ({ dst := _, op := Op.load 40 _, type := _, pos := _, after := _, guard := _ } :: _) _ _); refine wpList_load_row _ ⟨(World.heap v7).size, 0, none⟩ rfl cs'36 agg_Inst Lcs36.out (blk_cells XB49.out) ?_) | ((with_reducible show wpList _ _ _ ({ dst := _, op := Op.load 40 _, type := _, pos := _, after := _, guard := _ } :: _) _ _); refine wpList_load_row_g _ (by first | rfl | kernel_rfl) ⟨(World.heap v7).size, 0, none⟩ rfl cs'36 agg_Inst Lcs36.out (blk_cells XB49.out) ?_) | fail)
      have HSZ := Lib.hid BW.out.size
      refine (heldInstS_any r0 (1) _ A'55 r0.length c'56 _ rfl (by first | rfl | omega) (by omega) (by first | omega | (have := HCN.out; omega)) O57.out.repAny).mono ?_; rintro e v24 ⟨q192, rfl, hq, hb⟩
      have hq1 : q115 = q192 := (hq.trans HY116.out.symm).symm
      subst hq1
      clear hq
      have X := Lib.hid (B0.out.below hb); clear B0
      have B0 := Lib.hid X.out; clear X
      have X := Lib.hid (show Below w.heap.size w v24 from BW.out.trans (hb.mono BW.out.size)); clear BW
      have BW := Lib.hid X.out; clear X
      have X := Lib.hid (O3.out.below hb); clear O3
      have O3 := Lib.hid X.out; clear X
      have X := Lib.hid (O8.out.below hb); clear O8
      have O8 := Lib.hid X.out; clear X
      have X := Lib.hid (O16.out.below hb); clear O16
      have O16 := Lib.hid X.out; clear X
      have X := Lib.hid (O26.out.below hb); clear O26
      have O26 := Lib.hid X.out; clear X
      have X := Lib.hid (O37.out.below hb); clear O37
      have O37 := Lib.hid X.out; clear X
      have X := Lib.hid (O57.out.below hb); clear O57
      have O57 := Lib.hid X.out; clear X
      have X := Lib.hid (O74.out.below hb); clear O74
      have O74 := Lib.hid X.out; clear X
      have X := Lib.hid (O92.out.below hb); clear O92
      have O92 := Lib.hid X.out; clear X
      have X := Lib.hid (O120.out.below hb); clear O120
      have O120 := Lib.hid X.out; clear X
      have X := Lib.hid (O142.out.below hb); clear O142
      have O142 := Lib.hid X.out; clear X
      have X := Lib.hid (O167.out.below hb); clear O167
      have O167 := Lib.hid X.out; clear X
      have X := Lib.hid (XB49.out.below hb); clear XB49
      have XB49 := Lib.hid X.out; clear X
      clear hb
      clear HSZ
      go_wp2
      go_ret
      exact ⟨ret_eq (by first | rfl | simp), BW.out⟩
    · skip
      go_enter Try.func3, Try.ntmps3
      go_wp2_with (first | ((with_reducible show wpList _ _ _ ({ dst := _, op := Op.load 30 _, type := _, pos := _, after := _, guard := _ } :: _) _ _); refine wpList_load_row _ ⟨w.heap.size, 0, none⟩ rfl cs1 agg_lInst HL1.out (blk_cells (blk_new _ _ _)) ?_) | ((with_reducible show wpList _ _ _ ({ dst := _, op := Op.load 30 _, type := _, pos := _, after := _, guard := _ } :: _) _ _); refine wpList_load_row_g _ (by first | rfl | kernel_rfl) ⟨w.heap.size, 0, none⟩ rfl cs1 agg_lInst HL1.out (blk_cells (blk_new _ _ _)) ?_) | fail)
      refine (szInstS_yes x0 _ A0 n0 c0 _ HN0.out (by omega) (by omega) hm0 OK0.out (RA0.out.below (by repeat' (first | with_reducible exact Below.refl _ _ | with_reducible refine Below.alloc ?_ ?_ _ | (simp; done) | (simp; omega) | omega))) (by omega)).mono ?_; rintro e v1 ⟨q0, rfl, ⟨g0a, g0b⟩, hq, hb⟩
      have HQ0 := Lib.hid hq; clear hq
      have B0 := Lib.hid (Blk.below (blk_new _ _ _) hb)
      have BW := Lib.hid (show Below w.heap.size w v1 from Below.trans (by repeat' (first | with_reducible exact Below.refl _ _ | with_reducible refine Below.alloc ?_ ?_ _ | (simp; done) | (simp; omega) | omega)) (hb.mono (by first | (simp; done) | (simp; omega) | omega)))
      clear hb
      go_wp2_with (first | ((with_reducible show wpList _ _ _ ({ dst := _, op := Op.load 30 _, type := _, pos := _, after := _, guard := _ } :: _) _ _); refine wpList_load_row _ ⟨w.heap.size, 0, none⟩ rfl cs1 agg_lInst HL1.out (blk_cells B0.out) ?_) | ((with_reducible show wpList _ _ _ ({ dst := _, op := Op.load 30 _, type := _, pos := _, after := _, guard := _ } :: _) _ _); refine wpList_load_row_g _ (by first | rfl | kernel_rfl) ⟨w.heap.size, 0, none⟩ rfl cs1 agg_lInst HL1.out (blk_cells B0.out) ?_) | fail)
      have HSZ := Lib.hid BW.out.size
      refine (szInst_no x1 _ cs1 _ (by omega) (by omega) OK1.out (A1.out.below BW.out) (by have := HQ0.out; omega)).mono ?_; rintro e v2 ⟨rfl, hb⟩
      have X := Lib.hid (B0.out.below hb); clear B0
      have B0 := Lib.hid X.out; clear X
      have X := Lib.hid (show Below w.heap.size w v2 from BW.out.trans (hb.mono BW.out.size)); clear BW
      have BW := Lib.hid X.out; clear X
      clear hb
      clear HSZ
      go_wp2
      go_ret
      exact ⟨ret_eq (by first | rfl | simp), BW.out⟩
  · skip
    go_enter Try.func3, Try.ntmps3
    go_wp2_with (first | ((with_reducible show wpList _ _ _ ({ dst := _, op := Op.load 30 _, type := _, pos := _, after := _, guard := _ } :: _) _ _); refine wpList_load_row _ ⟨w.heap.size, 0, none⟩ rfl cs1 agg_lInst HL1.out (blk_cells (blk_new _ _ _)) ?_) | ((with_reducible show wpList _ _ _ ({ dst := _, op := Op.load 30 _, type := _, pos := _, after := _, guard := _ } :: _) _ _); refine wpList_load_row_g _ (by first | rfl | kernel_rfl) ⟨w.heap.size, 0, none⟩ rfl cs1 agg_lInst HL1.out (blk_cells (blk_new _ _ _)) ?_) | fail)
    refine (szInstS_no x0 _ A0 n0 c0 _ HN0.out (by omega) (by omega) hm0 OK0.out (RA0.out.below (by repeat' (first | with_reducible exact Below.refl _ _ | with_reducible refine Below.alloc ?_ ?_ _ | (simp; done) | (simp; omega) | omega))) (by omega)).mono ?_; rintro e v1 ⟨rfl, hb⟩
    have B0 := Lib.hid (Blk.below (blk_new _ _ _) hb)
    have BW := Lib.hid (show Below w.heap.size w v1 from Below.trans (by repeat' (first | with_reducible exact Below.refl _ _ | with_reducible refine Below.alloc ?_ ?_ _ | (simp; done) | (simp; omega) | omega)) (hb.mono (by first | (simp; done) | (simp; omega) | omega)))
    clear hb
    go_wp2
    go_ret
    exact ⟨ret_eq (by first | rfl | simp), BW.out⟩
set_option maxRecDepth 100000 in
theorem FnExactInstPut_lifted (os : Os) (started : os.Started) (H : Type) (enc : TypeId × Value → H) :
    ReturnsInHanded {} Try.checked os 3 .any (Rows.fnExactInstPutSpec.pre6 enc Try.prog Try.f3 Rows.fnExactInstPutRow.domain false) (Rows.fnExactInstPutSpec.post enc Try.prog Try.f3 false true false false) := by
  refine returnsInHanded_of_change (C := Try.checked) own started (by kernel_rfl) Try.func3
    (ChangeSpec.witness6 (enc := enc) (C := Try.checked) false ⟨#[], #[.slice none 0 0, .agg #[.int .i64 0, .int .i64 0, .int .i64 0, .int .i64 0, .int .i64 0, .int .i64 0, .int .i64 0, .int .i64 0, .string ⟨#[]⟩, .string ⟨#[]⟩, .string ⟨#[]⟩, .int .i64 0, .slice none 0 0, .int .i64 0, .slice none 0 0, .bool false]], []⟩ 8 (by kernel_rfl) (by kernel_rfl) (by kernel_rfl) (by kernel_rfl)) ?_
  intro W base args ds gs before hval0 hW _ _
  have hval : ∀ (j : Nat) t v, Try.f3.params[j]? = some t → args[j]? = some v → Value.okWide Try.prog W .any base t v := hval0
  have hW' := hW
  obtain ⟨p, q, hA0, hV, rfl, hfz, hnd⟩ := hW
  have hA : DataW.TrodAll enc Try.prog W 0 (fun _ => true) true Try.f3.params.toList args.toList ds p := hA0
  rw [Try.params3] at hA hval
  obtain ⟨v0, vs0, d0, ds0, p0, q0, hargs, rfl, rfl, h0, r0⟩ := trodAll_cons hA
  obtain ⟨v1, vs1, d1, ds1, p1, q1, rfl, rfl, rfl, h1, r1⟩ := trodAll_cons r0
  obtain ⟨rfl, rfl, rfl⟩ := trodAll_nil r1
  obtain rfl : args = #[v0, v1] := Array.ext' hargs
  obtain ⟨x0, A0, n0, c0, rfl, hn0, hm0, ok0, rp0⟩ := openV_InstS (hval 0 22 v0 rfl rfl) h0
  obtain ⟨x1, cs1, rfl, ok1, rp1⟩ := openV_Inst (hval 1 30 v1 rfl rfl) h1
  refine (lInstPut_all x0 A0 n0 c0 x1 cs1 W hn0 hm0 ok0 rp0 ok1 rp1).mono fun e W' ⟨he, hb⟩ => ?_
  subst he
  refine ⟨_, rfl, law_post (tb := 4) laidOut (by kernel_rfl) rfl Try.underlying4 rfl ?_ hW' hb⟩
  intro ds hl
  rw [Try.params3] at hl
  match ds, hl with
  | [_, _], _ => rfl
theorem FnExactInstPut_holds : Rows.FnExactInstPutSaid :=
  OpenClaim.holds_of_wide 3 Try.f3 rfl rfl rfl rfl rfl rfl rfl ⟨rfl, rfl, rfl, rfl, rfl⟩ rfl rfl rfl rfl rfl (by kernel_rfl) Try.func3 (by kernel_rfl)
    (of_decide_eq_true (by kernel_rfl)) (by unfold Func.isWrapper; first | (rw [if_pos (by decide +kernel)]; kernel_rfl) | (rw [if_neg (by decide +kernel)]; exact ⟨rfl, rfl⟩))
    (fun os started H enc _ => FnExactInstPut_lifted os started H enc)
end Go.Proofs.Ytoffelfcmfpooaa
