/-
  The law on Reach holds for all arguments. No condition.
-/
import Derived.Test.YtbdblfpepnoafaaEq
import Derived.Test.YtbdblfpepnoafaaOpen
import Derived.Test.YtbdblfpepnoafaaMgR
import Derived.Test.YtbdblfpepnoafaaInstAtI
import Derived.Test.YtbdblfpepnoafaaCntC
import Derived.Test.YtbdblfpepnoafaaMkB
namespace Go.Proofs.Ytbdblfpepnoafaa
open Go.RowKit Go.ChangeShapes Go.WideShapes Go.ChangeAt
open Go.ChangeMaps (open_string)

attribute [local irreducible] markL marks mks cts IdD.mkT IdD.cntT
set_option maxRecDepth 100000 in
set_option maxHeartbeats 4000000 in
theorem lReach_all (x0 : List InstD) (A0 : Option Addr) (n0 c0 : Nat) (x1 : IdD) (cs1 : List Value) (w : World) (hn0 : n0 = x0.length) (hm0 : n0 ≤ 9223372036854775807) (hok0 : (cat InstD.c x0).ok) (h0 : Rep anyB w (.sl 49 16 n0 (cat InstD.c x0) .nil) [.slice A0 n0 c0]) (hok1 : x1.c.ok) (h1 : Rep anyB w x1.c cs1) :
    Calls Try.prog 12 #[.slice A0 n0 c0, .agg cs1.toArray] w fun e w' => e = .returned (.bool true) ∧ Below w.heap.size w w' := by
  have HN0 := Lib.hid hn0; clear hn0
  have OK0 := Lib.hid hok0; clear hok0
  have RA0 := Lib.hid h0; clear h0
  have HL1 := Lib.hid (show cs1.length = 2 from h1.length.trans (IdD.width x1))
  have OK1 := Lib.hid hok1; clear hok1
  have A1 := Lib.hid h1; clear h1
  by_cases cc0 : (((n0 + (cat InstD.c x0).wt) : Nat) : Int) ≤ 1048576
  · skip
    have hs := fun B0 C0 ds1 W g0 g1 => sReach_any x0 x1 B0 n0 C0 ds1 W HN0.out (by omega) (Nat.zero_le _) g0 g1
    have hi := fun B0 C0 ds1 W g0 g1 => iReach_any x0 x1 B0 n0 C0 ds1 W HN0.out (by omega) (Nat.zero_le _) g0 g1
    have hbd := bReach x0 x1 (by have := HN0.out; omega) (Nat.zero_le _)
    generalize fReach x0 x1 = r0 at hs hi hbd
    have Hs := Lib.hid hs; clear hs
    have Hi := Lib.hid hi; clear hi
    obtain ⟨hwt0, hcn0⟩ := hbd
    have HWT := Lib.hid hwt0
    have HCN := Lib.hid hcn0
    clear hwt0 hcn0
    have HCX0 := Lib.hid (InstD.cts_le x0)
    go_enter Try.func12, Try.ntmps12
    go_wp2_with (first | ((with_reducible show wpList _ _ _ ({ dst := _, op := Op.load 23 _, type := _, pos := _, after := _, guard := _ } :: _) _ _); refine wpList_load_row _ ⟨w.heap.size, 0, none⟩ rfl cs1 agg_lId HL1.out (blk_cells (blk_new _ _ _)) ?_) | ((with_reducible show wpList _ _ _ ({ dst := _, op := Op.load 23 _, type := _, pos := _, after := _, guard := _ } :: _) _ _); refine wpList_load_row_g _ (by first | rfl | kernel_rfl) ⟨w.heap.size, 0, none⟩ rfl cs1 agg_lId HL1.out (blk_cells (blk_new _ _ _)) ?_) | fail)
    refine (szInstS_yes x0 _ A0 n0 c0 _ HN0.out (by omega) (by omega) hm0 OK0.out (RA0.out.below (by repeat' (first | with_reducible exact Below.refl _ _ | with_reducible refine Below.alloc ?_ ?_ _ | (simp; done) | (simp; omega) | omega))) (by omega)).mono ?_; rintro e v1 ⟨q0, rfl, ⟨g0a, g0b⟩, hq, hb⟩
    have HQ0 := Lib.hid hq; clear hq
    have B0 := Lib.hid (Blk.below (blk_new _ _ _) hb)
    have BW := Lib.hid (show Below w.heap.size w v1 from Below.trans (by repeat' (first | with_reducible exact Below.refl _ _ | with_reducible refine Below.alloc ?_ ?_ _ | (simp; done) | (simp; omega) | omega)) (hb.mono (by first | (simp; done) | (simp; omega) | omega)))
    clear hb
    go_wp2
    refine wp_region_x 6 [0, 2, 1, 3, 4, 5] (by kernel_rfl) (by kernel_rfl) ?_
    refine wpX_quiet rfl (by kernel_rfl) rfl ?_; go_wp2; refine ⟨rfl, ?_⟩
    refine wpX_quiet rfl (by kernel_rfl) rfl ?_; go_wp2_with (first | (refine wpList_load_row _ ⟨w.heap.size, 0, none⟩ rfl cs1 agg_lId HL1.out (blk_cells B0.out.drew) ?_) | fail); refine ⟨rfl, ?_⟩
    refine wpX_actor rfl (by kernel_rfl) ?_
    go_wp2_with fail
    have HSZ := Lib.hid BW.out.size
    refine (toInstS_any x0 A0 n0 c0 _ HN0.out (by omega) ((RA0.out.below BW.out).drew)).mono ?_; rintro e v2 ⟨A'1, c'2, rfl, hM, hb⟩
    obtain ⟨F4, hnd, ho⟩ := hM
    have N5 := Lib.hid hnd; clear hnd
    have D6 := Lib.hid (show w.heap.size ∉ F4 from fun he => by have h1 := (show Blk v1 _ _ _ from B0.out).lt; have h2 := (ho.in _ he).1; first | omega | (revert h1 h2; simp; done) | (revert h1 h2; simp; omega))
    have HB := Lib.hid hb
    have hb2 := below_drewL hb; clear hb
    have hb := hb2; clear hb2
    have hbs := hb.size
    have HBS := Lib.hid hbs; clear hbs
    have X := Lib.hid (B0.out.below hb); clear B0
    have B0 := Lib.hid X.out; clear X
    have X := Lib.hid (show Below w.heap.size w v2 from BW.out.trans (hb.mono BW.out.size)); clear BW
    have BW := Lib.hid X.out; clear X
    clear hb
    have O3 := Lib.hid (Own.mono ho (show w.heap.size ≤ _ from HSZ.out)); clear ho HBS
    clear HSZ
    go_wp2
    refine ⟨Ext.of_below HB.out, ?_⟩
    clear HB
    refine wpX_actor rfl (by kernel_rfl) ?_
    go_wp2_with fail
    have HSZ := Lib.hid BW.out.size
    refine (toId_any x1 cs1 _ (by exact Nat.zero_le _) (A1.out.below BW.out)).mono ?_; rintro e v3 ⟨cs'7, rfl, hM, hb⟩
    have Lcs7 := Lib.hid (show cs'7.length = 2 from hM.rep.length.trans (IdD.width _))
    obtain ⟨F9, hnd, ho⟩ := hM
    have N10 := Lib.hid hnd; clear hnd
    have D11 := Lib.hid (show ∀ b ∈ F4, b ∉ F9 from fun b hb he => by have h1 := (O3.out.in b hb).2; have h2 := (ho.in b he).1; first | omega | (revert h1 h2; simp; done) | (revert h1 h2; simp; omega))
    have D12 := Lib.hid (show ∀ b ∈ F9, b ∉ F4 from fun b he hb => by have h1 := (O3.out.in b hb).2; have h2 := (ho.in b he).1; first | omega | (revert h1 h2; simp; done) | (revert h1 h2; simp; omega))
    have D13 := Lib.hid (show w.heap.size ∉ F9 from fun he => by have h1 := (show Blk v2 _ _ _ from B0.out).lt; have h2 := (ho.in _ he).1; first | omega | (revert h1 h2; simp; done) | (revert h1 h2; simp; omega))
    have HB := Lib.hid hb
    have hbs := hb.size
    have HBS := Lib.hid hbs; clear hbs
    have X := Lib.hid (B0.out.below hb); clear B0
    have B0 := Lib.hid X.out; clear X
    have X := Lib.hid (show Below w.heap.size w v3 from BW.out.trans (hb.mono BW.out.size)); clear BW
    have BW := Lib.hid X.out; clear X
    have X := Lib.hid (O3.out.below hb); clear O3
    have O3 := Lib.hid X.out; clear X
    clear hb
    have O8 := Lib.hid (Own.mono ho (show w.heap.size ≤ _ from HSZ.out)); clear ho HBS
    clear HSZ
    go_wp2
    refine ⟨Ext.of_below HB.out, ?_⟩
    clear HB
    refine wpX_actor rfl (by kernel_rfl) ?_
    go_wp2_with fail
    have HSZ := Lib.hid BW.out.size
    refine (Hs.out A'1 c'2 cs'7 _ O3.out.repAny O8.out.repAny).mono ?_; rintro e v4 ⟨A'14, _, c'15, rfl, rfl, hM0, hb⟩
    obtain ⟨F17, hnd, ho⟩ := hM0
    have N18 := Lib.hid hnd; clear hnd
    have D19 := Lib.hid (show ∀ b ∈ F4, b ∉ F17 from fun b hb he => by have h1 := (O3.out.in b hb).2; have h2 := (ho.in b he).1; first | omega | (revert h1 h2; simp; done) | (revert h1 h2; simp; omega))
    have D20 := Lib.hid (show ∀ b ∈ F17, b ∉ F4 from fun b he hb => by have h1 := (O3.out.in b hb).2; have h2 := (ho.in b he).1; first | omega | (revert h1 h2; simp; done) | (revert h1 h2; simp; omega))
    have D21 := Lib.hid (show ∀ b ∈ F9, b ∉ F17 from fun b hb he => by have h1 := (O8.out.in b hb).2; have h2 := (ho.in b he).1; first | omega | (revert h1 h2; simp; done) | (revert h1 h2; simp; omega))
    have D22 := Lib.hid (show ∀ b ∈ F17, b ∉ F9 from fun b he hb => by have h1 := (O8.out.in b hb).2; have h2 := (ho.in b he).1; first | omega | (revert h1 h2; simp; done) | (revert h1 h2; simp; omega))
    have D23 := Lib.hid (show w.heap.size ∉ F17 from fun he => by have h1 := (show Blk v3 _ _ _ from B0.out).lt; have h2 := (ho.in _ he).1; first | omega | (revert h1 h2; simp; done) | (revert h1 h2; simp; omega))
    have HB := Lib.hid hb
    have hbs := hb.size
    have HBS := Lib.hid hbs; clear hbs
    have X := Lib.hid (B0.out.below hb); clear B0
    have B0 := Lib.hid X.out; clear X
    have X := Lib.hid (show Below w.heap.size w v4 from BW.out.trans (hb.mono BW.out.size)); clear BW
    have BW := Lib.hid X.out; clear X
    have X := Lib.hid (O3.out.below hb); clear O3
    have O3 := Lib.hid X.out; clear X
    have X := Lib.hid (O8.out.below hb); clear O8
    have O8 := Lib.hid X.out; clear X
    clear hb
    have O16 := Lib.hid (Own.mono ho (show w.heap.size ≤ _ from HSZ.out)); clear ho HBS
    clear HSZ
    go_wp2
    refine ⟨Ext.of_below HB.out, ?_⟩
    clear HB
    refine wpX_quiet rfl (by kernel_rfl) rfl ?_; go_wp2; refine ⟨rfl, ?_⟩
    refine wpX_nil ?_
    try simp only [List.drop_succ_cons, List.drop_zero]
    go_wp2_with (first | ((with_reducible show wpList _ _ _ ({ dst := _, op := Op.load 23 _, type := _, pos := _, after := _, guard := _ } :: _) _ _); refine wpList_load_row _ ⟨w.heap.size, 0, none⟩ rfl cs1 agg_lId HL1.out (blk_cells B0.out) ?_) | ((with_reducible show wpList _ _ _ ({ dst := _, op := Op.load 23 _, type := _, pos := _, after := _, guard := _ } :: _) _ _); refine wpList_load_row_g _ (by first | rfl | kernel_rfl) ⟨w.heap.size, 0, none⟩ rfl cs1 agg_lId HL1.out (blk_cells B0.out) ?_) | fail)
    have HSZ := Lib.hid BW.out.size
    refine (toInstS_any x0 A0 n0 c0 _ HN0.out (by omega) (RA0.out.below BW.out)).mono ?_; rintro e v5 ⟨A'24, c'25, rfl, hM, hb⟩
    obtain ⟨F27, hnd, ho⟩ := hM
    have N28 := Lib.hid hnd; clear hnd
    have D29 := Lib.hid (show ∀ b ∈ F4, b ∉ F27 from fun b hb he => by have h1 := (O3.out.in b hb).2; have h2 := (ho.in b he).1; first | omega | (revert h1 h2; simp; done) | (revert h1 h2; simp; omega))
    have D30 := Lib.hid (show ∀ b ∈ F27, b ∉ F4 from fun b he hb => by have h1 := (O3.out.in b hb).2; have h2 := (ho.in b he).1; first | omega | (revert h1 h2; simp; done) | (revert h1 h2; simp; omega))
    have D31 := Lib.hid (show ∀ b ∈ F9, b ∉ F27 from fun b hb he => by have h1 := (O8.out.in b hb).2; have h2 := (ho.in b he).1; first | omega | (revert h1 h2; simp; done) | (revert h1 h2; simp; omega))
    have D32 := Lib.hid (show ∀ b ∈ F27, b ∉ F9 from fun b he hb => by have h1 := (O8.out.in b hb).2; have h2 := (ho.in b he).1; first | omega | (revert h1 h2; simp; done) | (revert h1 h2; simp; omega))
    have D33 := Lib.hid (show ∀ b ∈ F17, b ∉ F27 from fun b hb he => by have h1 := (O16.out.in b hb).2; have h2 := (ho.in b he).1; first | omega | (revert h1 h2; simp; done) | (revert h1 h2; simp; omega))
    have D34 := Lib.hid (show ∀ b ∈ F27, b ∉ F17 from fun b he hb => by have h1 := (O16.out.in b hb).2; have h2 := (ho.in b he).1; first | omega | (revert h1 h2; simp; done) | (revert h1 h2; simp; omega))
    have D35 := Lib.hid (show w.heap.size ∉ F27 from fun he => by have h1 := (show Blk v4 _ _ _ from B0.out).lt; have h2 := (ho.in _ he).1; first | omega | (revert h1 h2; simp; done) | (revert h1 h2; simp; omega))
    have hbs := hb.size
    have HBS := Lib.hid hbs; clear hbs
    have X := Lib.hid (B0.out.below hb); clear B0
    have B0 := Lib.hid X.out; clear X
    have X := Lib.hid (show Below w.heap.size w v5 from BW.out.trans (hb.mono BW.out.size)); clear BW
    have BW := Lib.hid X.out; clear X
    have X := Lib.hid (O3.out.below hb); clear O3
    have O3 := Lib.hid X.out; clear X
    have X := Lib.hid (O8.out.below hb); clear O8
    have O8 := Lib.hid X.out; clear X
    have X := Lib.hid (O16.out.below hb); clear O16
    have O16 := Lib.hid X.out; clear X
    clear hb
    have O26 := Lib.hid (Own.mono ho (show w.heap.size ≤ _ from HSZ.out)); clear ho HBS
    clear HSZ
    go_wp2_with (first | ((with_reducible show wpList _ _ _ ({ dst := _, op := Op.load 23 _, type := _, pos := _, after := _, guard := _ } :: _) _ _); refine wpList_load_row _ ⟨w.heap.size, 0, none⟩ rfl cs1 agg_lId HL1.out (blk_cells B0.out) ?_) | ((with_reducible show wpList _ _ _ ({ dst := _, op := Op.load 23 _, type := _, pos := _, after := _, guard := _ } :: _) _ _); refine wpList_load_row_g _ (by first | rfl | kernel_rfl) ⟨w.heap.size, 0, none⟩ rfl cs1 agg_lId HL1.out (blk_cells B0.out) ?_) | fail)
    have HSZ := Lib.hid BW.out.size
    refine (toId_any x1 cs1 _ (by exact Nat.zero_le _) (A1.out.below BW.out)).mono ?_; rintro e v6 ⟨cs'36, rfl, hM, hb⟩
    have Lcs36 := Lib.hid (show cs'36.length = 2 from hM.rep.length.trans (IdD.width _))
    obtain ⟨F38, hnd, ho⟩ := hM
    have N39 := Lib.hid hnd; clear hnd
    have D40 := Lib.hid (show ∀ b ∈ F4, b ∉ F38 from fun b hb he => by have h1 := (O3.out.in b hb).2; have h2 := (ho.in b he).1; first | omega | (revert h1 h2; simp; done) | (revert h1 h2; simp; omega))
    have D41 := Lib.hid (show ∀ b ∈ F38, b ∉ F4 from fun b he hb => by have h1 := (O3.out.in b hb).2; have h2 := (ho.in b he).1; first | omega | (revert h1 h2; simp; done) | (revert h1 h2; simp; omega))
    have D42 := Lib.hid (show ∀ b ∈ F9, b ∉ F38 from fun b hb he => by have h1 := (O8.out.in b hb).2; have h2 := (ho.in b he).1; first | omega | (revert h1 h2; simp; done) | (revert h1 h2; simp; omega))
    have D43 := Lib.hid (show ∀ b ∈ F38, b ∉ F9 from fun b he hb => by have h1 := (O8.out.in b hb).2; have h2 := (ho.in b he).1; first | omega | (revert h1 h2; simp; done) | (revert h1 h2; simp; omega))
    have D44 := Lib.hid (show ∀ b ∈ F17, b ∉ F38 from fun b hb he => by have h1 := (O16.out.in b hb).2; have h2 := (ho.in b he).1; first | omega | (revert h1 h2; simp; done) | (revert h1 h2; simp; omega))
    have D45 := Lib.hid (show ∀ b ∈ F38, b ∉ F17 from fun b he hb => by have h1 := (O16.out.in b hb).2; have h2 := (ho.in b he).1; first | omega | (revert h1 h2; simp; done) | (revert h1 h2; simp; omega))
    have D46 := Lib.hid (show ∀ b ∈ F27, b ∉ F38 from fun b hb he => by have h1 := (O26.out.in b hb).2; have h2 := (ho.in b he).1; first | omega | (revert h1 h2; simp; done) | (revert h1 h2; simp; omega))
    have D47 := Lib.hid (show ∀ b ∈ F38, b ∉ F27 from fun b he hb => by have h1 := (O26.out.in b hb).2; have h2 := (ho.in b he).1; first | omega | (revert h1 h2; simp; done) | (revert h1 h2; simp; omega))
    have D48 := Lib.hid (show w.heap.size ∉ F38 from fun he => by have h1 := (show Blk v5 _ _ _ from B0.out).lt; have h2 := (ho.in _ he).1; first | omega | (revert h1 h2; simp; done) | (revert h1 h2; simp; omega))
    have hbs := hb.size
    have HBS := Lib.hid hbs; clear hbs
    have X := Lib.hid (B0.out.below hb); clear B0
    have B0 := Lib.hid X.out; clear X
    have X := Lib.hid (show Below w.heap.size w v6 from BW.out.trans (hb.mono BW.out.size)); clear BW
    have BW := Lib.hid X.out; clear X
    have X := Lib.hid (O3.out.below hb); clear O3
    have O3 := Lib.hid X.out; clear X
    have X := Lib.hid (O8.out.below hb); clear O8
    have O8 := Lib.hid X.out; clear X
    have X := Lib.hid (O16.out.below hb); clear O16
    have O16 := Lib.hid X.out; clear X
    have X := Lib.hid (O26.out.below hb); clear O26
    have O26 := Lib.hid X.out; clear X
    clear hb
    have O37 := Lib.hid (Own.mono ho (show w.heap.size ≤ _ from HSZ.out)); clear ho HBS
    clear HSZ
    go_wp2_with (first | ((with_reducible show wpList _ _ _ ({ dst := _, op := Op.load 23 _, type := _, pos := _, after := _, guard := _ } :: _) _ _); refine wpList_load_row _ ⟨w.heap.size, 0, none⟩ rfl cs1 agg_lId HL1.out (blk_cells B0.out) ?_) | ((with_reducible show wpList _ _ _ ({ dst := _, op := Op.load 23 _, type := _, pos := _, after := _, guard := _ } :: _) _ _); refine wpList_load_row_g _ (by first | rfl | kernel_rfl) ⟨w.heap.size, 0, none⟩ rfl cs1 agg_lId HL1.out (blk_cells B0.out) ?_) | fail)
    have HSZ := Lib.hid BW.out.size
    refine (Hi.out A'24 c'25 cs'36 _ O26.out.repAny O37.out.repAny).mono ?_; rintro e v7 ⟨A'49, _, c'50, rfl, rfl, hM0, hb⟩
    obtain ⟨F52, hnd, ho⟩ := hM0
    have N53 := Lib.hid hnd; clear hnd
    have D54 := Lib.hid (show ∀ b ∈ F4, b ∉ F52 from fun b hb he => by have h1 := (O3.out.in b hb).2; have h2 := (ho.in b he).1; first | omega | (revert h1 h2; simp; done) | (revert h1 h2; simp; omega))
    have D55 := Lib.hid (show ∀ b ∈ F52, b ∉ F4 from fun b he hb => by have h1 := (O3.out.in b hb).2; have h2 := (ho.in b he).1; first | omega | (revert h1 h2; simp; done) | (revert h1 h2; simp; omega))
    have D56 := Lib.hid (show ∀ b ∈ F9, b ∉ F52 from fun b hb he => by have h1 := (O8.out.in b hb).2; have h2 := (ho.in b he).1; first | omega | (revert h1 h2; simp; done) | (revert h1 h2; simp; omega))
    have D57 := Lib.hid (show ∀ b ∈ F52, b ∉ F9 from fun b he hb => by have h1 := (O8.out.in b hb).2; have h2 := (ho.in b he).1; first | omega | (revert h1 h2; simp; done) | (revert h1 h2; simp; omega))
    have D58 := Lib.hid (show ∀ b ∈ F17, b ∉ F52 from fun b hb he => by have h1 := (O16.out.in b hb).2; have h2 := (ho.in b he).1; first | omega | (revert h1 h2; simp; done) | (revert h1 h2; simp; omega))
    have D59 := Lib.hid (show ∀ b ∈ F52, b ∉ F17 from fun b he hb => by have h1 := (O16.out.in b hb).2; have h2 := (ho.in b he).1; first | omega | (revert h1 h2; simp; done) | (revert h1 h2; simp; omega))
    have D60 := Lib.hid (show ∀ b ∈ F27, b ∉ F52 from fun b hb he => by have h1 := (O26.out.in b hb).2; have h2 := (ho.in b he).1; first | omega | (revert h1 h2; simp; done) | (revert h1 h2; simp; omega))
    have D61 := Lib.hid (show ∀ b ∈ F52, b ∉ F27 from fun b he hb => by have h1 := (O26.out.in b hb).2; have h2 := (ho.in b he).1; first | omega | (revert h1 h2; simp; done) | (revert h1 h2; simp; omega))
    have D62 := Lib.hid (show ∀ b ∈ F38, b ∉ F52 from fun b hb he => by have h1 := (O37.out.in b hb).2; have h2 := (ho.in b he).1; first | omega | (revert h1 h2; simp; done) | (revert h1 h2; simp; omega))
    have D63 := Lib.hid (show ∀ b ∈ F52, b ∉ F38 from fun b he hb => by have h1 := (O37.out.in b hb).2; have h2 := (ho.in b he).1; first | omega | (revert h1 h2; simp; done) | (revert h1 h2; simp; omega))
    have D64 := Lib.hid (show w.heap.size ∉ F52 from fun he => by have h1 := (show Blk v6 _ _ _ from B0.out).lt; have h2 := (ho.in _ he).1; first | omega | (revert h1 h2; simp; done) | (revert h1 h2; simp; omega))
    have hbs := hb.size
    have HBS := Lib.hid hbs; clear hbs
    have X := Lib.hid (B0.out.below hb); clear B0
    have B0 := Lib.hid X.out; clear X
    have X := Lib.hid (show Below w.heap.size w v7 from BW.out.trans (hb.mono BW.out.size)); clear BW
    have BW := Lib.hid X.out; clear X
    have X := Lib.hid (O3.out.below hb); clear O3
    have O3 := Lib.hid X.out; clear X
    have X := Lib.hid (O8.out.below hb); clear O8
    have O8 := Lib.hid X.out; clear X
    have X := Lib.hid (O16.out.below hb); clear O16
    have O16 := Lib.hid X.out; clear X
    have X := Lib.hid (O26.out.below hb); clear O26
    have O26 := Lib.hid X.out; clear X
    have X := Lib.hid (O37.out.below hb); clear O37
    have O37 := Lib.hid X.out; clear X
    clear hb
    have O51 := Lib.hid (Own.mono ho (show w.heap.size ≤ _ from HSZ.out)); clear ho HBS
    clear HSZ
    go_wp2_with (first | ((with_reducible show wpList _ _ _ ({ dst := _, op := Op.load 23 _, type := _, pos := _, after := _, guard := _ } :: _) _ _); refine wpList_load_row _ ⟨w.heap.size, 0, none⟩ rfl cs1 agg_lId HL1.out (blk_cells B0.out) ?_) | ((with_reducible show wpList _ _ _ ({ dst := _, op := Op.load 23 _, type := _, pos := _, after := _, guard := _ } :: _) _ _); refine wpList_load_row_g _ (by first | rfl | kernel_rfl) ⟨w.heap.size, 0, none⟩ rfl cs1 agg_lId HL1.out (blk_cells B0.out) ?_) | fail)
    have HSZ := Lib.hid BW.out.size
    refine (eqIdS_any r0 A'49 A'14 r0.length c'50 c'15 _ rfl (by first | omega | (have := HWT.out; omega)) O51.out.repAny O16.out.repAny).mono ?_; rintro e v8 ⟨rfl, hb⟩
    have X := Lib.hid (B0.out.below hb); clear B0
    have B0 := Lib.hid X.out; clear X
    have X := Lib.hid (show Below w.heap.size w v8 from BW.out.trans (hb.mono BW.out.size)); clear BW
    have BW := Lib.hid X.out; clear X
    have X := Lib.hid (O3.out.below hb); clear O3
    have O3 := Lib.hid X.out; clear X
    have X := Lib.hid (O8.out.below hb); clear O8
    have O8 := Lib.hid X.out; clear X
    have X := Lib.hid (O16.out.below hb); clear O16
    have O16 := Lib.hid X.out; clear X
    have X := Lib.hid (O26.out.below hb); clear O26
    have O26 := Lib.hid X.out; clear X
    have X := Lib.hid (O37.out.below hb); clear O37
    have O37 := Lib.hid X.out; clear X
    have X := Lib.hid (O51.out.below hb); clear O51
    have O51 := Lib.hid X.out; clear X
    clear hb
    clear HSZ
    go_wp2_with (first | ((with_reducible show wpList _ _ _ ({ dst := _, op := Op.load 23 _, type := _, pos := _, after := _, guard := _ } :: _) _ _); refine wpList_load_row _ ⟨w.heap.size, 0, none⟩ rfl cs1 agg_lId HL1.out (blk_cells B0.out) ?_) | ((with_reducible show wpList _ _ _ ({ dst := _, op := Op.load 23 _, type := _, pos := _, after := _, guard := _ } :: _) _ _); refine wpList_load_row_g _ (by first | rfl | kernel_rfl) ⟨w.heap.size, 0, none⟩ rfl cs1 agg_lId HL1.out (blk_cells B0.out) ?_) | fail)
    have HSZ := Lib.hid BW.out.size
    refine (toInstS_any x0 A0 n0 c0 _ HN0.out (by omega) (RA0.out.below BW.out)).mono ?_; rintro e v9 ⟨A'65, c'66, rfl, hM, hb⟩
    obtain ⟨F68, hnd, ho⟩ := hM
    have N69 := Lib.hid hnd; clear hnd
    have D70 := Lib.hid (show ∀ b ∈ F4, b ∉ F68 from fun b hb he => by have h1 := (O3.out.in b hb).2; have h2 := (ho.in b he).1; first | omega | (revert h1 h2; simp; done) | (revert h1 h2; simp; omega))
    have D71 := Lib.hid (show ∀ b ∈ F68, b ∉ F4 from fun b he hb => by have h1 := (O3.out.in b hb).2; have h2 := (ho.in b he).1; first | omega | (revert h1 h2; simp; done) | (revert h1 h2; simp; omega))
    have D72 := Lib.hid (show ∀ b ∈ F9, b ∉ F68 from fun b hb he => by have h1 := (O8.out.in b hb).2; have h2 := (ho.in b he).1; first | omega | (revert h1 h2; simp; done) | (revert h1 h2; simp; omega))
    have D73 := Lib.hid (show ∀ b ∈ F68, b ∉ F9 from fun b he hb => by have h1 := (O8.out.in b hb).2; have h2 := (ho.in b he).1; first | omega | (revert h1 h2; simp; done) | (revert h1 h2; simp; omega))
    have D74 := Lib.hid (show ∀ b ∈ F17, b ∉ F68 from fun b hb he => by have h1 := (O16.out.in b hb).2; have h2 := (ho.in b he).1; first | omega | (revert h1 h2; simp; done) | (revert h1 h2; simp; omega))
    have D75 := Lib.hid (show ∀ b ∈ F68, b ∉ F17 from fun b he hb => by have h1 := (O16.out.in b hb).2; have h2 := (ho.in b he).1; first | omega | (revert h1 h2; simp; done) | (revert h1 h2; simp; omega))
    have D76 := Lib.hid (show ∀ b ∈ F27, b ∉ F68 from fun b hb he => by have h1 := (O26.out.in b hb).2; have h2 := (ho.in b he).1; first | omega | (revert h1 h2; simp; done) | (revert h1 h2; simp; omega))
    have D77 := Lib.hid (show ∀ b ∈ F68, b ∉ F27 from fun b he hb => by have h1 := (O26.out.in b hb).2; have h2 := (ho.in b he).1; first | omega | (revert h1 h2; simp; done) | (revert h1 h2; simp; omega))
    have D78 := Lib.hid (show ∀ b ∈ F38, b ∉ F68 from fun b hb he => by have h1 := (O37.out.in b hb).2; have h2 := (ho.in b he).1; first | omega | (revert h1 h2; simp; done) | (revert h1 h2; simp; omega))
    have D79 := Lib.hid (show ∀ b ∈ F68, b ∉ F38 from fun b he hb => by have h1 := (O37.out.in b hb).2; have h2 := (ho.in b he).1; first | omega | (revert h1 h2; simp; done) | (revert h1 h2; simp; omega))
    have D80 := Lib.hid (show ∀ b ∈ F52, b ∉ F68 from fun b hb he => by have h1 := (O51.out.in b hb).2; have h2 := (ho.in b he).1; first | omega | (revert h1 h2; simp; done) | (revert h1 h2; simp; omega))
    have D81 := Lib.hid (show ∀ b ∈ F68, b ∉ F52 from fun b he hb => by have h1 := (O51.out.in b hb).2; have h2 := (ho.in b he).1; first | omega | (revert h1 h2; simp; done) | (revert h1 h2; simp; omega))
    have D82 := Lib.hid (show w.heap.size ∉ F68 from fun he => by have h1 := (show Blk v8 _ _ _ from B0.out).lt; have h2 := (ho.in _ he).1; first | omega | (revert h1 h2; simp; done) | (revert h1 h2; simp; omega))
    have hbs := hb.size
    have HBS := Lib.hid hbs; clear hbs
    have X := Lib.hid (B0.out.below hb); clear B0
    have B0 := Lib.hid X.out; clear X
    have X := Lib.hid (show Below w.heap.size w v9 from BW.out.trans (hb.mono BW.out.size)); clear BW
    have BW := Lib.hid X.out; clear X
    have X := Lib.hid (O3.out.below hb); clear O3
    have O3 := Lib.hid X.out; clear X
    have X := Lib.hid (O8.out.below hb); clear O8
    have O8 := Lib.hid X.out; clear X
    have X := Lib.hid (O16.out.below hb); clear O16
    have O16 := Lib.hid X.out; clear X
    have X := Lib.hid (O26.out.below hb); clear O26
    have O26 := Lib.hid X.out; clear X
    have X := Lib.hid (O37.out.below hb); clear O37
    have O37 := Lib.hid X.out; clear X
    have X := Lib.hid (O51.out.below hb); clear O51
    have O51 := Lib.hid X.out; clear X
    clear hb
    have O67 := Lib.hid (Own.mono ho (show w.heap.size ≤ _ from HSZ.out)); clear ho HBS
    clear HSZ
    go_wp2_with (first | ((with_reducible show wpList _ _ _ ({ dst := _, op := Op.load 23 _, type := _, pos := _, after := _, guard := _ } :: _) _ _); refine wpList_load_row _ ⟨w.heap.size, 0, none⟩ rfl cs1 agg_lId HL1.out (blk_cells B0.out) ?_) | ((with_reducible show wpList _ _ _ ({ dst := _, op := Op.load 23 _, type := _, pos := _, after := _, guard := _ } :: _) _ _); refine wpList_load_row_g _ (by first | rfl | kernel_rfl) ⟨w.heap.size, 0, none⟩ rfl cs1 agg_lId HL1.out (blk_cells B0.out) ?_) | fail)
    have HSZ := Lib.hid BW.out.size
    refine (eqInstS_any x0 A'24 A'65 n0 c'25 c'66 _ HN0.out (by omega) O26.out.repAny O67.out.repAny).mono ?_; rintro e v10 ⟨rfl, hb⟩
    have X := Lib.hid (B0.out.below hb); clear B0
    have B0 := Lib.hid X.out; clear X
    have X := Lib.hid (show Below w.heap.size w v10 from BW.out.trans (hb.mono BW.out.size)); clear BW
    have BW := Lib.hid X.out; clear X
    have X := Lib.hid (O3.out.below hb); clear O3
    have O3 := Lib.hid X.out; clear X
    have X := Lib.hid (O8.out.below hb); clear O8
    have O8 := Lib.hid X.out; clear X
    have X := Lib.hid (O16.out.below hb); clear O16
    have O16 := Lib.hid X.out; clear X
    have X := Lib.hid (O26.out.below hb); clear O26
    have O26 := Lib.hid X.out; clear X
    have X := Lib.hid (O37.out.below hb); clear O37
    have O37 := Lib.hid X.out; clear X
    have X := Lib.hid (O51.out.below hb); clear O51
    have O51 := Lib.hid X.out; clear X
    have X := Lib.hid (O67.out.below hb); clear O67
    have O67 := Lib.hid X.out; clear X
    clear hb
    clear HSZ
    go_wp2_with (first | ((with_reducible show wpList _ _ _ ({ dst := _, op := Op.load 23 _, type := _, pos := _, after := _, guard := _ } :: _) _ _); refine wpList_load_row _ ⟨w.heap.size, 0, none⟩ rfl cs1 agg_lId HL1.out (blk_cells B0.out) ?_) | ((with_reducible show wpList _ _ _ ({ dst := _, op := Op.load 23 _, type := _, pos := _, after := _, guard := _ } :: _) _ _); refine wpList_load_row_g _ (by first | rfl | kernel_rfl) ⟨w.heap.size, 0, none⟩ rfl cs1 agg_lId HL1.out (blk_cells B0.out) ?_) | fail)
    have HSZ := Lib.hid BW.out.size
    refine (markInstS_any x0 (1) _ w.heap.size A'24 n0 c'25 F27 _ HN0.out (by first | rfl | omega) (by omega) (by first | omega | (have := HCN.out; omega) | (have := HCX0.out; have := HN0.out; omega)) N28.out O26.out).mono ?_; rintro e v11 ⟨q83, rfl, hq, ho, hm⟩
    have hq0 : 0 ≤ q83 := by omega
    have HY84 := Lib.hid hq; clear hq
    have q83z := Lib.hid hq0
    have hdq83 : decide (q83 < 0) = false := by simp only [decide_eq_false_iff_not]; omega
    have X := Lib.hid (B0.out.mod hm D35.out); clear B0
    have B0 := Lib.hid X.out; clear X
    have X := Lib.hid (O3.out.mod1 hm D29.out); clear O3
    have O3 := Lib.hid X.out; clear X
    have X := Lib.hid (O8.out.mod1 hm D31.out); clear O8
    have O8 := Lib.hid X.out; clear X
    have X := Lib.hid (O16.out.mod1 hm D33.out); clear O16
    have O16 := Lib.hid X.out; clear X
    have X := Lib.hid (O37.out.mod1 hm D47.out); clear O37
    have O37 := Lib.hid X.out; clear X
    have X := Lib.hid (O51.out.mod1 hm D61.out); clear O51
    have O51 := Lib.hid X.out; clear X
    have X := Lib.hid (O67.out.mod1 hm D77.out); clear O67
    have O67 := Lib.hid X.out; clear X
    have X := Lib.hid (show Below w.heap.size w v11 from Mod.below BW.out hm BW.out.size (fun b hb => (O26.out.in b hb).1)); clear BW O26
    have BW := Lib.hid X.out; clear X
    have O26 := Lib.hid ho; clear ho hm
    clear HSZ
    go_wp2_with (first | ((with_reducible show wpList _ _ _ ({ dst := _, op := Op.load 23 _, type := _, pos := _, after := _, guard := _ } :: _) _ _); refine wpList_load_row _ ⟨w.heap.size, 0, none⟩ rfl cs1 agg_lId HL1.out (blk_cells B0.out) ?_) | ((with_reducible show wpList _ _ _ ({ dst := _, op := Op.load 23 _, type := _, pos := _, after := _, guard := _ } :: _) _ _); refine wpList_load_row_g _ (by first | rfl | kernel_rfl) ⟨w.heap.size, 0, none⟩ rfl cs1 agg_lId HL1.out (blk_cells B0.out) ?_) | fail)
    have HSZ := Lib.hid BW.out.size
    refine (eqIdS_any r0 A'49 A'14 r0.length c'50 c'15 _ rfl (by first | omega | (have := HWT.out; omega)) O51.out.repAny O16.out.repAny).mono ?_; rintro e v12 ⟨rfl, hb⟩
    have X := Lib.hid (B0.out.below hb); clear B0
    have B0 := Lib.hid X.out; clear X
    have X := Lib.hid (show Below w.heap.size w v12 from BW.out.trans (hb.mono BW.out.size)); clear BW
    have BW := Lib.hid X.out; clear X
    have X := Lib.hid (O3.out.below hb); clear O3
    have O3 := Lib.hid X.out; clear X
    have X := Lib.hid (O8.out.below hb); clear O8
    have O8 := Lib.hid X.out; clear X
    have X := Lib.hid (O16.out.below hb); clear O16
    have O16 := Lib.hid X.out; clear X
    have X := Lib.hid (O26.out.below hb); clear O26
    have O26 := Lib.hid X.out; clear X
    have X := Lib.hid (O37.out.below hb); clear O37
    have O37 := Lib.hid X.out; clear X
    have X := Lib.hid (O51.out.below hb); clear O51
    have O51 := Lib.hid X.out; clear X
    have X := Lib.hid (O67.out.below hb); clear O67
    have O67 := Lib.hid X.out; clear X
    clear hb
    clear HSZ
    go_wp2_with (first | ((with_reducible show wpList _ _ _ ({ dst := _, op := Op.load 23 _, type := _, pos := _, after := _, guard := _ } :: _) _ _); refine wpList_load_row _ ⟨w.heap.size, 0, none⟩ rfl cs1 agg_lId HL1.out (blk_cells B0.out) ?_) | ((with_reducible show wpList _ _ _ ({ dst := _, op := Op.load 23 _, type := _, pos := _, after := _, guard := _ } :: _) _ _); refine wpList_load_row_g _ (by first | rfl | kernel_rfl) ⟨w.heap.size, 0, none⟩ rfl cs1 agg_lId HL1.out (blk_cells B0.out) ?_) | fail)
    have HSZ := Lib.hid BW.out.size
    refine (markIdS_any r0 (1) _ w.heap.size A'49 r0.length c'50 F52 _ rfl (by first | rfl | omega) (by omega) (by first | omega | (have := HCN.out; omega) | (have := HCX0.out; have := HN0.out; omega)) N53.out O51.out).mono ?_; rintro e v13 ⟨q85, rfl, hq, ho, hm⟩
    have hq0 : 0 ≤ q85 := by omega
    have HY86 := Lib.hid hq; clear hq
    have q85z := Lib.hid hq0
    have hdq85 : decide (q85 < 0) = false := by simp only [decide_eq_false_iff_not]; omega
    have X := Lib.hid (B0.out.mod hm D64.out); clear B0
    have B0 := Lib.hid X.out; clear X
    have X := Lib.hid (O3.out.mod1 hm D54.out); clear O3
    have O3 := Lib.hid X.out; clear X
    have X := Lib.hid (O8.out.mod1 hm D56.out); clear O8
    have O8 := Lib.hid X.out; clear X
    have X := Lib.hid (O16.out.mod1 hm D58.out); clear O16
    have O16 := Lib.hid X.out; clear X
    have X := Lib.hid (O26.out.mod1 hm D60.out); clear O26
    have O26 := Lib.hid X.out; clear X
    have X := Lib.hid (O37.out.mod1 hm D62.out); clear O37
    have O37 := Lib.hid X.out; clear X
    have X := Lib.hid (O67.out.mod1 hm D81.out); clear O67
    have O67 := Lib.hid X.out; clear X
    have X := Lib.hid (show Below w.heap.size w v13 from Mod.below BW.out hm BW.out.size (fun b hb => (O51.out.in b hb).1)); clear BW O51
    have BW := Lib.hid X.out; clear X
    have O51 := Lib.hid ho; clear ho hm
    clear HSZ
    go_wp2_with (first | ((with_reducible show wpList _ _ _ ({ dst := _, op := Op.load 23 _, type := _, pos := _, after := _, guard := _ } :: _) _ _); refine wpList_load_row _ ⟨w.heap.size, 0, none⟩ rfl cs1 agg_lId HL1.out (blk_cells B0.out) ?_) | ((with_reducible show wpList _ _ _ ({ dst := _, op := Op.load 23 _, type := _, pos := _, after := _, guard := _ } :: _) _ _); refine wpList_load_row_g _ (by first | rfl | kernel_rfl) ⟨w.heap.size, 0, none⟩ rfl cs1 agg_lId HL1.out (blk_cells B0.out) ?_) | fail)
    have HSZ := Lib.hid BW.out.size
    refine (heldIdS_any r0 (1) _ A'49 r0.length c'50 _ rfl (by first | rfl | omega) (by omega) (by first | omega | (have := HCN.out; omega)) O51.out.repAny).mono ?_; rintro e v14 ⟨q87, rfl, hq, hb⟩
    have hq1 : q85 = q87 := (hq.trans HY86.out.symm).symm
    subst hq1
    clear hq
    have X := Lib.hid (B0.out.below hb); clear B0
    have B0 := Lib.hid X.out; clear X
    have X := Lib.hid (show Below w.heap.size w v14 from BW.out.trans (hb.mono BW.out.size)); clear BW
    have BW := Lib.hid X.out; clear X
    have X := Lib.hid (O3.out.below hb); clear O3
    have O3 := Lib.hid X.out; clear X
    have X := Lib.hid (O8.out.below hb); clear O8
    have O8 := Lib.hid X.out; clear X
    have X := Lib.hid (O16.out.below hb); clear O16
    have O16 := Lib.hid X.out; clear X
    have X := Lib.hid (O26.out.below hb); clear O26
    have O26 := Lib.hid X.out; clear X
    have X := Lib.hid (O37.out.below hb); clear O37
    have O37 := Lib.hid X.out; clear X
    have X := Lib.hid (O51.out.below hb); clear O51
    have O51 := Lib.hid X.out; clear X
    have X := Lib.hid (O67.out.below hb); clear O67
    have O67 := Lib.hid X.out; clear X
    clear hb
    clear HSZ
    go_wp2
    refine wp_region_x 6 [0, 2, 1, 3, 4, 5] (by kernel_rfl) (by kernel_rfl) ?_
    refine wpX_quiet rfl (by kernel_rfl) rfl ?_; go_wp2; refine ⟨rfl, ?_⟩
    refine wpX_quiet rfl (by kernel_rfl) rfl ?_; go_wp2_with (first | (refine wpList_load_row _ ⟨w.heap.size, 0, none⟩ rfl cs1 agg_lId HL1.out (blk_cells B0.out.drew) ?_) | fail); refine ⟨rfl, ?_⟩
    refine wpX_actor rfl (by kernel_rfl) ?_
    go_wp2_with fail
    have HSZ := Lib.hid BW.out.size
    refine (toInstS_any x0 A0 n0 c0 _ HN0.out (by omega) ((RA0.out.below BW.out).drew)).mono ?_; rintro e v15 ⟨A'88, c'89, rfl, hM, hb⟩
    obtain ⟨F91, hnd, ho⟩ := hM
    have N92 := Lib.hid hnd; clear hnd
    have D93 := Lib.hid (show ∀ b ∈ F4, b ∉ F91 from fun b hb he => by have h1 := (O3.out.in b hb).2; have h2 := (ho.in b he).1; first | omega | (revert h1 h2; simp; done) | (revert h1 h2; simp; omega))
    have D94 := Lib.hid (show ∀ b ∈ F91, b ∉ F4 from fun b he hb => by have h1 := (O3.out.in b hb).2; have h2 := (ho.in b he).1; first | omega | (revert h1 h2; simp; done) | (revert h1 h2; simp; omega))
    have D95 := Lib.hid (show ∀ b ∈ F9, b ∉ F91 from fun b hb he => by have h1 := (O8.out.in b hb).2; have h2 := (ho.in b he).1; first | omega | (revert h1 h2; simp; done) | (revert h1 h2; simp; omega))
    have D96 := Lib.hid (show ∀ b ∈ F91, b ∉ F9 from fun b he hb => by have h1 := (O8.out.in b hb).2; have h2 := (ho.in b he).1; first | omega | (revert h1 h2; simp; done) | (revert h1 h2; simp; omega))
    have D97 := Lib.hid (show ∀ b ∈ F17, b ∉ F91 from fun b hb he => by have h1 := (O16.out.in b hb).2; have h2 := (ho.in b he).1; first | omega | (revert h1 h2; simp; done) | (revert h1 h2; simp; omega))
    have D98 := Lib.hid (show ∀ b ∈ F91, b ∉ F17 from fun b he hb => by have h1 := (O16.out.in b hb).2; have h2 := (ho.in b he).1; first | omega | (revert h1 h2; simp; done) | (revert h1 h2; simp; omega))
    have D99 := Lib.hid (show ∀ b ∈ F27, b ∉ F91 from fun b hb he => by have h1 := (O26.out.in b hb).2; have h2 := (ho.in b he).1; first | omega | (revert h1 h2; simp; done) | (revert h1 h2; simp; omega))
    have D100 := Lib.hid (show ∀ b ∈ F91, b ∉ F27 from fun b he hb => by have h1 := (O26.out.in b hb).2; have h2 := (ho.in b he).1; first | omega | (revert h1 h2; simp; done) | (revert h1 h2; simp; omega))
    have D101 := Lib.hid (show ∀ b ∈ F38, b ∉ F91 from fun b hb he => by have h1 := (O37.out.in b hb).2; have h2 := (ho.in b he).1; first | omega | (revert h1 h2; simp; done) | (revert h1 h2; simp; omega))
    have D102 := Lib.hid (show ∀ b ∈ F91, b ∉ F38 from fun b he hb => by have h1 := (O37.out.in b hb).2; have h2 := (ho.in b he).1; first | omega | (revert h1 h2; simp; done) | (revert h1 h2; simp; omega))
    have D103 := Lib.hid (show ∀ b ∈ F52, b ∉ F91 from fun b hb he => by have h1 := (O51.out.in b hb).2; have h2 := (ho.in b he).1; first | omega | (revert h1 h2; simp; done) | (revert h1 h2; simp; omega))
    have D104 := Lib.hid (show ∀ b ∈ F91, b ∉ F52 from fun b he hb => by have h1 := (O51.out.in b hb).2; have h2 := (ho.in b he).1; first | omega | (revert h1 h2; simp; done) | (revert h1 h2; simp; omega))
    have D105 := Lib.hid (show ∀ b ∈ F68, b ∉ F91 from fun b hb he => by have h1 := (O67.out.in b hb).2; have h2 := (ho.in b he).1; first | omega | (revert h1 h2; simp; done) | (revert h1 h2; simp; omega))
    have D106 := Lib.hid (show ∀ b ∈ F91, b ∉ F68 from fun b he hb => by have h1 := (O67.out.in b hb).2; have h2 := (ho.in b he).1; first | omega | (revert h1 h2; simp; done) | (revert h1 h2; simp; omega))
    have D107 := Lib.hid (show w.heap.size ∉ F91 from fun he => by have h1 := (show Blk v14 _ _ _ from B0.out).lt; have h2 := (ho.in _ he).1; first | omega | (revert h1 h2; simp; done) | (revert h1 h2; simp; omega))
    have HB := Lib.hid hb
    have hb2 := below_drewL hb; clear hb
    have hb := hb2; clear hb2
    have hbs := hb.size
    have HBS := Lib.hid hbs; clear hbs
    have X := Lib.hid (B0.out.below hb); clear B0
    have B0 := Lib.hid X.out; clear X
    have X := Lib.hid (show Below w.heap.size w v15 from BW.out.trans (hb.mono BW.out.size)); clear BW
    have BW := Lib.hid X.out; clear X
    have X := Lib.hid (O3.out.below hb); clear O3
    have O3 := Lib.hid X.out; clear X
    have X := Lib.hid (O8.out.below hb); clear O8
    have O8 := Lib.hid X.out; clear X
    have X := Lib.hid (O16.out.below hb); clear O16
    have O16 := Lib.hid X.out; clear X
    have X := Lib.hid (O26.out.below hb); clear O26
    have O26 := Lib.hid X.out; clear X
    have X := Lib.hid (O37.out.below hb); clear O37
    have O37 := Lib.hid X.out; clear X
    have X := Lib.hid (O51.out.below hb); clear O51
    have O51 := Lib.hid X.out; clear X
    have X := Lib.hid (O67.out.below hb); clear O67
    have O67 := Lib.hid X.out; clear X
    clear hb
    have O90 := Lib.hid (Own.mono ho (show w.heap.size ≤ _ from HSZ.out)); clear ho HBS
    clear HSZ
    go_wp2
    refine ⟨Ext.of_below HB.out, ?_⟩
    clear HB
    refine wpX_actor rfl (by kernel_rfl) ?_
    go_wp2_with fail
    have HSZ := Lib.hid BW.out.size
    refine (toId_any x1 cs1 _ (by exact Nat.zero_le _) (A1.out.below BW.out)).mono ?_; rintro e v16 ⟨cs'108, rfl, hM, hb⟩
    have Lcs108 := Lib.hid (show cs'108.length = 2 from hM.rep.length.trans (IdD.width _))
    obtain ⟨F110, hnd, ho⟩ := hM
    have N111 := Lib.hid hnd; clear hnd
    have D112 := Lib.hid (show ∀ b ∈ F4, b ∉ F110 from fun b hb he => by have h1 := (O3.out.in b hb).2; have h2 := (ho.in b he).1; first | omega | (revert h1 h2; simp; done) | (revert h1 h2; simp; omega))
    have D113 := Lib.hid (show ∀ b ∈ F110, b ∉ F4 from fun b he hb => by have h1 := (O3.out.in b hb).2; have h2 := (ho.in b he).1; first | omega | (revert h1 h2; simp; done) | (revert h1 h2; simp; omega))
    have D114 := Lib.hid (show ∀ b ∈ F9, b ∉ F110 from fun b hb he => by have h1 := (O8.out.in b hb).2; have h2 := (ho.in b he).1; first | omega | (revert h1 h2; simp; done) | (revert h1 h2; simp; omega))
    have D115 := Lib.hid (show ∀ b ∈ F110, b ∉ F9 from fun b he hb => by have h1 := (O8.out.in b hb).2; have h2 := (ho.in b he).1; first | omega | (revert h1 h2; simp; done) | (revert h1 h2; simp; omega))
    have D116 := Lib.hid (show ∀ b ∈ F17, b ∉ F110 from fun b hb he => by have h1 := (O16.out.in b hb).2; have h2 := (ho.in b he).1; first | omega | (revert h1 h2; simp; done) | (revert h1 h2; simp; omega))
    have D117 := Lib.hid (show ∀ b ∈ F110, b ∉ F17 from fun b he hb => by have h1 := (O16.out.in b hb).2; have h2 := (ho.in b he).1; first | omega | (revert h1 h2; simp; done) | (revert h1 h2; simp; omega))
    have D118 := Lib.hid (show ∀ b ∈ F27, b ∉ F110 from fun b hb he => by have h1 := (O26.out.in b hb).2; have h2 := (ho.in b he).1; first | omega | (revert h1 h2; simp; done) | (revert h1 h2; simp; omega))
    have D119 := Lib.hid (show ∀ b ∈ F110, b ∉ F27 from fun b he hb => by have h1 := (O26.out.in b hb).2; have h2 := (ho.in b he).1; first | omega | (revert h1 h2; simp; done) | (revert h1 h2; simp; omega))
    have D120 := Lib.hid (show ∀ b ∈ F38, b ∉ F110 from fun b hb he => by have h1 := (O37.out.in b hb).2; have h2 := (ho.in b he).1; first | omega | (revert h1 h2; simp; done) | (revert h1 h2; simp; omega))
    have D121 := Lib.hid (show ∀ b ∈ F110, b ∉ F38 from fun b he hb => by have h1 := (O37.out.in b hb).2; have h2 := (ho.in b he).1; first | omega | (revert h1 h2; simp; done) | (revert h1 h2; simp; omega))
    have D122 := Lib.hid (show ∀ b ∈ F52, b ∉ F110 from fun b hb he => by have h1 := (O51.out.in b hb).2; have h2 := (ho.in b he).1; first | omega | (revert h1 h2; simp; done) | (revert h1 h2; simp; omega))
    have D123 := Lib.hid (show ∀ b ∈ F110, b ∉ F52 from fun b he hb => by have h1 := (O51.out.in b hb).2; have h2 := (ho.in b he).1; first | omega | (revert h1 h2; simp; done) | (revert h1 h2; simp; omega))
    have D124 := Lib.hid (show ∀ b ∈ F68, b ∉ F110 from fun b hb he => by have h1 := (O67.out.in b hb).2; have h2 := (ho.in b he).1; first | omega | (revert h1 h2; simp; done) | (revert h1 h2; simp; omega))
    have D125 := Lib.hid (show ∀ b ∈ F110, b ∉ F68 from fun b he hb => by have h1 := (O67.out.in b hb).2; have h2 := (ho.in b he).1; first | omega | (revert h1 h2; simp; done) | (revert h1 h2; simp; omega))
    have D126 := Lib.hid (show ∀ b ∈ F91, b ∉ F110 from fun b hb he => by have h1 := (O90.out.in b hb).2; have h2 := (ho.in b he).1; first | omega | (revert h1 h2; simp; done) | (revert h1 h2; simp; omega))
    have D127 := Lib.hid (show ∀ b ∈ F110, b ∉ F91 from fun b he hb => by have h1 := (O90.out.in b hb).2; have h2 := (ho.in b he).1; first | omega | (revert h1 h2; simp; done) | (revert h1 h2; simp; omega))
    have D128 := Lib.hid (show w.heap.size ∉ F110 from fun he => by have h1 := (show Blk v15 _ _ _ from B0.out).lt; have h2 := (ho.in _ he).1; first | omega | (revert h1 h2; simp; done) | (revert h1 h2; simp; omega))
    have HB := Lib.hid hb
    have hbs := hb.size
    have HBS := Lib.hid hbs; clear hbs
    have X := Lib.hid (B0.out.below hb); clear B0
    have B0 := Lib.hid X.out; clear X
    have X := Lib.hid (show Below w.heap.size w v16 from BW.out.trans (hb.mono BW.out.size)); clear BW
    have BW := Lib.hid X.out; clear X
    have X := Lib.hid (O3.out.below hb); clear O3
    have O3 := Lib.hid X.out; clear X
    have X := Lib.hid (O8.out.below hb); clear O8
    have O8 := Lib.hid X.out; clear X
    have X := Lib.hid (O16.out.below hb); clear O16
    have O16 := Lib.hid X.out; clear X
    have X := Lib.hid (O26.out.below hb); clear O26
    have O26 := Lib.hid X.out; clear X
    have X := Lib.hid (O37.out.below hb); clear O37
    have O37 := Lib.hid X.out; clear X
    have X := Lib.hid (O51.out.below hb); clear O51
    have O51 := Lib.hid X.out; clear X
    have X := Lib.hid (O67.out.below hb); clear O67
    have O67 := Lib.hid X.out; clear X
    have X := Lib.hid (O90.out.below hb); clear O90
    have O90 := Lib.hid X.out; clear X
    clear hb
    have O109 := Lib.hid (Own.mono ho (show w.heap.size ≤ _ from HSZ.out)); clear ho HBS
    clear HSZ
    go_wp2
    refine ⟨Ext.of_below HB.out, ?_⟩
    clear HB
    refine wpX_actor rfl (by kernel_rfl) ?_
    go_wp2_with fail
    have HSZ := Lib.hid BW.out.size
    refine (Hi.out A'88 c'89 cs'108 _ O90.out.repAny O109.out.repAny).mono ?_; rintro e v17 ⟨A'129, _, c'130, rfl, rfl, hM0, hb⟩
    obtain ⟨F132, hnd, ho⟩ := hM0
    have N133 := Lib.hid hnd; clear hnd
    have D134 := Lib.hid (show ∀ b ∈ F4, b ∉ F132 from fun b hb he => by have h1 := (O3.out.in b hb).2; have h2 := (ho.in b he).1; first | omega | (revert h1 h2; simp; done) | (revert h1 h2; simp; omega))
    have D135 := Lib.hid (show ∀ b ∈ F132, b ∉ F4 from fun b he hb => by have h1 := (O3.out.in b hb).2; have h2 := (ho.in b he).1; first | omega | (revert h1 h2; simp; done) | (revert h1 h2; simp; omega))
    have D136 := Lib.hid (show ∀ b ∈ F9, b ∉ F132 from fun b hb he => by have h1 := (O8.out.in b hb).2; have h2 := (ho.in b he).1; first | omega | (revert h1 h2; simp; done) | (revert h1 h2; simp; omega))
    have D137 := Lib.hid (show ∀ b ∈ F132, b ∉ F9 from fun b he hb => by have h1 := (O8.out.in b hb).2; have h2 := (ho.in b he).1; first | omega | (revert h1 h2; simp; done) | (revert h1 h2; simp; omega))
    have D138 := Lib.hid (show ∀ b ∈ F17, b ∉ F132 from fun b hb he => by have h1 := (O16.out.in b hb).2; have h2 := (ho.in b he).1; first | omega | (revert h1 h2; simp; done) | (revert h1 h2; simp; omega))
    have D139 := Lib.hid (show ∀ b ∈ F132, b ∉ F17 from fun b he hb => by have h1 := (O16.out.in b hb).2; have h2 := (ho.in b he).1; first | omega | (revert h1 h2; simp; done) | (revert h1 h2; simp; omega))
    have D140 := Lib.hid (show ∀ b ∈ F27, b ∉ F132 from fun b hb he => by have h1 := (O26.out.in b hb).2; have h2 := (ho.in b he).1; first | omega | (revert h1 h2; simp; done) | (revert h1 h2; simp; omega))
    have D141 := Lib.hid (show ∀ b ∈ F132, b ∉ F27 from fun b he hb => by have h1 := (O26.out.in b hb).2; have h2 := (ho.in b he).1; first | omega | (revert h1 h2; simp; done) | (revert h1 h2; simp; omega))
    have D142 := Lib.hid (show ∀ b ∈ F38, b ∉ F132 from fun b hb he => by have h1 := (O37.out.in b hb).2; have h2 := (ho.in b he).1; first | omega | (revert h1 h2; simp; done) | (revert h1 h2; simp; omega))
    have D143 := Lib.hid (show ∀ b ∈ F132, b ∉ F38 from fun b he hb => by have h1 := (O37.out.in b hb).2; have h2 := (ho.in b he).1; first | omega | (revert h1 h2; simp; done) | (revert h1 h2; simp; omega))
    have D144 := Lib.hid (show ∀ b ∈ F52, b ∉ F132 from fun b hb he => by have h1 := (O51.out.in b hb).2; have h2 := (ho.in b he).1; first | omega | (revert h1 h2; simp; done) | (revert h1 h2; simp; omega))
    have D145 := Lib.hid (show ∀ b ∈ F132, b ∉ F52 from fun b he hb => by have h1 := (O51.out.in b hb).2; have h2 := (ho.in b he).1; first | omega | (revert h1 h2; simp; done) | (revert h1 h2; simp; omega))
    have D146 := Lib.hid (show ∀ b ∈ F68, b ∉ F132 from fun b hb he => by have h1 := (O67.out.in b hb).2; have h2 := (ho.in b he).1; first | omega | (revert h1 h2; simp; done) | (revert h1 h2; simp; omega))
    have D147 := Lib.hid (show ∀ b ∈ F132, b ∉ F68 from fun b he hb => by have h1 := (O67.out.in b hb).2; have h2 := (ho.in b he).1; first | omega | (revert h1 h2; simp; done) | (revert h1 h2; simp; omega))
    have D148 := Lib.hid (show ∀ b ∈ F91, b ∉ F132 from fun b hb he => by have h1 := (O90.out.in b hb).2; have h2 := (ho.in b he).1; first | omega | (revert h1 h2; simp; done) | (revert h1 h2; simp; omega))
    have D149 := Lib.hid (show ∀ b ∈ F132, b ∉ F91 from fun b he hb => by have h1 := (O90.out.in b hb).2; have h2 := (ho.in b he).1; first | omega | (revert h1 h2; simp; done) | (revert h1 h2; simp; omega))
    have D150 := Lib.hid (show ∀ b ∈ F110, b ∉ F132 from fun b hb he => by have h1 := (O109.out.in b hb).2; have h2 := (ho.in b he).1; first | omega | (revert h1 h2; simp; done) | (revert h1 h2; simp; omega))
    have D151 := Lib.hid (show ∀ b ∈ F132, b ∉ F110 from fun b he hb => by have h1 := (O109.out.in b hb).2; have h2 := (ho.in b he).1; first | omega | (revert h1 h2; simp; done) | (revert h1 h2; simp; omega))
    have D152 := Lib.hid (show w.heap.size ∉ F132 from fun he => by have h1 := (show Blk v16 _ _ _ from B0.out).lt; have h2 := (ho.in _ he).1; first | omega | (revert h1 h2; simp; done) | (revert h1 h2; simp; omega))
    have HB := Lib.hid hb
    have hbs := hb.size
    have HBS := Lib.hid hbs; clear hbs
    have X := Lib.hid (B0.out.below hb); clear B0
    have B0 := Lib.hid X.out; clear X
    have X := Lib.hid (show Below w.heap.size w v17 from BW.out.trans (hb.mono BW.out.size)); clear BW
    have BW := Lib.hid X.out; clear X
    have X := Lib.hid (O3.out.below hb); clear O3
    have O3 := Lib.hid X.out; clear X
    have X := Lib.hid (O8.out.below hb); clear O8
    have O8 := Lib.hid X.out; clear X
    have X := Lib.hid (O16.out.below hb); clear O16
    have O16 := Lib.hid X.out; clear X
    have X := Lib.hid (O26.out.below hb); clear O26
    have O26 := Lib.hid X.out; clear X
    have X := Lib.hid (O37.out.below hb); clear O37
    have O37 := Lib.hid X.out; clear X
    have X := Lib.hid (O51.out.below hb); clear O51
    have O51 := Lib.hid X.out; clear X
    have X := Lib.hid (O67.out.below hb); clear O67
    have O67 := Lib.hid X.out; clear X
    have X := Lib.hid (O90.out.below hb); clear O90
    have O90 := Lib.hid X.out; clear X
    have X := Lib.hid (O109.out.below hb); clear O109
    have O109 := Lib.hid X.out; clear X
    clear hb
    have O131 := Lib.hid (Own.mono ho (show w.heap.size ≤ _ from HSZ.out)); clear ho HBS
    clear HSZ
    go_wp2
    refine ⟨Ext.of_below HB.out, ?_⟩
    clear HB
    refine wpX_quiet rfl (by kernel_rfl) rfl ?_; go_wp2; refine ⟨rfl, ?_⟩
    refine wpX_nil ?_
    try simp only [List.drop_succ_cons, List.drop_zero]
    go_wp2_with (first | ((with_reducible show wpList _ _ _ ({ dst := _, op := Op.load 23 _, type := _, pos := _, after := _, guard := _ } :: _) _ _); refine wpList_load_row _ ⟨w.heap.size, 0, none⟩ rfl cs1 agg_lId HL1.out (blk_cells B0.out) ?_) | ((with_reducible show wpList _ _ _ ({ dst := _, op := Op.load 23 _, type := _, pos := _, after := _, guard := _ } :: _) _ _); refine wpList_load_row_g _ (by first | rfl | kernel_rfl) ⟨w.heap.size, 0, none⟩ rfl cs1 agg_lId HL1.out (blk_cells B0.out) ?_) | fail)
    have HSZ := Lib.hid BW.out.size
    refine (eqIdS_any r0 A'129 A'14 r0.length c'130 c'15 _ rfl (by first | omega | (have := HWT.out; omega)) O131.out.repAny O16.out.repAny).mono ?_; rintro e v18 ⟨rfl, hb⟩
    have X := Lib.hid (B0.out.below hb); clear B0
    have B0 := Lib.hid X.out; clear X
    have X := Lib.hid (show Below w.heap.size w v18 from BW.out.trans (hb.mono BW.out.size)); clear BW
    have BW := Lib.hid X.out; clear X
    have X := Lib.hid (O3.out.below hb); clear O3
    have O3 := Lib.hid X.out; clear X
    have X := Lib.hid (O8.out.below hb); clear O8
    have O8 := Lib.hid X.out; clear X
    have X := Lib.hid (O16.out.below hb); clear O16
    have O16 := Lib.hid X.out; clear X
    have X := Lib.hid (O26.out.below hb); clear O26
    have O26 := Lib.hid X.out; clear X
    have X := Lib.hid (O37.out.below hb); clear O37
    have O37 := Lib.hid X.out; clear X
    have X := Lib.hid (O51.out.below hb); clear O51
    have O51 := Lib.hid X.out; clear X
    have X := Lib.hid (O67.out.below hb); clear O67
    have O67 := Lib.hid X.out; clear X
    have X := Lib.hid (O90.out.below hb); clear O90
    have O90 := Lib.hid X.out; clear X
    have X := Lib.hid (O109.out.below hb); clear O109
    have O109 := Lib.hid X.out; clear X
    have X := Lib.hid (O131.out.below hb); clear O131
    have O131 := Lib.hid X.out; clear X
    clear hb
    clear HSZ
    go_wp2_with (first | ((with_reducible show wpList _ _ _ ({ dst := _, op := Op.load 23 _, type := _, pos := _, after := _, guard := _ } :: _) _ _); refine wpList_load_row _ ⟨w.heap.size, 0, none⟩ rfl cs1 agg_lId HL1.out (blk_cells B0.out) ?_) | ((with_reducible show wpList _ _ _ ({ dst := _, op := Op.load 23 _, type := _, pos := _, after := _, guard := _ } :: _) _ _); refine wpList_load_row_g _ (by first | rfl | kernel_rfl) ⟨w.heap.size, 0, none⟩ rfl cs1 agg_lId HL1.out (blk_cells B0.out) ?_) | fail)
    have HSZ := Lib.hid BW.out.size
    refine (heldIdS_any r0 (1) _ A'49 r0.length c'50 _ rfl (by first | rfl | omega) (by omega) (by first | omega | (have := HCN.out; omega)) O51.out.repAny).mono ?_; rintro e v19 ⟨q153, rfl, hq, hb⟩
    have hq1 : q85 = q153 := (hq.trans HY86.out.symm).symm
    subst hq1
    clear hq
    have X := Lib.hid (B0.out.below hb); clear B0
    have B0 := Lib.hid X.out; clear X
    have X := Lib.hid (show Below w.heap.size w v19 from BW.out.trans (hb.mono BW.out.size)); clear BW
    have BW := Lib.hid X.out; clear X
    have X := Lib.hid (O3.out.below hb); clear O3
    have O3 := Lib.hid X.out; clear X
    have X := Lib.hid (O8.out.below hb); clear O8
    have O8 := Lib.hid X.out; clear X
    have X := Lib.hid (O16.out.below hb); clear O16
    have O16 := Lib.hid X.out; clear X
    have X := Lib.hid (O26.out.below hb); clear O26
    have O26 := Lib.hid X.out; clear X
    have X := Lib.hid (O37.out.below hb); clear O37
    have O37 := Lib.hid X.out; clear X
    have X := Lib.hid (O51.out.below hb); clear O51
    have O51 := Lib.hid X.out; clear X
    have X := Lib.hid (O67.out.below hb); clear O67
    have O67 := Lib.hid X.out; clear X
    have X := Lib.hid (O90.out.below hb); clear O90
    have O90 := Lib.hid X.out; clear X
    have X := Lib.hid (O109.out.below hb); clear O109
    have O109 := Lib.hid X.out; clear X
    have X := Lib.hid (O131.out.below hb); clear O131
    have O131 := Lib.hid X.out; clear X
    clear hb
    clear HSZ
    go_wp2
    go_ret
    exact ⟨ret_eq (by first | rfl | simp), BW.out⟩
  · skip
    go_enter Try.func12, Try.ntmps12
    go_wp2_with (first | ((with_reducible show wpList _ _ _ ({ dst := _, op := Op.load 23 _, type := _, pos := _, after := _, guard := _ } :: _) _ _); refine wpList_load_row _ ⟨w.heap.size, 0, none⟩ rfl cs1 agg_lId HL1.out (blk_cells (blk_new _ _ _)) ?_) | ((with_reducible show wpList _ _ _ ({ dst := _, op := Op.load 23 _, type := _, pos := _, after := _, guard := _ } :: _) _ _); refine wpList_load_row_g _ (by first | rfl | kernel_rfl) ⟨w.heap.size, 0, none⟩ rfl cs1 agg_lId HL1.out (blk_cells (blk_new _ _ _)) ?_) | fail)
    refine (szInstS_no x0 _ A0 n0 c0 _ HN0.out (by omega) (by omega) hm0 OK0.out (RA0.out.below (by repeat' (first | with_reducible exact Below.refl _ _ | with_reducible refine Below.alloc ?_ ?_ _ | (simp; done) | (simp; omega) | omega))) (by omega)).mono ?_; rintro e v1 ⟨rfl, hb⟩
    have B0 := Lib.hid (Blk.below (blk_new _ _ _) hb)
    have BW := Lib.hid (show Below w.heap.size w v1 from Below.trans (by repeat' (first | with_reducible exact Below.refl _ _ | with_reducible refine Below.alloc ?_ ?_ _ | (simp; done) | (simp; omega) | omega)) (hb.mono (by first | (simp; done) | (simp; omega) | omega)))
    clear hb
    go_wp2
    go_ret
    exact ⟨ret_eq (by first | rfl | simp), BW.out⟩
set_option maxRecDepth 100000 in
theorem FnExactReach_lifted (os : Os) (started : os.Started) (H : Type) (enc : TypeId × Value → H) :
    ReturnsInHanded {} Try.checked os 12 .any (Rows.fnExactReachSpec.pre6 enc Try.prog Try.f12 Rows.fnExactReachRow.domain false) (Rows.fnExactReachSpec.post enc Try.prog Try.f12 false true false false) := by
  refine returnsInHanded_of_change (C := Try.checked) own started (by kernel_rfl) Try.func12
    (ChangeSpec.witness6 (enc := enc) (C := Try.checked) false ⟨#[], #[.slice none 0 0, .agg #[.int .i64 0, .int .i64 0]], []⟩ 8 (by kernel_rfl) (by kernel_rfl) (by kernel_rfl) (by kernel_rfl)) ?_
  intro W base args ds gs before hval0 hW _ _
  have hval : ∀ (j : Nat) t v, Try.f12.params[j]? = some t → args[j]? = some v → Value.okWide Try.prog W .any base t v := hval0
  have hW' := hW
  obtain ⟨p, q, hA0, hV, rfl, hfz, hnd⟩ := hW
  have hA : DataW.TrodAll enc Try.prog W 0 (fun _ => true) true Try.f12.params.toList args.toList ds p := hA0
  rw [Try.params12] at hA hval
  obtain ⟨v0, vs0, d0, ds0, p0, q0, hargs, rfl, rfl, h0, r0⟩ := trodAll_cons hA
  obtain ⟨v1, vs1, d1, ds1, p1, q1, rfl, rfl, rfl, h1, r1⟩ := trodAll_cons r0
  obtain ⟨rfl, rfl, rfl⟩ := trodAll_nil r1
  obtain rfl : args = #[v0, v1] := Array.ext' hargs
  obtain ⟨x0, A0, n0, c0, rfl, hn0, hm0, ok0, rp0⟩ := openV_InstS (hval 0 46 v0 rfl rfl) h0
  obtain ⟨x1, cs1, rfl, ok1, rp1⟩ := openV_Id (hval 1 23 v1 rfl rfl) h1
  refine (lReach_all x0 A0 n0 c0 x1 cs1 W hn0 hm0 ok0 rp0 ok1 rp1).mono fun e W' ⟨he, hb⟩ => ?_
  subst he
  refine ⟨_, rfl, law_post (tb := 4) laidOut (by kernel_rfl) rfl Try.underlying4 rfl ?_ hW' hb⟩
  intro ds hl
  rw [Try.params12] at hl
  match ds, hl with
  | [_, _], _ => rfl
theorem FnExactReach_holds : Rows.FnExactReachSaid :=
  OpenClaim.holds_of_wide 12 Try.f12 rfl rfl rfl rfl rfl rfl rfl ⟨rfl, rfl, rfl, rfl, rfl⟩ rfl rfl rfl rfl rfl (by kernel_rfl) Try.func12 (by kernel_rfl)
    (of_decide_eq_true (by kernel_rfl)) (by unfold Func.isWrapper; first | (rw [if_pos (by decide +kernel)]; kernel_rfl) | (rw [if_neg (by decide +kernel)]; exact ⟨rfl, rfl⟩))
    (fun os started H enc _ => FnExactReach_lifted os started H enc)
end Go.Proofs.Ytbdblfpepnoafaa
