/-
  The law on AttrsOf holds for all arguments. No condition.
-/
import Derived.Test.YtbdblfpepnoafaaEq
import Derived.Test.YtbdblfpepnoafaaOpen
import Derived.Test.YtbdblfpepnoafaaAttrsI
import Derived.Test.YtbdblfpepnoafaaInstAtI
import Derived.Test.YtbdblfpepnoafaaCntC
import Derived.Test.YtbdblfpepnoafaaMkB
namespace Go.Proofs.Ytbdblfpepnoafaa
open Go.RowKit Go.ChangeShapes Go.WideShapes Go.ChangeAt
open Go.ChangeMaps (open_string)

attribute [local irreducible] markL marks mks cts CmdD.mkT CmdD.cntT IdD.mkT IdD.cntT
set_option maxRecDepth 100000 in
set_option maxHeartbeats 4000000 in
theorem lAttrsOf_all (x0 : List InstD) (A0 : Option Addr) (n0 c0 : Nat) (x1 : IdD) (cs1 : List Value) (x2 : CmdD) (cs2 : List Value) (w : World) (hn0 : n0 = x0.length) (hm0 : n0 ≤ 9223372036854775807) (hok0 : (cat InstD.c x0).ok) (h0 : Rep anyB w (.sl 49 16 n0 (cat InstD.c x0) .nil) [.slice A0 n0 c0]) (hok1 : x1.c.ok) (h1 : Rep anyB w x1.c cs1) (hok2 : x2.c.ok) (h2 : Rep anyB w x2.c cs2) :
    Calls Try.prog 10 #[.slice A0 n0 c0, .agg cs1.toArray, .agg cs2.toArray] w fun e w' => e = .returned (.bool true) ∧ Below w.heap.size w w' := by
  have HN0 := Lib.hid hn0; clear hn0
  have OK0 := Lib.hid hok0; clear hok0
  have RA0 := Lib.hid h0; clear h0
  have HL1 := Lib.hid (show cs1.length = 2 from h1.length.trans (IdD.width x1))
  have OK1 := Lib.hid hok1; clear hok1
  have A1 := Lib.hid h1; clear h1
  have HL2 := Lib.hid (show cs2.length = 8 from h2.length.trans (CmdD.width x2))
  have OK2 := Lib.hid hok2; clear hok2
  have A2 := Lib.hid h2; clear h2
  by_cases cc0 : (((n0 + (cat InstD.c x0).wt) : Nat) : Int) ≤ 1048576
  · skip
    by_cases cc1 : ((x2.c.wt : Nat) : Int) ≤ 1048576 - (((n0 + (cat InstD.c x0).wt) : Nat) : Int)
    · skip
      have hs := fun B0 C0 ds1 ds2 W g0 g1 g2 => sAttrsOf_any x0 x1 x2 B0 n0 C0 ds1 ds2 W HN0.out (by omega) (Nat.zero_le _) (by omega) g0 g1 g2
      have hi := fun B0 C0 ds1 ds2 W g0 g1 g2 => iAttrsOf_any x0 x1 x2 B0 n0 C0 ds1 ds2 W HN0.out (by omega) (Nat.zero_le _) (by omega) g0 g1 g2
      have hbd := bAttrsOf x0 x1 x2 (by have := HN0.out; omega) (Nat.zero_le _) (by omega)
      generalize fAttrsOf x0 x1 x2 = U at hs hi hbd
      obtain ⟨r0, r1⟩ := U
      simp only [] at hs hi hbd
      have Hs := Lib.hid hs; clear hs
      have Hi := Lib.hid hi; clear hi
      obtain ⟨hwt0, hcn0⟩ := hbd
      have HWT := Lib.hid hwt0
      have HCN := Lib.hid hcn0
      clear hwt0 hcn0
      have HCX0 := Lib.hid (InstD.cts_le x0)
      have HCX2 := Lib.hid (CmdD.cntT_le x2)
      go_enter Try.func10, Try.ntmps10
      go_wp2_with (first | ((with_reducible show wpList _ _ _ ({ dst := _, op := Op.load 23 _, type := _, pos := _, after := _, guard := _ } :: _) _ _); refine wpList_load_row _ ⟨w.heap.size, 0, none⟩ rfl cs1 agg_lId HL1.out (blk_cells (blk2_0 _ _ _ _)) ?_) | ((with_reducible show wpList _ _ _ ({ dst := _, op := Op.load 23 _, type := _, pos := _, after := _, guard := _ } :: _) _ _); refine wpList_load_row_g _ (by first | rfl | kernel_rfl) ⟨w.heap.size, 0, none⟩ rfl cs1 agg_lId HL1.out (blk_cells (blk2_0 _ _ _ _)) ?_) | ((with_reducible show wpList _ _ _ ({ dst := _, op := Op.load 26 _, type := _, pos := _, after := _, guard := _ } :: _) _ _); refine wpList_load_row _ ⟨w.heap.size + 1, 0, none⟩ rfl cs2 agg_lCmd HL2.out (blk_cells (blk2_1 _ _ _ _)) ?_) | ((with_reducible show wpList _ _ _ ({ dst := _, op := Op.load 26 _, type := _, pos := _, after := _, guard := _ } :: _) _ _); refine wpList_load_row_g _ (by first | rfl | kernel_rfl) ⟨w.heap.size + 1, 0, none⟩ rfl cs2 agg_lCmd HL2.out (blk_cells (blk2_1 _ _ _ _)) ?_) | fail)
      refine (szInstS_yes x0 _ A0 n0 c0 _ HN0.out (by omega) (by omega) hm0 OK0.out (RA0.out.below (by repeat' (first | with_reducible exact Below.refl _ _ | with_reducible refine Below.alloc ?_ ?_ _ | (simp; done) | (simp; omega) | omega))) (by omega)).mono ?_; rintro e v1 ⟨q0, rfl, ⟨g0a, g0b⟩, hq, hb⟩
      have HQ0 := Lib.hid hq; clear hq
      have B0 := Lib.hid (Blk.below (blk2_0 _ _ _ _) hb)
      have B1 := Lib.hid (Blk.below (blk2_1 _ _ _ _) hb)
      have BW := Lib.hid (show Below w.heap.size w v1 from Below.trans (by repeat' (first | with_reducible exact Below.refl _ _ | with_reducible refine Below.alloc ?_ ?_ _ | (simp; done) | (simp; omega) | omega)) (hb.mono (by first | (simp; done) | (simp; omega) | omega)))
      clear hb
      go_wp2_with (first | ((with_reducible show wpList _ _ _ ({ dst := _, op := Op.load 23 _, type := _, pos := _, after := _, guard := _ } :: _) _ _); refine wpList_load_row _ ⟨w.heap.size, 0, none⟩ rfl cs1 agg_lId HL1.out (blk_cells B0.out) ?_) | ((with_reducible show wpList _ _ _ ({ dst := _, op := Op.load 23 _, type := _, pos := _, after := _, guard := _ } :: _) _ _); refine wpList_load_row_g _ (by first | rfl | kernel_rfl) ⟨w.heap.size, 0, none⟩ rfl cs1 agg_lId HL1.out (blk_cells B0.out) ?_) | ((with_reducible show wpList _ _ _ ({ dst := _, op := Op.load 26 _, type := _, pos := _, after := _, guard := _ } :: _) _ _); refine wpList_load_row _ ⟨w.heap.size + 1, 0, none⟩ rfl cs2 agg_lCmd HL2.out (blk_cells B1.out) ?_) | ((with_reducible show wpList _ _ _ ({ dst := _, op := Op.load 26 _, type := _, pos := _, after := _, guard := _ } :: _) _ _); refine wpList_load_row_g _ (by first | rfl | kernel_rfl) ⟨w.heap.size + 1, 0, none⟩ rfl cs2 agg_lCmd HL2.out (blk_cells B1.out) ?_) | fail)
      have HSZ := Lib.hid BW.out.size
      refine (szCmd_yes x2 _ cs2 _ (by omega) (by omega) OK2.out (A2.out.below BW.out) (by have := HQ0.out; omega)).mono ?_; rintro e v2 ⟨q1, rfl, ⟨g1a, g1b⟩, hq, hb⟩
      have HQ1 := Lib.hid hq; clear hq
      have X := Lib.hid (B0.out.below hb); clear B0
      have B0 := Lib.hid X.out; clear X
      have X := Lib.hid (B1.out.below hb); clear B1
      have B1 := Lib.hid X.out; clear X
      have X := Lib.hid (show Below w.heap.size w v2 from BW.out.trans (hb.mono BW.out.size)); clear BW
      have BW := Lib.hid X.out; clear X
      clear hb
      clear HSZ
      go_wp2
      refine wp_region_x 12 [0, 2, 4, 1, 3, 5, 6, 7, 8, 9, 10, 11] (by kernel_rfl) (by kernel_rfl) ?_
      refine wpX_quiet rfl (by kernel_rfl) rfl ?_; go_wp2; refine ⟨rfl, ?_⟩
      refine wpX_quiet rfl (by kernel_rfl) rfl ?_; go_wp2_with (first | (refine wpList_load_row _ ⟨w.heap.size, 0, none⟩ rfl cs1 agg_lId HL1.out (blk_cells B0.out.drew) ?_) | (refine wpList_load_row _ ⟨w.heap.size + 1, 0, none⟩ rfl cs2 agg_lCmd HL2.out (blk_cells B1.out.drew) ?_) | fail); refine ⟨rfl, ?_⟩
      refine wpX_quiet rfl (by kernel_rfl) rfl ?_; go_wp2_with (first | (refine wpList_load_row _ ⟨w.heap.size, 0, none⟩ rfl cs1 agg_lId HL1.out (blk_cells B0.out.drew) ?_) | (refine wpList_load_row _ ⟨w.heap.size + 1, 0, none⟩ rfl cs2 agg_lCmd HL2.out (blk_cells B1.out.drew) ?_) | fail); refine ⟨rfl, ?_⟩
      refine wpX_actor rfl (by kernel_rfl) ?_
      go_wp2_with fail
      have HSZ := Lib.hid BW.out.size
      refine (toInstS_any x0 A0 n0 c0 _ HN0.out (by omega) ((RA0.out.below BW.out).drew)).mono ?_; rintro e v3 ⟨A'1, c'2, rfl, hM, hb⟩
      obtain ⟨F4, hnd, ho⟩ := hM
      have N5 := Lib.hid hnd; clear hnd
      have D6 := Lib.hid (show w.heap.size ∉ F4 from fun he => by have h1 := (show Blk v2 _ _ _ from B0.out).lt; have h2 := (ho.in _ he).1; first | omega | (revert h1 h2; simp; done) | (revert h1 h2; simp; omega))
      have D7 := Lib.hid (show w.heap.size + 1 ∉ F4 from fun he => by have h1 := (show Blk v2 _ _ _ from B1.out).lt; have h2 := (ho.in _ he).1; first | omega | (revert h1 h2; simp; done) | (revert h1 h2; simp; omega))
      have HB := Lib.hid hb
      have hb2 := below_drewL hb; clear hb
      have hb := hb2; clear hb2
      have hbs := hb.size
      have HBS := Lib.hid hbs; clear hbs
      have X := Lib.hid (B0.out.below hb); clear B0
      have B0 := Lib.hid X.out; clear X
      have X := Lib.hid (B1.out.below hb); clear B1
      have B1 := Lib.hid X.out; clear X
      have X := Lib.hid (show Below w.heap.size w v3 from BW.out.trans (hb.mono BW.out.size)); clear BW
      have BW := Lib.hid X.out; clear X
      clear hb
      have O3 := Lib.hid (Own.mono ho (show w.heap.size ≤ _ from HSZ.out)); clear ho HBS
      clear HSZ
      go_wp2
      refine ⟨Ext.of_below HB.out, ?_⟩
      clear HB
      refine wpX_actor rfl (by kernel_rfl) ?_
      go_wp2_with fail
      have HSZ := Lib.hid BW.out.size
      refine (toId_any x1 cs1 _ (by exact Nat.zero_le _) (A1.out.below BW.out)).mono ?_; rintro e v4 ⟨cs'8, rfl, hM, hb⟩
      have Lcs8 := Lib.hid (show cs'8.length = 2 from hM.rep.length.trans (IdD.width _))
      obtain ⟨F10, hnd, ho⟩ := hM
      have N11 := Lib.hid hnd; clear hnd
      have D12 := Lib.hid (show ∀ b ∈ F4, b ∉ F10 from fun b hb he => by have h1 := (O3.out.in b hb).2; have h2 := (ho.in b he).1; first | omega | (revert h1 h2; simp; done) | (revert h1 h2; simp; omega))
      have D13 := Lib.hid (show ∀ b ∈ F10, b ∉ F4 from fun b he hb => by have h1 := (O3.out.in b hb).2; have h2 := (ho.in b he).1; first | omega | (revert h1 h2; simp; done) | (revert h1 h2; simp; omega))
      have D14 := Lib.hid (show w.heap.size ∉ F10 from fun he => by have h1 := (show Blk v3 _ _ _ from B0.out).lt; have h2 := (ho.in _ he).1; first | omega | (revert h1 h2; simp; done) | (revert h1 h2; simp; omega))
      have D15 := Lib.hid (show w.heap.size + 1 ∉ F10 from fun he => by have h1 := (show Blk v3 _ _ _ from B1.out).lt; have h2 := (ho.in _ he).1; first | omega | (revert h1 h2; simp; done) | (revert h1 h2; simp; omega))
      have HB := Lib.hid hb
      have hbs := hb.size
      have HBS := Lib.hid hbs; clear hbs
      have X := Lib.hid (B0.out.below hb); clear B0
      have B0 := Lib.hid X.out; clear X
      have X := Lib.hid (B1.out.below hb); clear B1
      have B1 := Lib.hid X.out; clear X
      have X := Lib.hid (show Below w.heap.size w v4 from BW.out.trans (hb.mono BW.out.size)); clear BW
      have BW := Lib.hid X.out; clear X
      have X := Lib.hid (O3.out.below hb); clear O3
      have O3 := Lib.hid X.out; clear X
      clear hb
      have O9 := Lib.hid (Own.mono ho (show w.heap.size ≤ _ from HSZ.out)); clear ho HBS
      clear HSZ
      go_wp2
      refine ⟨Ext.of_below HB.out, ?_⟩
      clear HB
      refine wpX_actor rfl (by kernel_rfl) ?_
      go_wp2_with fail
      have HSZ := Lib.hid BW.out.size
      refine (toCmd_any x2 cs2 _ (by omega) (A2.out.below BW.out)).mono ?_; rintro e v5 ⟨cs'16, rfl, hM, hb⟩
      have Lcs16 := Lib.hid (show cs'16.length = 8 from hM.rep.length.trans (CmdD.width _))
      obtain ⟨F18, hnd, ho⟩ := hM
      have N19 := Lib.hid hnd; clear hnd
      have D20 := Lib.hid (show ∀ b ∈ F4, b ∉ F18 from fun b hb he => by have h1 := (O3.out.in b hb).2; have h2 := (ho.in b he).1; first | omega | (revert h1 h2; simp; done) | (revert h1 h2; simp; omega))
      have D21 := Lib.hid (show ∀ b ∈ F18, b ∉ F4 from fun b he hb => by have h1 := (O3.out.in b hb).2; have h2 := (ho.in b he).1; first | omega | (revert h1 h2; simp; done) | (revert h1 h2; simp; omega))
      have D22 := Lib.hid (show ∀ b ∈ F10, b ∉ F18 from fun b hb he => by have h1 := (O9.out.in b hb).2; have h2 := (ho.in b he).1; first | omega | (revert h1 h2; simp; done) | (revert h1 h2; simp; omega))
      have D23 := Lib.hid (show ∀ b ∈ F18, b ∉ F10 from fun b he hb => by have h1 := (O9.out.in b hb).2; have h2 := (ho.in b he).1; first | omega | (revert h1 h2; simp; done) | (revert h1 h2; simp; omega))
      have D24 := Lib.hid (show w.heap.size ∉ F18 from fun he => by have h1 := (show Blk v4 _ _ _ from B0.out).lt; have h2 := (ho.in _ he).1; first | omega | (revert h1 h2; simp; done) | (revert h1 h2; simp; omega))
      have D25 := Lib.hid (show w.heap.size + 1 ∉ F18 from fun he => by have h1 := (show Blk v4 _ _ _ from B1.out).lt; have h2 := (ho.in _ he).1; first | omega | (revert h1 h2; simp; done) | (revert h1 h2; simp; omega))
      have HB := Lib.hid hb
      have hbs := hb.size
      have HBS := Lib.hid hbs; clear hbs
      have X := Lib.hid (B0.out.below hb); clear B0
      have B0 := Lib.hid X.out; clear X
      have X := Lib.hid (B1.out.below hb); clear B1
      have B1 := Lib.hid X.out; clear X
      have X := Lib.hid (show Below w.heap.size w v5 from BW.out.trans (hb.mono BW.out.size)); clear BW
      have BW := Lib.hid X.out; clear X
      have X := Lib.hid (O3.out.below hb); clear O3
      have O3 := Lib.hid X.out; clear X
      have X := Lib.hid (O9.out.below hb); clear O9
      have O9 := Lib.hid X.out; clear X
      clear hb
      have O17 := Lib.hid (Own.mono ho (show w.heap.size ≤ _ from HSZ.out)); clear ho HBS
      clear HSZ
      go_wp2
      refine ⟨Ext.of_below HB.out, ?_⟩
      clear HB
      refine wpX_actor rfl (by kernel_rfl) ?_
      go_wp2_with fail
      have HSZ := Lib.hid BW.out.size
      refine (Hs.out A'1 c'2 cs'8 cs'16 _ O3.out.repAny O9.out.repAny O17.out.repAny).mono ?_; rintro e v6 ⟨A'26, _, c'27, rfl, rfl, hM1, hb⟩
      obtain ⟨F29, hnd, ho⟩ := hM1
      have N30 := Lib.hid hnd; clear hnd
      have D31 := Lib.hid (show ∀ b ∈ F4, b ∉ F29 from fun b hb he => by have h1 := (O3.out.in b hb).2; have h2 := (ho.in b he).1; first | omega | (revert h1 h2; simp; done) | (revert h1 h2; simp; omega))
      have D32 := Lib.hid (show ∀ b ∈ F29, b ∉ F4 from fun b he hb => by have h1 := (O3.out.in b hb).2; have h2 := (ho.in b he).1; first | omega | (revert h1 h2; simp; done) | (revert h1 h2; simp; omega))
      have D33 := Lib.hid (show ∀ b ∈ F10, b ∉ F29 from fun b hb he => by have h1 := (O9.out.in b hb).2; have h2 := (ho.in b he).1; first | omega | (revert h1 h2; simp; done) | (revert h1 h2; simp; omega))
      have D34 := Lib.hid (show ∀ b ∈ F29, b ∉ F10 from fun b he hb => by have h1 := (O9.out.in b hb).2; have h2 := (ho.in b he).1; first | omega | (revert h1 h2; simp; done) | (revert h1 h2; simp; omega))
      have D35 := Lib.hid (show ∀ b ∈ F18, b ∉ F29 from fun b hb he => by have h1 := (O17.out.in b hb).2; have h2 := (ho.in b he).1; first | omega | (revert h1 h2; simp; done) | (revert h1 h2; simp; omega))
      have D36 := Lib.hid (show ∀ b ∈ F29, b ∉ F18 from fun b he hb => by have h1 := (O17.out.in b hb).2; have h2 := (ho.in b he).1; first | omega | (revert h1 h2; simp; done) | (revert h1 h2; simp; omega))
      have D37 := Lib.hid (show w.heap.size ∉ F29 from fun he => by have h1 := (show Blk v5 _ _ _ from B0.out).lt; have h2 := (ho.in _ he).1; first | omega | (revert h1 h2; simp; done) | (revert h1 h2; simp; omega))
      have D38 := Lib.hid (show w.heap.size + 1 ∉ F29 from fun he => by have h1 := (show Blk v5 _ _ _ from B1.out).lt; have h2 := (ho.in _ he).1; first | omega | (revert h1 h2; simp; done) | (revert h1 h2; simp; omega))
      have HB := Lib.hid hb
      have hbs := hb.size
      have HBS := Lib.hid hbs; clear hbs
      have X := Lib.hid (B0.out.below hb); clear B0
      have B0 := Lib.hid X.out; clear X
      have X := Lib.hid (B1.out.below hb); clear B1
      have B1 := Lib.hid X.out; clear X
      have X := Lib.hid (show Below w.heap.size w v6 from BW.out.trans (hb.mono BW.out.size)); clear BW
      have BW := Lib.hid X.out; clear X
      have X := Lib.hid (O3.out.below hb); clear O3
      have O3 := Lib.hid X.out; clear X
      have X := Lib.hid (O9.out.below hb); clear O9
      have O9 := Lib.hid X.out; clear X
      have X := Lib.hid (O17.out.below hb); clear O17
      have O17 := Lib.hid X.out; clear X
      clear hb
      have O28 := Lib.hid (Own.mono ho (show w.heap.size ≤ _ from HSZ.out)); clear ho HBS
      clear HSZ
      go_wp2
      refine ⟨Ext.of_below HB.out, ?_⟩
      clear HB
      refine wpX_quiet rfl (by kernel_rfl) rfl ?_; go_wp2; refine ⟨rfl, ?_⟩
      refine wpX_quiet rfl (by kernel_rfl) rfl ?_; go_wp2; refine ⟨rfl, ?_⟩
      refine wpX_quiet rfl (by kernel_rfl) rfl ?_; go_wp2; refine ⟨rfl, ?_⟩
      refine wpX_quiet rfl (by kernel_rfl) rfl ?_; go_wp2; refine ⟨rfl, ?_⟩
      refine wpX_quiet rfl (by kernel_rfl) rfl ?_; go_wp2; refine ⟨rfl, ?_⟩
      refine wpX_nil ?_
      try simp only [List.drop_succ_cons, List.drop_zero]
      go_wp2_with (first | ((with_reducible show wpList _ _ _ ({ dst := _, op := Op.load 23 _, type := _, pos := _, after := _, guard := _ } :: _) _ _); refine wpList_load_row _ ⟨w.heap.size, 0, none⟩ rfl cs1 agg_lId HL1.out (blk_cells B0.out) ?_) | ((with_reducible show wpList _ _ _ ({ dst := _, op := Op.load 23 _, type := _, pos := _, after := _, guard := _ } :: _) _ _); refine wpList_load_row_g _ (by first | rfl | kernel_rfl) ⟨w.heap.size, 0, none⟩ rfl cs1 agg_lId HL1.out (blk_cells B0.out) ?_) | ((with_reducible show wpList _ _ _ ({ dst := _, op := Op.load 26 _, type := _, pos := _, after := _, guard := _ } :: _) _ _); refine wpList_load_row _ ⟨w.heap.size + 1, 0, none⟩ rfl cs2 agg_lCmd HL2.out (blk_cells B1.out) ?_) | ((with_reducible show wpList _ _ _ ({ dst := _, op := Op.load 26 _, type := _, pos := _, after := _, guard := _ } :: _) _ _); refine wpList_load_row_g _ (by first | rfl | kernel_rfl) ⟨w.heap.size + 1, 0, none⟩ rfl cs2 agg_lCmd HL2.out (blk_cells B1.out) ?_) | fail)
      have HSZ := Lib.hid BW.out.size
      refine (toInstS_any x0 A0 n0 c0 _ HN0.out (by omega) (RA0.out.below BW.out)).mono ?_; rintro e v7 ⟨A'39, c'40, rfl, hM, hb⟩
      obtain ⟨F42, hnd, ho⟩ := hM
      have N43 := Lib.hid hnd; clear hnd
      have D44 := Lib.hid (show ∀ b ∈ F4, b ∉ F42 from fun b hb he => by have h1 := (O3.out.in b hb).2; have h2 := (ho.in b he).1; first | omega | (revert h1 h2; simp; done) | (revert h1 h2; simp; omega))
      have D45 := Lib.hid (show ∀ b ∈ F42, b ∉ F4 from fun b he hb => by have h1 := (O3.out.in b hb).2; have h2 := (ho.in b he).1; first | omega | (revert h1 h2; simp; done) | (revert h1 h2; simp; omega))
      have D46 := Lib.hid (show ∀ b ∈ F10, b ∉ F42 from fun b hb he => by have h1 := (O9.out.in b hb).2; have h2 := (ho.in b he).1; first | omega | (revert h1 h2; simp; done) | (revert h1 h2; simp; omega))
      have D47 := Lib.hid (show ∀ b ∈ F42, b ∉ F10 from fun b he hb => by have h1 := (O9.out.in b hb).2; have h2 := (ho.in b he).1; first | omega | (revert h1 h2; simp; done) | (revert h1 h2; simp; omega))
      have D48 := Lib.hid (show ∀ b ∈ F18, b ∉ F42 from fun b hb he => by have h1 := (O17.out.in b hb).2; have h2 := (ho.in b he).1; first | omega | (revert h1 h2; simp; done) | (revert h1 h2; simp; omega))
      have D49 := Lib.hid (show ∀ b ∈ F42, b ∉ F18 from fun b he hb => by have h1 := (O17.out.in b hb).2; have h2 := (ho.in b he).1; first | omega | (revert h1 h2; simp; done) | (revert h1 h2; simp; omega))
      have D50 := Lib.hid (show ∀ b ∈ F29, b ∉ F42 from fun b hb he => by have h1 := (O28.out.in b hb).2; have h2 := (ho.in b he).1; first | omega | (revert h1 h2; simp; done) | (revert h1 h2; simp; omega))
      have D51 := Lib.hid (show ∀ b ∈ F42, b ∉ F29 from fun b he hb => by have h1 := (O28.out.in b hb).2; have h2 := (ho.in b he).1; first | omega | (revert h1 h2; simp; done) | (revert h1 h2; simp; omega))
      have D52 := Lib.hid (show w.heap.size ∉ F42 from fun he => by have h1 := (show Blk v6 _ _ _ from B0.out).lt; have h2 := (ho.in _ he).1; first | omega | (revert h1 h2; simp; done) | (revert h1 h2; simp; omega))
      have D53 := Lib.hid (show w.heap.size + 1 ∉ F42 from fun he => by have h1 := (show Blk v6 _ _ _ from B1.out).lt; have h2 := (ho.in _ he).1; first | omega | (revert h1 h2; simp; done) | (revert h1 h2; simp; omega))
      have hbs := hb.size
      have HBS := Lib.hid hbs; clear hbs
      have X := Lib.hid (B0.out.below hb); clear B0
      have B0 := Lib.hid X.out; clear X
      have X := Lib.hid (B1.out.below hb); clear B1
      have B1 := Lib.hid X.out; clear X
      have X := Lib.hid (show Below w.heap.size w v7 from BW.out.trans (hb.mono BW.out.size)); clear BW
      have BW := Lib.hid X.out; clear X
      have X := Lib.hid (O3.out.below hb); clear O3
      have O3 := Lib.hid X.out; clear X
      have X := Lib.hid (O9.out.below hb); clear O9
      have O9 := Lib.hid X.out; clear X
      have X := Lib.hid (O17.out.below hb); clear O17
      have O17 := Lib.hid X.out; clear X
      have X := Lib.hid (O28.out.below hb); clear O28
      have O28 := Lib.hid X.out; clear X
      clear hb
      have O41 := Lib.hid (Own.mono ho (show w.heap.size ≤ _ from HSZ.out)); clear ho HBS
      clear HSZ
      go_wp2_with (first | ((with_reducible show wpList _ _ _ ({ dst := _, op := Op.load 23 _, type := _, pos := _, after := _, guard := _ } :: _) _ _); refine wpList_load_row _ ⟨w.heap.size, 0, none⟩ rfl cs1 agg_lId HL1.out (blk_cells B0.out) ?_) | ((with_reducible show wpList _ _ _ ({ dst := _, op := Op.load 23 _, type := _, pos := _, after := _, guard := _ } :: _) _ _); refine wpList_load_row_g _ (by first | rfl | kernel_rfl) ⟨w.heap.size, 0, none⟩ rfl cs1 agg_lId HL1.out (blk_cells B0.out) ?_) | ((with_reducible show wpList _ _ _ ({ dst := _, op := Op.load 26 _, type := _, pos := _, after := _, guard := _ } :: _) _ _); refine wpList_load_row _ ⟨w.heap.size + 1, 0, none⟩ rfl cs2 agg_lCmd HL2.out (blk_cells B1.out) ?_) | ((with_reducible show wpList _ _ _ ({ dst := _, op := Op.load 26 _, type := _, pos := _, after := _, guard := _ } :: _) _ _); refine wpList_load_row_g _ (by first | rfl | kernel_rfl) ⟨w.heap.size + 1, 0, none⟩ rfl cs2 agg_lCmd HL2.out (blk_cells B1.out) ?_) | fail)
      have HSZ := Lib.hid BW.out.size
      refine (toCmd_any x2 cs2 _ (by omega) (A2.out.below BW.out)).mono ?_; rintro e v8 ⟨cs'54, rfl, hM, hb⟩
      have Lcs54 := Lib.hid (show cs'54.length = 8 from hM.rep.length.trans (CmdD.width _))
      obtain ⟨F56, hnd, ho⟩ := hM
      have N57 := Lib.hid hnd; clear hnd
      have D58 := Lib.hid (show ∀ b ∈ F4, b ∉ F56 from fun b hb he => by have h1 := (O3.out.in b hb).2; have h2 := (ho.in b he).1; first | omega | (revert h1 h2; simp; done) | (revert h1 h2; simp; omega))
      have D59 := Lib.hid (show ∀ b ∈ F56, b ∉ F4 from fun b he hb => by have h1 := (O3.out.in b hb).2; have h2 := (ho.in b he).1; first | omega | (revert h1 h2; simp; done) | (revert h1 h2; simp; omega))
      have D60 := Lib.hid (show ∀ b ∈ F10, b ∉ F56 from fun b hb he => by have h1 := (O9.out.in b hb).2; have h2 := (ho.in b he).1; first | omega | (revert h1 h2; simp; done) | (revert h1 h2; simp; omega))
      have D61 := Lib.hid (show ∀ b ∈ F56, b ∉ F10 from fun b he hb => by have h1 := (O9.out.in b hb).2; have h2 := (ho.in b he).1; first | omega | (revert h1 h2; simp; done) | (revert h1 h2; simp; omega))
      have D62 := Lib.hid (show ∀ b ∈ F18, b ∉ F56 from fun b hb he => by have h1 := (O17.out.in b hb).2; have h2 := (ho.in b he).1; first | omega | (revert h1 h2; simp; done) | (revert h1 h2; simp; omega))
      have D63 := Lib.hid (show ∀ b ∈ F56, b ∉ F18 from fun b he hb => by have h1 := (O17.out.in b hb).2; have h2 := (ho.in b he).1; first | omega | (revert h1 h2; simp; done) | (revert h1 h2; simp; omega))
      have D64 := Lib.hid (show ∀ b ∈ F29, b ∉ F56 from fun b hb he => by have h1 := (O28.out.in b hb).2; have h2 := (ho.in b he).1; first | omega | (revert h1 h2; simp; done) | (revert h1 h2; simp; omega))
      have D65 := Lib.hid (show ∀ b ∈ F56, b ∉ F29 from fun b he hb => by have h1 := (O28.out.in b hb).2; have h2 := (ho.in b he).1; first | omega | (revert h1 h2; simp; done) | (revert h1 h2; simp; omega))
      have D66 := Lib.hid (show ∀ b ∈ F42, b ∉ F56 from fun b hb he => by have h1 := (O41.out.in b hb).2; have h2 := (ho.in b he).1; first | omega | (revert h1 h2; simp; done) | (revert h1 h2; simp; omega))
      have D67 := Lib.hid (show ∀ b ∈ F56, b ∉ F42 from fun b he hb => by have h1 := (O41.out.in b hb).2; have h2 := (ho.in b he).1; first | omega | (revert h1 h2; simp; done) | (revert h1 h2; simp; omega))
      have D68 := Lib.hid (show w.heap.size ∉ F56 from fun he => by have h1 := (show Blk v7 _ _ _ from B0.out).lt; have h2 := (ho.in _ he).1; first | omega | (revert h1 h2; simp; done) | (revert h1 h2; simp; omega))
      have D69 := Lib.hid (show w.heap.size + 1 ∉ F56 from fun he => by have h1 := (show Blk v7 _ _ _ from B1.out).lt; have h2 := (ho.in _ he).1; first | omega | (revert h1 h2; simp; done) | (revert h1 h2; simp; omega))
      have hbs := hb.size
      have HBS := Lib.hid hbs; clear hbs
      have X := Lib.hid (B0.out.below hb); clear B0
      have B0 := Lib.hid X.out; clear X
      have X := Lib.hid (B1.out.below hb); clear B1
      have B1 := Lib.hid X.out; clear X
      have X := Lib.hid (show Below w.heap.size w v8 from BW.out.trans (hb.mono BW.out.size)); clear BW
      have BW := Lib.hid X.out; clear X
      have X := Lib.hid (O3.out.below hb); clear O3
      have O3 := Lib.hid X.out; clear X
      have X := Lib.hid (O9.out.below hb); clear O9
      have O9 := Lib.hid X.out; clear X
      have X := Lib.hid (O17.out.below hb); clear O17
      have O17 := Lib.hid X.out; clear X
      have X := Lib.hid (O28.out.below hb); clear O28
      have O28 := Lib.hid X.out; clear X
      have X := Lib.hid (O41.out.below hb); clear O41
      have O41 := Lib.hid X.out; clear X
      clear hb
      have O55 := Lib.hid (Own.mono ho (show w.heap.size ≤ _ from HSZ.out)); clear ho HBS
      clear HSZ
      go_wp2_with (first | ((with_reducible show wpList _ _ _ ({ dst := _, op := Op.load 23 _, type := _, pos := _, after := _, guard := _ } :: _) _ _); refine wpList_load_row _ ⟨w.heap.size, 0, none⟩ rfl cs1 agg_lId HL1.out (blk_cells B0.out) ?_) | ((with_reducible show wpList _ _ _ ({ dst := _, op := Op.load 23 _, type := _, pos := _, after := _, guard := _ } :: _) _ _); refine wpList_load_row_g _ (by first | rfl | kernel_rfl) ⟨w.heap.size, 0, none⟩ rfl cs1 agg_lId HL1.out (blk_cells B0.out) ?_) | ((with_reducible show wpList _ _ _ ({ dst := _, op := Op.load 26 _, type := _, pos := _, after := _, guard := _ } :: _) _ _); refine wpList_load_row _ ⟨w.heap.size + 1, 0, none⟩ rfl cs2 agg_lCmd HL2.out (blk_cells B1.out) ?_) | ((with_reducible show wpList _ _ _ ({ dst := _, op := Op.load 26 _, type := _, pos := _, after := _, guard := _ } :: _) _ _); refine wpList_load_row_g _ (by first | rfl | kernel_rfl) ⟨w.heap.size + 1, 0, none⟩ rfl cs2 agg_lCmd HL2.out (blk_cells B1.out) ?_) | ((with_reducible show wpList _ _ _ ({ dst := _, op := Op.load 33 _, type := _, pos := _, after := _, guard := _ } :: _) _ _); refine wpList_load_row _ ⟨World.heap v8 |>.size, 0, none⟩ rfl cs'54 agg_Cmd Lcs54.out (blk_cells XB70.out) ?_) | ((with_reducible show wpList _ _ _ ({ dst := _, op := Op.store 33 _ _, type := _, pos := _, after := _, guard := _ } :: _) _ _); refine wpList_store_row _ (World.heap v8).size 33 0 cs'54 [] [.int .i64 0, .int .i64 0, .int .i64 0, .string ⟨#[]⟩, .string ⟨#[]⟩, .string ⟨#[]⟩, .int .i64 0, .slice none 0 0] [] _ rfl rfl (Lcs54.out ▸ agg_Cmd) (blk_new v8 _ _) rfl rfl Lcs54.out.symm O55.out.one ?_; intro v9 hsb hsg; have hb : Below (World.heap v8).size v8 v9 := Below.grown (Below.alloc (Below.refl _ _) (Nat.le_refl _) _) hsg (by simp) (fun k hk => by injection hk with hk; omega); have hsb2 : Blk v9 (World.heap v8).size 33 cs'54.toArray := (by simpa using hsb); have XB70 := Lib.hid hsb2; clear hsb hsb2 hsg; have D71 := Lib.hid (show (World.heap v8).size ∉ F4 from fun he => by have h1 := (O3.out.in _ he).2; omega); have D72 := Lib.hid (show (World.heap v8).size ∉ F10 from fun he => by have h1 := (O9.out.in _ he).2; omega); have D73 := Lib.hid (show (World.heap v8).size ∉ F18 from fun he => by have h1 := (O17.out.in _ he).2; omega); have D74 := Lib.hid (show (World.heap v8).size ∉ F29 from fun he => by have h1 := (O28.out.in _ he).2; omega); have D75 := Lib.hid (show (World.heap v8).size ∉ F42 from fun he => by have h1 := (O41.out.in _ he).2; omega); have D76 := Lib.hid (show (World.heap v8).size ∉ F56 from fun he => by have h1 := (O55.out.in _ he).2; omega); have X := Lib.hid (B0.out.below hb); clear B0; have B0 := Lib.hid X.out; clear X; have X := Lib.hid (B1.out.below hb); clear B1; have B1 := Lib.hid X.out; clear X; have X := Lib.hid (show Below w.heap.size w v9 from BW.out.trans (hb.mono BW.out.size)); clear BW; have BW := Lib.hid X.out; clear X; have X := Lib.hid (O3.out.below hb); clear O3; have O3 := Lib.hid X.out; clear X; have X := Lib.hid (O9.out.below hb); clear O9; have O9 := Lib.hid X.out; clear X; have X := Lib.hid (O17.out.below hb); clear O17; have O17 := Lib.hid X.out; clear X; have X := Lib.hid (O28.out.below hb); clear O28; have O28 := Lib.hid X.out; clear X; have X := Lib.hid (O41.out.below hb); clear O41; have O41 := Lib.hid X.out; clear X; have X := Lib.hid (O55.out.below hb); clear O55; have O55 := Lib.hid X.out; clear X; clear hb) | fail)
      go_wp2
      refine wp_region_x 10 [0, 1, 3, 2, 4, 5, 6, 7, 8, 9] (by kernel_rfl) (by kernel_rfl) ?_
      refine wpX_quiet rfl (by kernel_rfl) rfl ?_; go_wp2; refine ⟨rfl, ?_⟩
      refine wpX_quiet rfl (by kernel_rfl) rfl ?_; go_wp2_with (first | (refine wpList_load_row _ ⟨w.heap.size, 0, none⟩ rfl cs1 agg_lId HL1.out (blk_cells B0.out.drew) ?_) | (refine wpList_load_row _ ⟨w.heap.size + 1, 0, none⟩ rfl cs2 agg_lCmd HL2.out (blk_cells B1.out.drew) ?_) | (refine wpList_load_row _ ⟨(World.heap v8).size, 0, none⟩ rfl cs'54 agg_Cmd Lcs54.out (blk_cells XB70.out.drew) ?_) | fail); refine ⟨rfl, ?_⟩
      refine wpX_quiet rfl (by kernel_rfl) rfl ?_; go_wp2_with (first | (refine wpList_load_row _ ⟨w.heap.size, 0, none⟩ rfl cs1 agg_lId HL1.out (blk_cells B0.out.drew) ?_) | (refine wpList_load_row _ ⟨w.heap.size + 1, 0, none⟩ rfl cs2 agg_lCmd HL2.out (blk_cells B1.out.drew) ?_) | (refine wpList_load_row _ ⟨(World.heap v8).size, 0, none⟩ rfl cs'54 agg_Cmd Lcs54.out (blk_cells XB70.out.drew) ?_) | fail); refine ⟨rfl, ?_⟩
      refine wpX_actor rfl (by kernel_rfl) ?_
      go_wp2_with fail
      have HSZ := Lib.hid BW.out.size
      refine (toId_any x1 cs1 _ (by exact Nat.zero_le _) ((A1.out.below BW.out).drew)).mono ?_; rintro e v10 ⟨cs'77, rfl, hM, hb⟩
      have Lcs77 := Lib.hid (show cs'77.length = 2 from hM.rep.length.trans (IdD.width _))
      obtain ⟨F79, hnd, ho⟩ := hM
      have N80 := Lib.hid hnd; clear hnd
      have D81 := Lib.hid (show ∀ b ∈ F4, b ∉ F79 from fun b hb he => by have h1 := (O3.out.in b hb).2; have h2 := (ho.in b he).1; first | omega | (revert h1 h2; simp; done) | (revert h1 h2; simp; omega))
      have D82 := Lib.hid (show ∀ b ∈ F79, b ∉ F4 from fun b he hb => by have h1 := (O3.out.in b hb).2; have h2 := (ho.in b he).1; first | omega | (revert h1 h2; simp; done) | (revert h1 h2; simp; omega))
      have D83 := Lib.hid (show ∀ b ∈ F10, b ∉ F79 from fun b hb he => by have h1 := (O9.out.in b hb).2; have h2 := (ho.in b he).1; first | omega | (revert h1 h2; simp; done) | (revert h1 h2; simp; omega))
      have D84 := Lib.hid (show ∀ b ∈ F79, b ∉ F10 from fun b he hb => by have h1 := (O9.out.in b hb).2; have h2 := (ho.in b he).1; first | omega | (revert h1 h2; simp; done) | (revert h1 h2; simp; omega))
      have D85 := Lib.hid (show ∀ b ∈ F18, b ∉ F79 from fun b hb he => by have h1 := (O17.out.in b hb).2; have h2 := (ho.in b he).1; first | omega | (revert h1 h2; simp; done) | (revert h1 h2; simp; omega))
      have D86 := Lib.hid (show ∀ b ∈ F79, b ∉ F18 from fun b he hb => by have h1 := (O17.out.in b hb).2; have h2 := (ho.in b he).1; first | omega | (revert h1 h2; simp; done) | (revert h1 h2; simp; omega))
      have D87 := Lib.hid (show ∀ b ∈ F29, b ∉ F79 from fun b hb he => by have h1 := (O28.out.in b hb).2; have h2 := (ho.in b he).1; first | omega | (revert h1 h2; simp; done) | (revert h1 h2; simp; omega))
      have D88 := Lib.hid (show ∀ b ∈ F79, b ∉ F29 from fun b he hb => by have h1 := (O28.out.in b hb).2; have h2 := (ho.in b he).1; first | omega | (revert h1 h2; simp; done) | (revert h1 h2; simp; omega))
      have D89 := Lib.hid (show ∀ b ∈ F42, b ∉ F79 from fun b hb he => by have h1 := (O41.out.in b hb).2; have h2 := (ho.in b he).1; first | omega | (revert h1 h2; simp; done) | (revert h1 h2; simp; omega))
      have D90 := Lib.hid (show ∀ b ∈ F79, b ∉ F42 from fun b he hb => by have h1 := (O41.out.in b hb).2; have h2 := (ho.in b he).1; first | omega | (revert h1 h2; simp; done) | (revert h1 h2; simp; omega))
      have D91 := Lib.hid (show ∀ b ∈ F56, b ∉ F79 from fun b hb he => by have h1 := (O55.out.in b hb).2; have h2 := (ho.in b he).1; first | omega | (revert h1 h2; simp; done) | (revert h1 h2; simp; omega))
      have D92 := Lib.hid (show ∀ b ∈ F79, b ∉ F56 from fun b he hb => by have h1 := (O55.out.in b hb).2; have h2 := (ho.in b he).1; first | omega | (revert h1 h2; simp; done) | (revert h1 h2; simp; omega))
      have D93 := Lib.hid (show (World.heap v8).size ∉ F79 from fun he => by have h1 := XB70.out.lt; have h2 := (ho.in _ he).1; first | omega | (revert h1 h2; simp; done) | (revert h1 h2; simp; omega))
      have D94 := Lib.hid (show w.heap.size ∉ F79 from fun he => by have h1 := (show Blk v9 _ _ _ from B0.out).lt; have h2 := (ho.in _ he).1; first | omega | (revert h1 h2; simp; done) | (revert h1 h2; simp; omega))
      have D95 := Lib.hid (show w.heap.size + 1 ∉ F79 from fun he => by have h1 := (show Blk v9 _ _ _ from B1.out).lt; have h2 := (ho.in _ he).1; first | omega | (revert h1 h2; simp; done) | (revert h1 h2; simp; omega))
      have HB := Lib.hid hb
      have hb2 := below_drewL hb; clear hb
      have hb := hb2; clear hb2
      have hbs := hb.size
      have HBS := Lib.hid hbs; clear hbs
      have X := Lib.hid (B0.out.below hb); clear B0
      have B0 := Lib.hid X.out; clear X
      have X := Lib.hid (B1.out.below hb); clear B1
      have B1 := Lib.hid X.out; clear X
      have X := Lib.hid (show Below w.heap.size w v10 from BW.out.trans (hb.mono BW.out.size)); clear BW
      have BW := Lib.hid X.out; clear X
      have X := Lib.hid (O3.out.below hb); clear O3
      have O3 := Lib.hid X.out; clear X
      have X := Lib.hid (O9.out.below hb); clear O9
      have O9 := Lib.hid X.out; clear X
      have X := Lib.hid (O17.out.below hb); clear O17
      have O17 := Lib.hid X.out; clear X
      have X := Lib.hid (O28.out.below hb); clear O28
      have O28 := Lib.hid X.out; clear X
      have X := Lib.hid (O41.out.below hb); clear O41
      have O41 := Lib.hid X.out; clear X
      have X := Lib.hid (O55.out.below hb); clear O55
      have O55 := Lib.hid X.out; clear X
      have X := Lib.hid (XB70.out.below hb); clear XB70
      have XB70 := Lib.hid X.out; clear X
      clear hb
      have O78 := Lib.hid (Own.mono ho (show w.heap.size ≤ _ from HSZ.out)); clear ho HBS
      clear HSZ
      go_wp2
      refine ⟨Ext.of_below HB.out, ?_⟩
      clear HB
      refine wpX_actor rfl (by kernel_rfl) ?_
      go_wp2_with fail
      have HSZ := Lib.hid BW.out.size
      refine (Hi.out A'39 c'40 cs'77 cs'54 _ O41.out.repAny O78.out.repAny O55.out.repAny).mono ?_; rintro e v11 ⟨A'96, _, c'97, rfl, rfl, hM1, hb⟩
      obtain ⟨F99, hnd, ho⟩ := hM1
      have N100 := Lib.hid hnd; clear hnd
      have D101 := Lib.hid (show ∀ b ∈ F4, b ∉ F99 from fun b hb he => by have h1 := (O3.out.in b hb).2; have h2 := (ho.in b he).1; first | omega | (revert h1 h2; simp; done) | (revert h1 h2; simp; omega))
      have D102 := Lib.hid (show ∀ b ∈ F99, b ∉ F4 from fun b he hb => by have h1 := (O3.out.in b hb).2; have h2 := (ho.in b he).1; first | omega | (revert h1 h2; simp; done) | (revert h1 h2; simp; omega))
      have D103 := Lib.hid (show ∀ b ∈ F10, b ∉ F99 from fun b hb he => by have h1 := (O9.out.in b hb).2; have h2 := (ho.in b he).1; first | omega | (revert h1 h2; simp; done) | (revert h1 h2; simp; omega))
      have D104 := Lib.hid (show ∀ b ∈ F99, b ∉ F10 from fun b he hb => by have h1 := (O9.out.in b hb).2; have h2 := (ho.in b he).1; first | omega | (revert h1 h2; simp; done) | (revert h1 h2; simp; omega))
      have D105 := Lib.hid (show ∀ b ∈ F18, b ∉ F99 from fun b hb he => by have h1 := (O17.out.in b hb).2; have h2 := (ho.in b he).1; first | omega | (revert h1 h2; simp; done) | (revert h1 h2; simp; omega))
      have D106 := Lib.hid (show ∀ b ∈ F99, b ∉ F18 from fun b he hb => by have h1 := (O17.out.in b hb).2; have h2 := (ho.in b he).1; first | omega | (revert h1 h2; simp; done) | (revert h1 h2; simp; omega))
      have D107 := Lib.hid (show ∀ b ∈ F29, b ∉ F99 from fun b hb he => by have h1 := (O28.out.in b hb).2; have h2 := (ho.in b he).1; first | omega | (revert h1 h2; simp; done) | (revert h1 h2; simp; omega))
      have D108 := Lib.hid (show ∀ b ∈ F99, b ∉ F29 from fun b he hb => by have h1 := (O28.out.in b hb).2; have h2 := (ho.in b he).1; first | omega | (revert h1 h2; simp; done) | (revert h1 h2; simp; omega))
      have D109 := Lib.hid (show ∀ b ∈ F42, b ∉ F99 from fun b hb he => by have h1 := (O41.out.in b hb).2; have h2 := (ho.in b he).1; first | omega | (revert h1 h2; simp; done) | (revert h1 h2; simp; omega))
      have D110 := Lib.hid (show ∀ b ∈ F99, b ∉ F42 from fun b he hb => by have h1 := (O41.out.in b hb).2; have h2 := (ho.in b he).1; first | omega | (revert h1 h2; simp; done) | (revert h1 h2; simp; omega))
      have D111 := Lib.hid (show ∀ b ∈ F56, b ∉ F99 from fun b hb he => by have h1 := (O55.out.in b hb).2; have h2 := (ho.in b he).1; first | omega | (revert h1 h2; simp; done) | (revert h1 h2; simp; omega))
      have D112 := Lib.hid (show ∀ b ∈ F99, b ∉ F56 from fun b he hb => by have h1 := (O55.out.in b hb).2; have h2 := (ho.in b he).1; first | omega | (revert h1 h2; simp; done) | (revert h1 h2; simp; omega))
      have D113 := Lib.hid (show ∀ b ∈ F79, b ∉ F99 from fun b hb he => by have h1 := (O78.out.in b hb).2; have h2 := (ho.in b he).1; first | omega | (revert h1 h2; simp; done) | (revert h1 h2; simp; omega))
      have D114 := Lib.hid (show ∀ b ∈ F99, b ∉ F79 from fun b he hb => by have h1 := (O78.out.in b hb).2; have h2 := (ho.in b he).1; first | omega | (revert h1 h2; simp; done) | (revert h1 h2; simp; omega))
      have D115 := Lib.hid (show (World.heap v8).size ∉ F99 from fun he => by have h1 := XB70.out.lt; have h2 := (ho.in _ he).1; first | omega | (revert h1 h2; simp; done) | (revert h1 h2; simp; omega))
      have D116 := Lib.hid (show w.heap.size ∉ F99 from fun he => by have h1 := (show Blk v10 _ _ _ from B0.out).lt; have h2 := (ho.in _ he).1; first | omega | (revert h1 h2; simp; done) | (revert h1 h2; simp; omega))
      have D117 := Lib.hid (show w.heap.size + 1 ∉ F99 from fun he => by have h1 := (show Blk v10 _ _ _ from B1.out).lt; have h2 := (ho.in _ he).1; first | omega | (revert h1 h2; simp; done) | (revert h1 h2; simp; omega))
      have HB := Lib.hid hb
      have hbs := hb.size
      have HBS := Lib.hid hbs; clear hbs
      have X := Lib.hid (B0.out.below hb); clear B0
      have B0 := Lib.hid X.out; clear X
      have X := Lib.hid (B1.out.below hb); clear B1
      have B1 := Lib.hid X.out; clear X
      have X := Lib.hid (show Below w.heap.size w v11 from BW.out.trans (hb.mono BW.out.size)); clear BW
      have BW := Lib.hid X.out; clear X
      have X := Lib.hid (O3.out.below hb); clear O3
      have O3 := Lib.hid X.out; clear X
      have X := Lib.hid (O9.out.below hb); clear O9
      have O9 := Lib.hid X.out; clear X
      have X := Lib.hid (O17.out.below hb); clear O17
      have O17 := Lib.hid X.out; clear X
      have X := Lib.hid (O28.out.below hb); clear O28
      have O28 := Lib.hid X.out; clear X
      have X := Lib.hid (O41.out.below hb); clear O41
      have O41 := Lib.hid X.out; clear X
      have X := Lib.hid (O55.out.below hb); clear O55
      have O55 := Lib.hid X.out; clear X
      have X := Lib.hid (O78.out.below hb); clear O78
      have O78 := Lib.hid X.out; clear X
      have X := Lib.hid (XB70.out.below hb); clear XB70
      have XB70 := Lib.hid X.out; clear X
      clear hb
      have O98 := Lib.hid (Own.mono ho (show w.heap.size ≤ _ from HSZ.out)); clear ho HBS
      clear HSZ
      go_wp2
      refine ⟨Ext.of_below HB.out, ?_⟩
      clear HB
      refine wpX_quiet rfl (by kernel_rfl) rfl ?_; go_wp2; refine ⟨rfl, ?_⟩
      refine wpX_quiet rfl (by kernel_rfl) rfl ?_; go_wp2; refine ⟨rfl, ?_⟩
      refine wpX_quiet rfl (by kernel_rfl) rfl ?_; go_wp2; refine ⟨rfl, ?_⟩
      refine wpX_quiet rfl (by kernel_rfl) rfl ?_; go_wp2; refine ⟨rfl, ?_⟩
      refine wpX_quiet rfl (by kernel_rfl) rfl ?_; go_wp2; refine ⟨rfl, ?_⟩
      refine wpX_nil ?_
      try simp only [List.drop_succ_cons, List.drop_zero]
      go_wp2_with (first | ((with_reducible show wpList _ _ _ ({ dst := _, op := Op.load 23 _, type := _, pos := _, after := _, guard := _ } :: _) _ _); refine wpList_load_row _ ⟨w.heap.size, 0, none⟩ rfl cs1 agg_lId HL1.out (blk_cells B0.out) ?_) | ((with_reducible show wpList _ _ _ ({ dst := _, op := Op.load 23 _, type := _, pos := _, after := _, guard := _ } :: _) _ _); refine wpList_load_row_g _ (by first | rfl | kernel_rfl) ⟨w.heap.size, 0, none⟩ rfl cs1 agg_lId HL1.out (blk_cells B0.out) ?_) | ((with_reducible show wpList _ _ _ ({ dst := _, op := Op.load 26 _, type := _, pos := _, after := _, guard := _ } :: _) _ _); refine wpList_load_row _ ⟨w.heap.size + 1, 0, none⟩ rfl cs2 agg_lCmd HL2.out (blk_cells B1.out) ?_) | ((with_reducible show wpList _ _ _ ({ dst := _, op := Op.load 26 _, type := _, pos := _, after := _, guard := _ } :: _) _ _); refine wpList_load_row_g _ (by first | rfl | kernel_rfl) ⟨w.heap.size + 1, 0, none⟩ rfl cs2 agg_lCmd HL2.out (blk_cells B1.out) ?_) | ((with_reducible show wpList _ _ _ ({ dst := _, op := Op.load 33 _, type := _, pos := _, after := _, guard := _ } :: _) _ _); refine wpList_load_row _ ⟨(World.heap v8).size, 0, none⟩ rfl cs'54 agg_Cmd Lcs54.out (blk_cells XB70.out) ?_) | ((with_reducible show wpList _ _ _ ({ dst := _, op := Op.load 33 _, type := _, pos := _, after := _, guard := _ } :: _) _ _); refine wpList_load_row_g _ (by first | rfl | kernel_rfl) ⟨(World.heap v8).size, 0, none⟩ rfl cs'54 agg_Cmd Lcs54.out (blk_cells XB70.out) ?_) | fail)
      have HSZ := Lib.hid BW.out.size
      refine (eqIdS_any r1 A'96 A'26 r1.length c'97 c'27 _ rfl (by first | omega | (have := HWT.out; omega)) O98.out.repAny O28.out.repAny).mono ?_; rintro e v12 ⟨rfl, hb⟩
      have X := Lib.hid (B0.out.below hb); clear B0
      have B0 := Lib.hid X.out; clear X
      have X := Lib.hid (B1.out.below hb); clear B1
      have B1 := Lib.hid X.out; clear X
      have X := Lib.hid (show Below w.heap.size w v12 from BW.out.trans (hb.mono BW.out.size)); clear BW
      have BW := Lib.hid X.out; clear X
      have X := Lib.hid (O3.out.below hb); clear O3
      have O3 := Lib.hid X.out; clear X
      have X := Lib.hid (O9.out.below hb); clear O9
      have O9 := Lib.hid X.out; clear X
      have X := Lib.hid (O17.out.below hb); clear O17
      have O17 := Lib.hid X.out; clear X
      have X := Lib.hid (O28.out.below hb); clear O28
      have O28 := Lib.hid X.out; clear X
      have X := Lib.hid (O41.out.below hb); clear O41
      have O41 := Lib.hid X.out; clear X
      have X := Lib.hid (O55.out.below hb); clear O55
      have O55 := Lib.hid X.out; clear X
      have X := Lib.hid (O78.out.below hb); clear O78
      have O78 := Lib.hid X.out; clear X
      have X := Lib.hid (O98.out.below hb); clear O98
      have O98 := Lib.hid X.out; clear X
      have X := Lib.hid (XB70.out.below hb); clear XB70
      have XB70 := Lib.hid X.out; clear X
      clear hb
      clear HSZ
      go_wp2_with (first | ((with_reducible show wpList _ _ _ ({ dst := _, op := Op.load 23 _, type := _, pos := _, after := _, guard := _ } :: _) _ _); refine wpList_load_row _ ⟨w.heap.size, 0, none⟩ rfl cs1 agg_lId HL1.out (blk_cells B0.out) ?_) | ((with_reducible show wpList _ _ _ ({ dst := _, op := Op.load 23 _, type := _, pos := _, after := _, guard := _ } :: _) _ _); refine wpList_load_row_g _ (by first | rfl | kernel_rfl) ⟨w.heap.size, 0, none⟩ rfl cs1 agg_lId HL1.out (blk_cells B0.out) ?_) | ((with_reducible show wpList _ _ _ ({ dst := _, op := Op.load 26 _, type := _, pos := _, after := _, guard := _ } :: _) _ _); refine wpList_load_row _ ⟨w.heap.size + 1, 0, none⟩ rfl cs2 agg_lCmd HL2.out (blk_cells B1.out) ?_) | ((with_reducible show wpList _ _ _ ({ dst := _, op := Op.load 26 _, type := _, pos := _, after := _, guard := _ } :: _) _ _); refine wpList_load_row_g _ (by first | rfl | kernel_rfl) ⟨w.heap.size + 1, 0, none⟩ rfl cs2 agg_lCmd HL2.out (blk_cells B1.out) ?_) | ((with_reducible show wpList _ _ _ ({ dst := _, op := Op.load 33 _, type := _, pos := _, after := _, guard := _ } :: _) _ _); refine wpList_load_row _ ⟨(World.heap v8).size, 0, none⟩ rfl cs'54 agg_Cmd Lcs54.out (blk_cells XB70.out) ?_) | ((with_reducible show wpList _ _ _ ({ dst := _, op := Op.load 33 _, type := _, pos := _, after := _, guard := _ } :: _) _ _); refine wpList_load_row_g _ (by first | rfl | kernel_rfl) ⟨(World.heap v8).size, 0, none⟩ rfl cs'54 agg_Cmd Lcs54.out (blk_cells XB70.out) ?_) | fail)
      have HSZ := Lib.hid BW.out.size
      refine (toInstS_any x0 A0 n0 c0 _ HN0.out (by omega) (RA0.out.below BW.out)).mono ?_; rintro e v13 ⟨A'118, c'119, rfl, hM, hb⟩
      obtain ⟨F121, hnd, ho⟩ := hM
      have N122 := Lib.hid hnd; clear hnd
      have D123 := Lib.hid (show ∀ b ∈ F4, b ∉ F121 from fun b hb he => by have h1 := (O3.out.in b hb).2; have h2 := (ho.in b he).1; first | omega | (revert h1 h2; simp; done) | (revert h1 h2; simp; omega))
      have D124 := Lib.hid (show ∀ b ∈ F121, b ∉ F4 from fun b he hb => by have h1 := (O3.out.in b hb).2; have h2 := (ho.in b he).1; first | omega | (revert h1 h2; simp; done) | (revert h1 h2; simp; omega))
      have D125 := Lib.hid (show ∀ b ∈ F10, b ∉ F121 from fun b hb he => by have h1 := (O9.out.in b hb).2; have h2 := (ho.in b he).1; first | omega | (revert h1 h2; simp; done) | (revert h1 h2; simp; omega))
      have D126 := Lib.hid (show ∀ b ∈ F121, b ∉ F10 from fun b he hb => by have h1 := (O9.out.in b hb).2; have h2 := (ho.in b he).1; first | omega | (revert h1 h2; simp; done) | (revert h1 h2; simp; omega))
      have D127 := Lib.hid (show ∀ b ∈ F18, b ∉ F121 from fun b hb he => by have h1 := (O17.out.in b hb).2; have h2 := (ho.in b he).1; first | omega | (revert h1 h2; simp; done) | (revert h1 h2; simp; omega))
      have D128 := Lib.hid (show ∀ b ∈ F121, b ∉ F18 from fun b he hb => by have h1 := (O17.out.in b hb).2; have h2 := (ho.in b he).1; first | omega | (revert h1 h2; simp; done) | (revert h1 h2; simp; omega))
      have D129 := Lib.hid (show ∀ b ∈ F29, b ∉ F121 from fun b hb he => by have h1 := (O28.out.in b hb).2; have h2 := (ho.in b he).1; first | omega | (revert h1 h2; simp; done) | (revert h1 h2; simp; omega))
      have D130 := Lib.hid (show ∀ b ∈ F121, b ∉ F29 from fun b he hb => by have h1 := (O28.out.in b hb).2; have h2 := (ho.in b he).1; first | omega | (revert h1 h2; simp; done) | (revert h1 h2; simp; omega))
      have D131 := Lib.hid (show ∀ b ∈ F42, b ∉ F121 from fun b hb he => by have h1 := (O41.out.in b hb).2; have h2 := (ho.in b he).1; first | omega | (revert h1 h2; simp; done) | (revert h1 h2; simp; omega))
      have D132 := Lib.hid (show ∀ b ∈ F121, b ∉ F42 from fun b he hb => by have h1 := (O41.out.in b hb).2; have h2 := (ho.in b he).1; first | omega | (revert h1 h2; simp; done) | (revert h1 h2; simp; omega))
      have D133 := Lib.hid (show ∀ b ∈ F56, b ∉ F121 from fun b hb he => by have h1 := (O55.out.in b hb).2; have h2 := (ho.in b he).1; first | omega | (revert h1 h2; simp; done) | (revert h1 h2; simp; omega))
      have D134 := Lib.hid (show ∀ b ∈ F121, b ∉ F56 from fun b he hb => by have h1 := (O55.out.in b hb).2; have h2 := (ho.in b he).1; first | omega | (revert h1 h2; simp; done) | (revert h1 h2; simp; omega))
      have D135 := Lib.hid (show ∀ b ∈ F79, b ∉ F121 from fun b hb he => by have h1 := (O78.out.in b hb).2; have h2 := (ho.in b he).1; first | omega | (revert h1 h2; simp; done) | (revert h1 h2; simp; omega))
      have D136 := Lib.hid (show ∀ b ∈ F121, b ∉ F79 from fun b he hb => by have h1 := (O78.out.in b hb).2; have h2 := (ho.in b he).1; first | omega | (revert h1 h2; simp; done) | (revert h1 h2; simp; omega))
      have D137 := Lib.hid (show ∀ b ∈ F99, b ∉ F121 from fun b hb he => by have h1 := (O98.out.in b hb).2; have h2 := (ho.in b he).1; first | omega | (revert h1 h2; simp; done) | (revert h1 h2; simp; omega))
      have D138 := Lib.hid (show ∀ b ∈ F121, b ∉ F99 from fun b he hb => by have h1 := (O98.out.in b hb).2; have h2 := (ho.in b he).1; first | omega | (revert h1 h2; simp; done) | (revert h1 h2; simp; omega))
      have D139 := Lib.hid (show (World.heap v8).size ∉ F121 from fun he => by have h1 := XB70.out.lt; have h2 := (ho.in _ he).1; first | omega | (revert h1 h2; simp; done) | (revert h1 h2; simp; omega))
      have D140 := Lib.hid (show w.heap.size ∉ F121 from fun he => by have h1 := (show Blk v12 _ _ _ from B0.out).lt; have h2 := (ho.in _ he).1; first | omega | (revert h1 h2; simp; done) | (revert h1 h2; simp; omega))
      have D141 := Lib.hid (show w.heap.size + 1 ∉ F121 from fun he => by have h1 := (show Blk v12 _ _ _ from B1.out).lt; have h2 := (ho.in _ he).1; first | omega | (revert h1 h2; simp; done) | (revert h1 h2; simp; omega))
      have hbs := hb.size
      have HBS := Lib.hid hbs; clear hbs
      have X := Lib.hid (B0.out.below hb); clear B0
      have B0 := Lib.hid X.out; clear X
      have X := Lib.hid (B1.out.below hb); clear B1
      have B1 := Lib.hid X.out; clear X
      have X := Lib.hid (show Below w.heap.size w v13 from BW.out.trans (hb.mono BW.out.size)); clear BW
      have BW := Lib.hid X.out; clear X
      have X := Lib.hid (O3.out.below hb); clear O3
      have O3 := Lib.hid X.out; clear X
      have X := Lib.hid (O9.out.below hb); clear O9
      have O9 := Lib.hid X.out; clear X
      have X := Lib.hid (O17.out.below hb); clear O17
      have O17 := Lib.hid X.out; clear X
      have X := Lib.hid (O28.out.below hb); clear O28
      have O28 := Lib.hid X.out; clear X
      have X := Lib.hid (O41.out.below hb); clear O41
      have O41 := Lib.hid X.out; clear X
      have X := Lib.hid (O55.out.below hb); clear O55
      have O55 := Lib.hid X.out; clear X
      have X := Lib.hid (O78.out.below hb); clear O78
      have O78 := Lib.hid X.out; clear X
      have X := Lib.hid (O98.out.below hb); clear O98
      have O98 := Lib.hid X.out; clear X
      have X := Lib.hid (XB70.out.below hb); clear XB70
      have XB70 := Lib.hid X.out; clear X
      clear hb
      have O120 := Lib.hid (Own.mono ho (show w.heap.size ≤ _ from HSZ.out)); clear ho HBS
      clear HSZ
      go_wp2_with (first | ((with_reducible show wpList _ _ _ ({ dst := _, op := Op.load 23 _, type := _, pos := _, after := _, guard := _ } :: _) _ _); refine wpList_load_row _ ⟨w.heap.size, 0, none⟩ rfl cs1 agg_lId HL1.out (blk_cells B0.out) ?_) | ((with_reducible show wpList _ _ _ ({ dst := _, op := Op.load 23 _, type := _, pos := _, after := _, guard := _ } :: _) _ _); refine wpList_load_row_g _ (by first | rfl | kernel_rfl) ⟨w.heap.size, 0, none⟩ rfl cs1 agg_lId HL1.out (blk_cells B0.out) ?_) | ((with_reducible show wpList _ _ _ ({ dst := _, op := Op.load 26 _, type := _, pos := _, after := _, guard := _ } :: _) _ _); refine wpList_load_row _ ⟨w.heap.size + 1, 0, none⟩ rfl cs2 agg_lCmd HL2.out (blk_cells B1.out) ?_) | ((with_reducible show wpList _ _ _ ({ dst := _, op := Op.load 26 _, type := _, pos := _, after := _, guard := _ } :: _) _ _); refine wpList_load_row_g _ (by first | rfl | kernel_rfl) ⟨w.heap.size + 1, 0, none⟩ rfl cs2 agg_lCmd HL2.out (blk_cells B1.out) ?_) | ((with_reducible show wpList _ _ _ ({ dst := _, op := Op.load 33 _, type := _, pos := _, after := _, guard := _ } :: _) _ _); refine wpList_load_row _ ⟨(World.heap v8).size, 0, none⟩ rfl cs'54 agg_Cmd Lcs54.out (blk_cells XB70.out) ?_) | ((with_reducible show wpList _ _ _ ({ dst := _, op := Op.load 33 _, type := _, pos := _, after := _, guard := _ } :: _) _ _); refine wpList_load_row_g _ (by first | rfl | kernel_rfl) ⟨(World.heap v8).size, 0, none⟩ rfl cs'54 agg_Cmd Lcs54.out (blk_cells XB70.out) ?_) | fail)
      have HSZ := Lib.hid BW.out.size
      refine (eqInstS_any x0 A'39 A'118 n0 c'40 c'119 _ HN0.out (by omega) O41.out.repAny O120.out.repAny).mono ?_; rintro e v14 ⟨rfl, hb⟩
      have X := Lib.hid (B0.out.below hb); clear B0
      have B0 := Lib.hid X.out; clear X
      have X := Lib.hid (B1.out.below hb); clear B1
      have B1 := Lib.hid X.out; clear X
      have X := Lib.hid (show Below w.heap.size w v14 from BW.out.trans (hb.mono BW.out.size)); clear BW
      have BW := Lib.hid X.out; clear X
      have X := Lib.hid (O3.out.below hb); clear O3
      have O3 := Lib.hid X.out; clear X
      have X := Lib.hid (O9.out.below hb); clear O9
      have O9 := Lib.hid X.out; clear X
      have X := Lib.hid (O17.out.below hb); clear O17
      have O17 := Lib.hid X.out; clear X
      have X := Lib.hid (O28.out.below hb); clear O28
      have O28 := Lib.hid X.out; clear X
      have X := Lib.hid (O41.out.below hb); clear O41
      have O41 := Lib.hid X.out; clear X
      have X := Lib.hid (O55.out.below hb); clear O55
      have O55 := Lib.hid X.out; clear X
      have X := Lib.hid (O78.out.below hb); clear O78
      have O78 := Lib.hid X.out; clear X
      have X := Lib.hid (O98.out.below hb); clear O98
      have O98 := Lib.hid X.out; clear X
      have X := Lib.hid (O120.out.below hb); clear O120
      have O120 := Lib.hid X.out; clear X
      have X := Lib.hid (XB70.out.below hb); clear XB70
      have XB70 := Lib.hid X.out; clear X
      clear hb
      clear HSZ
      go_wp2
      refine wp_region_x 5 [0, 1, 2, 3, 4] (by kernel_rfl) (by kernel_rfl) ?_
      refine wpX_quiet rfl (by kernel_rfl) rfl ?_; go_wp2_with (first | (refine wpList_load_row _ ⟨w.heap.size, 0, none⟩ rfl cs1 agg_lId HL1.out (blk_cells B0.out.drew) ?_) | (refine wpList_load_row _ ⟨w.heap.size + 1, 0, none⟩ rfl cs2 agg_lCmd HL2.out (blk_cells B1.out.drew) ?_) | (refine wpList_load_row _ ⟨(World.heap v8).size, 0, none⟩ rfl cs'54 agg_Cmd Lcs54.out (blk_cells XB70.out.drew) ?_) | fail); refine ⟨rfl, ?_⟩
      refine wpX_quiet rfl (by kernel_rfl) rfl ?_; go_wp2_with (first | (refine wpList_load_row _ ⟨w.heap.size, 0, none⟩ rfl cs1 agg_lId HL1.out (blk_cells B0.out.drew) ?_) | (refine wpList_load_row _ ⟨w.heap.size + 1, 0, none⟩ rfl cs2 agg_lCmd HL2.out (blk_cells B1.out.drew) ?_) | (refine wpList_load_row _ ⟨(World.heap v8).size, 0, none⟩ rfl cs'54 agg_Cmd Lcs54.out (blk_cells XB70.out.drew) ?_) | fail); refine ⟨rfl, ?_⟩
      refine wpX_actor rfl (by kernel_rfl) ?_
      go_wp2_with fail
      have HSZ := Lib.hid BW.out.size
      refine (toCmd_any x2 cs2 _ (by omega) ((A2.out.below BW.out).drew)).mono ?_; rintro e v15 ⟨cs'142, rfl, hM, hb⟩
      have Lcs142 := Lib.hid (show cs'142.length = 8 from hM.rep.length.trans (CmdD.width _))
      obtain ⟨F144, hnd, ho⟩ := hM
      have N145 := Lib.hid hnd; clear hnd
      have D146 := Lib.hid (show ∀ b ∈ F4, b ∉ F144 from fun b hb he => by have h1 := (O3.out.in b hb).2; have h2 := (ho.in b he).1; first | omega | (revert h1 h2; simp; done) | (revert h1 h2; simp; omega))
      have D147 := Lib.hid (show ∀ b ∈ F144, b ∉ F4 from fun b he hb => by have h1 := (O3.out.in b hb).2; have h2 := (ho.in b he).1; first | omega | (revert h1 h2; simp; done) | (revert h1 h2; simp; omega))
      have D148 := Lib.hid (show ∀ b ∈ F10, b ∉ F144 from fun b hb he => by have h1 := (O9.out.in b hb).2; have h2 := (ho.in b he).1; first | omega | (revert h1 h2; simp; done) | (revert h1 h2; simp; omega))
      have D149 := Lib.hid (show ∀ b ∈ F144, b ∉ F10 from fun b he hb => by have h1 := (O9.out.in b hb).2; have h2 := (ho.in b he).1; first | omega | (revert h1 h2; simp; done) | (revert h1 h2; simp; omega))
      have D150 := Lib.hid (show ∀ b ∈ F18, b ∉ F144 from fun b hb he => by have h1 := (O17.out.in b hb).2; have h2 := (ho.in b he).1; first | omega | (revert h1 h2; simp; done) | (revert h1 h2; simp; omega))
      have D151 := Lib.hid (show ∀ b ∈ F144, b ∉ F18 from fun b he hb => by have h1 := (O17.out.in b hb).2; have h2 := (ho.in b he).1; first | omega | (revert h1 h2; simp; done) | (revert h1 h2; simp; omega))
      have D152 := Lib.hid (show ∀ b ∈ F29, b ∉ F144 from fun b hb he => by have h1 := (O28.out.in b hb).2; have h2 := (ho.in b he).1; first | omega | (revert h1 h2; simp; done) | (revert h1 h2; simp; omega))
      have D153 := Lib.hid (show ∀ b ∈ F144, b ∉ F29 from fun b he hb => by have h1 := (O28.out.in b hb).2; have h2 := (ho.in b he).1; first | omega | (revert h1 h2; simp; done) | (revert h1 h2; simp; omega))
      have D154 := Lib.hid (show ∀ b ∈ F42, b ∉ F144 from fun b hb he => by have h1 := (O41.out.in b hb).2; have h2 := (ho.in b he).1; first | omega | (revert h1 h2; simp; done) | (revert h1 h2; simp; omega))
      have D155 := Lib.hid (show ∀ b ∈ F144, b ∉ F42 from fun b he hb => by have h1 := (O41.out.in b hb).2; have h2 := (ho.in b he).1; first | omega | (revert h1 h2; simp; done) | (revert h1 h2; simp; omega))
      have D156 := Lib.hid (show ∀ b ∈ F56, b ∉ F144 from fun b hb he => by have h1 := (O55.out.in b hb).2; have h2 := (ho.in b he).1; first | omega | (revert h1 h2; simp; done) | (revert h1 h2; simp; omega))
      have D157 := Lib.hid (show ∀ b ∈ F144, b ∉ F56 from fun b he hb => by have h1 := (O55.out.in b hb).2; have h2 := (ho.in b he).1; first | omega | (revert h1 h2; simp; done) | (revert h1 h2; simp; omega))
      have D158 := Lib.hid (show ∀ b ∈ F79, b ∉ F144 from fun b hb he => by have h1 := (O78.out.in b hb).2; have h2 := (ho.in b he).1; first | omega | (revert h1 h2; simp; done) | (revert h1 h2; simp; omega))
      have D159 := Lib.hid (show ∀ b ∈ F144, b ∉ F79 from fun b he hb => by have h1 := (O78.out.in b hb).2; have h2 := (ho.in b he).1; first | omega | (revert h1 h2; simp; done) | (revert h1 h2; simp; omega))
      have D160 := Lib.hid (show ∀ b ∈ F99, b ∉ F144 from fun b hb he => by have h1 := (O98.out.in b hb).2; have h2 := (ho.in b he).1; first | omega | (revert h1 h2; simp; done) | (revert h1 h2; simp; omega))
      have D161 := Lib.hid (show ∀ b ∈ F144, b ∉ F99 from fun b he hb => by have h1 := (O98.out.in b hb).2; have h2 := (ho.in b he).1; first | omega | (revert h1 h2; simp; done) | (revert h1 h2; simp; omega))
      have D162 := Lib.hid (show ∀ b ∈ F121, b ∉ F144 from fun b hb he => by have h1 := (O120.out.in b hb).2; have h2 := (ho.in b he).1; first | omega | (revert h1 h2; simp; done) | (revert h1 h2; simp; omega))
      have D163 := Lib.hid (show ∀ b ∈ F144, b ∉ F121 from fun b he hb => by have h1 := (O120.out.in b hb).2; have h2 := (ho.in b he).1; first | omega | (revert h1 h2; simp; done) | (revert h1 h2; simp; omega))
      have D164 := Lib.hid (show (World.heap v8).size ∉ F144 from fun he => by have h1 := XB70.out.lt; have h2 := (ho.in _ he).1; first | omega | (revert h1 h2; simp; done) | (revert h1 h2; simp; omega))
      have D165 := Lib.hid (show w.heap.size ∉ F144 from fun he => by have h1 := (show Blk v14 _ _ _ from B0.out).lt; have h2 := (ho.in _ he).1; first | omega | (revert h1 h2; simp; done) | (revert h1 h2; simp; omega))
      have D166 := Lib.hid (show w.heap.size + 1 ∉ F144 from fun he => by have h1 := (show Blk v14 _ _ _ from B1.out).lt; have h2 := (ho.in _ he).1; first | omega | (revert h1 h2; simp; done) | (revert h1 h2; simp; omega))
      have HB := Lib.hid hb
      have hb2 := below_drewL hb; clear hb
      have hb := hb2; clear hb2
      have hbs := hb.size
      have HBS := Lib.hid hbs; clear hbs
      have X := Lib.hid (B0.out.below hb); clear B0
      have B0 := Lib.hid X.out; clear X
      have X := Lib.hid (B1.out.below hb); clear B1
      have B1 := Lib.hid X.out; clear X
      have X := Lib.hid (show Below w.heap.size w v15 from BW.out.trans (hb.mono BW.out.size)); clear BW
      have BW := Lib.hid X.out; clear X
      have X := Lib.hid (O3.out.below hb); clear O3
      have O3 := Lib.hid X.out; clear X
      have X := Lib.hid (O9.out.below hb); clear O9
      have O9 := Lib.hid X.out; clear X
      have X := Lib.hid (O17.out.below hb); clear O17
      have O17 := Lib.hid X.out; clear X
      have X := Lib.hid (O28.out.below hb); clear O28
      have O28 := Lib.hid X.out; clear X
      have X := Lib.hid (O41.out.below hb); clear O41
      have O41 := Lib.hid X.out; clear X
      have X := Lib.hid (O55.out.below hb); clear O55
      have O55 := Lib.hid X.out; clear X
      have X := Lib.hid (O78.out.below hb); clear O78
      have O78 := Lib.hid X.out; clear X
      have X := Lib.hid (O98.out.below hb); clear O98
      have O98 := Lib.hid X.out; clear X
      have X := Lib.hid (O120.out.below hb); clear O120
      have O120 := Lib.hid X.out; clear X
      have X := Lib.hid (XB70.out.below hb); clear XB70
      have XB70 := Lib.hid X.out; clear X
      clear hb
      have O143 := Lib.hid (Own.mono ho (show w.heap.size ≤ _ from HSZ.out)); clear ho HBS
      clear HSZ
      go_wp2
      refine ⟨Ext.of_below HB.out, ?_⟩
      clear HB
      refine wpX_actor rfl (by kernel_rfl) ?_
      go_wp2_with fail
      have HSZ := Lib.hid BW.out.size
      refine (eqCmd_any x2 cs'54 cs'142 _ (by omega) O55.out.repAny O143.out.repAny).mono ?_; rintro e v16 ⟨rfl, hb⟩
      have HB := Lib.hid hb
      have X := Lib.hid (B0.out.below hb); clear B0
      have B0 := Lib.hid X.out; clear X
      have X := Lib.hid (B1.out.below hb); clear B1
      have B1 := Lib.hid X.out; clear X
      have X := Lib.hid (show Below w.heap.size w v16 from BW.out.trans (hb.mono BW.out.size)); clear BW
      have BW := Lib.hid X.out; clear X
      have X := Lib.hid (O3.out.below hb); clear O3
      have O3 := Lib.hid X.out; clear X
      have X := Lib.hid (O9.out.below hb); clear O9
      have O9 := Lib.hid X.out; clear X
      have X := Lib.hid (O17.out.below hb); clear O17
      have O17 := Lib.hid X.out; clear X
      have X := Lib.hid (O28.out.below hb); clear O28
      have O28 := Lib.hid X.out; clear X
      have X := Lib.hid (O41.out.below hb); clear O41
      have O41 := Lib.hid X.out; clear X
      have X := Lib.hid (O55.out.below hb); clear O55
      have O55 := Lib.hid X.out; clear X
      have X := Lib.hid (O78.out.below hb); clear O78
      have O78 := Lib.hid X.out; clear X
      have X := Lib.hid (O98.out.below hb); clear O98
      have O98 := Lib.hid X.out; clear X
      have X := Lib.hid (O120.out.below hb); clear O120
      have O120 := Lib.hid X.out; clear X
      have X := Lib.hid (O143.out.below hb); clear O143
      have O143 := Lib.hid X.out; clear X
      have X := Lib.hid (XB70.out.below hb); clear XB70
      have XB70 := Lib.hid X.out; clear X
      clear hb
      clear HSZ
      go_wp2
      refine ⟨Ext.of_below HB.out, ?_⟩
      clear HB
      refine wpX_quiet rfl (by kernel_rfl) rfl ?_; go_wp2; refine ⟨rfl, ?_⟩
      refine wpX_nil ?_
      try simp only [List.drop_succ_cons, List.drop_zero]
      go_wp2_with (first | ((with_reducible show wpList _ _ _ ({ dst := _, op := Op.load 23 _, type := _, pos := _, after := _, guard := _ } :: _) _ _); refine wpList_load_row _ ⟨w.heap.size, 0, none⟩ rfl cs1 agg_lId HL1.out (blk_cells B0.out) ?_) | ((with_reducible show wpList _ _ _ ({ dst := _, op := Op.load 23 _, type := _, pos := _, after := _, guard := _ } :: _) _ _); refine wpList_load_row_g _ (by first | rfl | kernel_rfl) ⟨w.heap.size, 0, none⟩ rfl cs1 agg_lId HL1.out (blk_cells B0.out) ?_) | ((with_reducible show wpList _ _ _ ({ dst := _, op := Op.load 26 _, type := _, pos := _, after := _, guard := _ } :: _) _ _); refine wpList_load_row _ ⟨w.heap.size + 1, 0, none⟩ rfl cs2 agg_lCmd HL2.out (blk_cells B1.out) ?_) | ((with_reducible show wpList _ _ _ ({ dst := _, op := Op.load 26 _, type := _, pos := _, after := _, guard := _ } :: _) _ _); refine wpList_load_row_g _ (by first | rfl | kernel_rfl) ⟨w.heap.size + 1, 0, none⟩ rfl cs2 agg_lCmd HL2.out (blk_cells B1.out) ?_) | ((with_reducible show wpList _ _ _ ({ dst := _, op := Op.load 33 _, type := _, pos := _, after := _, guard := _ } :: _) _ _); refine wpList_load_row _ ⟨(World.heap v8).size, 0, none⟩ rfl cs'54 agg_Cmd Lcs54.out (blk_cells XB70.out) ?_) | ((with_reducible show wpList _ _ _ ({ dst := _, op := Op.load 33 _, type := _, pos := _, after := _, guard := _ } :: _) _ _); refine wpList_load_row_g _ (by first | rfl | kernel_rfl) ⟨(World.heap v8).size, 0, none⟩ rfl cs'54 agg_Cmd Lcs54.out (blk_cells XB70.out) ?_) | fail)
      have HSZ := Lib.hid BW.out.size
      refine (markInstS_any x0 (1) _ w.heap.size A'39 n0 c'40 F42 _ HN0.out (by first | rfl | omega) (by omega) (by first | omega | (have := HCN.out; omega) | (have h81 := HCX0.out; have h82 := HCX2.out; have h83 := HN0.out; omega) | (have := HCX0.out; have := HN0.out; omega) | (have := HCX2.out; omega)) N43.out O41.out).mono ?_; rintro e v17 ⟨q167, rfl, hq, ho, hm⟩
      have hq0 : 0 ≤ q167 := by omega
      have HY168 := Lib.hid hq; clear hq
      have q167z := Lib.hid hq0
      have hdq167 : decide (q167 < 0) = false := by simp only [decide_eq_false_iff_not]; omega
      have X := Lib.hid (B0.out.mod hm D52.out); clear B0
      have B0 := Lib.hid X.out; clear X
      have X := Lib.hid (B1.out.mod hm D53.out); clear B1
      have B1 := Lib.hid X.out; clear X
      have X := Lib.hid (XB70.out.mod hm D75.out); clear XB70
      have XB70 := Lib.hid X.out; clear X
      have X := Lib.hid (O3.out.mod1 hm D44.out); clear O3
      have O3 := Lib.hid X.out; clear X
      have X := Lib.hid (O9.out.mod1 hm D46.out); clear O9
      have O9 := Lib.hid X.out; clear X
      have X := Lib.hid (O17.out.mod1 hm D48.out); clear O17
      have O17 := Lib.hid X.out; clear X
      have X := Lib.hid (O28.out.mod1 hm D50.out); clear O28
      have O28 := Lib.hid X.out; clear X
      have X := Lib.hid (O55.out.mod1 hm D67.out); clear O55
      have O55 := Lib.hid X.out; clear X
      have X := Lib.hid (O78.out.mod1 hm D90.out); clear O78
      have O78 := Lib.hid X.out; clear X
      have X := Lib.hid (O98.out.mod1 hm D110.out); clear O98
      have O98 := Lib.hid X.out; clear X
      have X := Lib.hid (O120.out.mod1 hm D132.out); clear O120
      have O120 := Lib.hid X.out; clear X
      have X := Lib.hid (O143.out.mod1 hm D155.out); clear O143
      have O143 := Lib.hid X.out; clear X
      have X := Lib.hid (show Below w.heap.size w v17 from Mod.below BW.out hm BW.out.size (fun b hb => (O41.out.in b hb).1)); clear BW O41
      have BW := Lib.hid X.out; clear X
      have O41 := Lib.hid ho; clear ho hm
      clear HSZ
      go_wp2_with (first | ((with_reducible show wpList _ _ _ ({ dst := _, op := Op.load 23 _, type := _, pos := _, after := _, guard := _ } :: _) _ _); refine wpList_load_row _ ⟨w.heap.size, 0, none⟩ rfl cs1 agg_lId HL1.out (blk_cells B0.out) ?_) | ((with_reducible show wpList _ _ _ ({ dst := _, op := Op.load 23 _, type := _, pos := _, after := _, guard := _ } :: _) _ _); refine wpList_load_row_g _ (by first | rfl | kernel_rfl) ⟨w.heap.size, 0, none⟩ rfl cs1 agg_lId HL1.out (blk_cells B0.out) ?_) | ((with_reducible show wpList _ _ _ ({ dst := _, op := Op.load 26 _, type := _, pos := _, after := _, guard := _ } :: _) _ _); refine wpList_load_row _ ⟨w.heap.size + 1, 0, none⟩ rfl cs2 agg_lCmd HL2.out (blk_cells B1.out) ?_) | ((with_reducible show wpList _ _ _ ({ dst := _, op := Op.load 26 _, type := _, pos := _, after := _, guard := _ } :: _) _ _); refine wpList_load_row_g _ (by first | rfl | kernel_rfl) ⟨w.heap.size + 1, 0, none⟩ rfl cs2 agg_lCmd HL2.out (blk_cells B1.out) ?_) | ((with_reducible show wpList _ _ _ ({ dst := _, op := Op.load 33 _, type := _, pos := _, after := _, guard := _ } :: _) _ _); refine wpList_load_row _ ⟨(World.heap v8).size, 0, none⟩ rfl cs'54 agg_Cmd Lcs54.out (blk_cells XB70.out) ?_) | ((with_reducible show wpList _ _ _ ({ dst := _, op := Op.load 33 _, type := _, pos := _, after := _, guard := _ } :: _) _ _); refine wpList_load_row_g _ (by first | rfl | kernel_rfl) ⟨(World.heap v8).size, 0, none⟩ rfl cs'54 agg_Cmd Lcs54.out (blk_cells XB70.out) ?_) | fail)
      have HSZ := Lib.hid BW.out.size
      refine (markCmd_any x2 (1 + cts InstD.cnt x0) _ w.heap.size cs'54 F56 _ (by first | rfl | exact HY168.out) (by omega) (by first | omega | (have := HCN.out; omega) | (have h81 := HCX0.out; have h82 := HCX2.out; have h83 := HN0.out; omega) | (have := HCX0.out; have := HN0.out; omega) | (have := HCX2.out; omega)) N57.out O55.out).mono ?_; rintro e v18 ⟨q169, rfl, hq, ho, hm⟩
      have hq0 : 0 ≤ q169 := by omega
      have HY170 := Lib.hid hq; clear hq
      have q169z := Lib.hid hq0
      have hdq169 : decide (q169 < 0) = false := by simp only [decide_eq_false_iff_not]; omega
      have X := Lib.hid (B0.out.mod hm D68.out); clear B0
      have B0 := Lib.hid X.out; clear X
      have X := Lib.hid (B1.out.mod hm D69.out); clear B1
      have B1 := Lib.hid X.out; clear X
      have X := Lib.hid (XB70.out.mod hm D76.out); clear XB70
      have XB70 := Lib.hid X.out; clear X
      have X := Lib.hid (O3.out.mod1 hm D58.out); clear O3
      have O3 := Lib.hid X.out; clear X
      have X := Lib.hid (O9.out.mod1 hm D60.out); clear O9
      have O9 := Lib.hid X.out; clear X
      have X := Lib.hid (O17.out.mod1 hm D62.out); clear O17
      have O17 := Lib.hid X.out; clear X
      have X := Lib.hid (O28.out.mod1 hm D64.out); clear O28
      have O28 := Lib.hid X.out; clear X
      have X := Lib.hid (O41.out.mod1 hm D66.out); clear O41
      have O41 := Lib.hid X.out; clear X
      have X := Lib.hid (O78.out.mod1 hm D92.out); clear O78
      have O78 := Lib.hid X.out; clear X
      have X := Lib.hid (O98.out.mod1 hm D112.out); clear O98
      have O98 := Lib.hid X.out; clear X
      have X := Lib.hid (O120.out.mod1 hm D134.out); clear O120
      have O120 := Lib.hid X.out; clear X
      have X := Lib.hid (O143.out.mod1 hm D157.out); clear O143
      have O143 := Lib.hid X.out; clear X
      have X := Lib.hid (show Below w.heap.size w v18 from Mod.below BW.out hm BW.out.size (fun b hb => (O55.out.in b hb).1)); clear BW O55
      have BW := Lib.hid X.out; clear X
      have O55 := Lib.hid ho; clear ho hm
      clear HSZ
      go_wp2_with (first | ((with_reducible show wpList _ _ _ ({ dst := _, op := Op.load 23 _, type := _, pos := _, after := _, guard := _ } :: _) _ _); refine wpList_load_row _ ⟨w.heap.size, 0, none⟩ rfl cs1 agg_lId HL1.out (blk_cells B0.out) ?_) | ((with_reducible show wpList _ _ _ ({ dst := _, op := Op.load 23 _, type := _, pos := _, after := _, guard := _ } :: _) _ _); refine wpList_load_row_g _ (by first | rfl | kernel_rfl) ⟨w.heap.size, 0, none⟩ rfl cs1 agg_lId HL1.out (blk_cells B0.out) ?_) | ((with_reducible show wpList _ _ _ ({ dst := _, op := Op.load 26 _, type := _, pos := _, after := _, guard := _ } :: _) _ _); refine wpList_load_row _ ⟨w.heap.size + 1, 0, none⟩ rfl cs2 agg_lCmd HL2.out (blk_cells B1.out) ?_) | ((with_reducible show wpList _ _ _ ({ dst := _, op := Op.load 26 _, type := _, pos := _, after := _, guard := _ } :: _) _ _); refine wpList_load_row_g _ (by first | rfl | kernel_rfl) ⟨w.heap.size + 1, 0, none⟩ rfl cs2 agg_lCmd HL2.out (blk_cells B1.out) ?_) | ((with_reducible show wpList _ _ _ ({ dst := _, op := Op.load 33 _, type := _, pos := _, after := _, guard := _ } :: _) _ _); refine wpList_load_row _ ⟨(World.heap v8).size, 0, none⟩ rfl cs'54 agg_Cmd Lcs54.out (blk_cells XB70.out) ?_) | ((with_reducible show wpList _ _ _ ({ dst := _, op := Op.load 33 _, type := _, pos := _, after := _, guard := _ } :: _) _ _); refine wpList_load_row_g _ (by first | rfl | kernel_rfl) ⟨(World.heap v8).size, 0, none⟩ rfl cs'54 agg_Cmd Lcs54.out (blk_cells XB70.out) ?_) | fail)
      have HSZ := Lib.hid BW.out.size
      refine (eqIdS_any r1 A'96 A'26 r1.length c'97 c'27 _ rfl (by first | omega | (have := HWT.out; omega)) O98.out.repAny O28.out.repAny).mono ?_; rintro e v19 ⟨rfl, hb⟩
      have X := Lib.hid (B0.out.below hb); clear B0
      have B0 := Lib.hid X.out; clear X
      have X := Lib.hid (B1.out.below hb); clear B1
      have B1 := Lib.hid X.out; clear X
      have X := Lib.hid (show Below w.heap.size w v19 from BW.out.trans (hb.mono BW.out.size)); clear BW
      have BW := Lib.hid X.out; clear X
      have X := Lib.hid (O3.out.below hb); clear O3
      have O3 := Lib.hid X.out; clear X
      have X := Lib.hid (O9.out.below hb); clear O9
      have O9 := Lib.hid X.out; clear X
      have X := Lib.hid (O17.out.below hb); clear O17
      have O17 := Lib.hid X.out; clear X
      have X := Lib.hid (O28.out.below hb); clear O28
      have O28 := Lib.hid X.out; clear X
      have X := Lib.hid (O41.out.below hb); clear O41
      have O41 := Lib.hid X.out; clear X
      have X := Lib.hid (O55.out.below hb); clear O55
      have O55 := Lib.hid X.out; clear X
      have X := Lib.hid (O78.out.below hb); clear O78
      have O78 := Lib.hid X.out; clear X
      have X := Lib.hid (O98.out.below hb); clear O98
      have O98 := Lib.hid X.out; clear X
      have X := Lib.hid (O120.out.below hb); clear O120
      have O120 := Lib.hid X.out; clear X
      have X := Lib.hid (O143.out.below hb); clear O143
      have O143 := Lib.hid X.out; clear X
      have X := Lib.hid (XB70.out.below hb); clear XB70
      have XB70 := Lib.hid X.out; clear X
      clear hb
      clear HSZ
      go_wp2_with (first | ((with_reducible show wpList _ _ _ ({ dst := _, op := Op.load 23 _, type := _, pos := _, after := _, guard := _ } :: _) _ _); refine wpList_load_row _ ⟨w.heap.size, 0, none⟩ rfl cs1 agg_lId HL1.out (blk_cells B0.out) ?_) | ((with_reducible show wpList _ _ _ ({ dst := _, op := Op.load 23 _, type := _, pos := _, after := _, guard := _ } :: _) _ _); refine wpList_load_row_g _ (by first | rfl | kernel_rfl) ⟨w.heap.size, 0, none⟩ rfl cs1 agg_lId HL1.out (blk_cells B0.out) ?_) | ((with_reducible show wpList _ _ _ ({ dst := _, op := Op.load 26 _, type := _, pos := _, after := _, guard := _ } :: _) _ _); refine wpList_load_row _ ⟨w.heap.size + 1, 0, none⟩ rfl cs2 agg_lCmd HL2.out (blk_cells B1.out) ?_) | ((with_reducible show wpList _ _ _ ({ dst := _, op := Op.load 26 _, type := _, pos := _, after := _, guard := _ } :: _) _ _); refine wpList_load_row_g _ (by first | rfl | kernel_rfl) ⟨w.heap.size + 1, 0, none⟩ rfl cs2 agg_lCmd HL2.out (blk_cells B1.out) ?_) | ((with_reducible show wpList _ _ _ ({ dst := _, op := Op.load 33 _, type := _, pos := _, after := _, guard := _ } :: _) _ _); refine wpList_load_row _ ⟨(World.heap v8).size, 0, none⟩ rfl cs'54 agg_Cmd Lcs54.out (blk_cells XB70.out) ?_) | ((with_reducible show wpList _ _ _ ({ dst := _, op := Op.load 33 _, type := _, pos := _, after := _, guard := _ } :: _) _ _); refine wpList_load_row_g _ (by first | rfl | kernel_rfl) ⟨(World.heap v8).size, 0, none⟩ rfl cs'54 agg_Cmd Lcs54.out (blk_cells XB70.out) ?_) | fail)
      have HSZ := Lib.hid BW.out.size
      refine (markIdS_any r1 (1) _ w.heap.size A'96 r1.length c'97 F99 _ rfl (by first | rfl | omega) (by omega) (by first | omega | (have := HCN.out; omega) | (have h81 := HCX0.out; have h82 := HCX2.out; have h83 := HN0.out; omega) | (have := HCX0.out; have := HN0.out; omega) | (have := HCX2.out; omega)) N100.out O98.out).mono ?_; rintro e v20 ⟨q171, rfl, hq, ho, hm⟩
      have hq0 : 0 ≤ q171 := by omega
      have HY172 := Lib.hid hq; clear hq
      have q171z := Lib.hid hq0
      have hdq171 : decide (q171 < 0) = false := by simp only [decide_eq_false_iff_not]; omega
      have X := Lib.hid (B0.out.mod hm D116.out); clear B0
      have B0 := Lib.hid X.out; clear X
      have X := Lib.hid (B1.out.mod hm D117.out); clear B1
      have B1 := Lib.hid X.out; clear X
      have X := Lib.hid (XB70.out.mod hm D115.out); clear XB70
      have XB70 := Lib.hid X.out; clear X
      have X := Lib.hid (O3.out.mod1 hm D101.out); clear O3
      have O3 := Lib.hid X.out; clear X
      have X := Lib.hid (O9.out.mod1 hm D103.out); clear O9
      have O9 := Lib.hid X.out; clear X
      have X := Lib.hid (O17.out.mod1 hm D105.out); clear O17
      have O17 := Lib.hid X.out; clear X
      have X := Lib.hid (O28.out.mod1 hm D107.out); clear O28
      have O28 := Lib.hid X.out; clear X
      have X := Lib.hid (O41.out.mod1 hm D109.out); clear O41
      have O41 := Lib.hid X.out; clear X
      have X := Lib.hid (O55.out.mod1 hm D111.out); clear O55
      have O55 := Lib.hid X.out; clear X
      have X := Lib.hid (O78.out.mod1 hm D113.out); clear O78
      have O78 := Lib.hid X.out; clear X
      have X := Lib.hid (O120.out.mod1 hm D138.out); clear O120
      have O120 := Lib.hid X.out; clear X
      have X := Lib.hid (O143.out.mod1 hm D161.out); clear O143
      have O143 := Lib.hid X.out; clear X
      have X := Lib.hid (show Below w.heap.size w v20 from Mod.below BW.out hm BW.out.size (fun b hb => (O98.out.in b hb).1)); clear BW O98
      have BW := Lib.hid X.out; clear X
      have O98 := Lib.hid ho; clear ho hm
      clear HSZ
      go_wp2_with (first | ((with_reducible show wpList _ _ _ ({ dst := _, op := Op.load 23 _, type := _, pos := _, after := _, guard := _ } :: _) _ _); refine wpList_load_row _ ⟨w.heap.size, 0, none⟩ rfl cs1 agg_lId HL1.out (blk_cells B0.out) ?_) | ((with_reducible show wpList _ _ _ ({ dst := _, op := Op.load 23 _, type := _, pos := _, after := _, guard := _ } :: _) _ _); refine wpList_load_row_g _ (by first | rfl | kernel_rfl) ⟨w.heap.size, 0, none⟩ rfl cs1 agg_lId HL1.out (blk_cells B0.out) ?_) | ((with_reducible show wpList _ _ _ ({ dst := _, op := Op.load 26 _, type := _, pos := _, after := _, guard := _ } :: _) _ _); refine wpList_load_row _ ⟨w.heap.size + 1, 0, none⟩ rfl cs2 agg_lCmd HL2.out (blk_cells B1.out) ?_) | ((with_reducible show wpList _ _ _ ({ dst := _, op := Op.load 26 _, type := _, pos := _, after := _, guard := _ } :: _) _ _); refine wpList_load_row_g _ (by first | rfl | kernel_rfl) ⟨w.heap.size + 1, 0, none⟩ rfl cs2 agg_lCmd HL2.out (blk_cells B1.out) ?_) | ((with_reducible show wpList _ _ _ ({ dst := _, op := Op.load 33 _, type := _, pos := _, after := _, guard := _ } :: _) _ _); refine wpList_load_row _ ⟨(World.heap v8).size, 0, none⟩ rfl cs'54 agg_Cmd Lcs54.out (blk_cells XB70.out) ?_) | ((with_reducible show wpList _ _ _ ({ dst := _, op := Op.load 33 _, type := _, pos := _, after := _, guard := _ } :: _) _ _); refine wpList_load_row_g _ (by first | rfl | kernel_rfl) ⟨(World.heap v8).size, 0, none⟩ rfl cs'54 agg_Cmd Lcs54.out (blk_cells XB70.out) ?_) | fail)
      have HSZ := Lib.hid BW.out.size
      refine (heldIdS_any r1 (1) _ A'96 r1.length c'97 _ rfl (by first | rfl | omega) (by omega) (by first | omega | (have := HCN.out; omega) | (have h81 := HCX0.out; have h82 := HCX2.out; have h83 := HN0.out; omega)) O98.out.repAny).mono ?_; rintro e v21 ⟨q173, rfl, hq, hb⟩
      have hq1 : q171 = q173 := (hq.trans HY172.out.symm).symm
      subst hq1
      clear hq
      have X := Lib.hid (B0.out.below hb); clear B0
      have B0 := Lib.hid X.out; clear X
      have X := Lib.hid (B1.out.below hb); clear B1
      have B1 := Lib.hid X.out; clear X
      have X := Lib.hid (show Below w.heap.size w v21 from BW.out.trans (hb.mono BW.out.size)); clear BW
      have BW := Lib.hid X.out; clear X
      have X := Lib.hid (O3.out.below hb); clear O3
      have O3 := Lib.hid X.out; clear X
      have X := Lib.hid (O9.out.below hb); clear O9
      have O9 := Lib.hid X.out; clear X
      have X := Lib.hid (O17.out.below hb); clear O17
      have O17 := Lib.hid X.out; clear X
      have X := Lib.hid (O28.out.below hb); clear O28
      have O28 := Lib.hid X.out; clear X
      have X := Lib.hid (O41.out.below hb); clear O41
      have O41 := Lib.hid X.out; clear X
      have X := Lib.hid (O55.out.below hb); clear O55
      have O55 := Lib.hid X.out; clear X
      have X := Lib.hid (O78.out.below hb); clear O78
      have O78 := Lib.hid X.out; clear X
      have X := Lib.hid (O98.out.below hb); clear O98
      have O98 := Lib.hid X.out; clear X
      have X := Lib.hid (O120.out.below hb); clear O120
      have O120 := Lib.hid X.out; clear X
      have X := Lib.hid (O143.out.below hb); clear O143
      have O143 := Lib.hid X.out; clear X
      have X := Lib.hid (XB70.out.below hb); clear XB70
      have XB70 := Lib.hid X.out; clear X
      clear hb
      clear HSZ
      go_wp2
      refine wp_region_x 12 [0, 2, 4, 1, 3, 5, 6, 7, 8, 9, 10, 11] (by kernel_rfl) (by kernel_rfl) ?_
      refine wpX_quiet rfl (by kernel_rfl) rfl ?_; go_wp2; refine ⟨rfl, ?_⟩
      refine wpX_quiet rfl (by kernel_rfl) rfl ?_; go_wp2_with (first | (refine wpList_load_row _ ⟨w.heap.size, 0, none⟩ rfl cs1 agg_lId HL1.out (blk_cells B0.out.drew) ?_) | (refine wpList_load_row _ ⟨w.heap.size + 1, 0, none⟩ rfl cs2 agg_lCmd HL2.out (blk_cells B1.out.drew) ?_) | (refine wpList_load_row _ ⟨(World.heap v8).size, 0, none⟩ rfl cs'54 agg_Cmd Lcs54.out (blk_cells XB70.out.drew) ?_) | fail); refine ⟨rfl, ?_⟩
      refine wpX_quiet rfl (by kernel_rfl) rfl ?_; go_wp2_with (first | (refine wpList_load_row _ ⟨w.heap.size, 0, none⟩ rfl cs1 agg_lId HL1.out (blk_cells B0.out.drew) ?_) | (refine wpList_load_row _ ⟨w.heap.size + 1, 0, none⟩ rfl cs2 agg_lCmd HL2.out (blk_cells B1.out.drew) ?_) | (refine wpList_load_row _ ⟨(World.heap v8).size, 0, none⟩ rfl cs'54 agg_Cmd Lcs54.out (blk_cells XB70.out.drew) ?_) | fail); refine ⟨rfl, ?_⟩
      refine wpX_actor rfl (by kernel_rfl) ?_
      go_wp2_with fail
      have HSZ := Lib.hid BW.out.size
      refine (toInstS_any x0 A0 n0 c0 _ HN0.out (by omega) ((RA0.out.below BW.out).drew)).mono ?_; rintro e v22 ⟨A'174, c'175, rfl, hM, hb⟩
      obtain ⟨F177, hnd, ho⟩ := hM
      have N178 := Lib.hid hnd; clear hnd
      have D179 := Lib.hid (show ∀ b ∈ F4, b ∉ F177 from fun b hb he => by have h1 := (O3.out.in b hb).2; have h2 := (ho.in b he).1; first | omega | (revert h1 h2; simp; done) | (revert h1 h2; simp; omega))
      have D180 := Lib.hid (show ∀ b ∈ F177, b ∉ F4 from fun b he hb => by have h1 := (O3.out.in b hb).2; have h2 := (ho.in b he).1; first | omega | (revert h1 h2; simp; done) | (revert h1 h2; simp; omega))
      have D181 := Lib.hid (show ∀ b ∈ F10, b ∉ F177 from fun b hb he => by have h1 := (O9.out.in b hb).2; have h2 := (ho.in b he).1; first | omega | (revert h1 h2; simp; done) | (revert h1 h2; simp; omega))
      have D182 := Lib.hid (show ∀ b ∈ F177, b ∉ F10 from fun b he hb => by have h1 := (O9.out.in b hb).2; have h2 := (ho.in b he).1; first | omega | (revert h1 h2; simp; done) | (revert h1 h2; simp; omega))
      have D183 := Lib.hid (show ∀ b ∈ F18, b ∉ F177 from fun b hb he => by have h1 := (O17.out.in b hb).2; have h2 := (ho.in b he).1; first | omega | (revert h1 h2; simp; done) | (revert h1 h2; simp; omega))
      have D184 := Lib.hid (show ∀ b ∈ F177, b ∉ F18 from fun b he hb => by have h1 := (O17.out.in b hb).2; have h2 := (ho.in b he).1; first | omega | (revert h1 h2; simp; done) | (revert h1 h2; simp; omega))
      have D185 := Lib.hid (show ∀ b ∈ F29, b ∉ F177 from fun b hb he => by have h1 := (O28.out.in b hb).2; have h2 := (ho.in b he).1; first | omega | (revert h1 h2; simp; done) | (revert h1 h2; simp; omega))
      have D186 := Lib.hid (show ∀ b ∈ F177, b ∉ F29 from fun b he hb => by have h1 := (O28.out.in b hb).2; have h2 := (ho.in b he).1; first | omega | (revert h1 h2; simp; done) | (revert h1 h2; simp; omega))
      have D187 := Lib.hid (show ∀ b ∈ F42, b ∉ F177 from fun b hb he => by have h1 := (O41.out.in b hb).2; have h2 := (ho.in b he).1; first | omega | (revert h1 h2; simp; done) | (revert h1 h2; simp; omega))
      have D188 := Lib.hid (show ∀ b ∈ F177, b ∉ F42 from fun b he hb => by have h1 := (O41.out.in b hb).2; have h2 := (ho.in b he).1; first | omega | (revert h1 h2; simp; done) | (revert h1 h2; simp; omega))
      have D189 := Lib.hid (show ∀ b ∈ F56, b ∉ F177 from fun b hb he => by have h1 := (O55.out.in b hb).2; have h2 := (ho.in b he).1; first | omega | (revert h1 h2; simp; done) | (revert h1 h2; simp; omega))
      have D190 := Lib.hid (show ∀ b ∈ F177, b ∉ F56 from fun b he hb => by have h1 := (O55.out.in b hb).2; have h2 := (ho.in b he).1; first | omega | (revert h1 h2; simp; done) | (revert h1 h2; simp; omega))
      have D191 := Lib.hid (show ∀ b ∈ F79, b ∉ F177 from fun b hb he => by have h1 := (O78.out.in b hb).2; have h2 := (ho.in b he).1; first | omega | (revert h1 h2; simp; done) | (revert h1 h2; simp; omega))
      have D192 := Lib.hid (show ∀ b ∈ F177, b ∉ F79 from fun b he hb => by have h1 := (O78.out.in b hb).2; have h2 := (ho.in b he).1; first | omega | (revert h1 h2; simp; done) | (revert h1 h2; simp; omega))
      have D193 := Lib.hid (show ∀ b ∈ F99, b ∉ F177 from fun b hb he => by have h1 := (O98.out.in b hb).2; have h2 := (ho.in b he).1; first | omega | (revert h1 h2; simp; done) | (revert h1 h2; simp; omega))
      have D194 := Lib.hid (show ∀ b ∈ F177, b ∉ F99 from fun b he hb => by have h1 := (O98.out.in b hb).2; have h2 := (ho.in b he).1; first | omega | (revert h1 h2; simp; done) | (revert h1 h2; simp; omega))
      have D195 := Lib.hid (show ∀ b ∈ F121, b ∉ F177 from fun b hb he => by have h1 := (O120.out.in b hb).2; have h2 := (ho.in b he).1; first | omega | (revert h1 h2; simp; done) | (revert h1 h2; simp; omega))
      have D196 := Lib.hid (show ∀ b ∈ F177, b ∉ F121 from fun b he hb => by have h1 := (O120.out.in b hb).2; have h2 := (ho.in b he).1; first | omega | (revert h1 h2; simp; done) | (revert h1 h2; simp; omega))
      have D197 := Lib.hid (show ∀ b ∈ F144, b ∉ F177 from fun b hb he => by have h1 := (O143.out.in b hb).2; have h2 := (ho.in b he).1; first | omega | (revert h1 h2; simp; done) | (revert h1 h2; simp; omega))
      have D198 := Lib.hid (show ∀ b ∈ F177, b ∉ F144 from fun b he hb => by have h1 := (O143.out.in b hb).2; have h2 := (ho.in b he).1; first | omega | (revert h1 h2; simp; done) | (revert h1 h2; simp; omega))
      have D199 := Lib.hid (show (World.heap v8).size ∉ F177 from fun he => by have h1 := XB70.out.lt; have h2 := (ho.in _ he).1; first | omega | (revert h1 h2; simp; done) | (revert h1 h2; simp; omega))
      have D200 := Lib.hid (show w.heap.size ∉ F177 from fun he => by have h1 := (show Blk v21 _ _ _ from B0.out).lt; have h2 := (ho.in _ he).1; first | omega | (revert h1 h2; simp; done) | (revert h1 h2; simp; omega))
      have D201 := Lib.hid (show w.heap.size + 1 ∉ F177 from fun he => by have h1 := (show Blk v21 _ _ _ from B1.out).lt; have h2 := (ho.in _ he).1; first | omega | (revert h1 h2; simp; done) | (revert h1 h2; simp; omega))
      have HB := Lib.hid hb
      have hb2 := below_drewL hb; clear hb
      have hb := hb2; clear hb2
      have hbs := hb.size
      have HBS := Lib.hid hbs; clear hbs
      have X := Lib.hid (B0.out.below hb); clear B0
      have B0 := Lib.hid X.out; clear X
      have X := Lib.hid (B1.out.below hb); clear B1
      have B1 := Lib.hid X.out; clear X
      have X := Lib.hid (show Below w.heap.size w v22 from BW.out.trans (hb.mono BW.out.size)); clear BW
      have BW := Lib.hid X.out; clear X
      have X := Lib.hid (O3.out.below hb); clear O3
      have O3 := Lib.hid X.out; clear X
      have X := Lib.hid (O9.out.below hb); clear O9
      have O9 := Lib.hid X.out; clear X
      have X := Lib.hid (O17.out.below hb); clear O17
      have O17 := Lib.hid X.out; clear X
      have X := Lib.hid (O28.out.below hb); clear O28
      have O28 := Lib.hid X.out; clear X
      have X := Lib.hid (O41.out.below hb); clear O41
      have O41 := Lib.hid X.out; clear X
      have X := Lib.hid (O55.out.below hb); clear O55
      have O55 := Lib.hid X.out; clear X
      have X := Lib.hid (O78.out.below hb); clear O78
      have O78 := Lib.hid X.out; clear X
      have X := Lib.hid (O98.out.below hb); clear O98
      have O98 := Lib.hid X.out; clear X
      have X := Lib.hid (O120.out.below hb); clear O120
      have O120 := Lib.hid X.out; clear X
      have X := Lib.hid (O143.out.below hb); clear O143
      have O143 := Lib.hid X.out; clear X
      have X := Lib.hid (XB70.out.below hb); clear XB70
      have XB70 := Lib.hid X.out; clear X
      clear hb
      have O176 := Lib.hid (Own.mono ho (show w.heap.size ≤ _ from HSZ.out)); clear ho HBS
      clear HSZ
      go_wp2
      refine ⟨Ext.of_below HB.out, ?_⟩
      clear HB
      refine wpX_actor rfl (by kernel_rfl) ?_
      go_wp2_with fail
      have HSZ := Lib.hid BW.out.size
      refine (toId_any x1 cs1 _ (by exact Nat.zero_le _) (A1.out.below BW.out)).mono ?_; rintro e v23 ⟨cs'202, rfl, hM, hb⟩
      have Lcs202 := Lib.hid (show cs'202.length = 2 from hM.rep.length.trans (IdD.width _))
      obtain ⟨F204, hnd, ho⟩ := hM
      have N205 := Lib.hid hnd; clear hnd
      have D206 := Lib.hid (show ∀ b ∈ F4, b ∉ F204 from fun b hb he => by have h1 := (O3.out.in b hb).2; have h2 := (ho.in b he).1; first | omega | (revert h1 h2; simp; done) | (revert h1 h2; simp; omega))
      have D207 := Lib.hid (show ∀ b ∈ F204, b ∉ F4 from fun b he hb => by have h1 := (O3.out.in b hb).2; have h2 := (ho.in b he).1; first | omega | (revert h1 h2; simp; done) | (revert h1 h2; simp; omega))
      have D208 := Lib.hid (show ∀ b ∈ F10, b ∉ F204 from fun b hb he => by have h1 := (O9.out.in b hb).2; have h2 := (ho.in b he).1; first | omega | (revert h1 h2; simp; done) | (revert h1 h2; simp; omega))
      have D209 := Lib.hid (show ∀ b ∈ F204, b ∉ F10 from fun b he hb => by have h1 := (O9.out.in b hb).2; have h2 := (ho.in b he).1; first | omega | (revert h1 h2; simp; done) | (revert h1 h2; simp; omega))
      have D210 := Lib.hid (show ∀ b ∈ F18, b ∉ F204 from fun b hb he => by have h1 := (O17.out.in b hb).2; have h2 := (ho.in b he).1; first | omega | (revert h1 h2; simp; done) | (revert h1 h2; simp; omega))
      have D211 := Lib.hid (show ∀ b ∈ F204, b ∉ F18 from fun b he hb => by have h1 := (O17.out.in b hb).2; have h2 := (ho.in b he).1; first | omega | (revert h1 h2; simp; done) | (revert h1 h2; simp; omega))
      have D212 := Lib.hid (show ∀ b ∈ F29, b ∉ F204 from fun b hb he => by have h1 := (O28.out.in b hb).2; have h2 := (ho.in b he).1; first | omega | (revert h1 h2; simp; done) | (revert h1 h2; simp; omega))
      have D213 := Lib.hid (show ∀ b ∈ F204, b ∉ F29 from fun b he hb => by have h1 := (O28.out.in b hb).2; have h2 := (ho.in b he).1; first | omega | (revert h1 h2; simp; done) | (revert h1 h2; simp; omega))
      have D214 := Lib.hid (show ∀ b ∈ F42, b ∉ F204 from fun b hb he => by have h1 := (O41.out.in b hb).2; have h2 := (ho.in b he).1; first | omega | (revert h1 h2; simp; done) | (revert h1 h2; simp; omega))
      have D215 := Lib.hid (show ∀ b ∈ F204, b ∉ F42 from fun b he hb => by have h1 := (O41.out.in b hb).2; have h2 := (ho.in b he).1; first | omega | (revert h1 h2; simp; done) | (revert h1 h2; simp; omega))
      have D216 := Lib.hid (show ∀ b ∈ F56, b ∉ F204 from fun b hb he => by have h1 := (O55.out.in b hb).2; have h2 := (ho.in b he).1; first | omega | (revert h1 h2; simp; done) | (revert h1 h2; simp; omega))
      have D217 := Lib.hid (show ∀ b ∈ F204, b ∉ F56 from fun b he hb => by have h1 := (O55.out.in b hb).2; have h2 := (ho.in b he).1; first | omega | (revert h1 h2; simp; done) | (revert h1 h2; simp; omega))
      have D218 := Lib.hid (show ∀ b ∈ F79, b ∉ F204 from fun b hb he => by have h1 := (O78.out.in b hb).2; have h2 := (ho.in b he).1; first | omega | (revert h1 h2; simp; done) | (revert h1 h2; simp; omega))
      have D219 := Lib.hid (show ∀ b ∈ F204, b ∉ F79 from fun b he hb => by have h1 := (O78.out.in b hb).2; have h2 := (ho.in b he).1; first | omega | (revert h1 h2; simp; done) | (revert h1 h2; simp; omega))
      have D220 := Lib.hid (show ∀ b ∈ F99, b ∉ F204 from fun b hb he => by have h1 := (O98.out.in b hb).2; have h2 := (ho.in b he).1; first | omega | (revert h1 h2; simp; done) | (revert h1 h2; simp; omega))
      have D221 := Lib.hid (show ∀ b ∈ F204, b ∉ F99 from fun b he hb => by have h1 := (O98.out.in b hb).2; have h2 := (ho.in b he).1; first | omega | (revert h1 h2; simp; done) | (revert h1 h2; simp; omega))
      have D222 := Lib.hid (show ∀ b ∈ F121, b ∉ F204 from fun b hb he => by have h1 := (O120.out.in b hb).2; have h2 := (ho.in b he).1; first | omega | (revert h1 h2; simp; done) | (revert h1 h2; simp; omega))
      have D223 := Lib.hid (show ∀ b ∈ F204, b ∉ F121 from fun b he hb => by have h1 := (O120.out.in b hb).2; have h2 := (ho.in b he).1; first | omega | (revert h1 h2; simp; done) | (revert h1 h2; simp; omega))
      have D224 := Lib.hid (show ∀ b ∈ F144, b ∉ F204 from fun b hb he => by have h1 := (O143.out.in b hb).2; have h2 := (ho.in b he).1; first | omega | (revert h1 h2; simp; done) | (revert h1 h2; simp; omega))
      have D225 := Lib.hid (show ∀ b ∈ F204, b ∉ F144 from fun b he hb => by have h1 := (O143.out.in b hb).2; have h2 := (ho.in b he).1; first | omega | (revert h1 h2; simp; done) | (revert h1 h2; simp; omega))
      have D226 := Lib.hid (show ∀ b ∈ F177, b ∉ F204 from fun b hb he => by have h1 := (O176.out.in b hb).2; have h2 := (ho.in b he).1; first | omega | (revert h1 h2; simp; done) | (revert h1 h2; simp; omega))
      have D227 := Lib.hid (show ∀ b ∈ F204, b ∉ F177 from fun b he hb => by have h1 := (O176.out.in b hb).2; have h2 := (ho.in b he).1; first | omega | (revert h1 h2; simp; done) | (revert h1 h2; simp; omega))
      have D228 := Lib.hid (show (World.heap v8).size ∉ F204 from fun he => by have h1 := XB70.out.lt; have h2 := (ho.in _ he).1; first | omega | (revert h1 h2; simp; done) | (revert h1 h2; simp; omega))
      have D229 := Lib.hid (show w.heap.size ∉ F204 from fun he => by have h1 := (show Blk v22 _ _ _ from B0.out).lt; have h2 := (ho.in _ he).1; first | omega | (revert h1 h2; simp; done) | (revert h1 h2; simp; omega))
      have D230 := Lib.hid (show w.heap.size + 1 ∉ F204 from fun he => by have h1 := (show Blk v22 _ _ _ from B1.out).lt; have h2 := (ho.in _ he).1; first | omega | (revert h1 h2; simp; done) | (revert h1 h2; simp; omega))
      have HB := Lib.hid hb
      have hbs := hb.size
      have HBS := Lib.hid hbs; clear hbs
      have X := Lib.hid (B0.out.below hb); clear B0
      have B0 := Lib.hid X.out; clear X
      have X := Lib.hid (B1.out.below hb); clear B1
      have B1 := Lib.hid X.out; clear X
      have X := Lib.hid (show Below w.heap.size w v23 from BW.out.trans (hb.mono BW.out.size)); clear BW
      have BW := Lib.hid X.out; clear X
      have X := Lib.hid (O3.out.below hb); clear O3
      have O3 := Lib.hid X.out; clear X
      have X := Lib.hid (O9.out.below hb); clear O9
      have O9 := Lib.hid X.out; clear X
      have X := Lib.hid (O17.out.below hb); clear O17
      have O17 := Lib.hid X.out; clear X
      have X := Lib.hid (O28.out.below hb); clear O28
      have O28 := Lib.hid X.out; clear X
      have X := Lib.hid (O41.out.below hb); clear O41
      have O41 := Lib.hid X.out; clear X
      have X := Lib.hid (O55.out.below hb); clear O55
      have O55 := Lib.hid X.out; clear X
      have X := Lib.hid (O78.out.below hb); clear O78
      have O78 := Lib.hid X.out; clear X
      have X := Lib.hid (O98.out.below hb); clear O98
      have O98 := Lib.hid X.out; clear X
      have X := Lib.hid (O120.out.below hb); clear O120
      have O120 := Lib.hid X.out; clear X
      have X := Lib.hid (O143.out.below hb); clear O143
      have O143 := Lib.hid X.out; clear X
      have X := Lib.hid (O176.out.below hb); clear O176
      have O176 := Lib.hid X.out; clear X
      have X := Lib.hid (XB70.out.below hb); clear XB70
      have XB70 := Lib.hid X.out; clear X
      clear hb
      have O203 := Lib.hid (Own.mono ho (show w.heap.size ≤ _ from HSZ.out)); clear ho HBS
      clear HSZ
      go_wp2
      refine ⟨Ext.of_below HB.out, ?_⟩
      clear HB
      refine wpX_actor rfl (by kernel_rfl) ?_
      go_wp2_with fail
      have HSZ := Lib.hid BW.out.size
      refine (toCmd_any x2 cs2 _ (by omega) (A2.out.below BW.out)).mono ?_; rintro e v24 ⟨cs'231, rfl, hM, hb⟩
      have Lcs231 := Lib.hid (show cs'231.length = 8 from hM.rep.length.trans (CmdD.width _))
      obtain ⟨F233, hnd, ho⟩ := hM
      have N234 := Lib.hid hnd; clear hnd
      have D235 := Lib.hid (show ∀ b ∈ F4, b ∉ F233 from fun b hb he => by have h1 := (O3.out.in b hb).2; have h2 := (ho.in b he).1; first | omega | (revert h1 h2; simp; done) | (revert h1 h2; simp; omega))
      have D236 := Lib.hid (show ∀ b ∈ F233, b ∉ F4 from fun b he hb => by have h1 := (O3.out.in b hb).2; have h2 := (ho.in b he).1; first | omega | (revert h1 h2; simp; done) | (revert h1 h2; simp; omega))
      have D237 := Lib.hid (show ∀ b ∈ F10, b ∉ F233 from fun b hb he => by have h1 := (O9.out.in b hb).2; have h2 := (ho.in b he).1; first | omega | (revert h1 h2; simp; done) | (revert h1 h2; simp; omega))
      have D238 := Lib.hid (show ∀ b ∈ F233, b ∉ F10 from fun b he hb => by have h1 := (O9.out.in b hb).2; have h2 := (ho.in b he).1; first | omega | (revert h1 h2; simp; done) | (revert h1 h2; simp; omega))
      have D239 := Lib.hid (show ∀ b ∈ F18, b ∉ F233 from fun b hb he => by have h1 := (O17.out.in b hb).2; have h2 := (ho.in b he).1; first | omega | (revert h1 h2; simp; done) | (revert h1 h2; simp; omega))
      have D240 := Lib.hid (show ∀ b ∈ F233, b ∉ F18 from fun b he hb => by have h1 := (O17.out.in b hb).2; have h2 := (ho.in b he).1; first | omega | (revert h1 h2; simp; done) | (revert h1 h2; simp; omega))
      have D241 := Lib.hid (show ∀ b ∈ F29, b ∉ F233 from fun b hb he => by have h1 := (O28.out.in b hb).2; have h2 := (ho.in b he).1; first | omega | (revert h1 h2; simp; done) | (revert h1 h2; simp; omega))
      have D242 := Lib.hid (show ∀ b ∈ F233, b ∉ F29 from fun b he hb => by have h1 := (O28.out.in b hb).2; have h2 := (ho.in b he).1; first | omega | (revert h1 h2; simp; done) | (revert h1 h2; simp; omega))
      have D243 := Lib.hid (show ∀ b ∈ F42, b ∉ F233 from fun b hb he => by have h1 := (O41.out.in b hb).2; have h2 := (ho.in b he).1; first | omega | (revert h1 h2; simp; done) | (revert h1 h2; simp; omega))
      have D244 := Lib.hid (show ∀ b ∈ F233, b ∉ F42 from fun b he hb => by have h1 := (O41.out.in b hb).2; have h2 := (ho.in b he).1; first | omega | (revert h1 h2; simp; done) | (revert h1 h2; simp; omega))
      have D245 := Lib.hid (show ∀ b ∈ F56, b ∉ F233 from fun b hb he => by have h1 := (O55.out.in b hb).2; have h2 := (ho.in b he).1; first | omega | (revert h1 h2; simp; done) | (revert h1 h2; simp; omega))
      have D246 := Lib.hid (show ∀ b ∈ F233, b ∉ F56 from fun b he hb => by have h1 := (O55.out.in b hb).2; have h2 := (ho.in b he).1; first | omega | (revert h1 h2; simp; done) | (revert h1 h2; simp; omega))
      have D247 := Lib.hid (show ∀ b ∈ F79, b ∉ F233 from fun b hb he => by have h1 := (O78.out.in b hb).2; have h2 := (ho.in b he).1; first | omega | (revert h1 h2; simp; done) | (revert h1 h2; simp; omega))
      have D248 := Lib.hid (show ∀ b ∈ F233, b ∉ F79 from fun b he hb => by have h1 := (O78.out.in b hb).2; have h2 := (ho.in b he).1; first | omega | (revert h1 h2; simp; done) | (revert h1 h2; simp; omega))
      have D249 := Lib.hid (show ∀ b ∈ F99, b ∉ F233 from fun b hb he => by have h1 := (O98.out.in b hb).2; have h2 := (ho.in b he).1; first | omega | (revert h1 h2; simp; done) | (revert h1 h2; simp; omega))
      have D250 := Lib.hid (show ∀ b ∈ F233, b ∉ F99 from fun b he hb => by have h1 := (O98.out.in b hb).2; have h2 := (ho.in b he).1; first | omega | (revert h1 h2; simp; done) | (revert h1 h2; simp; omega))
      have D251 := Lib.hid (show ∀ b ∈ F121, b ∉ F233 from fun b hb he => by have h1 := (O120.out.in b hb).2; have h2 := (ho.in b he).1; first | omega | (revert h1 h2; simp; done) | (revert h1 h2; simp; omega))
      have D252 := Lib.hid (show ∀ b ∈ F233, b ∉ F121 from fun b he hb => by have h1 := (O120.out.in b hb).2; have h2 := (ho.in b he).1; first | omega | (revert h1 h2; simp; done) | (revert h1 h2; simp; omega))
      have D253 := Lib.hid (show ∀ b ∈ F144, b ∉ F233 from fun b hb he => by have h1 := (O143.out.in b hb).2; have h2 := (ho.in b he).1; first | omega | (revert h1 h2; simp; done) | (revert h1 h2; simp; omega))
      have D254 := Lib.hid (show ∀ b ∈ F233, b ∉ F144 from fun b he hb => by have h1 := (O143.out.in b hb).2; have h2 := (ho.in b he).1; first | omega | (revert h1 h2; simp; done) | (revert h1 h2; simp; omega))
      have D255 := Lib.hid (show ∀ b ∈ F177, b ∉ F233 from fun b hb he => by have h1 := (O176.out.in b hb).2; have h2 := (ho.in b he).1; first | omega | (revert h1 h2; simp; done) | (revert h1 h2; simp; omega))
      have D256 := Lib.hid (show ∀ b ∈ F233, b ∉ F177 from fun b he hb => by have h1 := (O176.out.in b hb).2; have h2 := (ho.in b he).1; first | omega | (revert h1 h2; simp; done) | (revert h1 h2; simp; omega))
      have D257 := Lib.hid (show ∀ b ∈ F204, b ∉ F233 from fun b hb he => by have h1 := (O203.out.in b hb).2; have h2 := (ho.in b he).1; first | omega | (revert h1 h2; simp; done) | (revert h1 h2; simp; omega))
      have D258 := Lib.hid (show ∀ b ∈ F233, b ∉ F204 from fun b he hb => by have h1 := (O203.out.in b hb).2; have h2 := (ho.in b he).1; first | omega | (revert h1 h2; simp; done) | (revert h1 h2; simp; omega))
      have D259 := Lib.hid (show (World.heap v8).size ∉ F233 from fun he => by have h1 := XB70.out.lt; have h2 := (ho.in _ he).1; first | omega | (revert h1 h2; simp; done) | (revert h1 h2; simp; omega))
      have D260 := Lib.hid (show w.heap.size ∉ F233 from fun he => by have h1 := (show Blk v23 _ _ _ from B0.out).lt; have h2 := (ho.in _ he).1; first | omega | (revert h1 h2; simp; done) | (revert h1 h2; simp; omega))
      have D261 := Lib.hid (show w.heap.size + 1 ∉ F233 from fun he => by have h1 := (show Blk v23 _ _ _ from B1.out).lt; have h2 := (ho.in _ he).1; first | omega | (revert h1 h2; simp; done) | (revert h1 h2; simp; omega))
      have HB := Lib.hid hb
      have hbs := hb.size
      have HBS := Lib.hid hbs; clear hbs
      have X := Lib.hid (B0.out.below hb); clear B0
      have B0 := Lib.hid X.out; clear X
      have X := Lib.hid (B1.out.below hb); clear B1
      have B1 := Lib.hid X.out; clear X
      have X := Lib.hid (show Below w.heap.size w v24 from BW.out.trans (hb.mono BW.out.size)); clear BW
      have BW := Lib.hid X.out; clear X
      have X := Lib.hid (O3.out.below hb); clear O3
      have O3 := Lib.hid X.out; clear X
      have X := Lib.hid (O9.out.below hb); clear O9
      have O9 := Lib.hid X.out; clear X
      have X := Lib.hid (O17.out.below hb); clear O17
      have O17 := Lib.hid X.out; clear X
      have X := Lib.hid (O28.out.below hb); clear O28
      have O28 := Lib.hid X.out; clear X
      have X := Lib.hid (O41.out.below hb); clear O41
      have O41 := Lib.hid X.out; clear X
      have X := Lib.hid (O55.out.below hb); clear O55
      have O55 := Lib.hid X.out; clear X
      have X := Lib.hid (O78.out.below hb); clear O78
      have O78 := Lib.hid X.out; clear X
      have X := Lib.hid (O98.out.below hb); clear O98
      have O98 := Lib.hid X.out; clear X
      have X := Lib.hid (O120.out.below hb); clear O120
      have O120 := Lib.hid X.out; clear X
      have X := Lib.hid (O143.out.below hb); clear O143
      have O143 := Lib.hid X.out; clear X
      have X := Lib.hid (O176.out.below hb); clear O176
      have O176 := Lib.hid X.out; clear X
      have X := Lib.hid (O203.out.below hb); clear O203
      have O203 := Lib.hid X.out; clear X
      have X := Lib.hid (XB70.out.below hb); clear XB70
      have XB70 := Lib.hid X.out; clear X
      clear hb
      have O232 := Lib.hid (Own.mono ho (show w.heap.size ≤ _ from HSZ.out)); clear ho HBS
      clear HSZ
      go_wp2
      refine ⟨Ext.of_below HB.out, ?_⟩
      clear HB
      refine wpX_actor rfl (by kernel_rfl) ?_
      go_wp2_with fail
      have HSZ := Lib.hid BW.out.size
      refine (Hi.out A'174 c'175 cs'202 cs'231 _ O176.out.repAny O203.out.repAny O232.out.repAny).mono ?_; rintro e v25 ⟨A'262, _, c'263, rfl, rfl, hM1, hb⟩
      obtain ⟨F265, hnd, ho⟩ := hM1
      have N266 := Lib.hid hnd; clear hnd
      have D267 := Lib.hid (show ∀ b ∈ F4, b ∉ F265 from fun b hb he => by have h1 := (O3.out.in b hb).2; have h2 := (ho.in b he).1; first | omega | (revert h1 h2; simp; done) | (revert h1 h2; simp; omega))
      have D268 := Lib.hid (show ∀ b ∈ F265, b ∉ F4 from fun b he hb => by have h1 := (O3.out.in b hb).2; have h2 := (ho.in b he).1; first | omega | (revert h1 h2; simp; done) | (revert h1 h2; simp; omega))
      have D269 := Lib.hid (show ∀ b ∈ F10, b ∉ F265 from fun b hb he => by have h1 := (O9.out.in b hb).2; have h2 := (ho.in b he).1; first | omega | (revert h1 h2; simp; done) | (revert h1 h2; simp; omega))
      have D270 := Lib.hid (show ∀ b ∈ F265, b ∉ F10 from fun b he hb => by have h1 := (O9.out.in b hb).2; have h2 := (ho.in b he).1; first | omega | (revert h1 h2; simp; done) | (revert h1 h2; simp; omega))
      have D271 := Lib.hid (show ∀ b ∈ F18, b ∉ F265 from fun b hb he => by have h1 := (O17.out.in b hb).2; have h2 := (ho.in b he).1; first | omega | (revert h1 h2; simp; done) | (revert h1 h2; simp; omega))
      have D272 := Lib.hid (show ∀ b ∈ F265, b ∉ F18 from fun b he hb => by have h1 := (O17.out.in b hb).2; have h2 := (ho.in b he).1; first | omega | (revert h1 h2; simp; done) | (revert h1 h2; simp; omega))
      have D273 := Lib.hid (show ∀ b ∈ F29, b ∉ F265 from fun b hb he => by have h1 := (O28.out.in b hb).2; have h2 := (ho.in b he).1; first | omega | (revert h1 h2; simp; done) | (revert h1 h2; simp; omega))
      have D274 := Lib.hid (show ∀ b ∈ F265, b ∉ F29 from fun b he hb => by have h1 := (O28.out.in b hb).2; have h2 := (ho.in b he).1; first | omega | (revert h1 h2; simp; done) | (revert h1 h2; simp; omega))
      have D275 := Lib.hid (show ∀ b ∈ F42, b ∉ F265 from fun b hb he => by have h1 := (O41.out.in b hb).2; have h2 := (ho.in b he).1; first | omega | (revert h1 h2; simp; done) | (revert h1 h2; simp; omega))
      have D276 := Lib.hid (show ∀ b ∈ F265, b ∉ F42 from fun b he hb => by have h1 := (O41.out.in b hb).2; have h2 := (ho.in b he).1; first | omega | (revert h1 h2; simp; done) | (revert h1 h2; simp; omega))
      have D277 := Lib.hid (show ∀ b ∈ F56, b ∉ F265 from fun b hb he => by have h1 := (O55.out.in b hb).2; have h2 := (ho.in b he).1; first | omega | (revert h1 h2; simp; done) | (revert h1 h2; simp; omega))
      have D278 := Lib.hid (show ∀ b ∈ F265, b ∉ F56 from fun b he hb => by have h1 := (O55.out.in b hb).2; have h2 := (ho.in b he).1; first | omega | (revert h1 h2; simp; done) | (revert h1 h2; simp; omega))
      have D279 := Lib.hid (show ∀ b ∈ F79, b ∉ F265 from fun b hb he => by have h1 := (O78.out.in b hb).2; have h2 := (ho.in b he).1; first | omega | (revert h1 h2; simp; done) | (revert h1 h2; simp; omega))
      have D280 := Lib.hid (show ∀ b ∈ F265, b ∉ F79 from fun b he hb => by have h1 := (O78.out.in b hb).2; have h2 := (ho.in b he).1; first | omega | (revert h1 h2; simp; done) | (revert h1 h2; simp; omega))
      have D281 := Lib.hid (show ∀ b ∈ F99, b ∉ F265 from fun b hb he => by have h1 := (O98.out.in b hb).2; have h2 := (ho.in b he).1; first | omega | (revert h1 h2; simp; done) | (revert h1 h2; simp; omega))
      have D282 := Lib.hid (show ∀ b ∈ F265, b ∉ F99 from fun b he hb => by have h1 := (O98.out.in b hb).2; have h2 := (ho.in b he).1; first | omega | (revert h1 h2; simp; done) | (revert h1 h2; simp; omega))
      have D283 := Lib.hid (show ∀ b ∈ F121, b ∉ F265 from fun b hb he => by have h1 := (O120.out.in b hb).2; have h2 := (ho.in b he).1; first | omega | (revert h1 h2; simp; done) | (revert h1 h2; simp; omega))
      have D284 := Lib.hid (show ∀ b ∈ F265, b ∉ F121 from fun b he hb => by have h1 := (O120.out.in b hb).2; have h2 := (ho.in b he).1; first | omega | (revert h1 h2; simp; done) | (revert h1 h2; simp; omega))
      have D285 := Lib.hid (show ∀ b ∈ F144, b ∉ F265 from fun b hb he => by have h1 := (O143.out.in b hb).2; have h2 := (ho.in b he).1; first | omega | (revert h1 h2; simp; done) | (revert h1 h2; simp; omega))
      have D286 := Lib.hid (show ∀ b ∈ F265, b ∉ F144 from fun b he hb => by have h1 := (O143.out.in b hb).2; have h2 := (ho.in b he).1; first | omega | (revert h1 h2; simp; done) | (revert h1 h2; simp; omega))
      have D287 := Lib.hid (show ∀ b ∈ F177, b ∉ F265 from fun b hb he => by have h1 := (O176.out.in b hb).2; have h2 := (ho.in b he).1; first | omega | (revert h1 h2; simp; done) | (revert h1 h2; simp; omega))
      have D288 := Lib.hid (show ∀ b ∈ F265, b ∉ F177 from fun b he hb => by have h1 := (O176.out.in b hb).2; have h2 := (ho.in b he).1; first | omega | (revert h1 h2; simp; done) | (revert h1 h2; simp; omega))
      have D289 := Lib.hid (show ∀ b ∈ F204, b ∉ F265 from fun b hb he => by have h1 := (O203.out.in b hb).2; have h2 := (ho.in b he).1; first | omega | (revert h1 h2; simp; done) | (revert h1 h2; simp; omega))
      have D290 := Lib.hid (show ∀ b ∈ F265, b ∉ F204 from fun b he hb => by have h1 := (O203.out.in b hb).2; have h2 := (ho.in b he).1; first | omega | (revert h1 h2; simp; done) | (revert h1 h2; simp; omega))
      have D291 := Lib.hid (show ∀ b ∈ F233, b ∉ F265 from fun b hb he => by have h1 := (O232.out.in b hb).2; have h2 := (ho.in b he).1; first | omega | (revert h1 h2; simp; done) | (revert h1 h2; simp; omega))
      have D292 := Lib.hid (show ∀ b ∈ F265, b ∉ F233 from fun b he hb => by have h1 := (O232.out.in b hb).2; have h2 := (ho.in b he).1; first | omega | (revert h1 h2; simp; done) | (revert h1 h2; simp; omega))
      have D293 := Lib.hid (show (World.heap v8).size ∉ F265 from fun he => by have h1 := XB70.out.lt; have h2 := (ho.in _ he).1; first | omega | (revert h1 h2; simp; done) | (revert h1 h2; simp; omega))
      have D294 := Lib.hid (show w.heap.size ∉ F265 from fun he => by have h1 := (show Blk v24 _ _ _ from B0.out).lt; have h2 := (ho.in _ he).1; first | omega | (revert h1 h2; simp; done) | (revert h1 h2; simp; omega))
      have D295 := Lib.hid (show w.heap.size + 1 ∉ F265 from fun he => by have h1 := (show Blk v24 _ _ _ from B1.out).lt; have h2 := (ho.in _ he).1; first | omega | (revert h1 h2; simp; done) | (revert h1 h2; simp; omega))
      have HB := Lib.hid hb
      have hbs := hb.size
      have HBS := Lib.hid hbs; clear hbs
      have X := Lib.hid (B0.out.below hb); clear B0
      have B0 := Lib.hid X.out; clear X
      have X := Lib.hid (B1.out.below hb); clear B1
      have B1 := Lib.hid X.out; clear X
      have X := Lib.hid (show Below w.heap.size w v25 from BW.out.trans (hb.mono BW.out.size)); clear BW
      have BW := Lib.hid X.out; clear X
      have X := Lib.hid (O3.out.below hb); clear O3
      have O3 := Lib.hid X.out; clear X
      have X := Lib.hid (O9.out.below hb); clear O9
      have O9 := Lib.hid X.out; clear X
      have X := Lib.hid (O17.out.below hb); clear O17
      have O17 := Lib.hid X.out; clear X
      have X := Lib.hid (O28.out.below hb); clear O28
      have O28 := Lib.hid X.out; clear X
      have X := Lib.hid (O41.out.below hb); clear O41
      have O41 := Lib.hid X.out; clear X
      have X := Lib.hid (O55.out.below hb); clear O55
      have O55 := Lib.hid X.out; clear X
      have X := Lib.hid (O78.out.below hb); clear O78
      have O78 := Lib.hid X.out; clear X
      have X := Lib.hid (O98.out.below hb); clear O98
      have O98 := Lib.hid X.out; clear X
      have X := Lib.hid (O120.out.below hb); clear O120
      have O120 := Lib.hid X.out; clear X
      have X := Lib.hid (O143.out.below hb); clear O143
      have O143 := Lib.hid X.out; clear X
      have X := Lib.hid (O176.out.below hb); clear O176
      have O176 := Lib.hid X.out; clear X
      have X := Lib.hid (O203.out.below hb); clear O203
      have O203 := Lib.hid X.out; clear X
      have X := Lib.hid (O232.out.below hb); clear O232
      have O232 := Lib.hid X.out; clear X
      have X := Lib.hid (XB70.out.below hb); clear XB70
      have XB70 := Lib.hid X.out; clear X
      clear hb
      have O264 := Lib.hid (Own.mono ho (show w.heap.size ≤ _ from HSZ.out)); clear ho HBS
      clear HSZ
      go_wp2
      refine ⟨Ext.of_below HB.out, ?_⟩
      clear HB
      refine wpX_quiet rfl (by kernel_rfl) rfl ?_; go_wp2; refine ⟨rfl, ?_⟩
      refine wpX_quiet rfl (by kernel_rfl) rfl ?_; go_wp2; refine ⟨rfl, ?_⟩
      refine wpX_quiet rfl (by kernel_rfl) rfl ?_; go_wp2; refine ⟨rfl, ?_⟩
      refine wpX_quiet rfl (by kernel_rfl) rfl ?_; go_wp2; refine ⟨rfl, ?_⟩
      refine wpX_quiet rfl (by kernel_rfl) rfl ?_; go_wp2; refine ⟨rfl, ?_⟩
      refine wpX_nil ?_
      try simp only [List.drop_succ_cons, List.drop_zero]
      go_wp2_with (first | ((with_reducible show wpList _ _ _ ({ dst := _, op := Op.load 23 _, type := _, pos := _, after := _, guard := _ } :: _) _ _); refine wpList_load_row _ ⟨w.heap.size, 0, none⟩ rfl cs1 agg_lId HL1.out (blk_cells B0.out) ?_) | ((with_reducible show wpList _ _ _ ({ dst := _, op := Op.load 23 _, type := _, pos := _, after := _, guard := _ } :: _) _ _); refine wpList_load_row_g _ (by first | rfl | kernel_rfl) ⟨w.heap.size, 0, none⟩ rfl cs1 agg_lId HL1.out (blk_cells B0.out) ?_) | ((with_reducible show wpList _ _ _ ({ dst := _, op := Op.load 26 _, type := _, pos := _, after := _, guard := _ } :: _) _ _); refine wpList_load_row _ ⟨w.heap.size + 1, 0, none⟩ rfl cs2 agg_lCmd HL2.out (blk_cells B1.out) ?_) | ((with_reducible show wpList _ _ _ ({ dst := _, op := Op.load 26 _, type := _, pos := _, after := _, guard := _ } :: _) _ _); refine wpList_load_row_g _ (by first | rfl | kernel_rfl) ⟨w.heap.size + 1, 0, none⟩ rfl cs2 agg_lCmd HL2.out (blk_cells B1.out) ?_) | ((with_reducible show wpList _ _ _ ({ dst := _, op := Op.load 33 _, type := _, pos := _, after := _, guard := _ } :: _) _ _); refine wpList_load_row _ ⟨(World.heap v8).size, 0, none⟩ rfl cs'54 agg_Cmd Lcs54.out (blk_cells XB70.out) ?_) | ((with_reducible show wpList _ _ _ ({ dst := _, op := Op.load 33 _, type := _, pos := _, after := _, guard := _ } :: _) _ _); refine wpList_load_row_g _ (by first | rfl | kernel_rfl) ⟨(World.heap v8).size, 0, none⟩ rfl cs'54 agg_Cmd Lcs54.out (blk_cells XB70.out) ?_) | fail)
      have HSZ := Lib.hid BW.out.size
      refine (eqIdS_any r1 A'262 A'26 r1.length c'263 c'27 _ rfl (by first | omega | (have := HWT.out; omega)) O264.out.repAny O28.out.repAny).mono ?_; rintro e v26 ⟨rfl, hb⟩
      have X := Lib.hid (B0.out.below hb); clear B0
      have B0 := Lib.hid X.out; clear X
      have X := Lib.hid (B1.out.below hb); clear B1
      have B1 := Lib.hid X.out; clear X
      have X := Lib.hid (show Below w.heap.size w v26 from BW.out.trans (hb.mono BW.out.size)); clear BW
      have BW := Lib.hid X.out; clear X
      have X := Lib.hid (O3.out.below hb); clear O3
      have O3 := Lib.hid X.out; clear X
      have X := Lib.hid (O9.out.below hb); clear O9
      have O9 := Lib.hid X.out; clear X
      have X := Lib.hid (O17.out.below hb); clear O17
      have O17 := Lib.hid X.out; clear X
      have X := Lib.hid (O28.out.below hb); clear O28
      have O28 := Lib.hid X.out; clear X
      have X := Lib.hid (O41.out.below hb); clear O41
      have O41 := Lib.hid X.out; clear X
      have X := Lib.hid (O55.out.below hb); clear O55
      have O55 := Lib.hid X.out; clear X
      have X := Lib.hid (O78.out.below hb); clear O78
      have O78 := Lib.hid X.out; clear X
      have X := Lib.hid (O98.out.below hb); clear O98
      have O98 := Lib.hid X.out; clear X
      have X := Lib.hid (O120.out.below hb); clear O120
      have O120 := Lib.hid X.out; clear X
      have X := Lib.hid (O143.out.below hb); clear O143
      have O143 := Lib.hid X.out; clear X
      have X := Lib.hid (O176.out.below hb); clear O176
      have O176 := Lib.hid X.out; clear X
      have X := Lib.hid (O203.out.below hb); clear O203
      have O203 := Lib.hid X.out; clear X
      have X := Lib.hid (O232.out.below hb); clear O232
      have O232 := Lib.hid X.out; clear X
      have X := Lib.hid (O264.out.below hb); clear O264
      have O264 := Lib.hid X.out; clear X
      have X := Lib.hid (XB70.out.below hb); clear XB70
      have XB70 := Lib.hid X.out; clear X
      clear hb
      clear HSZ
      go_wp2_with (first | ((with_reducible show wpList _ _ _ ({ dst := _, op := Op.load 23 _, type := _, pos := _, after := _, guard := _ } :: _) _ _); refine wpList_load_row _ ⟨w.heap.size, 0, none⟩ rfl cs1 agg_lId HL1.out (blk_cells B0.out) ?_) | ((with_reducible show wpList _ _ _ ({ dst := _, op := Op.load 23 _, type := _, pos := _, after := _, guard := _ } :: _) _ _); refine wpList_load_row_g _ (by first | rfl | kernel_rfl) ⟨w.heap.size, 0, none⟩ rfl cs1 agg_lId HL1.out (blk_cells B0.out) ?_) | ((with_reducible show wpList _ _ _ ({ dst := _, op := Op.load 26 _, type := _, pos := _, after := _, guard := _ } :: _) _ _); refine wpList_load_row _ ⟨w.heap.size + 1, 0, none⟩ rfl cs2 agg_lCmd HL2.out (blk_cells B1.out) ?_) | ((with_reducible show wpList _ _ _ ({ dst := _, op := Op.load 26 _, type := _, pos := _, after := _, guard := _ } :: _) _ _); refine wpList_load_row_g _ (by first | rfl | kernel_rfl) ⟨w.heap.size + 1, 0, none⟩ rfl cs2 agg_lCmd HL2.out (blk_cells B1.out) ?_) | ((with_reducible show wpList _ _ _ ({ dst := _, op := Op.load 33 _, type := _, pos := _, after := _, guard := _ } :: _) _ _); refine wpList_load_row _ ⟨(World.heap v8).size, 0, none⟩ rfl cs'54 agg_Cmd Lcs54.out (blk_cells XB70.out) ?_) | ((with_reducible show wpList _ _ _ ({ dst := _, op := Op.load 33 _, type := _, pos := _, after := _, guard := _ } :: _) _ _); refine wpList_load_row_g _ (by first | rfl | kernel_rfl) ⟨(World.heap v8).size, 0, none⟩ rfl cs'54 agg_Cmd Lcs54.out (blk_cells XB70.out) ?_) | fail)
      have HSZ := Lib.hid BW.out.size
      refine (heldIdS_any r1 (1) _ A'96 r1.length c'97 _ rfl (by first | rfl | omega) (by omega) (by first | omega | (have := HCN.out; omega) | (have h81 := HCX0.out; have h82 := HCX2.out; have h83 := HN0.out; omega)) O98.out.repAny).mono ?_; rintro e v27 ⟨q296, rfl, hq, hb⟩
      have hq1 : q171 = q296 := (hq.trans HY172.out.symm).symm
      subst hq1
      clear hq
      have X := Lib.hid (B0.out.below hb); clear B0
      have B0 := Lib.hid X.out; clear X
      have X := Lib.hid (B1.out.below hb); clear B1
      have B1 := Lib.hid X.out; clear X
      have X := Lib.hid (show Below w.heap.size w v27 from BW.out.trans (hb.mono BW.out.size)); clear BW
      have BW := Lib.hid X.out; clear X
      have X := Lib.hid (O3.out.below hb); clear O3
      have O3 := Lib.hid X.out; clear X
      have X := Lib.hid (O9.out.below hb); clear O9
      have O9 := Lib.hid X.out; clear X
      have X := Lib.hid (O17.out.below hb); clear O17
      have O17 := Lib.hid X.out; clear X
      have X := Lib.hid (O28.out.below hb); clear O28
      have O28 := Lib.hid X.out; clear X
      have X := Lib.hid (O41.out.below hb); clear O41
      have O41 := Lib.hid X.out; clear X
      have X := Lib.hid (O55.out.below hb); clear O55
      have O55 := Lib.hid X.out; clear X
      have X := Lib.hid (O78.out.below hb); clear O78
      have O78 := Lib.hid X.out; clear X
      have X := Lib.hid (O98.out.below hb); clear O98
      have O98 := Lib.hid X.out; clear X
      have X := Lib.hid (O120.out.below hb); clear O120
      have O120 := Lib.hid X.out; clear X
      have X := Lib.hid (O143.out.below hb); clear O143
      have O143 := Lib.hid X.out; clear X
      have X := Lib.hid (O176.out.below hb); clear O176
      have O176 := Lib.hid X.out; clear X
      have X := Lib.hid (O203.out.below hb); clear O203
      have O203 := Lib.hid X.out; clear X
      have X := Lib.hid (O232.out.below hb); clear O232
      have O232 := Lib.hid X.out; clear X
      have X := Lib.hid (O264.out.below hb); clear O264
      have O264 := Lib.hid X.out; clear X
      have X := Lib.hid (XB70.out.below hb); clear XB70
      have XB70 := Lib.hid X.out; clear X
      clear hb
      clear HSZ
      go_wp2
      go_ret
      exact ⟨ret_eq (by first | rfl | simp), BW.out⟩
    · skip
      go_enter Try.func10, Try.ntmps10
      go_wp2_with (first | ((with_reducible show wpList _ _ _ ({ dst := _, op := Op.load 23 _, type := _, pos := _, after := _, guard := _ } :: _) _ _); refine wpList_load_row _ ⟨w.heap.size, 0, none⟩ rfl cs1 agg_lId HL1.out (blk_cells (blk2_0 _ _ _ _)) ?_) | ((with_reducible show wpList _ _ _ ({ dst := _, op := Op.load 23 _, type := _, pos := _, after := _, guard := _ } :: _) _ _); refine wpList_load_row_g _ (by first | rfl | kernel_rfl) ⟨w.heap.size, 0, none⟩ rfl cs1 agg_lId HL1.out (blk_cells (blk2_0 _ _ _ _)) ?_) | ((with_reducible show wpList _ _ _ ({ dst := _, op := Op.load 26 _, type := _, pos := _, after := _, guard := _ } :: _) _ _); refine wpList_load_row _ ⟨w.heap.size + 1, 0, none⟩ rfl cs2 agg_lCmd HL2.out (blk_cells (blk2_1 _ _ _ _)) ?_) | ((with_reducible show wpList _ _ _ ({ dst := _, op := Op.load 26 _, type := _, pos := _, after := _, guard := _ } :: _) _ _); refine wpList_load_row_g _ (by first | rfl | kernel_rfl) ⟨w.heap.size + 1, 0, none⟩ rfl cs2 agg_lCmd HL2.out (blk_cells (blk2_1 _ _ _ _)) ?_) | fail)
      refine (szInstS_yes x0 _ A0 n0 c0 _ HN0.out (by omega) (by omega) hm0 OK0.out (RA0.out.below (by repeat' (first | with_reducible exact Below.refl _ _ | with_reducible refine Below.alloc ?_ ?_ _ | (simp; done) | (simp; omega) | omega))) (by omega)).mono ?_; rintro e v1 ⟨q0, rfl, ⟨g0a, g0b⟩, hq, hb⟩
      have HQ0 := Lib.hid hq; clear hq
      have B0 := Lib.hid (Blk.below (blk2_0 _ _ _ _) hb)
      have B1 := Lib.hid (Blk.below (blk2_1 _ _ _ _) hb)
      have BW := Lib.hid (show Below w.heap.size w v1 from Below.trans (by repeat' (first | with_reducible exact Below.refl _ _ | with_reducible refine Below.alloc ?_ ?_ _ | (simp; done) | (simp; omega) | omega)) (hb.mono (by first | (simp; done) | (simp; omega) | omega)))
      clear hb
      go_wp2_with (first | ((with_reducible show wpList _ _ _ ({ dst := _, op := Op.load 23 _, type := _, pos := _, after := _, guard := _ } :: _) _ _); refine wpList_load_row _ ⟨w.heap.size, 0, none⟩ rfl cs1 agg_lId HL1.out (blk_cells B0.out) ?_) | ((with_reducible show wpList _ _ _ ({ dst := _, op := Op.load 23 _, type := _, pos := _, after := _, guard := _ } :: _) _ _); refine wpList_load_row_g _ (by first | rfl | kernel_rfl) ⟨w.heap.size, 0, none⟩ rfl cs1 agg_lId HL1.out (blk_cells B0.out) ?_) | ((with_reducible show wpList _ _ _ ({ dst := _, op := Op.load 26 _, type := _, pos := _, after := _, guard := _ } :: _) _ _); refine wpList_load_row _ ⟨w.heap.size + 1, 0, none⟩ rfl cs2 agg_lCmd HL2.out (blk_cells B1.out) ?_) | ((with_reducible show wpList _ _ _ ({ dst := _, op := Op.load 26 _, type := _, pos := _, after := _, guard := _ } :: _) _ _); refine wpList_load_row_g _ (by first | rfl | kernel_rfl) ⟨w.heap.size + 1, 0, none⟩ rfl cs2 agg_lCmd HL2.out (blk_cells B1.out) ?_) | fail)
      have HSZ := Lib.hid BW.out.size
      refine (szCmd_no x2 _ cs2 _ (by omega) (by omega) OK2.out (A2.out.below BW.out) (by have := HQ0.out; omega)).mono ?_; rintro e v2 ⟨rfl, hb⟩
      have X := Lib.hid (B0.out.below hb); clear B0
      have B0 := Lib.hid X.out; clear X
      have X := Lib.hid (B1.out.below hb); clear B1
      have B1 := Lib.hid X.out; clear X
      have X := Lib.hid (show Below w.heap.size w v2 from BW.out.trans (hb.mono BW.out.size)); clear BW
      have BW := Lib.hid X.out; clear X
      clear hb
      clear HSZ
      go_wp2
      go_ret
      exact ⟨ret_eq (by first | rfl | simp), BW.out⟩
  · skip
    go_enter Try.func10, Try.ntmps10
    go_wp2_with (first | ((with_reducible show wpList _ _ _ ({ dst := _, op := Op.load 23 _, type := _, pos := _, after := _, guard := _ } :: _) _ _); refine wpList_load_row _ ⟨w.heap.size, 0, none⟩ rfl cs1 agg_lId HL1.out (blk_cells (blk2_0 _ _ _ _)) ?_) | ((with_reducible show wpList _ _ _ ({ dst := _, op := Op.load 23 _, type := _, pos := _, after := _, guard := _ } :: _) _ _); refine wpList_load_row_g _ (by first | rfl | kernel_rfl) ⟨w.heap.size, 0, none⟩ rfl cs1 agg_lId HL1.out (blk_cells (blk2_0 _ _ _ _)) ?_) | ((with_reducible show wpList _ _ _ ({ dst := _, op := Op.load 26 _, type := _, pos := _, after := _, guard := _ } :: _) _ _); refine wpList_load_row _ ⟨w.heap.size + 1, 0, none⟩ rfl cs2 agg_lCmd HL2.out (blk_cells (blk2_1 _ _ _ _)) ?_) | ((with_reducible show wpList _ _ _ ({ dst := _, op := Op.load 26 _, type := _, pos := _, after := _, guard := _ } :: _) _ _); refine wpList_load_row_g _ (by first | rfl | kernel_rfl) ⟨w.heap.size + 1, 0, none⟩ rfl cs2 agg_lCmd HL2.out (blk_cells (blk2_1 _ _ _ _)) ?_) | fail)
    refine (szInstS_no x0 _ A0 n0 c0 _ HN0.out (by omega) (by omega) hm0 OK0.out (RA0.out.below (by repeat' (first | with_reducible exact Below.refl _ _ | with_reducible refine Below.alloc ?_ ?_ _ | (simp; done) | (simp; omega) | omega))) (by omega)).mono ?_; rintro e v1 ⟨rfl, hb⟩
    have B0 := Lib.hid (Blk.below (blk2_0 _ _ _ _) hb)
    have B1 := Lib.hid (Blk.below (blk2_1 _ _ _ _) hb)
    have BW := Lib.hid (show Below w.heap.size w v1 from Below.trans (by repeat' (first | with_reducible exact Below.refl _ _ | with_reducible refine Below.alloc ?_ ?_ _ | (simp; done) | (simp; omega) | omega)) (hb.mono (by first | (simp; done) | (simp; omega) | omega)))
    clear hb
    go_wp2
    go_ret
    exact ⟨ret_eq (by first | rfl | simp), BW.out⟩
set_option maxRecDepth 100000 in
theorem FnExactAttrsOf_lifted (os : Os) (started : os.Started) (H : Type) (enc : TypeId × Value → H) :
    ReturnsInHanded {} Try.checked os 10 .any (Rows.fnExactAttrsOfSpec.pre6 enc Try.prog Try.f10 Rows.fnExactAttrsOfRow.domain false) (Rows.fnExactAttrsOfSpec.post enc Try.prog Try.f10 false true false false) := by
  refine returnsInHanded_of_change (C := Try.checked) own started (by kernel_rfl) Try.func10
    (ChangeSpec.witness6 (enc := enc) (C := Try.checked) false ⟨#[], #[.slice none 0 0, .agg #[.int .i64 0, .int .i64 0], .agg #[.int .i64 0, .int .i64 0, .int .i64 0, .string ⟨#[]⟩, .string ⟨#[]⟩, .string ⟨#[]⟩, .int .i64 0, .slice none 0 0]], []⟩ 8 (by kernel_rfl) (by kernel_rfl) (by kernel_rfl) (by kernel_rfl)) ?_
  intro W base args ds gs before hval0 hW _ _
  have hval : ∀ (j : Nat) t v, Try.f10.params[j]? = some t → args[j]? = some v → Value.okWide Try.prog W .any base t v := hval0
  have hW' := hW
  obtain ⟨p, q, hA0, hV, rfl, hfz, hnd⟩ := hW
  have hA : DataW.TrodAll enc Try.prog W 0 (fun _ => true) true Try.f10.params.toList args.toList ds p := hA0
  rw [Try.params10] at hA hval
  obtain ⟨v0, vs0, d0, ds0, p0, q0, hargs, rfl, rfl, h0, r0⟩ := trodAll_cons hA
  obtain ⟨v1, vs1, d1, ds1, p1, q1, rfl, rfl, rfl, h1, r1⟩ := trodAll_cons r0
  obtain ⟨v2, vs2, d2, ds2, p2, q2, rfl, rfl, rfl, h2, r2⟩ := trodAll_cons r1
  obtain ⟨rfl, rfl, rfl⟩ := trodAll_nil r2
  obtain rfl : args = #[v0, v1, v2] := Array.ext' hargs
  obtain ⟨x0, A0, n0, c0, rfl, hn0, hm0, ok0, rp0⟩ := openV_InstS (hval 0 46 v0 rfl rfl) h0
  obtain ⟨x1, cs1, rfl, ok1, rp1⟩ := openV_Id (hval 1 23 v1 rfl rfl) h1
  obtain ⟨x2, cs2, rfl, ok2, rp2⟩ := openV_Cmd (hval 2 26 v2 rfl rfl) h2
  refine (lAttrsOf_all x0 A0 n0 c0 x1 cs1 x2 cs2 W hn0 hm0 ok0 rp0 ok1 rp1 ok2 rp2).mono fun e W' ⟨he, hb⟩ => ?_
  subst he
  refine ⟨_, rfl, law_post (tb := 4) laidOut (by kernel_rfl) rfl Try.underlying4 rfl ?_ hW' hb⟩
  intro ds hl
  rw [Try.params10] at hl
  match ds, hl with
  | [_, _, _], _ => rfl
theorem FnExactAttrsOf_holds : Rows.FnExactAttrsOfSaid :=
  OpenClaim.holds_of_wide 10 Try.f10 rfl rfl rfl rfl rfl rfl rfl ⟨rfl, rfl, rfl, rfl, rfl⟩ rfl rfl rfl rfl rfl (by kernel_rfl) Try.func10 (by kernel_rfl)
    (of_decide_eq_true (by kernel_rfl)) (by unfold Func.isWrapper; first | (rw [if_pos (by decide +kernel)]; kernel_rfl) | (rw [if_neg (by decide +kernel)]; exact ⟨rfl, rfl⟩))
    (fun os started H enc _ => FnExactAttrsOf_lifted os started H enc)
end Go.Proofs.Ytbdblfpepnoafaa
