/-
  The law on SameMsg holds for all arguments. No condition.
-/
import Derived.Test.YtbdblfpepnoafaaEq
import Derived.Test.YtbdblfpepnoafaaOpen
import Derived.Test.YtbdblfpepnoafaaSm
import Derived.Test.YtbdblfpepnoafaaMk
namespace Go.Proofs.Ytbdblfpepnoafaa
open Go.RowKit Go.ChangeShapes Go.WideShapes Go.ChangeAt
open Go.ChangeMaps (open_string)
attribute [local irreducible] emsgSame

set_option maxRecDepth 100000 in
set_option maxHeartbeats 8000000 in
theorem lSameMsg_all (x0 : EMsgD) (cs0 : List Value) (x1 : EMsgD) (cs1 : List Value) (w : World) (hok0 : x0.c.ok) (h0 : Rep anyB w x0.c cs0) (hok1 : x1.c.ok) (h1 : Rep anyB w x1.c cs1) :
    Calls Try.prog 4 #[.agg cs0.toArray, .agg cs1.toArray] w fun e w' => e = .returned (.bool true) ∧ Below w.heap.size w w' := by
  have HL0 := Lib.hid (show cs0.length = 19 from h0.length.trans (EMsgD.width x0))
  have OK0 := Lib.hid hok0; clear hok0
  have A0 := Lib.hid h0; clear h0
  have HL1 := Lib.hid (show cs1.length = 19 from h1.length.trans (EMsgD.width x1))
  have OK1 := Lib.hid hok1; clear hok1
  have A1 := Lib.hid h1; clear h1
  by_cases cc0 : ((x0.c.wt : Nat) : Int) ≤ 1048576
  · skip
    by_cases cc1 : ((x1.c.wt : Nat) : Int) ≤ 1048576 - ((x0.c.wt : Nat) : Int)
    · skip
      go_enter Try.func4, Try.ntmps4
      go_wp2_with (first | ((with_reducible show wpList _ _ _ ({ dst := _, op := Op.load 29 _, type := _, pos := _, after := _, guard := _ } :: _) _ _); refine wpList_load_row _ ⟨w.heap.size, 0, none⟩ rfl cs0 agg_lEMsg HL0.out (blk_cells (blk2_0 _ _ _ _)) ?_) | ((with_reducible show wpList _ _ _ ({ dst := _, op := Op.load 29 _, type := _, pos := _, after := _, guard := _ } :: _) _ _); refine wpList_load_row _ ⟨w.heap.size + 1, 0, none⟩ rfl cs1 agg_lEMsg HL1.out (blk_cells (blk2_1 _ _ _ _)) ?_) | fail)
      refine (szEMsg_yes x0 _ cs0 _ (by omega) (by omega) OK0.out (A0.out.below (by repeat' (first | with_reducible exact Below.refl _ _ | with_reducible refine Below.alloc ?_ ?_ _ | (simp; done) | (simp; omega) | omega))) (by omega)).mono ?_; rintro e v1 ⟨q0, rfl, ⟨g0a, g0b⟩, hq, hb⟩
      have HQ0 := Lib.hid hq; clear hq
      have B0 := Lib.hid (Blk.below (blk2_0 _ _ _ _) hb)
      have B1 := Lib.hid (Blk.below (blk2_1 _ _ _ _) hb)
      have BW := Lib.hid (show Below w.heap.size w v1 from Below.trans (by repeat' (first | with_reducible exact Below.refl _ _ | with_reducible refine Below.alloc ?_ ?_ _ | (simp; done) | (simp; omega) | omega)) (hb.mono (by first | (simp; done) | (simp; omega) | omega)))
      clear hb
      go_wp2_with (first | ((with_reducible show wpList _ _ _ ({ dst := _, op := Op.load 29 _, type := _, pos := _, after := _, guard := _ } :: _) _ _); refine wpList_load_row _ ⟨w.heap.size, 0, none⟩ rfl cs0 agg_lEMsg HL0.out (blk_cells B0.out) ?_) | ((with_reducible show wpList _ _ _ ({ dst := _, op := Op.load 29 _, type := _, pos := _, after := _, guard := _ } :: _) _ _); refine wpList_load_row _ ⟨w.heap.size + 1, 0, none⟩ rfl cs1 agg_lEMsg HL1.out (blk_cells B1.out) ?_) | fail)
      refine (szEMsg_yes x1 _ cs1 _ (by omega) (by omega) OK1.out (A1.out.below BW.out) (by have := HQ0.out; omega)).mono ?_; rintro e v2 ⟨q1, rfl, ⟨g1a, g1b⟩, hq, hb⟩
      have HQ1 := Lib.hid hq; clear hq
      have X := Lib.hid (B0.out.below hb); clear B0
      have B0 := Lib.hid X.out; clear X
      have X := Lib.hid (B1.out.below hb); clear B1
      have B1 := Lib.hid X.out; clear X
      have X := Lib.hid (show Below w.heap.size w v2 from BW.out.trans (hb.mono BW.out.size)); clear BW
      have BW := Lib.hid X.out; clear X
      clear hb
      go_wp2
      refine wp_region_x 6 [0, 2, 1, 3, 4, 5] (by kernel_rfl) (by kernel_rfl) ?_
      refine wpX_quiet rfl (by kernel_rfl) rfl ?_; go_wp2_with (first | (refine wpList_load_row _ ⟨w.heap.size, 0, none⟩ rfl cs0 agg_lEMsg HL0.out (blk_cells B0.out.drew) ?_) | (refine wpList_load_row _ ⟨w.heap.size + 1, 0, none⟩ rfl cs1 agg_lEMsg HL1.out (blk_cells B1.out.drew) ?_) | fail); refine ⟨rfl, ?_⟩
      refine wpX_quiet rfl (by kernel_rfl) rfl ?_; go_wp2_with (first | (refine wpList_load_row _ ⟨w.heap.size, 0, none⟩ rfl cs0 agg_lEMsg HL0.out (blk_cells B0.out.drew) ?_) | (refine wpList_load_row _ ⟨w.heap.size + 1, 0, none⟩ rfl cs1 agg_lEMsg HL1.out (blk_cells B1.out.drew) ?_) | fail); refine ⟨rfl, ?_⟩
      refine wpX_actor rfl (by kernel_rfl) ?_
      go_wp2_with fail
      refine (toEMsg_any x0 cs0 _ (by omega) ((A0.out.below BW.out).drew)).mono ?_; rintro e v3 ⟨cs'1, rfl, hM, hb⟩
      have R2 := Lib.hid (hM.rep.any)
      have LR2 := Lib.hid (show cs'1.length = 19 from hM.rep.length.trans (EMsgD.width _)); clear hM
      have HB := Lib.hid hb
      have hb2 := below_drewL hb; clear hb
      have hb := hb2; clear hb2
      have X := Lib.hid (B0.out.below hb); clear B0
      have B0 := Lib.hid X.out; clear X
      have X := Lib.hid (B1.out.below hb); clear B1
      have B1 := Lib.hid X.out; clear X
      have X := Lib.hid (show Below w.heap.size w v3 from BW.out.trans (hb.mono BW.out.size)); clear BW
      have BW := Lib.hid X.out; clear X
      clear hb
      go_wp2
      refine ⟨Ext.of_below HB.out, ?_⟩
      clear HB
      refine wpX_actor rfl (by kernel_rfl) ?_
      go_wp2_with fail
      refine (toEMsg_any x1 cs1 _ (by omega) (A1.out.below BW.out)).mono ?_; rintro e v4 ⟨cs'3, rfl, hM, hb⟩
      have R4 := Lib.hid (hM.rep.any)
      have LR4 := Lib.hid (show cs'3.length = 19 from hM.rep.length.trans (EMsgD.width _)); clear hM
      have HB := Lib.hid hb
      have X := Lib.hid (B0.out.below hb); clear B0
      have B0 := Lib.hid X.out; clear X
      have X := Lib.hid (B1.out.below hb); clear B1
      have B1 := Lib.hid X.out; clear X
      have X := Lib.hid (show Below w.heap.size w v4 from BW.out.trans (hb.mono BW.out.size)); clear BW
      have BW := Lib.hid X.out; clear X
      have X := Lib.hid (R2.out.below hb); clear R2
      have R2 := Lib.hid X.out; clear X
      clear hb
      go_wp2
      refine ⟨Ext.of_below HB.out, ?_⟩
      clear HB
      refine wpX_actor rfl (by kernel_rfl) ?_
      go_wp2_with fail
      refine (sSameMsg2_any x0 x1 cs'1 cs'3 _ (by omega) (by omega) R2.out R4.out).mono ?_; rintro e v5 ⟨rfl, hb⟩
      have HB := Lib.hid hb
      have X := Lib.hid (B0.out.below hb); clear B0
      have B0 := Lib.hid X.out; clear X
      have X := Lib.hid (B1.out.below hb); clear B1
      have B1 := Lib.hid X.out; clear X
      have X := Lib.hid (show Below w.heap.size w v5 from BW.out.trans (hb.mono BW.out.size)); clear BW
      have BW := Lib.hid X.out; clear X
      have X := Lib.hid (R2.out.below hb); clear R2
      have R2 := Lib.hid X.out; clear X
      have X := Lib.hid (R4.out.below hb); clear R4
      have R4 := Lib.hid X.out; clear X
      clear hb
      go_wp2
      refine ⟨Ext.of_below HB.out, ?_⟩
      clear HB
      refine wpX_quiet rfl (by kernel_rfl) rfl ?_; go_wp2; refine ⟨rfl, ?_⟩
      refine wpX_nil ?_
      simp only [List.drop_succ_cons, List.drop_zero]
      go_wp2_with (first | ((with_reducible show wpList _ _ _ ({ dst := _, op := Op.load 29 _, type := _, pos := _, after := _, guard := _ } :: _) _ _); refine wpList_load_row _ ⟨w.heap.size, 0, none⟩ rfl cs0 agg_lEMsg HL0.out (blk_cells B0.out) ?_) | ((with_reducible show wpList _ _ _ ({ dst := _, op := Op.load 29 _, type := _, pos := _, after := _, guard := _ } :: _) _ _); refine wpList_load_row _ ⟨w.heap.size + 1, 0, none⟩ rfl cs1 agg_lEMsg HL1.out (blk_cells B1.out) ?_) | fail)
      refine (toEMsg_any x0 cs0 _ (by omega) (A0.out.below BW.out)).mono ?_; rintro e v6 ⟨cs'5, rfl, hM, hb⟩
      have R6 := Lib.hid (hM.rep.any)
      have LR6 := Lib.hid (show cs'5.length = 19 from hM.rep.length.trans (EMsgD.width _)); clear hM
      have X := Lib.hid (B0.out.below hb); clear B0
      have B0 := Lib.hid X.out; clear X
      have X := Lib.hid (B1.out.below hb); clear B1
      have B1 := Lib.hid X.out; clear X
      have X := Lib.hid (show Below w.heap.size w v6 from BW.out.trans (hb.mono BW.out.size)); clear BW
      have BW := Lib.hid X.out; clear X
      have X := Lib.hid (R2.out.below hb); clear R2
      have R2 := Lib.hid X.out; clear X
      have X := Lib.hid (R4.out.below hb); clear R4
      have R4 := Lib.hid X.out; clear X
      clear hb
      go_wp2_with (first | ((with_reducible show wpList _ _ _ ({ dst := _, op := Op.load 29 _, type := _, pos := _, after := _, guard := _ } :: _) _ _); refine wpList_load_row _ ⟨w.heap.size, 0, none⟩ rfl cs0 agg_lEMsg HL0.out (blk_cells B0.out) ?_) | ((with_reducible show wpList _ _ _ ({ dst := _, op := Op.load 29 _, type := _, pos := _, after := _, guard := _ } :: _) _ _); refine wpList_load_row _ ⟨w.heap.size + 1, 0, none⟩ rfl cs1 agg_lEMsg HL1.out (blk_cells B1.out) ?_) | ((with_reducible show wpList _ _ _ ({ dst := _, op := Op.load 36 _, type := _, pos := _, after := _, guard := _ } :: _) _ _); refine wpList_load_row _ ⟨World.heap v6 |>.size, 0, none⟩ rfl cs'5 agg_EMsg LR6.out (blk_cells XB7.out) ?_) | ((with_reducible show wpList _ _ _ ({ dst := _, op := Op.store 36 _ _, type := _, pos := _, after := _, guard := _ } :: _) _ _); refine wpList_store_row _ (World.heap v6).size 36 0 cs'5 [] [.int .i64 0, .int .i64 0, .int .i64 0, .int .i64 0, .int .i64 0, .int .i64 0, .int .i64 0, .int .i64 0, .int .i64 0, .string ⟨#[]⟩, .string ⟨#[]⟩, .string ⟨#[]⟩, .int .i64 0, .slice none 0 0, .int .i64 0, .slice none 0 0, .int .i64 0, .int .i64 0, .bool false] [] _ rfl rfl (LR6.out ▸ agg_EMsg) (blk_new v6 _ _) rfl rfl LR6.out.symm R6.out.one ?_; intro v7 hsb hsg; have hb : Below (World.heap v6).size v6 v7 := Below.grown (Below.alloc (Below.refl _ _) (Nat.le_refl _) _) hsg (by simp) (fun k hk => by injection hk with hk; omega); have hsb2 : Blk v7 (World.heap v6).size 36 cs'5.toArray := (by simpa using hsb); have XB7 := Lib.hid hsb2; clear hsb hsb2 hsg; have X := Lib.hid (B0.out.below hb); clear B0; have B0 := Lib.hid X.out; clear X; have X := Lib.hid (B1.out.below hb); clear B1; have B1 := Lib.hid X.out; clear X; have X := Lib.hid (show Below w.heap.size w v7 from BW.out.trans (hb.mono BW.out.size)); clear BW; have BW := Lib.hid X.out; clear X; have X := Lib.hid (R2.out.below hb); clear R2; have R2 := Lib.hid X.out; clear X; have X := Lib.hid (R4.out.below hb); clear R4; have R4 := Lib.hid X.out; clear X; have X := Lib.hid (R6.out.below hb); clear R6; have R6 := Lib.hid X.out; clear X; clear hb) | fail)
      go_wp2_with (first | ((with_reducible show wpList _ _ _ ({ dst := _, op := Op.load 29 _, type := _, pos := _, after := _, guard := _ } :: _) _ _); refine wpList_load_row _ ⟨w.heap.size, 0, none⟩ rfl cs0 agg_lEMsg HL0.out (blk_cells B0.out) ?_) | ((with_reducible show wpList _ _ _ ({ dst := _, op := Op.load 29 _, type := _, pos := _, after := _, guard := _ } :: _) _ _); refine wpList_load_row _ ⟨w.heap.size + 1, 0, none⟩ rfl cs1 agg_lEMsg HL1.out (blk_cells B1.out) ?_) | ((with_reducible show wpList _ _ _ ({ dst := _, op := Op.load 36 _, type := _, pos := _, after := _, guard := _ } :: _) _ _); refine wpList_load_row _ ⟨v6.heap.size, 0, none⟩ rfl cs'5 agg_EMsg LR6.out (blk_cells XB7.out) ?_) | fail)
      refine (toEMsg_any x1 cs1 _ (by omega) (A1.out.below BW.out)).mono ?_; rintro e v8 ⟨cs'8, rfl, hM, hb⟩
      have R9 := Lib.hid (hM.rep.any)
      have LR9 := Lib.hid (show cs'8.length = 19 from hM.rep.length.trans (EMsgD.width _)); clear hM
      have X := Lib.hid (B0.out.below hb); clear B0
      have B0 := Lib.hid X.out; clear X
      have X := Lib.hid (B1.out.below hb); clear B1
      have B1 := Lib.hid X.out; clear X
      have X := Lib.hid (show Below w.heap.size w v8 from BW.out.trans (hb.mono BW.out.size)); clear BW
      have BW := Lib.hid X.out; clear X
      have X := Lib.hid (R2.out.below hb); clear R2
      have R2 := Lib.hid X.out; clear X
      have X := Lib.hid (R4.out.below hb); clear R4
      have R4 := Lib.hid X.out; clear X
      have X := Lib.hid (R6.out.below hb); clear R6
      have R6 := Lib.hid X.out; clear X
      have X := Lib.hid (XB7.out.below hb); clear XB7
      have XB7 := Lib.hid X.out; clear X
      clear hb
      go_wp2_with (first | ((with_reducible show wpList _ _ _ ({ dst := _, op := Op.load 29 _, type := _, pos := _, after := _, guard := _ } :: _) _ _); refine wpList_load_row _ ⟨w.heap.size, 0, none⟩ rfl cs0 agg_lEMsg HL0.out (blk_cells B0.out) ?_) | ((with_reducible show wpList _ _ _ ({ dst := _, op := Op.load 29 _, type := _, pos := _, after := _, guard := _ } :: _) _ _); refine wpList_load_row _ ⟨w.heap.size + 1, 0, none⟩ rfl cs1 agg_lEMsg HL1.out (blk_cells B1.out) ?_) | ((with_reducible show wpList _ _ _ ({ dst := _, op := Op.load 36 _, type := _, pos := _, after := _, guard := _ } :: _) _ _); refine wpList_load_row _ ⟨v6.heap.size, 0, none⟩ rfl cs'5 agg_EMsg LR6.out (blk_cells XB7.out) ?_) | ((with_reducible show wpList _ _ _ ({ dst := _, op := Op.load 36 _, type := _, pos := _, after := _, guard := _ } :: _) _ _); refine wpList_load_row _ ⟨World.heap v8 |>.size, 0, none⟩ rfl cs'8 agg_EMsg LR9.out (blk_cells XB10.out) ?_) | ((with_reducible show wpList _ _ _ ({ dst := _, op := Op.store 36 _ _, type := _, pos := _, after := _, guard := _ } :: _) _ _); refine wpList_store_row _ (World.heap v8).size 36 0 cs'8 [] [.int .i64 0, .int .i64 0, .int .i64 0, .int .i64 0, .int .i64 0, .int .i64 0, .int .i64 0, .int .i64 0, .int .i64 0, .string ⟨#[]⟩, .string ⟨#[]⟩, .string ⟨#[]⟩, .int .i64 0, .slice none 0 0, .int .i64 0, .slice none 0 0, .int .i64 0, .int .i64 0, .bool false] [] _ rfl rfl (LR9.out ▸ agg_EMsg) (blk_new v8 _ _) rfl rfl LR9.out.symm R9.out.one ?_; intro v9 hsb hsg; have hb : Below (World.heap v8).size v8 v9 := Below.grown (Below.alloc (Below.refl _ _) (Nat.le_refl _) _) hsg (by simp) (fun k hk => by injection hk with hk; omega); have hsb2 : Blk v9 (World.heap v8).size 36 cs'8.toArray := (by simpa using hsb); have XB10 := Lib.hid hsb2; clear hsb hsb2 hsg; have X := Lib.hid (B0.out.below hb); clear B0; have B0 := Lib.hid X.out; clear X; have X := Lib.hid (B1.out.below hb); clear B1; have B1 := Lib.hid X.out; clear X; have X := Lib.hid (show Below w.heap.size w v9 from BW.out.trans (hb.mono BW.out.size)); clear BW; have BW := Lib.hid X.out; clear X; have X := Lib.hid (R2.out.below hb); clear R2; have R2 := Lib.hid X.out; clear X; have X := Lib.hid (R4.out.below hb); clear R4; have R4 := Lib.hid X.out; clear X; have X := Lib.hid (R6.out.below hb); clear R6; have R6 := Lib.hid X.out; clear X; have X := Lib.hid (XB7.out.below hb); clear XB7; have XB7 := Lib.hid X.out; clear X; have X := Lib.hid (R9.out.below hb); clear R9; have R9 := Lib.hid X.out; clear X; clear hb) | fail)
      go_wp2_with (first | ((with_reducible show wpList _ _ _ ({ dst := _, op := Op.load 29 _, type := _, pos := _, after := _, guard := _ } :: _) _ _); refine wpList_load_row _ ⟨w.heap.size, 0, none⟩ rfl cs0 agg_lEMsg HL0.out (blk_cells B0.out) ?_) | ((with_reducible show wpList _ _ _ ({ dst := _, op := Op.load 29 _, type := _, pos := _, after := _, guard := _ } :: _) _ _); refine wpList_load_row _ ⟨w.heap.size + 1, 0, none⟩ rfl cs1 agg_lEMsg HL1.out (blk_cells B1.out) ?_) | ((with_reducible show wpList _ _ _ ({ dst := _, op := Op.load 36 _, type := _, pos := _, after := _, guard := _ } :: _) _ _); refine wpList_load_row _ ⟨v6.heap.size, 0, none⟩ rfl cs'5 agg_EMsg LR6.out (blk_cells XB7.out) ?_) | ((with_reducible show wpList _ _ _ ({ dst := _, op := Op.load 36 _, type := _, pos := _, after := _, guard := _ } :: _) _ _); refine wpList_load_row _ ⟨v8.heap.size, 0, none⟩ rfl cs'8 agg_EMsg LR9.out (blk_cells XB10.out) ?_) | fail)
      refine (iSameMsg2_any x0 x1 cs'5 cs'8 _ (by omega) (by omega) R6.out R9.out).mono ?_; rintro e v10 ⟨rfl, hb⟩
      have X := Lib.hid (B0.out.below hb); clear B0
      have B0 := Lib.hid X.out; clear X
      have X := Lib.hid (B1.out.below hb); clear B1
      have B1 := Lib.hid X.out; clear X
      have X := Lib.hid (show Below w.heap.size w v10 from BW.out.trans (hb.mono BW.out.size)); clear BW
      have BW := Lib.hid X.out; clear X
      have X := Lib.hid (R2.out.below hb); clear R2
      have R2 := Lib.hid X.out; clear X
      have X := Lib.hid (R4.out.below hb); clear R4
      have R4 := Lib.hid X.out; clear X
      have X := Lib.hid (R6.out.below hb); clear R6
      have R6 := Lib.hid X.out; clear X
      have X := Lib.hid (XB7.out.below hb); clear XB7
      have XB7 := Lib.hid X.out; clear X
      have X := Lib.hid (R9.out.below hb); clear R9
      have R9 := Lib.hid X.out; clear X
      have X := Lib.hid (XB10.out.below hb); clear XB10
      have XB10 := Lib.hid X.out; clear X
      clear hb
      go_wp2
      refine wp_region_x 5 [0, 1, 2, 3, 4] (by kernel_rfl) (by kernel_rfl) ?_
      refine wpX_quiet rfl (by kernel_rfl) rfl ?_; go_wp2_with (first | (refine wpList_load_row _ ⟨w.heap.size, 0, none⟩ rfl cs0 agg_lEMsg HL0.out (blk_cells B0.out.drew) ?_) | (refine wpList_load_row _ ⟨w.heap.size + 1, 0, none⟩ rfl cs1 agg_lEMsg HL1.out (blk_cells B1.out.drew) ?_) | (refine wpList_load_row _ ⟨v6.heap.size, 0, none⟩ rfl cs'5 agg_EMsg LR6.out (blk_cells XB7.out.drew) ?_) | (refine wpList_load_row _ ⟨v8.heap.size, 0, none⟩ rfl cs'8 agg_EMsg LR9.out (blk_cells XB10.out.drew) ?_) | fail); refine ⟨rfl, ?_⟩
      refine wpX_quiet rfl (by kernel_rfl) rfl ?_; go_wp2_with (first | (refine wpList_load_row _ ⟨w.heap.size, 0, none⟩ rfl cs0 agg_lEMsg HL0.out (blk_cells B0.out.drew) ?_) | (refine wpList_load_row _ ⟨w.heap.size + 1, 0, none⟩ rfl cs1 agg_lEMsg HL1.out (blk_cells B1.out.drew) ?_) | (refine wpList_load_row _ ⟨v6.heap.size, 0, none⟩ rfl cs'5 agg_EMsg LR6.out (blk_cells XB7.out.drew) ?_) | (refine wpList_load_row _ ⟨v8.heap.size, 0, none⟩ rfl cs'8 agg_EMsg LR9.out (blk_cells XB10.out.drew) ?_) | fail); refine ⟨rfl, ?_⟩
      refine wpX_actor rfl (by kernel_rfl) ?_
      go_wp2_with fail
      refine (toEMsg_any x0 cs0 _ (by omega) ((A0.out.below BW.out).drew)).mono ?_; rintro e v11 ⟨cs'11, rfl, hM, hb⟩
      have R12 := Lib.hid (hM.rep.any)
      have LR12 := Lib.hid (show cs'11.length = 19 from hM.rep.length.trans (EMsgD.width _)); clear hM
      have HB := Lib.hid hb
      have hb2 := below_drewL hb; clear hb
      have hb := hb2; clear hb2
      have X := Lib.hid (B0.out.below hb); clear B0
      have B0 := Lib.hid X.out; clear X
      have X := Lib.hid (B1.out.below hb); clear B1
      have B1 := Lib.hid X.out; clear X
      have X := Lib.hid (show Below w.heap.size w v11 from BW.out.trans (hb.mono BW.out.size)); clear BW
      have BW := Lib.hid X.out; clear X
      have X := Lib.hid (R2.out.below hb); clear R2
      have R2 := Lib.hid X.out; clear X
      have X := Lib.hid (R4.out.below hb); clear R4
      have R4 := Lib.hid X.out; clear X
      have X := Lib.hid (R6.out.below hb); clear R6
      have R6 := Lib.hid X.out; clear X
      have X := Lib.hid (XB7.out.below hb); clear XB7
      have XB7 := Lib.hid X.out; clear X
      have X := Lib.hid (R9.out.below hb); clear R9
      have R9 := Lib.hid X.out; clear X
      have X := Lib.hid (XB10.out.below hb); clear XB10
      have XB10 := Lib.hid X.out; clear X
      clear hb
      go_wp2
      refine ⟨Ext.of_below HB.out, ?_⟩
      clear HB
      refine wpX_actor rfl (by kernel_rfl) ?_
      go_wp2_with fail
      refine (eqEMsg_any x0 cs'5 cs'11 _ (by omega) R6.out R12.out).mono ?_; rintro e v12 ⟨rfl, hb⟩
      have HB := Lib.hid hb
      have X := Lib.hid (B0.out.below hb); clear B0
      have B0 := Lib.hid X.out; clear X
      have X := Lib.hid (B1.out.below hb); clear B1
      have B1 := Lib.hid X.out; clear X
      have X := Lib.hid (show Below w.heap.size w v12 from BW.out.trans (hb.mono BW.out.size)); clear BW
      have BW := Lib.hid X.out; clear X
      have X := Lib.hid (R2.out.below hb); clear R2
      have R2 := Lib.hid X.out; clear X
      have X := Lib.hid (R4.out.below hb); clear R4
      have R4 := Lib.hid X.out; clear X
      have X := Lib.hid (R6.out.below hb); clear R6
      have R6 := Lib.hid X.out; clear X
      have X := Lib.hid (XB7.out.below hb); clear XB7
      have XB7 := Lib.hid X.out; clear X
      have X := Lib.hid (R9.out.below hb); clear R9
      have R9 := Lib.hid X.out; clear X
      have X := Lib.hid (XB10.out.below hb); clear XB10
      have XB10 := Lib.hid X.out; clear X
      have X := Lib.hid (R12.out.below hb); clear R12
      have R12 := Lib.hid X.out; clear X
      clear hb
      go_wp2
      refine ⟨Ext.of_below HB.out, ?_⟩
      clear HB
      refine wpX_quiet rfl (by kernel_rfl) rfl ?_; go_wp2; refine ⟨rfl, ?_⟩
      refine wpX_nil ?_
      simp only [List.drop_succ_cons, List.drop_zero]
      go_wp2
      refine wp_region_x 5 [0, 1, 2, 3, 4] (by kernel_rfl) (by kernel_rfl) ?_
      refine wpX_quiet rfl (by kernel_rfl) rfl ?_; go_wp2_with (first | (refine wpList_load_row _ ⟨w.heap.size, 0, none⟩ rfl cs0 agg_lEMsg HL0.out (blk_cells B0.out.drew) ?_) | (refine wpList_load_row _ ⟨w.heap.size + 1, 0, none⟩ rfl cs1 agg_lEMsg HL1.out (blk_cells B1.out.drew) ?_) | (refine wpList_load_row _ ⟨v6.heap.size, 0, none⟩ rfl cs'5 agg_EMsg LR6.out (blk_cells XB7.out.drew) ?_) | (refine wpList_load_row _ ⟨v8.heap.size, 0, none⟩ rfl cs'8 agg_EMsg LR9.out (blk_cells XB10.out.drew) ?_) | fail); refine ⟨rfl, ?_⟩
      refine wpX_quiet rfl (by kernel_rfl) rfl ?_; go_wp2_with (first | (refine wpList_load_row _ ⟨w.heap.size, 0, none⟩ rfl cs0 agg_lEMsg HL0.out (blk_cells B0.out.drew) ?_) | (refine wpList_load_row _ ⟨w.heap.size + 1, 0, none⟩ rfl cs1 agg_lEMsg HL1.out (blk_cells B1.out.drew) ?_) | (refine wpList_load_row _ ⟨v6.heap.size, 0, none⟩ rfl cs'5 agg_EMsg LR6.out (blk_cells XB7.out.drew) ?_) | (refine wpList_load_row _ ⟨v8.heap.size, 0, none⟩ rfl cs'8 agg_EMsg LR9.out (blk_cells XB10.out.drew) ?_) | fail); refine ⟨rfl, ?_⟩
      refine wpX_actor rfl (by kernel_rfl) ?_
      go_wp2_with fail
      refine (toEMsg_any x1 cs1 _ (by omega) ((A1.out.below BW.out).drew)).mono ?_; rintro e v13 ⟨cs'13, rfl, hM, hb⟩
      have R14 := Lib.hid (hM.rep.any)
      have LR14 := Lib.hid (show cs'13.length = 19 from hM.rep.length.trans (EMsgD.width _)); clear hM
      have HB := Lib.hid hb
      have hb2 := below_drewL hb; clear hb
      have hb := hb2; clear hb2
      have X := Lib.hid (B0.out.below hb); clear B0
      have B0 := Lib.hid X.out; clear X
      have X := Lib.hid (B1.out.below hb); clear B1
      have B1 := Lib.hid X.out; clear X
      have X := Lib.hid (show Below w.heap.size w v13 from BW.out.trans (hb.mono BW.out.size)); clear BW
      have BW := Lib.hid X.out; clear X
      have X := Lib.hid (R2.out.below hb); clear R2
      have R2 := Lib.hid X.out; clear X
      have X := Lib.hid (R4.out.below hb); clear R4
      have R4 := Lib.hid X.out; clear X
      have X := Lib.hid (R6.out.below hb); clear R6
      have R6 := Lib.hid X.out; clear X
      have X := Lib.hid (XB7.out.below hb); clear XB7
      have XB7 := Lib.hid X.out; clear X
      have X := Lib.hid (R9.out.below hb); clear R9
      have R9 := Lib.hid X.out; clear X
      have X := Lib.hid (XB10.out.below hb); clear XB10
      have XB10 := Lib.hid X.out; clear X
      have X := Lib.hid (R12.out.below hb); clear R12
      have R12 := Lib.hid X.out; clear X
      clear hb
      go_wp2
      refine ⟨Ext.of_below HB.out, ?_⟩
      clear HB
      refine wpX_actor rfl (by kernel_rfl) ?_
      go_wp2_with fail
      refine (eqEMsg_any x1 cs'8 cs'13 _ (by omega) R9.out R14.out).mono ?_; rintro e v14 ⟨rfl, hb⟩
      have HB := Lib.hid hb
      have X := Lib.hid (B0.out.below hb); clear B0
      have B0 := Lib.hid X.out; clear X
      have X := Lib.hid (B1.out.below hb); clear B1
      have B1 := Lib.hid X.out; clear X
      have X := Lib.hid (show Below w.heap.size w v14 from BW.out.trans (hb.mono BW.out.size)); clear BW
      have BW := Lib.hid X.out; clear X
      have X := Lib.hid (R2.out.below hb); clear R2
      have R2 := Lib.hid X.out; clear X
      have X := Lib.hid (R4.out.below hb); clear R4
      have R4 := Lib.hid X.out; clear X
      have X := Lib.hid (R6.out.below hb); clear R6
      have R6 := Lib.hid X.out; clear X
      have X := Lib.hid (XB7.out.below hb); clear XB7
      have XB7 := Lib.hid X.out; clear X
      have X := Lib.hid (R9.out.below hb); clear R9
      have R9 := Lib.hid X.out; clear X
      have X := Lib.hid (XB10.out.below hb); clear XB10
      have XB10 := Lib.hid X.out; clear X
      have X := Lib.hid (R12.out.below hb); clear R12
      have R12 := Lib.hid X.out; clear X
      have X := Lib.hid (R14.out.below hb); clear R14
      have R14 := Lib.hid X.out; clear X
      clear hb
      go_wp2
      refine ⟨Ext.of_below HB.out, ?_⟩
      clear HB
      refine wpX_quiet rfl (by kernel_rfl) rfl ?_; go_wp2; refine ⟨rfl, ?_⟩
      refine wpX_nil ?_
      simp only [List.drop_succ_cons, List.drop_zero]
      go_wp2
      go_ret
      exact ⟨ret_eq (by first | rfl | simp), BW.out⟩
    · skip
      go_enter Try.func4, Try.ntmps4
      go_wp2_with (first | ((with_reducible show wpList _ _ _ ({ dst := _, op := Op.load 29 _, type := _, pos := _, after := _, guard := _ } :: _) _ _); refine wpList_load_row _ ⟨w.heap.size, 0, none⟩ rfl cs0 agg_lEMsg HL0.out (blk_cells (blk2_0 _ _ _ _)) ?_) | ((with_reducible show wpList _ _ _ ({ dst := _, op := Op.load 29 _, type := _, pos := _, after := _, guard := _ } :: _) _ _); refine wpList_load_row _ ⟨w.heap.size + 1, 0, none⟩ rfl cs1 agg_lEMsg HL1.out (blk_cells (blk2_1 _ _ _ _)) ?_) | fail)
      refine (szEMsg_yes x0 _ cs0 _ (by omega) (by omega) OK0.out (A0.out.below (by repeat' (first | with_reducible exact Below.refl _ _ | with_reducible refine Below.alloc ?_ ?_ _ | (simp; done) | (simp; omega) | omega))) (by omega)).mono ?_; rintro e v1 ⟨q0, rfl, ⟨g0a, g0b⟩, hq, hb⟩
      have HQ0 := Lib.hid hq; clear hq
      have B0 := Lib.hid (Blk.below (blk2_0 _ _ _ _) hb)
      have B1 := Lib.hid (Blk.below (blk2_1 _ _ _ _) hb)
      have BW := Lib.hid (show Below w.heap.size w v1 from Below.trans (by repeat' (first | with_reducible exact Below.refl _ _ | with_reducible refine Below.alloc ?_ ?_ _ | (simp; done) | (simp; omega) | omega)) (hb.mono (by first | (simp; done) | (simp; omega) | omega)))
      clear hb
      go_wp2_with (first | ((with_reducible show wpList _ _ _ ({ dst := _, op := Op.load 29 _, type := _, pos := _, after := _, guard := _ } :: _) _ _); refine wpList_load_row _ ⟨w.heap.size, 0, none⟩ rfl cs0 agg_lEMsg HL0.out (blk_cells B0.out) ?_) | ((with_reducible show wpList _ _ _ ({ dst := _, op := Op.load 29 _, type := _, pos := _, after := _, guard := _ } :: _) _ _); refine wpList_load_row _ ⟨w.heap.size + 1, 0, none⟩ rfl cs1 agg_lEMsg HL1.out (blk_cells B1.out) ?_) | fail)
      refine (szEMsg_no x1 _ cs1 _ (by omega) (by omega) OK1.out (A1.out.below BW.out) (by have := HQ0.out; omega)).mono ?_; rintro e v2 ⟨rfl, hb⟩
      have X := Lib.hid (B0.out.below hb); clear B0
      have B0 := Lib.hid X.out; clear X
      have X := Lib.hid (B1.out.below hb); clear B1
      have B1 := Lib.hid X.out; clear X
      have X := Lib.hid (show Below w.heap.size w v2 from BW.out.trans (hb.mono BW.out.size)); clear BW
      have BW := Lib.hid X.out; clear X
      clear hb
      go_wp2
      go_ret
      exact ⟨ret_eq (by first | rfl | simp), BW.out⟩
  · skip
    go_enter Try.func4, Try.ntmps4
    go_wp2_with (first | ((with_reducible show wpList _ _ _ ({ dst := _, op := Op.load 29 _, type := _, pos := _, after := _, guard := _ } :: _) _ _); refine wpList_load_row _ ⟨w.heap.size, 0, none⟩ rfl cs0 agg_lEMsg HL0.out (blk_cells (blk2_0 _ _ _ _)) ?_) | ((with_reducible show wpList _ _ _ ({ dst := _, op := Op.load 29 _, type := _, pos := _, after := _, guard := _ } :: _) _ _); refine wpList_load_row _ ⟨w.heap.size + 1, 0, none⟩ rfl cs1 agg_lEMsg HL1.out (blk_cells (blk2_1 _ _ _ _)) ?_) | fail)
    refine (szEMsg_no x0 _ cs0 _ (by omega) (by omega) OK0.out (A0.out.below (by repeat' (first | with_reducible exact Below.refl _ _ | with_reducible refine Below.alloc ?_ ?_ _ | (simp; done) | (simp; omega) | omega))) (by omega)).mono ?_; rintro e v1 ⟨rfl, hb⟩
    have B0 := Lib.hid (Blk.below (blk2_0 _ _ _ _) hb)
    have B1 := Lib.hid (Blk.below (blk2_1 _ _ _ _) hb)
    have BW := Lib.hid (show Below w.heap.size w v1 from Below.trans (by repeat' (first | with_reducible exact Below.refl _ _ | with_reducible refine Below.alloc ?_ ?_ _ | (simp; done) | (simp; omega) | omega)) (hb.mono (by first | (simp; done) | (simp; omega) | omega)))
    clear hb
    go_wp2
    go_ret
    exact ⟨ret_eq (by first | rfl | simp), BW.out⟩
set_option maxRecDepth 100000 in
theorem FnExactSameMsg_lifted (os : Os) (started : os.Started) (H : Type) (enc : TypeId × Value → H) :
    ReturnsInHanded {} Try.checked os 4 .any (Rows.fnExactSameMsgSpec.pre6 enc Try.prog Try.f4 Rows.fnExactSameMsgRow.domain false) (Rows.fnExactSameMsgSpec.post enc Try.prog Try.f4 false true false false) := by
  refine returnsInHanded_of_change (C := Try.checked) own started (by kernel_rfl) Try.func4
    (ChangeSpec.witness6 (enc := enc) (C := Try.checked) false ⟨#[], #[.agg #[.int .i64 0, .int .i64 0, .int .i64 0, .int .i64 0, .int .i64 0, .int .i64 0, .int .i64 0, .int .i64 0, .int .i64 0, .string ⟨#[]⟩, .string ⟨#[]⟩, .string ⟨#[]⟩, .int .i64 0, .slice none 0 0, .int .i64 0, .slice none 0 0, .int .i64 0, .int .i64 0, .bool false], .agg #[.int .i64 0, .int .i64 0, .int .i64 0, .int .i64 0, .int .i64 0, .int .i64 0, .int .i64 0, .int .i64 0, .int .i64 0, .string ⟨#[]⟩, .string ⟨#[]⟩, .string ⟨#[]⟩, .int .i64 0, .slice none 0 0, .int .i64 0, .slice none 0 0, .int .i64 0, .int .i64 0, .bool false]], []⟩ 8 (by kernel_rfl) (by kernel_rfl) (by kernel_rfl) (by kernel_rfl)) ?_
  intro W base args ds gs before hval0 hW _ _
  have hval : ∀ (j : Nat) t v, Try.f4.params[j]? = some t → args[j]? = some v → Value.okWide Try.prog W .any base t v := hval0
  have hW' := hW
  obtain ⟨p, q, hA0, hV, rfl, hfz, hnd⟩ := hW
  have hA : DataW.TrodAll enc Try.prog W 0 (fun _ => true) true Try.f4.params.toList args.toList ds p := hA0
  rw [Try.params4] at hA hval
  obtain ⟨v0, vs0, d0, ds0, p0, q0, hargs, rfl, rfl, h0, r0⟩ := trodAll_cons hA
  obtain ⟨v1, vs1, d1, ds1, p1, q1, rfl, rfl, rfl, h1, r1⟩ := trodAll_cons r0
  obtain ⟨rfl, rfl, rfl⟩ := trodAll_nil r1
  obtain rfl : args = #[v0, v1] := Array.ext' hargs
  obtain ⟨x0, cs0, rfl, ok0, rp0⟩ := openV_EMsg (hval 0 29 v0 rfl rfl) h0
  obtain ⟨x1, cs1, rfl, ok1, rp1⟩ := openV_EMsg (hval 1 29 v1 rfl rfl) h1
  refine (lSameMsg_all x0 cs0 x1 cs1 W ok0 rp0 ok1 rp1).mono fun e W' ⟨he, hb⟩ => ?_
  subst he
  refine ⟨_, rfl, law_post (tb := 4) laidOut (by kernel_rfl) rfl Try.underlying4 rfl ?_ hW' hb⟩
  intro ds hl
  rw [Try.params4] at hl
  match ds, hl with
  | [_, _], _ => rfl
theorem FnExactSameMsg_holds : Rows.FnExactSameMsgSaid :=
  OpenClaim.holds_of_wide 4 Try.f4 rfl rfl rfl rfl rfl rfl rfl ⟨rfl, rfl, rfl, rfl, rfl⟩ rfl rfl rfl rfl rfl (by kernel_rfl) Try.func4 (by kernel_rfl)
    (of_decide_eq_true (by kernel_rfl)) (by unfold Func.isWrapper; first | (rw [if_pos (by decide +kernel)]; kernel_rfl) | (rw [if_neg (by decide +kernel)]; exact ⟨rfl, rfl⟩))
    (fun os started H enc _ => FnExactSameMsg_lifted os started H enc)
end Go.Proofs.Ytbdblfpepnoafaa
