/-
  The law on ShowEMsg holds for all arguments. No condition.
-/
import Derived.Test.YtbdblfpepnoafaaEq
import Derived.Test.YtbdblfpepnoafaaOpen
import Derived.Test.YtbdblfpepnoafaaShE
namespace Go.Proofs.Ytbdblfpepnoafaa
open Go.RowKit Go.ChangeShapes Go.WideShapes Go.ChangeAt
open Go.ChangeMaps (open_string)
attribute [local irreducible] showEMsgL

set_option maxRecDepth 100000 in
set_option maxHeartbeats 2000000 in
theorem lShowEMsg_all (x0 : EMsgD) (cs0 : List Value) (w : World) (hok0 : x0.c.ok) (h0 : Rep anyB w x0.c cs0) :
    Calls Try.prog 5 #[.agg cs0.toArray] w fun e w' => e = .returned (.bool true) ∧ Below w.heap.size w w' := by
  have HL0 := Lib.hid (show cs0.length = 19 from h0.length.trans (EMsgD.width x0))
  have OK0 := Lib.hid hok0; clear hok0
  have A0 := Lib.hid h0; clear h0
  by_cases cc0 : ((x0.c.wt : Nat) : Int) ≤ 1048576
  · skip
    go_enter Try.func5, Try.ntmps5
    go_wp2_with (first | ((with_reducible show wpList _ _ _ ({ dst := _, op := Op.load 29 _, type := _, pos := _, after := _, guard := _ } :: _) _ _); refine wpList_load_row _ ⟨w.heap.size, 0, none⟩ rfl cs0 agg_lEMsg HL0.out (blk_cells (blk_new _ _ _)) ?_) | fail)
    refine (szEMsg_yes x0 _ cs0 _ (by omega) (by omega) OK0.out (A0.out.below (by repeat' (first | with_reducible exact Below.refl _ _ | with_reducible refine Below.alloc ?_ ?_ _ | (simp; done) | (simp; omega) | omega))) (by omega)).mono ?_; rintro e v1 ⟨q0, rfl, ⟨g0a, g0b⟩, hq, hb⟩
    have HQ0 := Lib.hid hq; clear hq
    have B0 := Lib.hid (Blk.below (blk_new _ _ _) hb)
    have BW := Lib.hid (show Below w.heap.size w v1 from Below.trans (by repeat' (first | with_reducible exact Below.refl _ _ | with_reducible refine Below.alloc ?_ ?_ _ | (simp; done) | (simp; omega) | omega)) (hb.mono (by first | (simp; done) | (simp; omega) | omega)))
    clear hb
    go_wp2_with (first | ((with_reducible show wpList _ _ _ ({ dst := _, op := Op.load 29 _, type := _, pos := _, after := _, guard := _ } :: _) _ _); refine wpList_load_row _ ⟨w.heap.size, 0, none⟩ rfl cs0 agg_lEMsg HL0.out (blk_cells B0.out) ?_) | fail)
    refine (toEMsg_any x0 cs0 _ (by omega) (A0.out.below BW.out)).mono ?_; rintro e v2 ⟨cs'1, rfl, hM, hb⟩
    have R2 := Lib.hid (hM.rep.any)
    have LR2 := Lib.hid (show cs'1.length = 19 from hM.rep.length.trans (EMsgD.width _)); clear hM
    have X := Lib.hid (B0.out.below hb); clear B0
    have B0 := Lib.hid X.out; clear X
    have X := Lib.hid (show Below w.heap.size w v2 from BW.out.trans (hb.mono BW.out.size)); clear BW
    have BW := Lib.hid X.out; clear X
    clear hb
    go_wp2_with (first | ((with_reducible show wpList _ _ _ ({ dst := _, op := Op.load 29 _, type := _, pos := _, after := _, guard := _ } :: _) _ _); refine wpList_load_row _ ⟨w.heap.size, 0, none⟩ rfl cs0 agg_lEMsg HL0.out (blk_cells B0.out) ?_) | fail)
    refine (sShowEMsg_any x0 cs'1 _ (by omega) R2.out).mono ?_; rintro e v3 ⟨rfl, hb⟩
    have X := Lib.hid (B0.out.below hb); clear B0
    have B0 := Lib.hid X.out; clear X
    have X := Lib.hid (show Below w.heap.size w v3 from BW.out.trans (hb.mono BW.out.size)); clear BW
    have BW := Lib.hid X.out; clear X
    have X := Lib.hid (R2.out.below hb); clear R2
    have R2 := Lib.hid X.out; clear X
    clear hb
    go_wp2_with (first | ((with_reducible show wpList _ _ _ ({ dst := _, op := Op.load 29 _, type := _, pos := _, after := _, guard := _ } :: _) _ _); refine wpList_load_row _ ⟨w.heap.size, 0, none⟩ rfl cs0 agg_lEMsg HL0.out (blk_cells B0.out) ?_) | fail)
    refine (toEMsg_any x0 cs0 _ (by omega) (A0.out.below BW.out)).mono ?_; rintro e v4 ⟨cs'3, rfl, hM, hb⟩
    have R4 := Lib.hid (hM.rep.any)
    have LR4 := Lib.hid (show cs'3.length = 19 from hM.rep.length.trans (EMsgD.width _)); clear hM
    have X := Lib.hid (B0.out.below hb); clear B0
    have B0 := Lib.hid X.out; clear X
    have X := Lib.hid (show Below w.heap.size w v4 from BW.out.trans (hb.mono BW.out.size)); clear BW
    have BW := Lib.hid X.out; clear X
    have X := Lib.hid (R2.out.below hb); clear R2
    have R2 := Lib.hid X.out; clear X
    clear hb
    go_wp2_with (first | ((with_reducible show wpList _ _ _ ({ dst := _, op := Op.load 29 _, type := _, pos := _, after := _, guard := _ } :: _) _ _); refine wpList_load_row _ ⟨w.heap.size, 0, none⟩ rfl cs0 agg_lEMsg HL0.out (blk_cells B0.out) ?_) | ((with_reducible show wpList _ _ _ ({ dst := _, op := Op.load 36 _, type := _, pos := _, after := _, guard := _ } :: _) _ _); refine wpList_load_row _ ⟨World.heap v4 |>.size, 0, none⟩ rfl cs'3 agg_EMsg LR4.out (blk_cells XB5.out) ?_) | ((with_reducible show wpList _ _ _ ({ dst := _, op := Op.store 36 _ _, type := _, pos := _, after := _, guard := _ } :: _) _ _); refine wpList_store_row _ (World.heap v4).size 36 0 cs'3 [] [.int .i64 0, .int .i64 0, .int .i64 0, .int .i64 0, .int .i64 0, .int .i64 0, .int .i64 0, .int .i64 0, .int .i64 0, .string ⟨#[]⟩, .string ⟨#[]⟩, .string ⟨#[]⟩, .int .i64 0, .slice none 0 0, .int .i64 0, .slice none 0 0, .int .i64 0, .int .i64 0, .bool false] [] _ rfl rfl (LR4.out ▸ agg_EMsg) (blk_new v4 _ _) rfl rfl LR4.out.symm R4.out.one ?_; intro v5 hsb hsg; have hb : Below (World.heap v4).size v4 v5 := Below.grown (Below.alloc (Below.refl _ _) (Nat.le_refl _) _) hsg (by simp) (fun k hk => by injection hk with hk; omega); have hsb2 : Blk v5 (World.heap v4).size 36 cs'3.toArray := (by simpa using hsb); have XB5 := Lib.hid hsb2; clear hsb hsb2 hsg; have X := Lib.hid (B0.out.below hb); clear B0; have B0 := Lib.hid X.out; clear X; have X := Lib.hid (show Below w.heap.size w v5 from BW.out.trans (hb.mono BW.out.size)); clear BW; have BW := Lib.hid X.out; clear X; have X := Lib.hid (R2.out.below hb); clear R2; have R2 := Lib.hid X.out; clear X; have X := Lib.hid (R4.out.below hb); clear R4; have R4 := Lib.hid X.out; clear X; clear hb) | fail)
    go_wp2_with (first | ((with_reducible show wpList _ _ _ ({ dst := _, op := Op.load 29 _, type := _, pos := _, after := _, guard := _ } :: _) _ _); refine wpList_load_row _ ⟨w.heap.size, 0, none⟩ rfl cs0 agg_lEMsg HL0.out (blk_cells B0.out) ?_) | ((with_reducible show wpList _ _ _ ({ dst := _, op := Op.load 36 _, type := _, pos := _, after := _, guard := _ } :: _) _ _); refine wpList_load_row _ ⟨v4.heap.size, 0, none⟩ rfl cs'3 agg_EMsg LR4.out (blk_cells XB5.out) ?_) | fail)
    refine (iShowEMsg_any x0 cs'3 _ (by omega) R4.out).mono ?_; rintro e v6 ⟨rfl, hb⟩
    have X := Lib.hid (B0.out.below hb); clear B0
    have B0 := Lib.hid X.out; clear X
    have X := Lib.hid (show Below w.heap.size w v6 from BW.out.trans (hb.mono BW.out.size)); clear BW
    have BW := Lib.hid X.out; clear X
    have X := Lib.hid (R2.out.below hb); clear R2
    have R2 := Lib.hid X.out; clear X
    have X := Lib.hid (R4.out.below hb); clear R4
    have R4 := Lib.hid X.out; clear X
    have X := Lib.hid (XB5.out.below hb); clear XB5
    have XB5 := Lib.hid X.out; clear X
    clear hb
    go_wp2
    refine wp_region_x 5 [0, 1, 2, 3, 4] (by kernel_rfl) (by kernel_rfl) ?_
    refine wpX_quiet rfl (by kernel_rfl) rfl ?_; go_wp2_with (first | (refine wpList_load_row _ ⟨w.heap.size, 0, none⟩ rfl cs0 agg_lEMsg HL0.out (blk_cells B0.out.drew) ?_) | (refine wpList_load_row _ ⟨v4.heap.size, 0, none⟩ rfl cs'3 agg_EMsg LR4.out (blk_cells XB5.out.drew) ?_) | fail); refine ⟨rfl, ?_⟩
    refine wpX_quiet rfl (by kernel_rfl) rfl ?_; go_wp2_with (first | (refine wpList_load_row _ ⟨w.heap.size, 0, none⟩ rfl cs0 agg_lEMsg HL0.out (blk_cells B0.out.drew) ?_) | (refine wpList_load_row _ ⟨v4.heap.size, 0, none⟩ rfl cs'3 agg_EMsg LR4.out (blk_cells XB5.out.drew) ?_) | fail); refine ⟨rfl, ?_⟩
    refine wpX_actor rfl (by kernel_rfl) ?_
    go_wp2_with fail
    refine (toEMsg_any x0 cs0 _ (by omega) ((A0.out.below BW.out).drew)).mono ?_; rintro e v7 ⟨cs'6, rfl, hM, hb⟩
    have R7 := Lib.hid (hM.rep.any)
    have LR7 := Lib.hid (show cs'6.length = 19 from hM.rep.length.trans (EMsgD.width _)); clear hM
    have HB := Lib.hid hb
    have hb2 := below_drewL hb; clear hb
    have hb := hb2; clear hb2
    have X := Lib.hid (B0.out.below hb); clear B0
    have B0 := Lib.hid X.out; clear X
    have X := Lib.hid (show Below w.heap.size w v7 from BW.out.trans (hb.mono BW.out.size)); clear BW
    have BW := Lib.hid X.out; clear X
    have X := Lib.hid (R2.out.below hb); clear R2
    have R2 := Lib.hid X.out; clear X
    have X := Lib.hid (R4.out.below hb); clear R4
    have R4 := Lib.hid X.out; clear X
    have X := Lib.hid (XB5.out.below hb); clear XB5
    have XB5 := Lib.hid X.out; clear X
    clear hb
    go_wp2
    refine ⟨Ext.of_below HB.out, ?_⟩
    clear HB
    refine wpX_actor rfl (by kernel_rfl) ?_
    go_wp2_with fail
    refine (eqEMsg_any x0 cs'3 cs'6 _ (by omega) R4.out R7.out).mono ?_; rintro e v8 ⟨rfl, hb⟩
    have HB := Lib.hid hb
    have X := Lib.hid (B0.out.below hb); clear B0
    have B0 := Lib.hid X.out; clear X
    have X := Lib.hid (show Below w.heap.size w v8 from BW.out.trans (hb.mono BW.out.size)); clear BW
    have BW := Lib.hid X.out; clear X
    have X := Lib.hid (R2.out.below hb); clear R2
    have R2 := Lib.hid X.out; clear X
    have X := Lib.hid (R4.out.below hb); clear R4
    have R4 := Lib.hid X.out; clear X
    have X := Lib.hid (XB5.out.below hb); clear XB5
    have XB5 := Lib.hid X.out; clear X
    have X := Lib.hid (R7.out.below hb); clear R7
    have R7 := Lib.hid X.out; clear X
    clear hb
    go_wp2
    refine ⟨Ext.of_below HB.out, ?_⟩
    clear HB
    refine wpX_quiet rfl (by kernel_rfl) rfl ?_; go_wp2; refine ⟨rfl, ?_⟩
    refine wpX_nil ?_
    simp only [List.drop_succ_cons, List.drop_zero]
    go_wp2
    go_ret
    exact ⟨ret_eq (by first | rfl | simp), BW.out⟩
  · skip
    go_enter Try.func5, Try.ntmps5
    go_wp2_with (first | ((with_reducible show wpList _ _ _ ({ dst := _, op := Op.load 29 _, type := _, pos := _, after := _, guard := _ } :: _) _ _); refine wpList_load_row _ ⟨w.heap.size, 0, none⟩ rfl cs0 agg_lEMsg HL0.out (blk_cells (blk_new _ _ _)) ?_) | fail)
    refine (szEMsg_no x0 _ cs0 _ (by omega) (by omega) OK0.out (A0.out.below (by repeat' (first | with_reducible exact Below.refl _ _ | with_reducible refine Below.alloc ?_ ?_ _ | (simp; done) | (simp; omega) | omega))) (by omega)).mono ?_; rintro e v1 ⟨rfl, hb⟩
    have B0 := Lib.hid (Blk.below (blk_new _ _ _) hb)
    have BW := Lib.hid (show Below w.heap.size w v1 from Below.trans (by repeat' (first | with_reducible exact Below.refl _ _ | with_reducible refine Below.alloc ?_ ?_ _ | (simp; done) | (simp; omega) | omega)) (hb.mono (by first | (simp; done) | (simp; omega) | omega)))
    clear hb
    go_wp2
    go_ret
    exact ⟨ret_eq (by first | rfl | simp), BW.out⟩
set_option maxRecDepth 100000 in
theorem FnExactShowEMsg_lifted (os : Os) (started : os.Started) (H : Type) (enc : TypeId × Value → H) :
    ReturnsInHanded {} Try.checked os 5 .any (Rows.fnExactShowEMsgSpec.pre6 enc Try.prog Try.f5 Rows.fnExactShowEMsgRow.domain false) (Rows.fnExactShowEMsgSpec.post enc Try.prog Try.f5 false true false false) := by
  refine returnsInHanded_of_change (C := Try.checked) own started (by kernel_rfl) Try.func5
    (ChangeSpec.witness6 (enc := enc) (C := Try.checked) false ⟨#[], #[.agg #[.int .i64 0, .int .i64 0, .int .i64 0, .int .i64 0, .int .i64 0, .int .i64 0, .int .i64 0, .int .i64 0, .int .i64 0, .string ⟨#[]⟩, .string ⟨#[]⟩, .string ⟨#[]⟩, .int .i64 0, .slice none 0 0, .int .i64 0, .slice none 0 0, .int .i64 0, .int .i64 0, .bool false]], []⟩ 8 (by kernel_rfl) (by kernel_rfl) (by kernel_rfl) (by kernel_rfl)) ?_
  intro W base args ds gs before hval0 hW _ _
  have hval : ∀ (j : Nat) t v, Try.f5.params[j]? = some t → args[j]? = some v → Value.okWide Try.prog W .any base t v := hval0
  have hW' := hW
  obtain ⟨p, q, hA0, hV, rfl, hfz, hnd⟩ := hW
  have hA : DataW.TrodAll enc Try.prog W 0 (fun _ => true) true Try.f5.params.toList args.toList ds p := hA0
  rw [Try.params5] at hA hval
  obtain ⟨v0, vs0, d0, ds0, p0, q0, hargs, rfl, rfl, h0, r0⟩ := trodAll_cons hA
  obtain ⟨rfl, rfl, rfl⟩ := trodAll_nil r0
  obtain rfl : args = #[v0] := Array.ext' hargs
  obtain ⟨x0, cs0, rfl, ok0, rp0⟩ := openV_EMsg (hval 0 29 v0 rfl rfl) h0
  refine (lShowEMsg_all x0 cs0 W ok0 rp0).mono fun e W' ⟨he, hb⟩ => ?_
  subst he
  refine ⟨_, rfl, law_post (tb := 4) laidOut (by kernel_rfl) rfl Try.underlying4 rfl ?_ hW' hb⟩
  intro ds hl
  rw [Try.params5] at hl
  match ds, hl with
  | [_], _ => rfl
theorem FnExactShowEMsg_holds : Rows.FnExactShowEMsgSaid :=
  OpenClaim.holds_of_wide 5 Try.f5 rfl rfl rfl rfl rfl rfl rfl ⟨rfl, rfl, rfl, rfl, rfl⟩ rfl rfl rfl rfl rfl (by kernel_rfl) Try.func5 (by kernel_rfl)
    (of_decide_eq_true (by kernel_rfl)) (by unfold Func.isWrapper; first | (rw [if_pos (by decide +kernel)]; kernel_rfl) | (rw [if_neg (by decide +kernel)]; exact ⟨rfl, rfl⟩))
    (fun os started H enc _ => FnExactShowEMsg_lifted os started H enc)
end Go.Proofs.Ytbdblfpepnoafaa
