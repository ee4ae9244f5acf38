/-
  The law on Ready holds for all arguments. No condition.
-/
import Derived.Test.YtbdblfpepnoafaaEq
import Derived.Test.YtbdblfpepnoafaaOpen
import Derived.Test.YtbdblfpepnoafaaMgY
namespace Go.Proofs.Ytbdblfpepnoafaa
open Go.RowKit Go.ChangeShapes Go.WideShapes Go.ChangeAt
open Go.ChangeMaps (open_string)

set_option maxRecDepth 100000 in
set_option maxHeartbeats 2000000 in
theorem lReady_all (x0 : List InstD) (A0 : Option Addr) (n0 c0 : Nat) (x1 : IdD) (cs1 : List Value) (w : World) (hn0 : n0 = x0.length) (hm0 : n0 ≤ 9223372036854775807) (hok0 : (cat InstD.c x0).ok) (h0 : Rep anyB w (.sl 49 16 n0 (cat InstD.c x0) .nil) [.slice A0 n0 c0]) (hok1 : x1.c.ok) (h1 : Rep anyB w x1.c cs1) :
    Calls Try.prog 11 #[.slice A0 n0 c0, .agg cs1.toArray] w fun e w' => e = .returned (.bool true) ∧ Below w.heap.size w w' := by
  have HN0 := Lib.hid hn0; clear hn0
  have OK0 := Lib.hid hok0; clear hok0
  have RA0 := Lib.hid h0; clear h0
  have HL1 := Lib.hid (show cs1.length = 2 from h1.length.trans (IdD.width x1))
  have OK1 := Lib.hid hok1; clear hok1
  have A1 := Lib.hid h1; clear h1
  by_cases cc0 : (((n0 + (cat InstD.c x0).wt) : Nat) : Int) ≤ 1048576
  · skip
    go_enter Try.func11, Try.ntmps11
    go_wp2_with (first | ((with_reducible show wpList _ _ _ ({ dst := _, op := Op.load 23 _, type := _, pos := _, after := _, guard := _ } :: _) _ _); refine wpList_load_row _ ⟨w.heap.size, 0, none⟩ rfl cs1 agg_lId HL1.out (blk_cells (blk_new _ _ _)) ?_) | fail)
    refine (szInstS_yes x0 _ A0 n0 c0 _ HN0.out (by omega) (by omega) hm0 OK0.out (RA0.out.below (by repeat' (first | with_reducible exact Below.refl _ _ | with_reducible refine Below.alloc ?_ ?_ _ | (simp; done) | (simp; omega) | omega))) (by omega)).mono ?_; rintro e v1 ⟨q0, rfl, ⟨g0a, g0b⟩, hq, hb⟩
    have HQ0 := Lib.hid hq; clear hq
    have B0 := Lib.hid (Blk.below (blk_new _ _ _) hb)
    have BW := Lib.hid (show Below w.heap.size w v1 from Below.trans (by repeat' (first | with_reducible exact Below.refl _ _ | with_reducible refine Below.alloc ?_ ?_ _ | (simp; done) | (simp; omega) | omega)) (hb.mono (by first | (simp; done) | (simp; omega) | omega)))
    clear hb
    go_wp2
    refine wp_region_x 6 [0, 2, 1, 3, 4, 5] (by kernel_rfl) (by kernel_rfl) ?_
    refine wpX_quiet rfl (by kernel_rfl) rfl ?_; go_wp2; refine ⟨rfl, ?_⟩
    refine wpX_quiet rfl (by kernel_rfl) rfl ?_; go_wp2_with (first | (refine wpList_load_row _ ⟨w.heap.size, 0, none⟩ rfl cs1 agg_lId HL1.out (blk_cells B0.out.drew) ?_) | fail); refine ⟨rfl, ?_⟩
    refine wpX_actor rfl (by kernel_rfl) ?_
    go_wp2_with fail
    refine (toInstS_any x0 A0 n0 c0 _ HN0.out (by omega) ((RA0.out.below BW.out).drew)).mono ?_; rintro e v2 ⟨A'1, c'2, rfl, hM, hb⟩
    have R3 := Lib.hid (hM.rep.any); clear hM
    have HB := Lib.hid hb
    have hb2 := below_drewL hb; clear hb
    have hb := hb2; clear hb2
    have X := Lib.hid (B0.out.below hb); clear B0
    have B0 := Lib.hid X.out; clear X
    have X := Lib.hid (show Below w.heap.size w v2 from BW.out.trans (hb.mono BW.out.size)); clear BW
    have BW := Lib.hid X.out; clear X
    clear hb
    go_wp2
    refine ⟨Ext.of_below HB.out, ?_⟩
    clear HB
    refine wpX_actor rfl (by kernel_rfl) ?_
    go_wp2_with fail
    refine (toId_any x1 cs1 _ (by exact Nat.zero_le _) (A1.out.below BW.out)).mono ?_; rintro e v3 ⟨cs'4, rfl, hM, hb⟩
    have R5 := Lib.hid (hM.rep.any)
    have LR5 := Lib.hid (show cs'4.length = 2 from hM.rep.length.trans (IdD.width _)); clear hM
    have HB := Lib.hid hb
    have X := Lib.hid (B0.out.below hb); clear B0
    have B0 := Lib.hid X.out; clear X
    have X := Lib.hid (show Below w.heap.size w v3 from BW.out.trans (hb.mono BW.out.size)); clear BW
    have BW := Lib.hid X.out; clear X
    have X := Lib.hid (R3.out.below hb); clear R3
    have R3 := Lib.hid X.out; clear X
    clear hb
    go_wp2
    refine ⟨Ext.of_below HB.out, ?_⟩
    clear HB
    refine wpX_actor rfl (by kernel_rfl) ?_
    go_wp2_with fail
    refine (sReady_any x0 x1 A'1 n0 c'2 cs'4 _ HN0.out (by omega) (by exact Nat.zero_le _) R3.out R5.out).mono ?_; rintro e v4 ⟨rfl, hb⟩
    have HB := Lib.hid hb
    have X := Lib.hid (B0.out.below hb); clear B0
    have B0 := Lib.hid X.out; clear X
    have X := Lib.hid (show Below w.heap.size w v4 from BW.out.trans (hb.mono BW.out.size)); clear BW
    have BW := Lib.hid X.out; clear X
    have X := Lib.hid (R3.out.below hb); clear R3
    have R3 := Lib.hid X.out; clear X
    have X := Lib.hid (R5.out.below hb); clear R5
    have R5 := Lib.hid X.out; clear X
    clear hb
    go_wp2
    refine ⟨Ext.of_below HB.out, ?_⟩
    clear HB
    refine wpX_quiet rfl (by kernel_rfl) rfl ?_; go_wp2; refine ⟨rfl, ?_⟩
    refine wpX_nil ?_
    simp only [List.drop_succ_cons, List.drop_zero]
    go_wp2_with (first | ((with_reducible show wpList _ _ _ ({ dst := _, op := Op.load 23 _, type := _, pos := _, after := _, guard := _ } :: _) _ _); refine wpList_load_row _ ⟨w.heap.size, 0, none⟩ rfl cs1 agg_lId HL1.out (blk_cells B0.out) ?_) | fail)
    refine (toInstS_any x0 A0 n0 c0 _ HN0.out (by omega) (RA0.out.below BW.out)).mono ?_; rintro e v5 ⟨A'6, c'7, rfl, hM, hb⟩
    have R8 := Lib.hid (hM.rep.any); clear hM
    have X := Lib.hid (B0.out.below hb); clear B0
    have B0 := Lib.hid X.out; clear X
    have X := Lib.hid (show Below w.heap.size w v5 from BW.out.trans (hb.mono BW.out.size)); clear BW
    have BW := Lib.hid X.out; clear X
    have X := Lib.hid (R3.out.below hb); clear R3
    have R3 := Lib.hid X.out; clear X
    have X := Lib.hid (R5.out.below hb); clear R5
    have R5 := Lib.hid X.out; clear X
    clear hb
    go_wp2_with (first | ((with_reducible show wpList _ _ _ ({ dst := _, op := Op.load 23 _, type := _, pos := _, after := _, guard := _ } :: _) _ _); refine wpList_load_row _ ⟨w.heap.size, 0, none⟩ rfl cs1 agg_lId HL1.out (blk_cells B0.out) ?_) | fail)
    refine (toId_any x1 cs1 _ (by exact Nat.zero_le _) (A1.out.below BW.out)).mono ?_; rintro e v6 ⟨cs'9, rfl, hM, hb⟩
    have R10 := Lib.hid (hM.rep.any)
    have LR10 := Lib.hid (show cs'9.length = 2 from hM.rep.length.trans (IdD.width _)); clear hM
    have X := Lib.hid (B0.out.below hb); clear B0
    have B0 := Lib.hid X.out; clear X
    have X := Lib.hid (show Below w.heap.size w v6 from BW.out.trans (hb.mono BW.out.size)); clear BW
    have BW := Lib.hid X.out; clear X
    have X := Lib.hid (R3.out.below hb); clear R3
    have R3 := Lib.hid X.out; clear X
    have X := Lib.hid (R5.out.below hb); clear R5
    have R5 := Lib.hid X.out; clear X
    have X := Lib.hid (R8.out.below hb); clear R8
    have R8 := Lib.hid X.out; clear X
    clear hb
    go_wp2_with (first | ((with_reducible show wpList _ _ _ ({ dst := _, op := Op.load 23 _, type := _, pos := _, after := _, guard := _ } :: _) _ _); refine wpList_load_row _ ⟨w.heap.size, 0, none⟩ rfl cs1 agg_lId HL1.out (blk_cells B0.out) ?_) | fail)
    refine (iReady_any x0 x1 A'6 n0 c'7 cs'9 _ HN0.out (by omega) (by exact Nat.zero_le _) R8.out R10.out).mono ?_; rintro e v7 ⟨rfl, hb⟩
    have X := Lib.hid (B0.out.below hb); clear B0
    have B0 := Lib.hid X.out; clear X
    have X := Lib.hid (show Below w.heap.size w v7 from BW.out.trans (hb.mono BW.out.size)); clear BW
    have BW := Lib.hid X.out; clear X
    have X := Lib.hid (R3.out.below hb); clear R3
    have R3 := Lib.hid X.out; clear X
    have X := Lib.hid (R5.out.below hb); clear R5
    have R5 := Lib.hid X.out; clear X
    have X := Lib.hid (R8.out.below hb); clear R8
    have R8 := Lib.hid X.out; clear X
    have X := Lib.hid (R10.out.below hb); clear R10
    have R10 := Lib.hid X.out; clear X
    clear hb
    go_wp2_with (first | ((with_reducible show wpList _ _ _ ({ dst := _, op := Op.load 23 _, type := _, pos := _, after := _, guard := _ } :: _) _ _); refine wpList_load_row _ ⟨w.heap.size, 0, none⟩ rfl cs1 agg_lId HL1.out (blk_cells B0.out) ?_) | fail)
    refine (toInstS_any x0 A0 n0 c0 _ HN0.out (by omega) (RA0.out.below BW.out)).mono ?_; rintro e v8 ⟨A'11, c'12, rfl, hM, hb⟩
    have R13 := Lib.hid (hM.rep.any); clear hM
    have X := Lib.hid (B0.out.below hb); clear B0
    have B0 := Lib.hid X.out; clear X
    have X := Lib.hid (show Below w.heap.size w v8 from BW.out.trans (hb.mono BW.out.size)); clear BW
    have BW := Lib.hid X.out; clear X
    have X := Lib.hid (R3.out.below hb); clear R3
    have R3 := Lib.hid X.out; clear X
    have X := Lib.hid (R5.out.below hb); clear R5
    have R5 := Lib.hid X.out; clear X
    have X := Lib.hid (R8.out.below hb); clear R8
    have R8 := Lib.hid X.out; clear X
    have X := Lib.hid (R10.out.below hb); clear R10
    have R10 := Lib.hid X.out; clear X
    clear hb
    go_wp2_with (first | ((with_reducible show wpList _ _ _ ({ dst := _, op := Op.load 23 _, type := _, pos := _, after := _, guard := _ } :: _) _ _); refine wpList_load_row _ ⟨w.heap.size, 0, none⟩ rfl cs1 agg_lId HL1.out (blk_cells B0.out) ?_) | fail)
    refine (eqInstS_any x0 A'6 A'11 n0 c'7 c'12 _ HN0.out (by omega) R8.out R13.out).mono ?_; rintro e v9 ⟨rfl, hb⟩
    have X := Lib.hid (B0.out.below hb); clear B0
    have B0 := Lib.hid X.out; clear X
    have X := Lib.hid (show Below w.heap.size w v9 from BW.out.trans (hb.mono BW.out.size)); clear BW
    have BW := Lib.hid X.out; clear X
    have X := Lib.hid (R3.out.below hb); clear R3
    have R3 := Lib.hid X.out; clear X
    have X := Lib.hid (R5.out.below hb); clear R5
    have R5 := Lib.hid X.out; clear X
    have X := Lib.hid (R8.out.below hb); clear R8
    have R8 := Lib.hid X.out; clear X
    have X := Lib.hid (R10.out.below hb); clear R10
    have R10 := Lib.hid X.out; clear X
    have X := Lib.hid (R13.out.below hb); clear R13
    have R13 := Lib.hid X.out; clear X
    clear hb
    go_wp2
    go_ret
    exact ⟨ret_eq (by first | rfl | simp), BW.out⟩
  · skip
    go_enter Try.func11, Try.ntmps11
    go_wp2_with (first | ((with_reducible show wpList _ _ _ ({ dst := _, op := Op.load 23 _, type := _, pos := _, after := _, guard := _ } :: _) _ _); refine wpList_load_row _ ⟨w.heap.size, 0, none⟩ rfl cs1 agg_lId HL1.out (blk_cells (blk_new _ _ _)) ?_) | fail)
    refine (szInstS_no x0 _ A0 n0 c0 _ HN0.out (by omega) (by omega) hm0 OK0.out (RA0.out.below (by repeat' (first | with_reducible exact Below.refl _ _ | with_reducible refine Below.alloc ?_ ?_ _ | (simp; done) | (simp; omega) | omega))) (by omega)).mono ?_; rintro e v1 ⟨rfl, hb⟩
    have B0 := Lib.hid (Blk.below (blk_new _ _ _) hb)
    have BW := Lib.hid (show Below w.heap.size w v1 from Below.trans (by repeat' (first | with_reducible exact Below.refl _ _ | with_reducible refine Below.alloc ?_ ?_ _ | (simp; done) | (simp; omega) | omega)) (hb.mono (by first | (simp; done) | (simp; omega) | omega)))
    clear hb
    go_wp2
    go_ret
    exact ⟨ret_eq (by first | rfl | simp), BW.out⟩
set_option maxRecDepth 100000 in
theorem FnExactReady_lifted (os : Os) (started : os.Started) (H : Type) (enc : TypeId × Value → H) :
    ReturnsInHanded {} Try.checked os 11 .any (Rows.fnExactReadySpec.pre6 enc Try.prog Try.f11 Rows.fnExactReadyRow.domain false) (Rows.fnExactReadySpec.post enc Try.prog Try.f11 false true false false) := by
  refine returnsInHanded_of_change (C := Try.checked) own started (by kernel_rfl) Try.func11
    (ChangeSpec.witness6 (enc := enc) (C := Try.checked) false ⟨#[], #[.slice none 0 0, .agg #[.int .i64 0, .int .i64 0]], []⟩ 8 (by kernel_rfl) (by kernel_rfl) (by kernel_rfl) (by kernel_rfl)) ?_
  intro W base args ds gs before hval0 hW _ _
  have hval : ∀ (j : Nat) t v, Try.f11.params[j]? = some t → args[j]? = some v → Value.okWide Try.prog W .any base t v := hval0
  have hW' := hW
  obtain ⟨p, q, hA0, hV, rfl, hfz, hnd⟩ := hW
  have hA : DataW.TrodAll enc Try.prog W 0 (fun _ => true) true Try.f11.params.toList args.toList ds p := hA0
  rw [Try.params11] at hA hval
  obtain ⟨v0, vs0, d0, ds0, p0, q0, hargs, rfl, rfl, h0, r0⟩ := trodAll_cons hA
  obtain ⟨v1, vs1, d1, ds1, p1, q1, rfl, rfl, rfl, h1, r1⟩ := trodAll_cons r0
  obtain ⟨rfl, rfl, rfl⟩ := trodAll_nil r1
  obtain rfl : args = #[v0, v1] := Array.ext' hargs
  obtain ⟨x0, A0, n0, c0, rfl, hn0, hm0, ok0, rp0⟩ := openV_InstS (hval 0 46 v0 rfl rfl) h0
  obtain ⟨x1, cs1, rfl, ok1, rp1⟩ := openV_Id (hval 1 23 v1 rfl rfl) h1
  refine (lReady_all x0 A0 n0 c0 x1 cs1 W hn0 hm0 ok0 rp0 ok1 rp1).mono fun e W' ⟨he, hb⟩ => ?_
  subst he
  refine ⟨_, rfl, law_post (tb := 4) laidOut (by kernel_rfl) rfl Try.underlying4 rfl ?_ hW' hb⟩
  intro ds hl
  rw [Try.params11] at hl
  match ds, hl with
  | [_, _], _ => rfl
theorem FnExactReady_holds : Rows.FnExactReadySaid :=
  OpenClaim.holds_of_wide 11 Try.f11 rfl rfl rfl rfl rfl rfl rfl ⟨rfl, rfl, rfl, rfl, rfl⟩ rfl rfl rfl rfl rfl (by kernel_rfl) Try.func11 (by kernel_rfl)
    (of_decide_eq_true (by kernel_rfl)) (by unfold Func.isWrapper; first | (rw [if_pos (by decide +kernel)]; kernel_rfl) | (rw [if_neg (by decide +kernel)]; exact ⟨rfl, rfl⟩))
    (fun os started H enc _ => FnExactReady_lifted os started H enc)
end Go.Proofs.Ytbdblfpepnoafaa
