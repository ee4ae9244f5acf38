/-
  Messages as text. Conditions: bounds on the sizes.
-/
import Derived.Test.YtbdblfpepnoafaaShED
namespace Go.Proofs.Ytbdblfpepnoafaa
open Go.RowKit

set_option maxRecDepth 100000 in
set_option maxHeartbeats 8000000 in
theorem sShowEMsg_false (x : EMsgD) (cs0 : List Value) (w : World) (hwt0 : x.c.wt ≤ 1048576) (h0 : Rep anyB w x.c cs0) (hsm : x.same = false) :
    Calls Try.prog 22 #[.agg cs0.toArray] w fun e w' => e = .returned (.string (bs (showEMsgL x))) ∧ Below w.heap.size w w' := by
  have HA0 := Lib.hid h0
  have HW0 := Lib.hid hwt0
  have hw0 : x.c.wt = (x.cmd.set.length + (x.cmd.name.length + (x.cmd.tag.length + (x.cmd.chunks.length + (cat strC x.cmd.chunks).wt + (x.deps.length + (cat IdD.c x.deps).wt + 0))))) := rfl
  obtain ⟨Aa0, ka0, Aa1, ka1, rfl, sa0, sa1⟩ := EMsgD.open h0
  obtain ⟨a0, a1, a2, ⟨a3, a4⟩, a5, ⟨a6, a7, a8, a9, a10, a11, a12, a13⟩, a14, a15, a16, a17, a18⟩ := x
  simp only [] at hsm sa0 sa1 hw0 ⊢
  subst hsm
  have Wa9 : a9.length ≤ 1048576 := by omega
  have Wa10 : a10.length ≤ 1048576 := by omega
  have Wa11 : a11.length ≤ 1048576 := by omega
  have Sa13 := Lib.hid sa0; clear sa0
  have Wa13 : a13.length + (cat strC a13).wt ≤ 1048576 := by omega
  have Sa15 := Lib.hid sa1; clear sa1
  have Wa15 : a15.length + (cat IdD.c a15).wt ≤ 1048576 := by omega
  have Sid0 := Lib.hid (show Rep anyB w (IdD.c ⟨a3, a4⟩) [.int .i64 a3, .int .i64 a4] from IdD.shut)
  have Wcmd0 : (CmdD.c ⟨a6, a7, a8, a9, a10, a11, a12, a13⟩).wt ≤ 1048576 := by have e0 : (CmdD.c ⟨a6, a7, a8, a9, a10, a11, a12, a13⟩).wt = (a9.length + (a10.length + (a11.length + (a13.length + (cat strC a13).wt + 0)))) := rfl; omega
  have Scmd0 := Lib.hid (show Rep anyB w (CmdD.c ⟨a6, a7, a8, a9, a10, a11, a12, a13⟩) [.int .i64 a6, .int .i64 a7, .int .i64 a8, .string (bs a9), .string (bs a10), .string (bs a11), .int .i64 a12, .slice Aa0 a13.length ka0] from CmdD.shut Sa13.out)
  clear h0 hwt0 hw0
  obtain ⟨R, hR⟩ : ∃ R, R = showEMsgL (⟨a0, a1, a2, ⟨a3, a4⟩, a5, ⟨a6, a7, a8, a9, a10, a11, a12, a13⟩, a14, a15, a16, a17, false⟩ : EMsgD) := ⟨_, rfl⟩
  rw [← hR]
  rw [showEMsgL] at hR
  simp only [] at hR
  have HR := Lib.hid hR; clear hR
  go_enter Try.func22, Try.ntmps22
  go_wp2_with (first | ((with_reducible show wpList _ _ _ ({ dst := _, op := Op.load 36 _, type := _, pos := _, after := _, guard := _ } :: _) _ _); refine wpList_load_row _ ⟨w.heap.size, 0, none⟩ rfl [.int .i64 a0, .int .i64 a1, .int .i64 a2, .int .i64 a3, .int .i64 a4, .int .i64 a5, .int .i64 a6, .int .i64 a7, .int .i64 a8, .string (bs a9), .string (bs a10), .string (bs a11), .int .i64 a12, .slice Aa0 a13.length ka0, .int .i64 a14, .slice Aa1 a15.length ka1, .int .i64 a16, .int .i64 a17, .bool false] agg_EMsg rfl (blk_cells (blk_new _ _ _)) ?_) | fail)
  refine (sEMsgOk_any ⟨a0, a1, a2, ⟨a3, a4⟩, a5, ⟨a6, a7, a8, a9, a10, a11, a12, a13⟩, a14, a15, a16, a17, false⟩ _ _ HW0.out (HA0.out.below (by repeat' (first | with_reducible exact Below.refl _ _ | with_reducible exact BW.out | with_reducible refine Below.setCell ?_ ?_ _ | with_reducible refine Below.alloc ?_ ?_ _ | with_reducible refine Below.drew ?_ | (simp; done) | (simp; omega) | omega)))).mono ?_; rintro e v1 ⟨rfl, hb⟩
  have SB := Lib.hid (Blk.below (blk_new _ _ _) hb)
  have BW := Lib.hid (show Below w.heap.size w v1 from Below.trans (by repeat' (first | with_reducible exact Below.refl _ _ | with_reducible exact BW.out | with_reducible refine Below.setCell ?_ ?_ _ | with_reducible refine Below.alloc ?_ ?_ _ | with_reducible refine Below.drew ?_ | (simp; done) | (simp; omega) | omega)) (hb.mono (by first | (simp; done) | (simp; omega) | omega))); clear hb
  cases hx : emsgOkB ⟨a0, a1, a2, ⟨a3, a4⟩, a5, ⟨a6, a7, a8, a9, a10, a11, a12, a13⟩, a14, a15, a16, a17, false⟩
  case false =>
    go_wp2
    go_ret
    exact ⟨ret_eq (by rw [HR.out, hx]; rfl), BW.out⟩
  case true =>
    rw [hx, if_pos rfl] at HR
    have hvb := emsgOk_vbal hx
    simp only [] at hvb
    obtain ⟨hvb1, hvb2⟩ := hvb
    clear hx
    have hcl := showCmd_len ⟨a6, a7, a8, a9, a10, a11, a12, a13⟩
    have hcw := Wcmd0
    have hdl : a15.length ≤ 1048576 := by omega
    have hdf := flatm_len idL 14 idL_len a15
    simp only [numsE] at HR
    rw [show sameL false = [0] from rfl] at HR
    generalize hAG : (Value.agg #[.int .i64 a0, .int .i64 a1, .int .i64 a2, .int .i64 a3, .int .i64 a4, .int .i64 a5, .int .i64 a6, .int .i64 a7, .int .i64 a8, .string (bs a9), .string (bs a10), .string (bs a11), .int .i64 a12, .slice Aa0 a13.length ka0, .int .i64 a14, .slice Aa1 a15.length ka1, .int .i64 a16, .int .i64 a17, .bool false]) = AG
    clear hAG
    have hfx : True := trivial
    have hs0 : World.cell? v1 ⟨w.heap.size, 0, none⟩ = some (.int .i64 a0) := blk_cell0 (L := [.int .i64 a0, .int .i64 a1, .int .i64 a2, .int .i64 a3, .int .i64 a4, .int .i64 a5, .int .i64 a6, .int .i64 a7, .int .i64 a8, .string (bs a9), .string (bs a10), .string (bs a11), .int .i64 a12, .slice Aa0 a13.length ka0, .int .i64 a14, .slice Aa1 a15.length ka1, .int .i64 a16, .int .i64 a17, .bool false]) SB.out 0 rfl
    have hs1 : World.cell? v1 ⟨w.heap.size, 1, none⟩ = some (.int .i64 a1) := blk_cell0 (L := [.int .i64 a0, .int .i64 a1, .int .i64 a2, .int .i64 a3, .int .i64 a4, .int .i64 a5, .int .i64 a6, .int .i64 a7, .int .i64 a8, .string (bs a9), .string (bs a10), .string (bs a11), .int .i64 a12, .slice Aa0 a13.length ka0, .int .i64 a14, .slice Aa1 a15.length ka1, .int .i64 a16, .int .i64 a17, .bool false]) SB.out 1 rfl
    have hs2 : World.cell? v1 ⟨w.heap.size, 2, none⟩ = some (.int .i64 a2) := blk_cell0 (L := [.int .i64 a0, .int .i64 a1, .int .i64 a2, .int .i64 a3, .int .i64 a4, .int .i64 a5, .int .i64 a6, .int .i64 a7, .int .i64 a8, .string (bs a9), .string (bs a10), .string (bs a11), .int .i64 a12, .slice Aa0 a13.length ka0, .int .i64 a14, .slice Aa1 a15.length ka1, .int .i64 a16, .int .i64 a17, .bool false]) SB.out 2 rfl
    have hs3 : World.cell? v1 ⟨w.heap.size, 3, none⟩ = some (.int .i64 a3) := blk_cell0 (L := [.int .i64 a0, .int .i64 a1, .int .i64 a2, .int .i64 a3, .int .i64 a4, .int .i64 a5, .int .i64 a6, .int .i64 a7, .int .i64 a8, .string (bs a9), .string (bs a10), .string (bs a11), .int .i64 a12, .slice Aa0 a13.length ka0, .int .i64 a14, .slice Aa1 a15.length ka1, .int .i64 a16, .int .i64 a17, .bool false]) SB.out 3 rfl
    have hs4 : World.cell? v1 ⟨w.heap.size, 4, none⟩ = some (.int .i64 a4) := blk_cell0 (L := [.int .i64 a0, .int .i64 a1, .int .i64 a2, .int .i64 a3, .int .i64 a4, .int .i64 a5, .int .i64 a6, .int .i64 a7, .int .i64 a8, .string (bs a9), .string (bs a10), .string (bs a11), .int .i64 a12, .slice Aa0 a13.length ka0, .int .i64 a14, .slice Aa1 a15.length ka1, .int .i64 a16, .int .i64 a17, .bool false]) SB.out 4 rfl
    have hs5 : World.cell? v1 ⟨w.heap.size, 5, none⟩ = some (.int .i64 a5) := blk_cell0 (L := [.int .i64 a0, .int .i64 a1, .int .i64 a2, .int .i64 a3, .int .i64 a4, .int .i64 a5, .int .i64 a6, .int .i64 a7, .int .i64 a8, .string (bs a9), .string (bs a10), .string (bs a11), .int .i64 a12, .slice Aa0 a13.length ka0, .int .i64 a14, .slice Aa1 a15.length ka1, .int .i64 a16, .int .i64 a17, .bool false]) SB.out 5 rfl
    have hs6 : World.cell? v1 ⟨w.heap.size, 6, none⟩ = some (.int .i64 a6) := blk_cell0 (L := [.int .i64 a0, .int .i64 a1, .int .i64 a2, .int .i64 a3, .int .i64 a4, .int .i64 a5, .int .i64 a6, .int .i64 a7, .int .i64 a8, .string (bs a9), .string (bs a10), .string (bs a11), .int .i64 a12, .slice Aa0 a13.length ka0, .int .i64 a14, .slice Aa1 a15.length ka1, .int .i64 a16, .int .i64 a17, .bool false]) SB.out 6 rfl
    have hs7 : World.cell? v1 ⟨w.heap.size, 7, none⟩ = some (.int .i64 a7) := blk_cell0 (L := [.int .i64 a0, .int .i64 a1, .int .i64 a2, .int .i64 a3, .int .i64 a4, .int .i64 a5, .int .i64 a6, .int .i64 a7, .int .i64 a8, .string (bs a9), .string (bs a10), .string (bs a11), .int .i64 a12, .slice Aa0 a13.length ka0, .int .i64 a14, .slice Aa1 a15.length ka1, .int .i64 a16, .int .i64 a17, .bool false]) SB.out 7 rfl
    have hs8 : World.cell? v1 ⟨w.heap.size, 8, none⟩ = some (.int .i64 a8) := blk_cell0 (L := [.int .i64 a0, .int .i64 a1, .int .i64 a2, .int .i64 a3, .int .i64 a4, .int .i64 a5, .int .i64 a6, .int .i64 a7, .int .i64 a8, .string (bs a9), .string (bs a10), .string (bs a11), .int .i64 a12, .slice Aa0 a13.length ka0, .int .i64 a14, .slice Aa1 a15.length ka1, .int .i64 a16, .int .i64 a17, .bool false]) SB.out 8 rfl
    have hs9 : World.cell? v1 ⟨w.heap.size, 9, none⟩ = some (.string (bs a9)) := blk_cell0 (L := [.int .i64 a0, .int .i64 a1, .int .i64 a2, .int .i64 a3, .int .i64 a4, .int .i64 a5, .int .i64 a6, .int .i64 a7, .int .i64 a8, .string (bs a9), .string (bs a10), .string (bs a11), .int .i64 a12, .slice Aa0 a13.length ka0, .int .i64 a14, .slice Aa1 a15.length ka1, .int .i64 a16, .int .i64 a17, .bool false]) SB.out 9 rfl
    have hs10 : World.cell? v1 ⟨w.heap.size, 10, none⟩ = some (.string (bs a10)) := blk_cell0 (L := [.int .i64 a0, .int .i64 a1, .int .i64 a2, .int .i64 a3, .int .i64 a4, .int .i64 a5, .int .i64 a6, .int .i64 a7, .int .i64 a8, .string (bs a9), .string (bs a10), .string (bs a11), .int .i64 a12, .slice Aa0 a13.length ka0, .int .i64 a14, .slice Aa1 a15.length ka1, .int .i64 a16, .int .i64 a17, .bool false]) SB.out 10 rfl
    have hs11 : World.cell? v1 ⟨w.heap.size, 11, none⟩ = some (.string (bs a11)) := blk_cell0 (L := [.int .i64 a0, .int .i64 a1, .int .i64 a2, .int .i64 a3, .int .i64 a4, .int .i64 a5, .int .i64 a6, .int .i64 a7, .int .i64 a8, .string (bs a9), .string (bs a10), .string (bs a11), .int .i64 a12, .slice Aa0 a13.length ka0, .int .i64 a14, .slice Aa1 a15.length ka1, .int .i64 a16, .int .i64 a17, .bool false]) SB.out 11 rfl
    have hs12 : World.cell? v1 ⟨w.heap.size, 12, none⟩ = some (.int .i64 a12) := blk_cell0 (L := [.int .i64 a0, .int .i64 a1, .int .i64 a2, .int .i64 a3, .int .i64 a4, .int .i64 a5, .int .i64 a6, .int .i64 a7, .int .i64 a8, .string (bs a9), .string (bs a10), .string (bs a11), .int .i64 a12, .slice Aa0 a13.length ka0, .int .i64 a14, .slice Aa1 a15.length ka1, .int .i64 a16, .int .i64 a17, .bool false]) SB.out 12 rfl
    have hs13 : World.cell? v1 ⟨w.heap.size, 13, none⟩ = some (.slice Aa0 a13.length ka0) := blk_cell0 (L := [.int .i64 a0, .int .i64 a1, .int .i64 a2, .int .i64 a3, .int .i64 a4, .int .i64 a5, .int .i64 a6, .int .i64 a7, .int .i64 a8, .string (bs a9), .string (bs a10), .string (bs a11), .int .i64 a12, .slice Aa0 a13.length ka0, .int .i64 a14, .slice Aa1 a15.length ka1, .int .i64 a16, .int .i64 a17, .bool false]) SB.out 13 rfl
    have hs14 : World.cell? v1 ⟨w.heap.size, 14, none⟩ = some (.int .i64 a14) := blk_cell0 (L := [.int .i64 a0, .int .i64 a1, .int .i64 a2, .int .i64 a3, .int .i64 a4, .int .i64 a5, .int .i64 a6, .int .i64 a7, .int .i64 a8, .string (bs a9), .string (bs a10), .string (bs a11), .int .i64 a12, .slice Aa0 a13.length ka0, .int .i64 a14, .slice Aa1 a15.length ka1, .int .i64 a16, .int .i64 a17, .bool false]) SB.out 14 rfl
    have hs15 : World.cell? v1 ⟨w.heap.size, 15, none⟩ = some (.slice Aa1 a15.length ka1) := blk_cell0 (L := [.int .i64 a0, .int .i64 a1, .int .i64 a2, .int .i64 a3, .int .i64 a4, .int .i64 a5, .int .i64 a6, .int .i64 a7, .int .i64 a8, .string (bs a9), .string (bs a10), .string (bs a11), .int .i64 a12, .slice Aa0 a13.length ka0, .int .i64 a14, .slice Aa1 a15.length ka1, .int .i64 a16, .int .i64 a17, .bool false]) SB.out 15 rfl
    have hs16 : World.cell? v1 ⟨w.heap.size, 16, none⟩ = some (.int .i64 a16) := blk_cell0 (L := [.int .i64 a0, .int .i64 a1, .int .i64 a2, .int .i64 a3, .int .i64 a4, .int .i64 a5, .int .i64 a6, .int .i64 a7, .int .i64 a8, .string (bs a9), .string (bs a10), .string (bs a11), .int .i64 a12, .slice Aa0 a13.length ka0, .int .i64 a14, .slice Aa1 a15.length ka1, .int .i64 a16, .int .i64 a17, .bool false]) SB.out 16 rfl
    have hs17 : World.cell? v1 ⟨w.heap.size, 17, none⟩ = some (.int .i64 a17) := blk_cell0 (L := [.int .i64 a0, .int .i64 a1, .int .i64 a2, .int .i64 a3, .int .i64 a4, .int .i64 a5, .int .i64 a6, .int .i64 a7, .int .i64 a8, .string (bs a9), .string (bs a10), .string (bs a11), .int .i64 a12, .slice Aa0 a13.length ka0, .int .i64 a14, .slice Aa1 a15.length ka1, .int .i64 a16, .int .i64 a17, .bool false]) SB.out 17 rfl
    have hs18 : World.cell? v1 ⟨w.heap.size, 18, none⟩ = some (.bool false) := blk_cell0 (L := [.int .i64 a0, .int .i64 a1, .int .i64 a2, .int .i64 a3, .int .i64 a4, .int .i64 a5, .int .i64 a6, .int .i64 a7, .int .i64 a8, .string (bs a9), .string (bs a10), .string (bs a11), .int .i64 a12, .slice Aa0 a13.length ka0, .int .i64 a14, .slice Aa1 a15.length ka1, .int .i64 a16, .int .i64 a17, .bool false]) SB.out 18 rfl
    have hv0 := varF_length a0
    have hv1 := varF_length a1
    have hv2 := varF_length a2
    have hv3 := varF_length a3
    have hv4 := varF_length a4
    have hv5 := varF_length a5
    have hv6 := varF_length a16
    have hv7 := varF_length (a17 + 1)
    have hv8 := varF_length a14
    have hv9 := sizedL_length (showCmdL ⟨a6, a7, a8, a9, a10, a11, a12, a13⟩)
    have hv10 := varF_length (a15.length : Int)
    go_wp2
    refine wp_region_x 51 [0, 1, 3, 4, 7, 8, 11, 12, 13, 16, 17, 18, 21, 22, 25, 26, 29, 30, 31, 34, 35, 38, 40, 41, 45, 46, 47, 2, 5, 6, 9, 10, 14, 15, 19, 20, 23, 24, 27, 28, 32, 33, 36, 37, 39, 42, 43, 44, 48, 49, 50] (by kernel_rfl) (by kernel_rfl) ?_
    iterate 27 (refine wpX_quiet rfl (by kernel_rfl) rfl ?_; go_wp2; refine ⟨rfl, ?_⟩)
    refine wpX_actor rfl (by kernel_rfl) ?_
    go_wp2_with fail
    refine (sVar_any _ _).mono ?_; rintro e v2 ⟨rfl, hb⟩
    have HB := Lib.hid hb
    have hb2 := below_drewL hb; clear hb
    have hb := hb2; clear hb2
    have X := Lib.hid (show Below w.heap.size w v2 from BW.out.trans (hb.mono BW.out.size)); clear BW
    have BW := Lib.hid X.out; clear X
    have X := Lib.hid (SB.out.below hb); clear SB
    have SB := Lib.hid X.out; clear X
    clear hb
    go_wp2
    refine ⟨Ext.of_below HB.out, ?_⟩
    clear HB
    refine wpX_actor rfl (by kernel_rfl) ?_
    go_wp2_with fail
    refine (sVar_any _ _).mono ?_; rintro e v3 ⟨rfl, hb⟩
    have HB := Lib.hid hb
    have X := Lib.hid (show Below w.heap.size w v3 from BW.out.trans (hb.mono BW.out.size)); clear BW
    have BW := Lib.hid X.out; clear X
    have X := Lib.hid (SB.out.below hb); clear SB
    have SB := Lib.hid X.out; clear X
    clear hb
    go_wp2
    refine ⟨Ext.of_below HB.out, ?_⟩
    clear HB
    iterate 1 (refine wpX_quiet rfl (by kernel_rfl) rfl ?_; go_wp2; refine ⟨rfl, ?_⟩)
    refine wpX_actor rfl (by kernel_rfl) ?_
    go_wp2_with fail
    refine (sVar_any _ _).mono ?_; rintro e v4 ⟨rfl, hb⟩
    have HB := Lib.hid hb
    have X := Lib.hid (show Below w.heap.size w v4 from BW.out.trans (hb.mono BW.out.size)); clear BW
    have BW := Lib.hid X.out; clear X
    have X := Lib.hid (SB.out.below hb); clear SB
    have SB := Lib.hid X.out; clear X
    clear hb
    go_wp2
    refine ⟨Ext.of_below HB.out, ?_⟩
    clear HB
    iterate 1 (refine wpX_quiet rfl (by kernel_rfl) rfl ?_; go_wp2; refine ⟨rfl, ?_⟩)
    refine wpX_actor rfl (by kernel_rfl) ?_
    go_wp2_with fail
    refine (sVar_any _ _).mono ?_; rintro e v5 ⟨rfl, hb⟩
    have HB := Lib.hid hb
    have X := Lib.hid (show Below w.heap.size w v5 from BW.out.trans (hb.mono BW.out.size)); clear BW
    have BW := Lib.hid X.out; clear X
    have X := Lib.hid (SB.out.below hb); clear SB
    have SB := Lib.hid X.out; clear X
    clear hb
    go_wp2
    refine ⟨Ext.of_below HB.out, ?_⟩
    clear HB
    iterate 1 (refine wpX_quiet rfl (by kernel_rfl) rfl ?_; go_wp2; refine ⟨rfl, ?_⟩)
    refine wpX_actor rfl (by kernel_rfl) ?_
    go_wp2_with fail
    refine (sVar_any _ _).mono ?_; rintro e v6 ⟨rfl, hb⟩
    have HB := Lib.hid hb
    have X := Lib.hid (show Below w.heap.size w v6 from BW.out.trans (hb.mono BW.out.size)); clear BW
    have BW := Lib.hid X.out; clear X
    have X := Lib.hid (SB.out.below hb); clear SB
    have SB := Lib.hid X.out; clear X
    clear hb
    go_wp2
    refine ⟨Ext.of_below HB.out, ?_⟩
    clear HB
    iterate 1 (refine wpX_quiet rfl (by kernel_rfl) rfl ?_; go_wp2; refine ⟨rfl, ?_⟩)
    refine wpX_actor rfl (by kernel_rfl) ?_
    go_wp2_with fail
    refine (sVar_any _ _).mono ?_; rintro e v7 ⟨rfl, hb⟩
    have HB := Lib.hid hb
    have X := Lib.hid (show Below w.heap.size w v7 from BW.out.trans (hb.mono BW.out.size)); clear BW
    have BW := Lib.hid X.out; clear X
    have X := Lib.hid (SB.out.below hb); clear SB
    have SB := Lib.hid X.out; clear X
    clear hb
    go_wp2
    refine ⟨Ext.of_below HB.out, ?_⟩
    clear HB
    iterate 1 (refine wpX_quiet rfl (by kernel_rfl) rfl ?_; go_wp2; refine ⟨rfl, ?_⟩)
    refine wpX_actor rfl (by kernel_rfl) ?_
    go_wp2_with fail
    refine (sVar_any _ _).mono ?_; rintro e v8 ⟨rfl, hb⟩
    have HB := Lib.hid hb
    have X := Lib.hid (show Below w.heap.size w v8 from BW.out.trans (hb.mono BW.out.size)); clear BW
    have BW := Lib.hid X.out; clear X
    have X := Lib.hid (SB.out.below hb); clear SB
    have SB := Lib.hid X.out; clear X
    clear hb
    go_wp2
    refine ⟨Ext.of_below HB.out, ?_⟩
    clear HB
    iterate 1 (refine wpX_quiet rfl (by kernel_rfl) rfl ?_; go_wp2; refine ⟨rfl, ?_⟩)
    refine wpX_actor rfl (by kernel_rfl) ?_
    go_wp2_with fail
    refine (sVar_any _ _).mono ?_; rintro e v9 ⟨rfl, hb⟩
    have HB := Lib.hid hb
    have X := Lib.hid (show Below w.heap.size w v9 from BW.out.trans (hb.mono BW.out.size)); clear BW
    have BW := Lib.hid X.out; clear X
    have X := Lib.hid (SB.out.below hb); clear SB
    have SB := Lib.hid X.out; clear X
    clear hb
    go_wp2
    refine ⟨Ext.of_below HB.out, ?_⟩
    clear HB
    iterate 1 (refine wpX_quiet rfl (by kernel_rfl) rfl ?_; go_wp2; refine ⟨rfl, ?_⟩)
    refine wpX_actor rfl (by kernel_rfl) ?_
    go_wp2_with fail
    refine (sVar_any _ _).mono ?_; rintro e v10 ⟨rfl, hb⟩
    have HB := Lib.hid hb
    have X := Lib.hid (show Below w.heap.size w v10 from BW.out.trans (hb.mono BW.out.size)); clear BW
    have BW := Lib.hid X.out; clear X
    have X := Lib.hid (SB.out.below hb); clear SB
    have SB := Lib.hid X.out; clear X
    clear hb
    go_wp2
    refine ⟨Ext.of_below HB.out, ?_⟩
    clear HB
    iterate 2 (refine wpX_quiet rfl (by kernel_rfl) rfl ?_; go_wp2; refine ⟨rfl, ?_⟩)
    refine wpX_actor rfl (by kernel_rfl) ?_
    go_wp2_with fail
    refine (sShowCmd_any ⟨a6, a7, a8, a9, a10, a11, a12, a13⟩ _ _ Wcmd0 (Scmd0.out.below BW.out)).mono ?_; rintro e v11 ⟨rfl, hb⟩
    have HB := Lib.hid hb
    have X := Lib.hid (show Below w.heap.size w v11 from BW.out.trans (hb.mono BW.out.size)); clear BW
    have BW := Lib.hid X.out; clear X
    have X := Lib.hid (SB.out.below hb); clear SB
    have SB := Lib.hid X.out; clear X
    clear hb
    go_wp2
    refine ⟨Ext.of_below HB.out, ?_⟩
    clear HB
    refine wpX_actor rfl (by kernel_rfl) ?_
    go_wp2_with fail
    refine (sSized_any _ _ (by omega)).mono ?_; rintro e v12 ⟨rfl, hb⟩
    have HB := Lib.hid hb
    have X := Lib.hid (show Below w.heap.size w v12 from BW.out.trans (hb.mono BW.out.size)); clear BW
    have BW := Lib.hid X.out; clear X
    have X := Lib.hid (SB.out.below hb); clear SB
    have SB := Lib.hid X.out; clear X
    clear hb
    go_wp2
    refine ⟨Ext.of_below HB.out, ?_⟩
    clear HB
    iterate 1 (refine wpX_quiet rfl (by kernel_rfl) rfl ?_; go_wp2; refine ⟨rfl, ?_⟩)
    refine wpX_actor rfl (by kernel_rfl) ?_
    go_wp2_with fail
    refine (sVar_any _ _).mono ?_; rintro e v13 ⟨rfl, hb⟩
    have HB := Lib.hid hb
    have X := Lib.hid (show Below w.heap.size w v13 from BW.out.trans (hb.mono BW.out.size)); clear BW
    have BW := Lib.hid X.out; clear X
    have X := Lib.hid (SB.out.below hb); clear SB
    have SB := Lib.hid X.out; clear X
    clear hb
    go_wp2
    refine ⟨Ext.of_below HB.out, ?_⟩
    clear HB
    iterate 2 (refine wpX_quiet rfl (by kernel_rfl) rfl ?_; go_wp2; refine ⟨rfl, ?_⟩)
    refine wpX_nil ?_
    try simp only [List.drop_succ_cons, List.drop_zero]
    clear hfx hs0 hs1 hs2 hs3 hs4 hs5 hs6 hs7 hs8 hs9 hs10 hs11 hs12 hs13 hs14 hs15 hs16 hs17 hs18
    have hfx : True := trivial
    have hs0 : World.cell? v13 ⟨w.heap.size, 0, none⟩ = some (.int .i64 a0) := blk_cell0 (L := [.int .i64 a0, .int .i64 a1, .int .i64 a2, .int .i64 a3, .int .i64 a4, .int .i64 a5, .int .i64 a6, .int .i64 a7, .int .i64 a8, .string (bs a9), .string (bs a10), .string (bs a11), .int .i64 a12, .slice Aa0 a13.length ka0, .int .i64 a14, .slice Aa1 a15.length ka1, .int .i64 a16, .int .i64 a17, .bool false]) SB.out 0 rfl
    have hs1 : World.cell? v13 ⟨w.heap.size, 1, none⟩ = some (.int .i64 a1) := blk_cell0 (L := [.int .i64 a0, .int .i64 a1, .int .i64 a2, .int .i64 a3, .int .i64 a4, .int .i64 a5, .int .i64 a6, .int .i64 a7, .int .i64 a8, .string (bs a9), .string (bs a10), .string (bs a11), .int .i64 a12, .slice Aa0 a13.length ka0, .int .i64 a14, .slice Aa1 a15.length ka1, .int .i64 a16, .int .i64 a17, .bool false]) SB.out 1 rfl
    have hs2 : World.cell? v13 ⟨w.heap.size, 2, none⟩ = some (.int .i64 a2) := blk_cell0 (L := [.int .i64 a0, .int .i64 a1, .int .i64 a2, .int .i64 a3, .int .i64 a4, .int .i64 a5, .int .i64 a6, .int .i64 a7, .int .i64 a8, .string (bs a9), .string (bs a10), .string (bs a11), .int .i64 a12, .slice Aa0 a13.length ka0, .int .i64 a14, .slice Aa1 a15.length ka1, .int .i64 a16, .int .i64 a17, .bool false]) SB.out 2 rfl
    have hs3 : World.cell? v13 ⟨w.heap.size, 3, none⟩ = some (.int .i64 a3) := blk_cell0 (L := [.int .i64 a0, .int .i64 a1, .int .i64 a2, .int .i64 a3, .int .i64 a4, .int .i64 a5, .int .i64 a6, .int .i64 a7, .int .i64 a8, .string (bs a9), .string (bs a10), .string (bs a11), .int .i64 a12, .slice Aa0 a13.length ka0, .int .i64 a14, .slice Aa1 a15.length ka1, .int .i64 a16, .int .i64 a17, .bool false]) SB.out 3 rfl
    have hs4 : World.cell? v13 ⟨w.heap.size, 4, none⟩ = some (.int .i64 a4) := blk_cell0 (L := [.int .i64 a0, .int .i64 a1, .int .i64 a2, .int .i64 a3, .int .i64 a4, .int .i64 a5, .int .i64 a6, .int .i64 a7, .int .i64 a8, .string (bs a9), .string (bs a10), .string (bs a11), .int .i64 a12, .slice Aa0 a13.length ka0, .int .i64 a14, .slice Aa1 a15.length ka1, .int .i64 a16, .int .i64 a17, .bool false]) SB.out 4 rfl
    have hs5 : World.cell? v13 ⟨w.heap.size, 5, none⟩ = some (.int .i64 a5) := blk_cell0 (L := [.int .i64 a0, .int .i64 a1, .int .i64 a2, .int .i64 a3, .int .i64 a4, .int .i64 a5, .int .i64 a6, .int .i64 a7, .int .i64 a8, .string (bs a9), .string (bs a10), .string (bs a11), .int .i64 a12, .slice Aa0 a13.length ka0, .int .i64 a14, .slice Aa1 a15.length ka1, .int .i64 a16, .int .i64 a17, .bool false]) SB.out 5 rfl
    have hs6 : World.cell? v13 ⟨w.heap.size, 6, none⟩ = some (.int .i64 a6) := blk_cell0 (L := [.int .i64 a0, .int .i64 a1, .int .i64 a2, .int .i64 a3, .int .i64 a4, .int .i64 a5, .int .i64 a6, .int .i64 a7, .int .i64 a8, .string (bs a9), .string (bs a10), .string (bs a11), .int .i64 a12, .slice Aa0 a13.length ka0, .int .i64 a14, .slice Aa1 a15.length ka1, .int .i64 a16, .int .i64 a17, .bool false]) SB.out 6 rfl
    have hs7 : World.cell? v13 ⟨w.heap.size, 7, none⟩ = some (.int .i64 a7) := blk_cell0 (L := [.int .i64 a0, .int .i64 a1, .int .i64 a2, .int .i64 a3, .int .i64 a4, .int .i64 a5, .int .i64 a6, .int .i64 a7, .int .i64 a8, .string (bs a9), .string (bs a10), .string (bs a11), .int .i64 a12, .slice Aa0 a13.length ka0, .int .i64 a14, .slice Aa1 a15.length ka1, .int .i64 a16, .int .i64 a17, .bool false]) SB.out 7 rfl
    have hs8 : World.cell? v13 ⟨w.heap.size, 8, none⟩ = some (.int .i64 a8) := blk_cell0 (L := [.int .i64 a0, .int .i64 a1, .int .i64 a2, .int .i64 a3, .int .i64 a4, .int .i64 a5, .int .i64 a6, .int .i64 a7, .int .i64 a8, .string (bs a9), .string (bs a10), .string (bs a11), .int .i64 a12, .slice Aa0 a13.length ka0, .int .i64 a14, .slice Aa1 a15.length ka1, .int .i64 a16, .int .i64 a17, .bool false]) SB.out 8 rfl
    have hs9 : World.cell? v13 ⟨w.heap.size, 9, none⟩ = some (.string (bs a9)) := blk_cell0 (L := [.int .i64 a0, .int .i64 a1, .int .i64 a2, .int .i64 a3, .int .i64 a4, .int .i64 a5, .int .i64 a6, .int .i64 a7, .int .i64 a8, .string (bs a9), .string (bs a10), .string (bs a11), .int .i64 a12, .slice Aa0 a13.length ka0, .int .i64 a14, .slice Aa1 a15.length ka1, .int .i64 a16, .int .i64 a17, .bool false]) SB.out 9 rfl
    have hs10 : World.cell? v13 ⟨w.heap.size, 10, none⟩ = some (.string (bs a10)) := blk_cell0 (L := [.int .i64 a0, .int .i64 a1, .int .i64 a2, .int .i64 a3, .int .i64 a4, .int .i64 a5, .int .i64 a6, .int .i64 a7, .int .i64 a8, .string (bs a9), .string (bs a10), .string (bs a11), .int .i64 a12, .slice Aa0 a13.length ka0, .int .i64 a14, .slice Aa1 a15.length ka1, .int .i64 a16, .int .i64 a17, .bool false]) SB.out 10 rfl
    have hs11 : World.cell? v13 ⟨w.heap.size, 11, none⟩ = some (.string (bs a11)) := blk_cell0 (L := [.int .i64 a0, .int .i64 a1, .int .i64 a2, .int .i64 a3, .int .i64 a4, .int .i64 a5, .int .i64 a6, .int .i64 a7, .int .i64 a8, .string (bs a9), .string (bs a10), .string (bs a11), .int .i64 a12, .slice Aa0 a13.length ka0, .int .i64 a14, .slice Aa1 a15.length ka1, .int .i64 a16, .int .i64 a17, .bool false]) SB.out 11 rfl
    have hs12 : World.cell? v13 ⟨w.heap.size, 12, none⟩ = some (.int .i64 a12) := blk_cell0 (L := [.int .i64 a0, .int .i64 a1, .int .i64 a2, .int .i64 a3, .int .i64 a4, .int .i64 a5, .int .i64 a6, .int .i64 a7, .int .i64 a8, .string (bs a9), .string (bs a10), .string (bs a11), .int .i64 a12, .slice Aa0 a13.length ka0, .int .i64 a14, .slice Aa1 a15.length ka1, .int .i64 a16, .int .i64 a17, .bool false]) SB.out 12 rfl
    have hs13 : World.cell? v13 ⟨w.heap.size, 13, none⟩ = some (.slice Aa0 a13.length ka0) := blk_cell0 (L := [.int .i64 a0, .int .i64 a1, .int .i64 a2, .int .i64 a3, .int .i64 a4, .int .i64 a5, .int .i64 a6, .int .i64 a7, .int .i64 a8, .string (bs a9), .string (bs a10), .string (bs a11), .int .i64 a12, .slice Aa0 a13.length ka0, .int .i64 a14, .slice Aa1 a15.length ka1, .int .i64 a16, .int .i64 a17, .bool false]) SB.out 13 rfl
    have hs14 : World.cell? v13 ⟨w.heap.size, 14, none⟩ = some (.int .i64 a14) := blk_cell0 (L := [.int .i64 a0, .int .i64 a1, .int .i64 a2, .int .i64 a3, .int .i64 a4, .int .i64 a5, .int .i64 a6, .int .i64 a7, .int .i64 a8, .string (bs a9), .string (bs a10), .string (bs a11), .int .i64 a12, .slice Aa0 a13.length ka0, .int .i64 a14, .slice Aa1 a15.length ka1, .int .i64 a16, .int .i64 a17, .bool false]) SB.out 14 rfl
    have hs15 : World.cell? v13 ⟨w.heap.size, 15, none⟩ = some (.slice Aa1 a15.length ka1) := blk_cell0 (L := [.int .i64 a0, .int .i64 a1, .int .i64 a2, .int .i64 a3, .int .i64 a4, .int .i64 a5, .int .i64 a6, .int .i64 a7, .int .i64 a8, .string (bs a9), .string (bs a10), .string (bs a11), .int .i64 a12, .slice Aa0 a13.length ka0, .int .i64 a14, .slice Aa1 a15.length ka1, .int .i64 a16, .int .i64 a17, .bool false]) SB.out 15 rfl
    have hs16 : World.cell? v13 ⟨w.heap.size, 16, none⟩ = some (.int .i64 a16) := blk_cell0 (L := [.int .i64 a0, .int .i64 a1, .int .i64 a2, .int .i64 a3, .int .i64 a4, .int .i64 a5, .int .i64 a6, .int .i64 a7, .int .i64 a8, .string (bs a9), .string (bs a10), .string (bs a11), .int .i64 a12, .slice Aa0 a13.length ka0, .int .i64 a14, .slice Aa1 a15.length ka1, .int .i64 a16, .int .i64 a17, .bool false]) SB.out 16 rfl
    have hs17 : World.cell? v13 ⟨w.heap.size, 17, none⟩ = some (.int .i64 a17) := blk_cell0 (L := [.int .i64 a0, .int .i64 a1, .int .i64 a2, .int .i64 a3, .int .i64 a4, .int .i64 a5, .int .i64 a6, .int .i64 a7, .int .i64 a8, .string (bs a9), .string (bs a10), .string (bs a11), .int .i64 a12, .slice Aa0 a13.length ka0, .int .i64 a14, .slice Aa1 a15.length ka1, .int .i64 a16, .int .i64 a17, .bool false]) SB.out 17 rfl
    have hs18 : World.cell? v13 ⟨w.heap.size, 18, none⟩ = some (.bool false) := blk_cell0 (L := [.int .i64 a0, .int .i64 a1, .int .i64 a2, .int .i64 a3, .int .i64 a4, .int .i64 a5, .int .i64 a6, .int .i64 a7, .int .i64 a8, .string (bs a9), .string (bs a10), .string (bs a11), .int .i64 a12, .slice Aa0 a13.length ka0, .int .i64 a14, .slice Aa1 a15.length ka1, .int .i64 a16, .int .i64 a17, .bool false]) SB.out 18 rfl
    have hl : (varF a0 ++ (varF a1 ++ (varF a2 ++ (varF a3 ++ (varF a4 ++ (varF a5 ++ (varF a16 ++ (varF (a17 + 1) ++ (varF a14 ++ ([0] ++ (sizedL (showCmdL ⟨a6, a7, a8, a9, a10, a11, a12, a13⟩) ++ (varF (a15.length : Int))))))))))))).length ≤ 4000000 := by simp only [List.length_append, List.length_cons, List.length_nil]; omega
    have hRR : R = (varF a0 ++ (varF a1 ++ (varF a2 ++ (varF a3 ++ (varF a4 ++ (varF a5 ++ (varF a16 ++ (varF (a17 + 1) ++ (varF a14 ++ ([0] ++ (sizedL (showCmdL ⟨a6, a7, a8, a9, a10, a11, a12, a13⟩) ++ (varF (a15.length : Int))))))))))))) ++ (a15.map idL).flatten := by rw [HR.out]; simp [List.append_assoc]
    clear HR
    have HR := Lib.hid hRR; clear hRR
    generalize hgd : varF a0 ++ (varF a1 ++ (varF a2 ++ (varF a3 ++ (varF a4 ++ (varF a5 ++ (varF a16 ++ (varF (a17 + 1) ++ (varF a14 ++ ([0] ++ (sizedL (showCmdL ⟨a6, a7, a8, a9, a10, a11, a12, a13⟩) ++ (varF (a15.length : Int)))))))))))) = hd at *
    have HGD := Lib.hid hgd; clear hgd
    obtain ⟨m, hm⟩ : ∃ m, m = a15.length := ⟨_, rfl⟩
    have HM := Lib.hid hm
    have SD := Lib.hid (show Rep anyB w (.sl 32 2 m (cat IdD.c a15) .nil) [.slice Aa1 m ka1] by rw [hm]; exact Sa15.out)
    simp only [← hm] at hs15 hdl hdf SB ⊢
    clear hm
    clear hfx hs0 hs1 hs2 hs3 hs4 hs5 hs6 hs7 hs8 hs9 hs10 hs11 hs12 hs13 hs14 hs16 hs17 hs18
    go_wp2
    clear hs15
    go_loopw [4, 5] (fun oo ii wr => ∃ j : Nat, j ≤ m ∧ ii = .int .i64 (j : Int) ∧ oo = .string (bs (hd ++ ((a15.take j).map idL).flatten)) ∧ Blk wr w.heap.size 36 [.int .i64 a0, .int .i64 a1, .int .i64 a2, .int .i64 a3, .int .i64 a4, .int .i64 a5, .int .i64 a6, .int .i64 a7, .int .i64 a8, .string (bs a9), .string (bs a10), .string (bs a11), .int .i64 a12, .slice Aa0 a13.length ka0, .int .i64 a14, .slice Aa1 m ka1, .int .i64 a16, .int .i64 a17, .bool false].toArray ∧ Below w.heap.size w wr) (fun _ ii _ => m - (intOf ii).toNat)
    case atStart => exact ⟨0, Nat.zero_le _, rfl, by rw [← HGD.out]; simp [show ({ data := #[0] } : ByteArray) = bs [0] from rfl, show ({ data := #[1] } : ByteArray) = bs [1] from rfl, HM.out], SB.out, BW.out⟩
    case round => as_aux_lemma =>
      obtain ⟨j, hj, rfl, rfl, hsb, hbw⟩ := hrel
      clear SB BW
      have SB := Lib.hid hsb; clear hsb
      have BW := Lib.hid hbw; clear hbw
      have hs15 : World.cell? wr ⟨w.heap.size, 15, none⟩ = some (.slice Aa1 m ka1) := blk_cell0 (L := [.int .i64 a0, .int .i64 a1, .int .i64 a2, .int .i64 a3, .int .i64 a4, .int .i64 a5, .int .i64 a6, .int .i64 a7, .int .i64 a8, .string (bs a9), .string (bs a10), .string (bs a11), .int .i64 a12, .slice Aa0 a13.length ka0, .int .i64 a14, .slice Aa1 m ka1, .int .i64 a16, .int .i64 a17, .bool false]) SB.out 15 rfl
      by_cases hlt : j < m
      · skip
        have hjx : j < a15.length := by have := HM.out; omega
        obtain ⟨ad, ci, rfl, _, _, hrc, hll, hc⟩ := (SD.out.below BW.out).elem IdD.width j hjx HM.out
        obtain rfl := IdD.open hrc
        have hst := flatm_take idL a15 j hjx
        have hfl := flatm_len idL 14 idL_len (a15.take j)
        have htk : (a15.take j).length ≤ 1048576 := by rw [List.length_take]; omega
        have hfl2 : ((a15.take j).map idL).flatten.length ≤ 14680064 := by omega
        clear hfl htk hll hrc
        generalize a15[j] = y at *
        obtain ⟨yr, ys⟩ := y
        generalize ((a15.take j).map idL).flatten = acc at *
        have hw1 := varF_length yr
        have hw2 := varF_length ys
        simp only [idL] at hst
        have HST := Lib.hid hst; clear hst
        have hc0 := hc 0 _ rfl
        have hc1 : World.cell? wr ⟨(ad.add (j * 2)).block, (ad.add (j * 2)).off + 1, none⟩ = some (.int .i64 ys) := hc 1 _ rfl
        simp only [addr_add0'] at hc0
        clear hc
        go_wp2
        refine wp_region_x 18 [0, 1, 2, 3, 4, 5, 6, 9, 10, 11, 12, 13, 14, 7, 8, 15, 16, 17] (by kernel_rfl) (by kernel_rfl) ?_
        iterate 13 (refine wpX_quiet rfl (by kernel_rfl) rfl ?_; go_wp2; refine ⟨rfl, ?_⟩)
        refine wpX_actor rfl (by kernel_rfl) ?_
        go_wp2_with fail
        refine (sVar_any _ _).mono ?_; rintro e v10 ⟨rfl, hb⟩
        have HB := Lib.hid hb
        have hb2 := below_drewL hb; clear hb
        have hb := hb2; clear hb2
        have X := Lib.hid (show Below w.heap.size w v10 from BW.out.trans (hb.mono BW.out.size)); clear BW
        have BW := Lib.hid X.out; clear X
        have X := Lib.hid (SB.out.below hb); clear SB
        have SB := Lib.hid X.out; clear X
        clear hb
        go_wp2
        refine ⟨Ext.of_below HB.out, ?_⟩
        clear HB
        iterate 1 (refine wpX_quiet rfl (by kernel_rfl) rfl ?_; go_wp2; refine ⟨rfl, ?_⟩)
        refine wpX_actor rfl (by kernel_rfl) ?_
        go_wp2_with fail
        refine (sVar_any _ _).mono ?_; rintro e v11 ⟨rfl, hb⟩
        have HB := Lib.hid hb
        have X := Lib.hid (show Below w.heap.size w v11 from BW.out.trans (hb.mono BW.out.size)); clear BW
        have BW := Lib.hid X.out; clear X
        have X := Lib.hid (SB.out.below hb); clear SB
        have SB := Lib.hid X.out; clear X
        clear hb
        go_wp2
        refine ⟨Ext.of_below HB.out, ?_⟩
        clear HB
        iterate 2 (refine wpX_quiet rfl (by kernel_rfl) rfl ?_; go_wp2; refine ⟨rfl, ?_⟩)
        refine wpX_nil ?_
        try simp only [List.drop_succ_cons, List.drop_zero]
        go_wp2
        exact ⟨⟨j + 1, by omega, by go_num, by rw [HST.out], SB.out, BW.out⟩, by simp only [intOf]; omega⟩
      · have hjn : j = m := by omega
        subst hjn
        rw [List.take_of_length_le (by have := HM.out; omega)]
        go_wp2
        go_ret
        exact ⟨ret_eq (by rw [HR.out]; rfl), BW.out⟩

end Go.Proofs.Ytbdblfpepnoafaa
