/-
  Right instances. Conditions: bounds on the sizes.
-/
import Derived.Test.YtoffelfcmfpooaaMsgD
namespace Go.Proofs.Ytoffelfcmfpooaa
open Go.RowKit

set_option maxRecDepth 100000 in
set_option maxHeartbeats 8000000 in
theorem sInstOk_any (x : InstD) (cs0 : List Value) (w : World) (hwt0 : x.c.wt ≤ 1048576) (h0 : Rep anyB w x.c cs0) :
    Calls Try.prog 30 #[.agg cs0.toArray] w fun e w' => e = .returned (.bool (instOkB x)) ∧ Below w.heap.size w w' := by
  have hw0 : x.c.wt = (x.cmd.set.length + (x.cmd.name.length + (x.cmd.tag.length + (x.cmd.chunks.length + (cat strC x.cmd.chunks).wt + (x.deps.length + (cat IdD.c x.deps).wt + 0))))) := rfl
  obtain ⟨Aa0, ka0, Aa1, ka1, rfl, sa0, sa1⟩ := InstD.open h0
  obtain ⟨⟨a0, a1⟩, a2, a3, a4, ⟨a5, a6, a7, a8, a9, a10, a11, a12⟩, a13, a14, a15⟩ := x
  simp only [] at sa0 sa1 hw0 ⊢
  have Wa8 : a8.length ≤ 1048576 := by omega
  have Wa9 : a9.length ≤ 1048576 := by omega
  have Wa10 : a10.length ≤ 1048576 := by omega
  have Sa12 := Lib.hid sa0; clear sa0
  have Wa12 : a12.length + (cat strC a12).wt ≤ 1048576 := by omega
  have Sa14 := Lib.hid sa1; clear sa1
  have Wa14 : a14.length + (cat IdD.c a14).wt ≤ 1048576 := by omega
  have Sid0 := Lib.hid (show Rep anyB w (IdD.c ⟨a0, a1⟩) [.int .i64 a0, .int .i64 a1] from IdD.shut)
  have Wcmd0 : (CmdD.c ⟨a5, a6, a7, a8, a9, a10, a11, a12⟩).wt ≤ 1048576 := by have e0 : (CmdD.c ⟨a5, a6, a7, a8, a9, a10, a11, a12⟩).wt = (a8.length + (a9.length + (a10.length + (a12.length + (cat strC a12).wt + 0)))) := rfl; omega
  have Scmd0 := Lib.hid (show Rep anyB w (CmdD.c ⟨a5, a6, a7, a8, a9, a10, a11, a12⟩) [.int .i64 a5, .int .i64 a6, .int .i64 a7, .string (bs a8), .string (bs a9), .string (bs a10), .int .i64 a11, .slice Aa0 a12.length ka0] from CmdD.shut Sa12.out)
  clear h0 hwt0 hw0
  obtain ⟨R, hR⟩ : ∃ R, R = instOkB (⟨⟨a0, a1⟩, a2, a3, a4, ⟨a5, a6, a7, a8, a9, a10, a11, a12⟩, a13, a14, a15⟩ : InstD) := ⟨_, rfl⟩
  rw [← hR]
  rw [instOkB] at hR
  simp only [] at hR
  have HR := Lib.hid hR; clear hR
  go_enter Try.func30, Try.ntmps30
  go_wp2_with fail
  refine (l8Id_any ⟨a0, a1⟩ _ _ (Sid0.out.below (by repeat' (first | with_reducible exact Below.refl _ _ | with_reducible exact BW.out | with_reducible refine Below.setCell ?_ ?_ _ | with_reducible refine Below.alloc ?_ ?_ _ | with_reducible refine Below.drew ?_ | (simp; done) | (simp; omega) | omega)))).mono ?_; rintro e v1 ⟨rfl, hb⟩
  have B0 := Lib.hid (Blk.below (blk_new _ _ _) hb)
  have BW := Lib.hid (show Below w.heap.size w v1 from Below.trans (by repeat' (first | with_reducible exact Below.refl _ _ | with_reducible exact BW.out | with_reducible refine Below.setCell ?_ ?_ _ | with_reducible refine Below.alloc ?_ ?_ _ | with_reducible refine Below.drew ?_ | (simp; done) | (simp; omega) | omega)) (hb.mono (by first | (simp; done) | (simp; omega) | omega))); clear hb
  have hs0_0 : World.cell? v1 ⟨w.heap.size, 0, none⟩ = some (.int .i64 a0) := blk_cell0 (L := [.int .i64 a0, .int .i64 a1, .int .i64 a2, .int .i64 a3, .int .i64 a4, .int .i64 a5, .int .i64 a6, .int .i64 a7, .string (bs a8), .string (bs a9), .string (bs a10), .int .i64 a11, .slice Aa0 a12.length ka0, .int .i64 a13, .slice Aa1 a14.length ka1, .bool a15]) B0.out 0 rfl
  have hs0_1 : World.cell? v1 ⟨w.heap.size, 1, none⟩ = some (.int .i64 a1) := blk_cell0 (L := [.int .i64 a0, .int .i64 a1, .int .i64 a2, .int .i64 a3, .int .i64 a4, .int .i64 a5, .int .i64 a6, .int .i64 a7, .string (bs a8), .string (bs a9), .string (bs a10), .int .i64 a11, .slice Aa0 a12.length ka0, .int .i64 a13, .slice Aa1 a14.length ka1, .bool a15]) B0.out 1 rfl
  have hs0_2 : World.cell? v1 ⟨w.heap.size, 2, none⟩ = some (.int .i64 a2) := blk_cell0 (L := [.int .i64 a0, .int .i64 a1, .int .i64 a2, .int .i64 a3, .int .i64 a4, .int .i64 a5, .int .i64 a6, .int .i64 a7, .string (bs a8), .string (bs a9), .string (bs a10), .int .i64 a11, .slice Aa0 a12.length ka0, .int .i64 a13, .slice Aa1 a14.length ka1, .bool a15]) B0.out 2 rfl
  have hs0_3 : World.cell? v1 ⟨w.heap.size, 3, none⟩ = some (.int .i64 a3) := blk_cell0 (L := [.int .i64 a0, .int .i64 a1, .int .i64 a2, .int .i64 a3, .int .i64 a4, .int .i64 a5, .int .i64 a6, .int .i64 a7, .string (bs a8), .string (bs a9), .string (bs a10), .int .i64 a11, .slice Aa0 a12.length ka0, .int .i64 a13, .slice Aa1 a14.length ka1, .bool a15]) B0.out 3 rfl
  have hs0_4 : World.cell? v1 ⟨w.heap.size, 4, none⟩ = some (.int .i64 a4) := blk_cell0 (L := [.int .i64 a0, .int .i64 a1, .int .i64 a2, .int .i64 a3, .int .i64 a4, .int .i64 a5, .int .i64 a6, .int .i64 a7, .string (bs a8), .string (bs a9), .string (bs a10), .int .i64 a11, .slice Aa0 a12.length ka0, .int .i64 a13, .slice Aa1 a14.length ka1, .bool a15]) B0.out 4 rfl
  have hs0_5 : World.cell? v1 ⟨w.heap.size, 5, none⟩ = some (.int .i64 a5) := blk_cell0 (L := [.int .i64 a0, .int .i64 a1, .int .i64 a2, .int .i64 a3, .int .i64 a4, .int .i64 a5, .int .i64 a6, .int .i64 a7, .string (bs a8), .string (bs a9), .string (bs a10), .int .i64 a11, .slice Aa0 a12.length ka0, .int .i64 a13, .slice Aa1 a14.length ka1, .bool a15]) B0.out 5 rfl
  have hs0_6 : World.cell? v1 ⟨w.heap.size, 6, none⟩ = some (.int .i64 a6) := blk_cell0 (L := [.int .i64 a0, .int .i64 a1, .int .i64 a2, .int .i64 a3, .int .i64 a4, .int .i64 a5, .int .i64 a6, .int .i64 a7, .string (bs a8), .string (bs a9), .string (bs a10), .int .i64 a11, .slice Aa0 a12.length ka0, .int .i64 a13, .slice Aa1 a14.length ka1, .bool a15]) B0.out 6 rfl
  have hs0_7 : World.cell? v1 ⟨w.heap.size, 7, none⟩ = some (.int .i64 a7) := blk_cell0 (L := [.int .i64 a0, .int .i64 a1, .int .i64 a2, .int .i64 a3, .int .i64 a4, .int .i64 a5, .int .i64 a6, .int .i64 a7, .string (bs a8), .string (bs a9), .string (bs a10), .int .i64 a11, .slice Aa0 a12.length ka0, .int .i64 a13, .slice Aa1 a14.length ka1, .bool a15]) B0.out 7 rfl
  have hs0_8 : World.cell? v1 ⟨w.heap.size, 8, none⟩ = some (.string (bs a8)) := blk_cell0 (L := [.int .i64 a0, .int .i64 a1, .int .i64 a2, .int .i64 a3, .int .i64 a4, .int .i64 a5, .int .i64 a6, .int .i64 a7, .string (bs a8), .string (bs a9), .string (bs a10), .int .i64 a11, .slice Aa0 a12.length ka0, .int .i64 a13, .slice Aa1 a14.length ka1, .bool a15]) B0.out 8 rfl
  have hs0_9 : World.cell? v1 ⟨w.heap.size, 9, none⟩ = some (.string (bs a9)) := blk_cell0 (L := [.int .i64 a0, .int .i64 a1, .int .i64 a2, .int .i64 a3, .int .i64 a4, .int .i64 a5, .int .i64 a6, .int .i64 a7, .string (bs a8), .string (bs a9), .string (bs a10), .int .i64 a11, .slice Aa0 a12.length ka0, .int .i64 a13, .slice Aa1 a14.length ka1, .bool a15]) B0.out 9 rfl
  have hs0_10 : World.cell? v1 ⟨w.heap.size, 10, none⟩ = some (.string (bs a10)) := blk_cell0 (L := [.int .i64 a0, .int .i64 a1, .int .i64 a2, .int .i64 a3, .int .i64 a4, .int .i64 a5, .int .i64 a6, .int .i64 a7, .string (bs a8), .string (bs a9), .string (bs a10), .int .i64 a11, .slice Aa0 a12.length ka0, .int .i64 a13, .slice Aa1 a14.length ka1, .bool a15]) B0.out 10 rfl
  have hs0_11 : World.cell? v1 ⟨w.heap.size, 11, none⟩ = some (.int .i64 a11) := blk_cell0 (L := [.int .i64 a0, .int .i64 a1, .int .i64 a2, .int .i64 a3, .int .i64 a4, .int .i64 a5, .int .i64 a6, .int .i64 a7, .string (bs a8), .string (bs a9), .string (bs a10), .int .i64 a11, .slice Aa0 a12.length ka0, .int .i64 a13, .slice Aa1 a14.length ka1, .bool a15]) B0.out 11 rfl
  have hs0_12 : World.cell? v1 ⟨w.heap.size, 12, none⟩ = some (.slice Aa0 a12.length ka0) := blk_cell0 (L := [.int .i64 a0, .int .i64 a1, .int .i64 a2, .int .i64 a3, .int .i64 a4, .int .i64 a5, .int .i64 a6, .int .i64 a7, .string (bs a8), .string (bs a9), .string (bs a10), .int .i64 a11, .slice Aa0 a12.length ka0, .int .i64 a13, .slice Aa1 a14.length ka1, .bool a15]) B0.out 12 rfl
  have hs0_13 : World.cell? v1 ⟨w.heap.size, 13, none⟩ = some (.int .i64 a13) := blk_cell0 (L := [.int .i64 a0, .int .i64 a1, .int .i64 a2, .int .i64 a3, .int .i64 a4, .int .i64 a5, .int .i64 a6, .int .i64 a7, .string (bs a8), .string (bs a9), .string (bs a10), .int .i64 a11, .slice Aa0 a12.length ka0, .int .i64 a13, .slice Aa1 a14.length ka1, .bool a15]) B0.out 13 rfl
  have hs0_14 : World.cell? v1 ⟨w.heap.size, 14, none⟩ = some (.slice Aa1 a14.length ka1) := blk_cell0 (L := [.int .i64 a0, .int .i64 a1, .int .i64 a2, .int .i64 a3, .int .i64 a4, .int .i64 a5, .int .i64 a6, .int .i64 a7, .string (bs a8), .string (bs a9), .string (bs a10), .int .i64 a11, .slice Aa0 a12.length ka0, .int .i64 a13, .slice Aa1 a14.length ka1, .bool a15]) B0.out 14 rfl
  have hs0_15 : World.cell? v1 ⟨w.heap.size, 15, none⟩ = some (.bool a15) := blk_cell0 (L := [.int .i64 a0, .int .i64 a1, .int .i64 a2, .int .i64 a3, .int .i64 a4, .int .i64 a5, .int .i64 a6, .int .i64 a7, .string (bs a8), .string (bs a9), .string (bs a10), .int .i64 a11, .slice Aa0 a12.length ka0, .int .i64 a13, .slice Aa1 a14.length ka1, .bool a15]) B0.out 15 rfl
  cases hb0 : idOkB ⟨a0, a1⟩
  case false =>
    go_wp2
    go_ret
    exact ⟨ret_eq (congrArg Value.bool (by rw [HR.out, hb0]; rfl)), BW.out⟩
  case true =>
    go_wp2_with fail
    refine (l1In_any _ _ _ _).mono ?_; rintro e w' ⟨rfl, rfl⟩
    cases hb1 : inB (-1) 600 a2
    case false =>
      go_wp2
      go_ret
      exact ⟨ret_eq (congrArg Value.bool (by rw [HR.out, hb0, hb1]; rfl)), BW.out⟩
    case true =>
      go_wp2_with fail
      refine (l1In_any _ _ _ _).mono ?_; rintro e w' ⟨rfl, rfl⟩
      cases hb2 : inB (-1) a2 a3
      case false =>
        go_wp2
        go_ret
        exact ⟨ret_eq (congrArg Value.bool (by rw [HR.out, hb0, hb1, hb2]; rfl)), BW.out⟩
      case true =>
        go_wp2_with fail
        refine (l1In_any _ _ _ _).mono ?_; rintro e w' ⟨rfl, rfl⟩
        cases hb3 : inB 0 3 a4
        case false =>
          go_wp2
          go_ret
          exact ⟨ret_eq (congrArg Value.bool (by rw [HR.out, hb0, hb1, hb2, hb3]; rfl)), BW.out⟩
        case true =>
          go_wp2_with fail
          refine (sCmdOk_any ⟨a5, a6, a7, a8, a9, a10, a11, a12⟩ _ _ Wcmd0 (Scmd0.out.below BW.out)).mono ?_; rintro e v2 ⟨rfl, hb⟩
          have X := Lib.hid (B0.out.below hb); clear B0
          have B0 := Lib.hid X.out; clear X
          have X := Lib.hid (show Below w.heap.size w v2 from BW.out.trans (hb.mono BW.out.size)); clear BW hb
          have BW := Lib.hid X.out; clear X
          clear hs0_0 hs0_1 hs0_2 hs0_3 hs0_4 hs0_5 hs0_6 hs0_7 hs0_8 hs0_9 hs0_10 hs0_11 hs0_12 hs0_13 hs0_14 hs0_15
          have hs0_0 : World.cell? v2 ⟨w.heap.size, 0, none⟩ = some (.int .i64 a0) := blk_cell0 (L := [.int .i64 a0, .int .i64 a1, .int .i64 a2, .int .i64 a3, .int .i64 a4, .int .i64 a5, .int .i64 a6, .int .i64 a7, .string (bs a8), .string (bs a9), .string (bs a10), .int .i64 a11, .slice Aa0 a12.length ka0, .int .i64 a13, .slice Aa1 a14.length ka1, .bool a15]) B0.out 0 rfl
          have hs0_1 : World.cell? v2 ⟨w.heap.size, 1, none⟩ = some (.int .i64 a1) := blk_cell0 (L := [.int .i64 a0, .int .i64 a1, .int .i64 a2, .int .i64 a3, .int .i64 a4, .int .i64 a5, .int .i64 a6, .int .i64 a7, .string (bs a8), .string (bs a9), .string (bs a10), .int .i64 a11, .slice Aa0 a12.length ka0, .int .i64 a13, .slice Aa1 a14.length ka1, .bool a15]) B0.out 1 rfl
          have hs0_2 : World.cell? v2 ⟨w.heap.size, 2, none⟩ = some (.int .i64 a2) := blk_cell0 (L := [.int .i64 a0, .int .i64 a1, .int .i64 a2, .int .i64 a3, .int .i64 a4, .int .i64 a5, .int .i64 a6, .int .i64 a7, .string (bs a8), .string (bs a9), .string (bs a10), .int .i64 a11, .slice Aa0 a12.length ka0, .int .i64 a13, .slice Aa1 a14.length ka1, .bool a15]) B0.out 2 rfl
          have hs0_3 : World.cell? v2 ⟨w.heap.size, 3, none⟩ = some (.int .i64 a3) := blk_cell0 (L := [.int .i64 a0, .int .i64 a1, .int .i64 a2, .int .i64 a3, .int .i64 a4, .int .i64 a5, .int .i64 a6, .int .i64 a7, .string (bs a8), .string (bs a9), .string (bs a10), .int .i64 a11, .slice Aa0 a12.length ka0, .int .i64 a13, .slice Aa1 a14.length ka1, .bool a15]) B0.out 3 rfl
          have hs0_4 : World.cell? v2 ⟨w.heap.size, 4, none⟩ = some (.int .i64 a4) := blk_cell0 (L := [.int .i64 a0, .int .i64 a1, .int .i64 a2, .int .i64 a3, .int .i64 a4, .int .i64 a5, .int .i64 a6, .int .i64 a7, .string (bs a8), .string (bs a9), .string (bs a10), .int .i64 a11, .slice Aa0 a12.length ka0, .int .i64 a13, .slice Aa1 a14.length ka1, .bool a15]) B0.out 4 rfl
          have hs0_5 : World.cell? v2 ⟨w.heap.size, 5, none⟩ = some (.int .i64 a5) := blk_cell0 (L := [.int .i64 a0, .int .i64 a1, .int .i64 a2, .int .i64 a3, .int .i64 a4, .int .i64 a5, .int .i64 a6, .int .i64 a7, .string (bs a8), .string (bs a9), .string (bs a10), .int .i64 a11, .slice Aa0 a12.length ka0, .int .i64 a13, .slice Aa1 a14.length ka1, .bool a15]) B0.out 5 rfl
          have hs0_6 : World.cell? v2 ⟨w.heap.size, 6, none⟩ = some (.int .i64 a6) := blk_cell0 (L := [.int .i64 a0, .int .i64 a1, .int .i64 a2, .int .i64 a3, .int .i64 a4, .int .i64 a5, .int .i64 a6, .int .i64 a7, .string (bs a8), .string (bs a9), .string (bs a10), .int .i64 a11, .slice Aa0 a12.length ka0, .int .i64 a13, .slice Aa1 a14.length ka1, .bool a15]) B0.out 6 rfl
          have hs0_7 : World.cell? v2 ⟨w.heap.size, 7, none⟩ = some (.int .i64 a7) := blk_cell0 (L := [.int .i64 a0, .int .i64 a1, .int .i64 a2, .int .i64 a3, .int .i64 a4, .int .i64 a5, .int .i64 a6, .int .i64 a7, .string (bs a8), .string (bs a9), .string (bs a10), .int .i64 a11, .slice Aa0 a12.length ka0, .int .i64 a13, .slice Aa1 a14.length ka1, .bool a15]) B0.out 7 rfl
          have hs0_8 : World.cell? v2 ⟨w.heap.size, 8, none⟩ = some (.string (bs a8)) := blk_cell0 (L := [.int .i64 a0, .int .i64 a1, .int .i64 a2, .int .i64 a3, .int .i64 a4, .int .i64 a5, .int .i64 a6, .int .i64 a7, .string (bs a8), .string (bs a9), .string (bs a10), .int .i64 a11, .slice Aa0 a12.length ka0, .int .i64 a13, .slice Aa1 a14.length ka1, .bool a15]) B0.out 8 rfl
          have hs0_9 : World.cell? v2 ⟨w.heap.size, 9, none⟩ = some (.string (bs a9)) := blk_cell0 (L := [.int .i64 a0, .int .i64 a1, .int .i64 a2, .int .i64 a3, .int .i64 a4, .int .i64 a5, .int .i64 a6, .int .i64 a7, .string (bs a8), .string (bs a9), .string (bs a10), .int .i64 a11, .slice Aa0 a12.length ka0, .int .i64 a13, .slice Aa1 a14.length ka1, .bool a15]) B0.out 9 rfl
          have hs0_10 : World.cell? v2 ⟨w.heap.size, 10, none⟩ = some (.string (bs a10)) := blk_cell0 (L := [.int .i64 a0, .int .i64 a1, .int .i64 a2, .int .i64 a3, .int .i64 a4, .int .i64 a5, .int .i64 a6, .int .i64 a7, .string (bs a8), .string (bs a9), .string (bs a10), .int .i64 a11, .slice Aa0 a12.length ka0, .int .i64 a13, .slice Aa1 a14.length ka1, .bool a15]) B0.out 10 rfl
          have hs0_11 : World.cell? v2 ⟨w.heap.size, 11, none⟩ = some (.int .i64 a11) := blk_cell0 (L := [.int .i64 a0, .int .i64 a1, .int .i64 a2, .int .i64 a3, .int .i64 a4, .int .i64 a5, .int .i64 a6, .int .i64 a7, .string (bs a8), .string (bs a9), .string (bs a10), .int .i64 a11, .slice Aa0 a12.length ka0, .int .i64 a13, .slice Aa1 a14.length ka1, .bool a15]) B0.out 11 rfl
          have hs0_12 : World.cell? v2 ⟨w.heap.size, 12, none⟩ = some (.slice Aa0 a12.length ka0) := blk_cell0 (L := [.int .i64 a0, .int .i64 a1, .int .i64 a2, .int .i64 a3, .int .i64 a4, .int .i64 a5, .int .i64 a6, .int .i64 a7, .string (bs a8), .string (bs a9), .string (bs a10), .int .i64 a11, .slice Aa0 a12.length ka0, .int .i64 a13, .slice Aa1 a14.length ka1, .bool a15]) B0.out 12 rfl
          have hs0_13 : World.cell? v2 ⟨w.heap.size, 13, none⟩ = some (.int .i64 a13) := blk_cell0 (L := [.int .i64 a0, .int .i64 a1, .int .i64 a2, .int .i64 a3, .int .i64 a4, .int .i64 a5, .int .i64 a6, .int .i64 a7, .string (bs a8), .string (bs a9), .string (bs a10), .int .i64 a11, .slice Aa0 a12.length ka0, .int .i64 a13, .slice Aa1 a14.length ka1, .bool a15]) B0.out 13 rfl
          have hs0_14 : World.cell? v2 ⟨w.heap.size, 14, none⟩ = some (.slice Aa1 a14.length ka1) := blk_cell0 (L := [.int .i64 a0, .int .i64 a1, .int .i64 a2, .int .i64 a3, .int .i64 a4, .int .i64 a5, .int .i64 a6, .int .i64 a7, .string (bs a8), .string (bs a9), .string (bs a10), .int .i64 a11, .slice Aa0 a12.length ka0, .int .i64 a13, .slice Aa1 a14.length ka1, .bool a15]) B0.out 14 rfl
          have hs0_15 : World.cell? v2 ⟨w.heap.size, 15, none⟩ = some (.bool a15) := blk_cell0 (L := [.int .i64 a0, .int .i64 a1, .int .i64 a2, .int .i64 a3, .int .i64 a4, .int .i64 a5, .int .i64 a6, .int .i64 a7, .string (bs a8), .string (bs a9), .string (bs a10), .int .i64 a11, .slice Aa0 a12.length ka0, .int .i64 a13, .slice Aa1 a14.length ka1, .bool a15]) B0.out 15 rfl
          cases hb4 : cmdOkB ⟨a5, a6, a7, a8, a9, a10, a11, a12⟩
          case false =>
            go_wp2
            go_ret
            exact ⟨ret_eq (congrArg Value.bool (by rw [HR.out, hb0, hb1, hb2, hb3, hb4]; rfl)), BW.out⟩
          case true =>
            go_wp2_with fail
            refine (l1In_any _ _ _ _).mono ?_; rintro e w' ⟨rfl, rfl⟩
            cases hb5 : inB 0 60 a13
            case false =>
              go_wp2
              go_ret
              exact ⟨ret_eq (congrArg Value.bool (by rw [HR.out, hb0, hb1, hb2, hb3, hb4, hb5]; rfl)), BW.out⟩
            case true =>
              go_wp2_with fail
              refine (sIdsOk_any a14 _ _ _ _ rfl Wa14 (Sa14.out.below BW.out)).mono ?_; rintro e v3 ⟨rfl, hb⟩
              have X := Lib.hid (B0.out.below hb); clear B0
              have B0 := Lib.hid X.out; clear X
              have X := Lib.hid (show Below w.heap.size w v3 from BW.out.trans (hb.mono BW.out.size)); clear BW hb
              have BW := Lib.hid X.out; clear X
              clear hs0_0 hs0_1 hs0_2 hs0_3 hs0_4 hs0_5 hs0_6 hs0_7 hs0_8 hs0_9 hs0_10 hs0_11 hs0_12 hs0_13 hs0_14 hs0_15
              have hs0_0 : World.cell? v3 ⟨w.heap.size, 0, none⟩ = some (.int .i64 a0) := blk_cell0 (L := [.int .i64 a0, .int .i64 a1, .int .i64 a2, .int .i64 a3, .int .i64 a4, .int .i64 a5, .int .i64 a6, .int .i64 a7, .string (bs a8), .string (bs a9), .string (bs a10), .int .i64 a11, .slice Aa0 a12.length ka0, .int .i64 a13, .slice Aa1 a14.length ka1, .bool a15]) B0.out 0 rfl
              have hs0_1 : World.cell? v3 ⟨w.heap.size, 1, none⟩ = some (.int .i64 a1) := blk_cell0 (L := [.int .i64 a0, .int .i64 a1, .int .i64 a2, .int .i64 a3, .int .i64 a4, .int .i64 a5, .int .i64 a6, .int .i64 a7, .string (bs a8), .string (bs a9), .string (bs a10), .int .i64 a11, .slice Aa0 a12.length ka0, .int .i64 a13, .slice Aa1 a14.length ka1, .bool a15]) B0.out 1 rfl
              have hs0_2 : World.cell? v3 ⟨w.heap.size, 2, none⟩ = some (.int .i64 a2) := blk_cell0 (L := [.int .i64 a0, .int .i64 a1, .int .i64 a2, .int .i64 a3, .int .i64 a4, .int .i64 a5, .int .i64 a6, .int .i64 a7, .string (bs a8), .string (bs a9), .string (bs a10), .int .i64 a11, .slice Aa0 a12.length ka0, .int .i64 a13, .slice Aa1 a14.length ka1, .bool a15]) B0.out 2 rfl
              have hs0_3 : World.cell? v3 ⟨w.heap.size, 3, none⟩ = some (.int .i64 a3) := blk_cell0 (L := [.int .i64 a0, .int .i64 a1, .int .i64 a2, .int .i64 a3, .int .i64 a4, .int .i64 a5, .int .i64 a6, .int .i64 a7, .string (bs a8), .string (bs a9), .string (bs a10), .int .i64 a11, .slice Aa0 a12.length ka0, .int .i64 a13, .slice Aa1 a14.length ka1, .bool a15]) B0.out 3 rfl
              have hs0_4 : World.cell? v3 ⟨w.heap.size, 4, none⟩ = some (.int .i64 a4) := blk_cell0 (L := [.int .i64 a0, .int .i64 a1, .int .i64 a2, .int .i64 a3, .int .i64 a4, .int .i64 a5, .int .i64 a6, .int .i64 a7, .string (bs a8), .string (bs a9), .string (bs a10), .int .i64 a11, .slice Aa0 a12.length ka0, .int .i64 a13, .slice Aa1 a14.length ka1, .bool a15]) B0.out 4 rfl
              have hs0_5 : World.cell? v3 ⟨w.heap.size, 5, none⟩ = some (.int .i64 a5) := blk_cell0 (L := [.int .i64 a0, .int .i64 a1, .int .i64 a2, .int .i64 a3, .int .i64 a4, .int .i64 a5, .int .i64 a6, .int .i64 a7, .string (bs a8), .string (bs a9), .string (bs a10), .int .i64 a11, .slice Aa0 a12.length ka0, .int .i64 a13, .slice Aa1 a14.length ka1, .bool a15]) B0.out 5 rfl
              have hs0_6 : World.cell? v3 ⟨w.heap.size, 6, none⟩ = some (.int .i64 a6) := blk_cell0 (L := [.int .i64 a0, .int .i64 a1, .int .i64 a2, .int .i64 a3, .int .i64 a4, .int .i64 a5, .int .i64 a6, .int .i64 a7, .string (bs a8), .string (bs a9), .string (bs a10), .int .i64 a11, .slice Aa0 a12.length ka0, .int .i64 a13, .slice Aa1 a14.length ka1, .bool a15]) B0.out 6 rfl
              have hs0_7 : World.cell? v3 ⟨w.heap.size, 7, none⟩ = some (.int .i64 a7) := blk_cell0 (L := [.int .i64 a0, .int .i64 a1, .int .i64 a2, .int .i64 a3, .int .i64 a4, .int .i64 a5, .int .i64 a6, .int .i64 a7, .string (bs a8), .string (bs a9), .string (bs a10), .int .i64 a11, .slice Aa0 a12.length ka0, .int .i64 a13, .slice Aa1 a14.length ka1, .bool a15]) B0.out 7 rfl
              have hs0_8 : World.cell? v3 ⟨w.heap.size, 8, none⟩ = some (.string (bs a8)) := blk_cell0 (L := [.int .i64 a0, .int .i64 a1, .int .i64 a2, .int .i64 a3, .int .i64 a4, .int .i64 a5, .int .i64 a6, .int .i64 a7, .string (bs a8), .string (bs a9), .string (bs a10), .int .i64 a11, .slice Aa0 a12.length ka0, .int .i64 a13, .slice Aa1 a14.length ka1, .bool a15]) B0.out 8 rfl
              have hs0_9 : World.cell? v3 ⟨w.heap.size, 9, none⟩ = some (.string (bs a9)) := blk_cell0 (L := [.int .i64 a0, .int .i64 a1, .int .i64 a2, .int .i64 a3, .int .i64 a4, .int .i64 a5, .int .i64 a6, .int .i64 a7, .string (bs a8), .string (bs a9), .string (bs a10), .int .i64 a11, .slice Aa0 a12.length ka0, .int .i64 a13, .slice Aa1 a14.length ka1, .bool a15]) B0.out 9 rfl
              have hs0_10 : World.cell? v3 ⟨w.heap.size, 10, none⟩ = some (.string (bs a10)) := blk_cell0 (L := [.int .i64 a0, .int .i64 a1, .int .i64 a2, .int .i64 a3, .int .i64 a4, .int .i64 a5, .int .i64 a6, .int .i64 a7, .string (bs a8), .string (bs a9), .string (bs a10), .int .i64 a11, .slice Aa0 a12.length ka0, .int .i64 a13, .slice Aa1 a14.length ka1, .bool a15]) B0.out 10 rfl
              have hs0_11 : World.cell? v3 ⟨w.heap.size, 11, none⟩ = some (.int .i64 a11) := blk_cell0 (L := [.int .i64 a0, .int .i64 a1, .int .i64 a2, .int .i64 a3, .int .i64 a4, .int .i64 a5, .int .i64 a6, .int .i64 a7, .string (bs a8), .string (bs a9), .string (bs a10), .int .i64 a11, .slice Aa0 a12.length ka0, .int .i64 a13, .slice Aa1 a14.length ka1, .bool a15]) B0.out 11 rfl
              have hs0_12 : World.cell? v3 ⟨w.heap.size, 12, none⟩ = some (.slice Aa0 a12.length ka0) := blk_cell0 (L := [.int .i64 a0, .int .i64 a1, .int .i64 a2, .int .i64 a3, .int .i64 a4, .int .i64 a5, .int .i64 a6, .int .i64 a7, .string (bs a8), .string (bs a9), .string (bs a10), .int .i64 a11, .slice Aa0 a12.length ka0, .int .i64 a13, .slice Aa1 a14.length ka1, .bool a15]) B0.out 12 rfl
              have hs0_13 : World.cell? v3 ⟨w.heap.size, 13, none⟩ = some (.int .i64 a13) := blk_cell0 (L := [.int .i64 a0, .int .i64 a1, .int .i64 a2, .int .i64 a3, .int .i64 a4, .int .i64 a5, .int .i64 a6, .int .i64 a7, .string (bs a8), .string (bs a9), .string (bs a10), .int .i64 a11, .slice Aa0 a12.length ka0, .int .i64 a13, .slice Aa1 a14.length ka1, .bool a15]) B0.out 13 rfl
              have hs0_14 : World.cell? v3 ⟨w.heap.size, 14, none⟩ = some (.slice Aa1 a14.length ka1) := blk_cell0 (L := [.int .i64 a0, .int .i64 a1, .int .i64 a2, .int .i64 a3, .int .i64 a4, .int .i64 a5, .int .i64 a6, .int .i64 a7, .string (bs a8), .string (bs a9), .string (bs a10), .int .i64 a11, .slice Aa0 a12.length ka0, .int .i64 a13, .slice Aa1 a14.length ka1, .bool a15]) B0.out 14 rfl
              have hs0_15 : World.cell? v3 ⟨w.heap.size, 15, none⟩ = some (.bool a15) := blk_cell0 (L := [.int .i64 a0, .int .i64 a1, .int .i64 a2, .int .i64 a3, .int .i64 a4, .int .i64 a5, .int .i64 a6, .int .i64 a7, .string (bs a8), .string (bs a9), .string (bs a10), .int .i64 a11, .slice Aa0 a12.length ka0, .int .i64 a13, .slice Aa1 a14.length ka1, .bool a15]) B0.out 15 rfl
              cases hb6 : idsOkB a14
              case false =>
                go_wp2
                go_ret
                exact ⟨ret_eq (congrArg Value.bool (by rw [HR.out, hb0, hb1, hb2, hb3, hb4, hb5, hb6]; rfl)), BW.out⟩
              case true =>
                go_wp2_with fail
                refine (l8Has_any a14 ⟨a0, a1⟩ _ _ _ _ _ rfl (by omega) (Sa14.out.below BW.out) (Sid0.out.below BW.out)).mono ?_; rintro e v4 ⟨rfl, hb⟩
                have X := Lib.hid (B0.out.below hb); clear B0
                have B0 := Lib.hid X.out; clear X
                have X := Lib.hid (show Below w.heap.size w v4 from BW.out.trans (hb.mono BW.out.size)); clear BW hb
                have BW := Lib.hid X.out; clear X
                clear hs0_0 hs0_1 hs0_2 hs0_3 hs0_4 hs0_5 hs0_6 hs0_7 hs0_8 hs0_9 hs0_10 hs0_11 hs0_12 hs0_13 hs0_14 hs0_15
                have hs0_0 : World.cell? v4 ⟨w.heap.size, 0, none⟩ = some (.int .i64 a0) := blk_cell0 (L := [.int .i64 a0, .int .i64 a1, .int .i64 a2, .int .i64 a3, .int .i64 a4, .int .i64 a5, .int .i64 a6, .int .i64 a7, .string (bs a8), .string (bs a9), .string (bs a10), .int .i64 a11, .slice Aa0 a12.length ka0, .int .i64 a13, .slice Aa1 a14.length ka1, .bool a15]) B0.out 0 rfl
                have hs0_1 : World.cell? v4 ⟨w.heap.size, 1, none⟩ = some (.int .i64 a1) := blk_cell0 (L := [.int .i64 a0, .int .i64 a1, .int .i64 a2, .int .i64 a3, .int .i64 a4, .int .i64 a5, .int .i64 a6, .int .i64 a7, .string (bs a8), .string (bs a9), .string (bs a10), .int .i64 a11, .slice Aa0 a12.length ka0, .int .i64 a13, .slice Aa1 a14.length ka1, .bool a15]) B0.out 1 rfl
                have hs0_2 : World.cell? v4 ⟨w.heap.size, 2, none⟩ = some (.int .i64 a2) := blk_cell0 (L := [.int .i64 a0, .int .i64 a1, .int .i64 a2, .int .i64 a3, .int .i64 a4, .int .i64 a5, .int .i64 a6, .int .i64 a7, .string (bs a8), .string (bs a9), .string (bs a10), .int .i64 a11, .slice Aa0 a12.length ka0, .int .i64 a13, .slice Aa1 a14.length ka1, .bool a15]) B0.out 2 rfl
                have hs0_3 : World.cell? v4 ⟨w.heap.size, 3, none⟩ = some (.int .i64 a3) := blk_cell0 (L := [.int .i64 a0, .int .i64 a1, .int .i64 a2, .int .i64 a3, .int .i64 a4, .int .i64 a5, .int .i64 a6, .int .i64 a7, .string (bs a8), .string (bs a9), .string (bs a10), .int .i64 a11, .slice Aa0 a12.length ka0, .int .i64 a13, .slice Aa1 a14.length ka1, .bool a15]) B0.out 3 rfl
                have hs0_4 : World.cell? v4 ⟨w.heap.size, 4, none⟩ = some (.int .i64 a4) := blk_cell0 (L := [.int .i64 a0, .int .i64 a1, .int .i64 a2, .int .i64 a3, .int .i64 a4, .int .i64 a5, .int .i64 a6, .int .i64 a7, .string (bs a8), .string (bs a9), .string (bs a10), .int .i64 a11, .slice Aa0 a12.length ka0, .int .i64 a13, .slice Aa1 a14.length ka1, .bool a15]) B0.out 4 rfl
                have hs0_5 : World.cell? v4 ⟨w.heap.size, 5, none⟩ = some (.int .i64 a5) := blk_cell0 (L := [.int .i64 a0, .int .i64 a1, .int .i64 a2, .int .i64 a3, .int .i64 a4, .int .i64 a5, .int .i64 a6, .int .i64 a7, .string (bs a8), .string (bs a9), .string (bs a10), .int .i64 a11, .slice Aa0 a12.length ka0, .int .i64 a13, .slice Aa1 a14.length ka1, .bool a15]) B0.out 5 rfl
                have hs0_6 : World.cell? v4 ⟨w.heap.size, 6, none⟩ = some (.int .i64 a6) := blk_cell0 (L := [.int .i64 a0, .int .i64 a1, .int .i64 a2, .int .i64 a3, .int .i64 a4, .int .i64 a5, .int .i64 a6, .int .i64 a7, .string (bs a8), .string (bs a9), .string (bs a10), .int .i64 a11, .slice Aa0 a12.length ka0, .int .i64 a13, .slice Aa1 a14.length ka1, .bool a15]) B0.out 6 rfl
                have hs0_7 : World.cell? v4 ⟨w.heap.size, 7, none⟩ = some (.int .i64 a7) := blk_cell0 (L := [.int .i64 a0, .int .i64 a1, .int .i64 a2, .int .i64 a3, .int .i64 a4, .int .i64 a5, .int .i64 a6, .int .i64 a7, .string (bs a8), .string (bs a9), .string (bs a10), .int .i64 a11, .slice Aa0 a12.length ka0, .int .i64 a13, .slice Aa1 a14.length ka1, .bool a15]) B0.out 7 rfl
                have hs0_8 : World.cell? v4 ⟨w.heap.size, 8, none⟩ = some (.string (bs a8)) := blk_cell0 (L := [.int .i64 a0, .int .i64 a1, .int .i64 a2, .int .i64 a3, .int .i64 a4, .int .i64 a5, .int .i64 a6, .int .i64 a7, .string (bs a8), .string (bs a9), .string (bs a10), .int .i64 a11, .slice Aa0 a12.length ka0, .int .i64 a13, .slice Aa1 a14.length ka1, .bool a15]) B0.out 8 rfl
                have hs0_9 : World.cell? v4 ⟨w.heap.size, 9, none⟩ = some (.string (bs a9)) := blk_cell0 (L := [.int .i64 a0, .int .i64 a1, .int .i64 a2, .int .i64 a3, .int .i64 a4, .int .i64 a5, .int .i64 a6, .int .i64 a7, .string (bs a8), .string (bs a9), .string (bs a10), .int .i64 a11, .slice Aa0 a12.length ka0, .int .i64 a13, .slice Aa1 a14.length ka1, .bool a15]) B0.out 9 rfl
                have hs0_10 : World.cell? v4 ⟨w.heap.size, 10, none⟩ = some (.string (bs a10)) := blk_cell0 (L := [.int .i64 a0, .int .i64 a1, .int .i64 a2, .int .i64 a3, .int .i64 a4, .int .i64 a5, .int .i64 a6, .int .i64 a7, .string (bs a8), .string (bs a9), .string (bs a10), .int .i64 a11, .slice Aa0 a12.length ka0, .int .i64 a13, .slice Aa1 a14.length ka1, .bool a15]) B0.out 10 rfl
                have hs0_11 : World.cell? v4 ⟨w.heap.size, 11, none⟩ = some (.int .i64 a11) := blk_cell0 (L := [.int .i64 a0, .int .i64 a1, .int .i64 a2, .int .i64 a3, .int .i64 a4, .int .i64 a5, .int .i64 a6, .int .i64 a7, .string (bs a8), .string (bs a9), .string (bs a10), .int .i64 a11, .slice Aa0 a12.length ka0, .int .i64 a13, .slice Aa1 a14.length ka1, .bool a15]) B0.out 11 rfl
                have hs0_12 : World.cell? v4 ⟨w.heap.size, 12, none⟩ = some (.slice Aa0 a12.length ka0) := blk_cell0 (L := [.int .i64 a0, .int .i64 a1, .int .i64 a2, .int .i64 a3, .int .i64 a4, .int .i64 a5, .int .i64 a6, .int .i64 a7, .string (bs a8), .string (bs a9), .string (bs a10), .int .i64 a11, .slice Aa0 a12.length ka0, .int .i64 a13, .slice Aa1 a14.length ka1, .bool a15]) B0.out 12 rfl
                have hs0_13 : World.cell? v4 ⟨w.heap.size, 13, none⟩ = some (.int .i64 a13) := blk_cell0 (L := [.int .i64 a0, .int .i64 a1, .int .i64 a2, .int .i64 a3, .int .i64 a4, .int .i64 a5, .int .i64 a6, .int .i64 a7, .string (bs a8), .string (bs a9), .string (bs a10), .int .i64 a11, .slice Aa0 a12.length ka0, .int .i64 a13, .slice Aa1 a14.length ka1, .bool a15]) B0.out 13 rfl
                have hs0_14 : World.cell? v4 ⟨w.heap.size, 14, none⟩ = some (.slice Aa1 a14.length ka1) := blk_cell0 (L := [.int .i64 a0, .int .i64 a1, .int .i64 a2, .int .i64 a3, .int .i64 a4, .int .i64 a5, .int .i64 a6, .int .i64 a7, .string (bs a8), .string (bs a9), .string (bs a10), .int .i64 a11, .slice Aa0 a12.length ka0, .int .i64 a13, .slice Aa1 a14.length ka1, .bool a15]) B0.out 14 rfl
                have hs0_15 : World.cell? v4 ⟨w.heap.size, 15, none⟩ = some (.bool a15) := blk_cell0 (L := [.int .i64 a0, .int .i64 a1, .int .i64 a2, .int .i64 a3, .int .i64 a4, .int .i64 a5, .int .i64 a6, .int .i64 a7, .string (bs a8), .string (bs a9), .string (bs a10), .int .i64 a11, .slice Aa0 a12.length ka0, .int .i64 a13, .slice Aa1 a14.length ka1, .bool a15]) B0.out 15 rfl
                cases hb7 : hasB a14 ⟨a0, a1⟩
                case true =>
                  go_wp2
                  go_ret
                  exact ⟨ret_eq (congrArg Value.bool (by rw [HR.out, hb0, hb1, hb2, hb3, hb4, hb5, hb6, hb7]; rfl)), BW.out⟩
                case false =>
                  go_wp2
                  all_goals (go_ret; exact ⟨ret_eq (congrArg Value.bool (by rw [HR.out, hb0, hb1, hb2, hb3, hb4, hb5, hb6, hb7]; rw [Bool.eq_iff_iff]; first | (simp [*]; done) | (simp_all; done))), BW.out⟩)

end Go.Proofs.Ytoffelfcmfpooaa
