/-
  Right messages. Conditions: bounds on the sizes.
-/
import Derived.Test.YtbdblfpepnoafaaMsgD
namespace Go.Proofs.Ytbdblfpepnoafaa
open Go.RowKit

set_option maxRecDepth 100000 in
set_option maxHeartbeats 8000000 in
theorem sEMsgOk_any (x : EMsgD) (cs0 : List Value) (w : World) (hwt0 : x.c.wt ≤ 1048576) (h0 : Rep anyB w x.c cs0) :
    Calls Try.prog 16 #[.agg cs0.toArray] w fun e w' => e = .returned (.bool (emsgOkB x)) ∧ Below w.heap.size w w' := by
  have hw0 : x.c.wt = (x.cmd.set.length + (x.cmd.name.length + (x.cmd.tag.length + (x.cmd.chunks.length + (cat strC x.cmd.chunks).wt + (x.deps.length + (cat IdD.c x.deps).wt + 0))))) := rfl
  obtain ⟨Aa0, ka0, Aa1, ka1, rfl, sa0, sa1⟩ := EMsgD.open h0
  obtain ⟨a0, a1, a2, ⟨a3, a4⟩, a5, ⟨a6, a7, a8, a9, a10, a11, a12, a13⟩, a14, a15, a16, a17, a18⟩ := x
  simp only [] at sa0 sa1 hw0 ⊢
  have Wa9 : a9.length ≤ 1048576 := by omega
  have Wa10 : a10.length ≤ 1048576 := by omega
  have Wa11 : a11.length ≤ 1048576 := by omega
  have Sa13 := Lib.hid sa0; clear sa0
  have Wa13 : a13.length + (cat strC a13).wt ≤ 1048576 := by omega
  have Sa15 := Lib.hid sa1; clear sa1
  have Wa15 : a15.length + (cat IdD.c a15).wt ≤ 1048576 := by omega
  have Sid0 := Lib.hid (show Rep anyB w (IdD.c ⟨a3, a4⟩) [.int .i64 a3, .int .i64 a4] from IdD.shut)
  have Wcmd0 : (CmdD.c ⟨a6, a7, a8, a9, a10, a11, a12, a13⟩).wt ≤ 1048576 := by have e0 : (CmdD.c ⟨a6, a7, a8, a9, a10, a11, a12, a13⟩).wt = (a9.length + (a10.length + (a11.length + (a13.length + (cat strC a13).wt + 0)))) := rfl; omega
  have Scmd0 := Lib.hid (show Rep anyB w (CmdD.c ⟨a6, a7, a8, a9, a10, a11, a12, a13⟩) [.int .i64 a6, .int .i64 a7, .int .i64 a8, .string (bs a9), .string (bs a10), .string (bs a11), .int .i64 a12, .slice Aa0 a13.length ka0] from CmdD.shut Sa13.out)
  clear h0 hwt0 hw0
  obtain ⟨R, hR⟩ : ∃ R, R = emsgOkB (⟨a0, a1, a2, ⟨a3, a4⟩, a5, ⟨a6, a7, a8, a9, a10, a11, a12, a13⟩, a14, a15, a16, a17, a18⟩ : EMsgD) := ⟨_, rfl⟩
  rw [← hR]
  rw [emsgOkB] at hR
  simp only [] at hR
  have HR := Lib.hid hR; clear hR
  go_enter Try.func16, Try.ntmps16
  go_wp2_with fail
  refine (l1In_any _ _ _ _).mono ?_; rintro e w' ⟨rfl, rfl⟩
  cases hb0 : inB 1 7 a0
  case false =>
    go_wp2
    go_ret
    exact ⟨ret_eq (congrArg Value.bool (by rw [HR.out, hb0]; rfl)), (by repeat' (first | with_reducible exact Below.refl _ _ | with_reducible exact BW.out | with_reducible refine Below.setCell ?_ ?_ _ | with_reducible refine Below.alloc ?_ ?_ _ | with_reducible refine Below.drew ?_ | (simp; done) | (simp; omega) | omega))⟩
  case true =>
    go_wp2_with fail
    refine (l9Node_any _ _).mono ?_; rintro e w' ⟨rfl, rfl⟩
    cases hb1 : inB 0 2 a1
    case false =>
      go_wp2
      go_ret
      exact ⟨ret_eq (congrArg Value.bool (by rw [HR.out, hb0, hb1]; rfl)), (by repeat' (first | with_reducible exact Below.refl _ _ | with_reducible exact BW.out | with_reducible refine Below.setCell ?_ ?_ _ | with_reducible refine Below.alloc ?_ ?_ _ | with_reducible refine Below.drew ?_ | (simp; done) | (simp; omega) | omega))⟩
    case true =>
      go_wp2_with fail
      refine (l9Node_any _ _).mono ?_; rintro e w' ⟨rfl, rfl⟩
      cases hb2 : inB 0 2 a2
      case false =>
        go_wp2
        go_ret
        exact ⟨ret_eq (congrArg Value.bool (by rw [HR.out, hb0, hb1, hb2]; rfl)), (by repeat' (first | with_reducible exact Below.refl _ _ | with_reducible exact BW.out | with_reducible refine Below.setCell ?_ ?_ _ | with_reducible refine Below.alloc ?_ ?_ _ | with_reducible refine Below.drew ?_ | (simp; done) | (simp; omega) | omega))⟩
      case true =>
        cases hb3 : (a1 != a2)
        case false =>
          go_wp2
          go_ret
          exact ⟨ret_eq (congrArg Value.bool (by rw [HR.out, hb0, hb1, hb2, hb3]; rfl)), (by repeat' (first | with_reducible exact Below.refl _ _ | with_reducible exact BW.out | with_reducible refine Below.setCell ?_ ?_ _ | with_reducible refine Below.alloc ?_ ?_ _ | with_reducible refine Below.drew ?_ | (simp; done) | (simp; omega) | omega))⟩
        case true =>
          go_wp2_with fail
          refine (l8Id_any ⟨a3, a4⟩ _ _ (Sid0.out.below (by repeat' (first | with_reducible exact Below.refl _ _ | with_reducible exact BW.out | with_reducible refine Below.setCell ?_ ?_ _ | with_reducible refine Below.alloc ?_ ?_ _ | with_reducible refine Below.drew ?_ | (simp; done) | (simp; omega) | omega)))).mono ?_; rintro e v1 ⟨rfl, hb⟩
          have B0 := Lib.hid (Blk.below (blk_new _ _ _) hb)
          have BW := Lib.hid (show Below w.heap.size w v1 from Below.trans (by repeat' (first | with_reducible exact Below.refl _ _ | with_reducible exact BW.out | with_reducible refine Below.setCell ?_ ?_ _ | with_reducible refine Below.alloc ?_ ?_ _ | with_reducible refine Below.drew ?_ | (simp; done) | (simp; omega) | omega)) (hb.mono (by first | (simp; done) | (simp; omega) | omega))); clear hb
          have hs0_0 : World.cell? v1 ⟨w.heap.size, 0, none⟩ = some (.int .i64 a0) := blk_cell0 (L := [.int .i64 a0, .int .i64 a1, .int .i64 a2, .int .i64 a3, .int .i64 a4, .int .i64 a5, .int .i64 a6, .int .i64 a7, .int .i64 a8, .string (bs a9), .string (bs a10), .string (bs a11), .int .i64 a12, .slice Aa0 a13.length ka0, .int .i64 a14, .slice Aa1 a15.length ka1, .int .i64 a16, .int .i64 a17, .bool a18]) B0.out 0 rfl
          have hs0_1 : World.cell? v1 ⟨w.heap.size, 1, none⟩ = some (.int .i64 a1) := blk_cell0 (L := [.int .i64 a0, .int .i64 a1, .int .i64 a2, .int .i64 a3, .int .i64 a4, .int .i64 a5, .int .i64 a6, .int .i64 a7, .int .i64 a8, .string (bs a9), .string (bs a10), .string (bs a11), .int .i64 a12, .slice Aa0 a13.length ka0, .int .i64 a14, .slice Aa1 a15.length ka1, .int .i64 a16, .int .i64 a17, .bool a18]) B0.out 1 rfl
          have hs0_2 : World.cell? v1 ⟨w.heap.size, 2, none⟩ = some (.int .i64 a2) := blk_cell0 (L := [.int .i64 a0, .int .i64 a1, .int .i64 a2, .int .i64 a3, .int .i64 a4, .int .i64 a5, .int .i64 a6, .int .i64 a7, .int .i64 a8, .string (bs a9), .string (bs a10), .string (bs a11), .int .i64 a12, .slice Aa0 a13.length ka0, .int .i64 a14, .slice Aa1 a15.length ka1, .int .i64 a16, .int .i64 a17, .bool a18]) B0.out 2 rfl
          have hs0_3 : World.cell? v1 ⟨w.heap.size, 3, none⟩ = some (.int .i64 a3) := blk_cell0 (L := [.int .i64 a0, .int .i64 a1, .int .i64 a2, .int .i64 a3, .int .i64 a4, .int .i64 a5, .int .i64 a6, .int .i64 a7, .int .i64 a8, .string (bs a9), .string (bs a10), .string (bs a11), .int .i64 a12, .slice Aa0 a13.length ka0, .int .i64 a14, .slice Aa1 a15.length ka1, .int .i64 a16, .int .i64 a17, .bool a18]) B0.out 3 rfl
          have hs0_4 : World.cell? v1 ⟨w.heap.size, 4, none⟩ = some (.int .i64 a4) := blk_cell0 (L := [.int .i64 a0, .int .i64 a1, .int .i64 a2, .int .i64 a3, .int .i64 a4, .int .i64 a5, .int .i64 a6, .int .i64 a7, .int .i64 a8, .string (bs a9), .string (bs a10), .string (bs a11), .int .i64 a12, .slice Aa0 a13.length ka0, .int .i64 a14, .slice Aa1 a15.length ka1, .int .i64 a16, .int .i64 a17, .bool a18]) B0.out 4 rfl
          have hs0_5 : World.cell? v1 ⟨w.heap.size, 5, none⟩ = some (.int .i64 a5) := blk_cell0 (L := [.int .i64 a0, .int .i64 a1, .int .i64 a2, .int .i64 a3, .int .i64 a4, .int .i64 a5, .int .i64 a6, .int .i64 a7, .int .i64 a8, .string (bs a9), .string (bs a10), .string (bs a11), .int .i64 a12, .slice Aa0 a13.length ka0, .int .i64 a14, .slice Aa1 a15.length ka1, .int .i64 a16, .int .i64 a17, .bool a18]) B0.out 5 rfl
          have hs0_6 : World.cell? v1 ⟨w.heap.size, 6, none⟩ = some (.int .i64 a6) := blk_cell0 (L := [.int .i64 a0, .int .i64 a1, .int .i64 a2, .int .i64 a3, .int .i64 a4, .int .i64 a5, .int .i64 a6, .int .i64 a7, .int .i64 a8, .string (bs a9), .string (bs a10), .string (bs a11), .int .i64 a12, .slice Aa0 a13.length ka0, .int .i64 a14, .slice Aa1 a15.length ka1, .int .i64 a16, .int .i64 a17, .bool a18]) B0.out 6 rfl
          have hs0_7 : World.cell? v1 ⟨w.heap.size, 7, none⟩ = some (.int .i64 a7) := blk_cell0 (L := [.int .i64 a0, .int .i64 a1, .int .i64 a2, .int .i64 a3, .int .i64 a4, .int .i64 a5, .int .i64 a6, .int .i64 a7, .int .i64 a8, .string (bs a9), .string (bs a10), .string (bs a11), .int .i64 a12, .slice Aa0 a13.length ka0, .int .i64 a14, .slice Aa1 a15.length ka1, .int .i64 a16, .int .i64 a17, .bool a18]) B0.out 7 rfl
          have hs0_8 : World.cell? v1 ⟨w.heap.size, 8, none⟩ = some (.int .i64 a8) := blk_cell0 (L := [.int .i64 a0, .int .i64 a1, .int .i64 a2, .int .i64 a3, .int .i64 a4, .int .i64 a5, .int .i64 a6, .int .i64 a7, .int .i64 a8, .string (bs a9), .string (bs a10), .string (bs a11), .int .i64 a12, .slice Aa0 a13.length ka0, .int .i64 a14, .slice Aa1 a15.length ka1, .int .i64 a16, .int .i64 a17, .bool a18]) B0.out 8 rfl
          have hs0_9 : World.cell? v1 ⟨w.heap.size, 9, none⟩ = some (.string (bs a9)) := blk_cell0 (L := [.int .i64 a0, .int .i64 a1, .int .i64 a2, .int .i64 a3, .int .i64 a4, .int .i64 a5, .int .i64 a6, .int .i64 a7, .int .i64 a8, .string (bs a9), .string (bs a10), .string (bs a11), .int .i64 a12, .slice Aa0 a13.length ka0, .int .i64 a14, .slice Aa1 a15.length ka1, .int .i64 a16, .int .i64 a17, .bool a18]) B0.out 9 rfl
          have hs0_10 : World.cell? v1 ⟨w.heap.size, 10, none⟩ = some (.string (bs a10)) := blk_cell0 (L := [.int .i64 a0, .int .i64 a1, .int .i64 a2, .int .i64 a3, .int .i64 a4, .int .i64 a5, .int .i64 a6, .int .i64 a7, .int .i64 a8, .string (bs a9), .string (bs a10), .string (bs a11), .int .i64 a12, .slice Aa0 a13.length ka0, .int .i64 a14, .slice Aa1 a15.length ka1, .int .i64 a16, .int .i64 a17, .bool a18]) B0.out 10 rfl
          have hs0_11 : World.cell? v1 ⟨w.heap.size, 11, none⟩ = some (.string (bs a11)) := blk_cell0 (L := [.int .i64 a0, .int .i64 a1, .int .i64 a2, .int .i64 a3, .int .i64 a4, .int .i64 a5, .int .i64 a6, .int .i64 a7, .int .i64 a8, .string (bs a9), .string (bs a10), .string (bs a11), .int .i64 a12, .slice Aa0 a13.length ka0, .int .i64 a14, .slice Aa1 a15.length ka1, .int .i64 a16, .int .i64 a17, .bool a18]) B0.out 11 rfl
          have hs0_12 : World.cell? v1 ⟨w.heap.size, 12, none⟩ = some (.int .i64 a12) := blk_cell0 (L := [.int .i64 a0, .int .i64 a1, .int .i64 a2, .int .i64 a3, .int .i64 a4, .int .i64 a5, .int .i64 a6, .int .i64 a7, .int .i64 a8, .string (bs a9), .string (bs a10), .string (bs a11), .int .i64 a12, .slice Aa0 a13.length ka0, .int .i64 a14, .slice Aa1 a15.length ka1, .int .i64 a16, .int .i64 a17, .bool a18]) B0.out 12 rfl
          have hs0_13 : World.cell? v1 ⟨w.heap.size, 13, none⟩ = some (.slice Aa0 a13.length ka0) := blk_cell0 (L := [.int .i64 a0, .int .i64 a1, .int .i64 a2, .int .i64 a3, .int .i64 a4, .int .i64 a5, .int .i64 a6, .int .i64 a7, .int .i64 a8, .string (bs a9), .string (bs a10), .string (bs a11), .int .i64 a12, .slice Aa0 a13.length ka0, .int .i64 a14, .slice Aa1 a15.length ka1, .int .i64 a16, .int .i64 a17, .bool a18]) B0.out 13 rfl
          have hs0_14 : World.cell? v1 ⟨w.heap.size, 14, none⟩ = some (.int .i64 a14) := blk_cell0 (L := [.int .i64 a0, .int .i64 a1, .int .i64 a2, .int .i64 a3, .int .i64 a4, .int .i64 a5, .int .i64 a6, .int .i64 a7, .int .i64 a8, .string (bs a9), .string (bs a10), .string (bs a11), .int .i64 a12, .slice Aa0 a13.length ka0, .int .i64 a14, .slice Aa1 a15.length ka1, .int .i64 a16, .int .i64 a17, .bool a18]) B0.out 14 rfl
          have hs0_15 : World.cell? v1 ⟨w.heap.size, 15, none⟩ = some (.slice Aa1 a15.length ka1) := blk_cell0 (L := [.int .i64 a0, .int .i64 a1, .int .i64 a2, .int .i64 a3, .int .i64 a4, .int .i64 a5, .int .i64 a6, .int .i64 a7, .int .i64 a8, .string (bs a9), .string (bs a10), .string (bs a11), .int .i64 a12, .slice Aa0 a13.length ka0, .int .i64 a14, .slice Aa1 a15.length ka1, .int .i64 a16, .int .i64 a17, .bool a18]) B0.out 15 rfl
          have hs0_16 : World.cell? v1 ⟨w.heap.size, 16, none⟩ = some (.int .i64 a16) := blk_cell0 (L := [.int .i64 a0, .int .i64 a1, .int .i64 a2, .int .i64 a3, .int .i64 a4, .int .i64 a5, .int .i64 a6, .int .i64 a7, .int .i64 a8, .string (bs a9), .string (bs a10), .string (bs a11), .int .i64 a12, .slice Aa0 a13.length ka0, .int .i64 a14, .slice Aa1 a15.length ka1, .int .i64 a16, .int .i64 a17, .bool a18]) B0.out 16 rfl
          have hs0_17 : World.cell? v1 ⟨w.heap.size, 17, none⟩ = some (.int .i64 a17) := blk_cell0 (L := [.int .i64 a0, .int .i64 a1, .int .i64 a2, .int .i64 a3, .int .i64 a4, .int .i64 a5, .int .i64 a6, .int .i64 a7, .int .i64 a8, .string (bs a9), .string (bs a10), .string (bs a11), .int .i64 a12, .slice Aa0 a13.length ka0, .int .i64 a14, .slice Aa1 a15.length ka1, .int .i64 a16, .int .i64 a17, .bool a18]) B0.out 17 rfl
          have hs0_18 : World.cell? v1 ⟨w.heap.size, 18, none⟩ = some (.bool a18) := blk_cell0 (L := [.int .i64 a0, .int .i64 a1, .int .i64 a2, .int .i64 a3, .int .i64 a4, .int .i64 a5, .int .i64 a6, .int .i64 a7, .int .i64 a8, .string (bs a9), .string (bs a10), .string (bs a11), .int .i64 a12, .slice Aa0 a13.length ka0, .int .i64 a14, .slice Aa1 a15.length ka1, .int .i64 a16, .int .i64 a17, .bool a18]) B0.out 18 rfl
          cases hb4 : idOkB ⟨a3, a4⟩
          case false =>
            go_wp2
            go_ret
            exact ⟨ret_eq (congrArg Value.bool (by rw [HR.out, hb0, hb1, hb2, hb3, hb4]; rfl)), BW.out⟩
          case true =>
            go_wp2_with fail
            refine (l1In_any _ _ _ _).mono ?_; rintro e w' ⟨rfl, rfl⟩
            cases hb5 : inB 0 600 a5
            case false =>
              go_wp2
              go_ret
              exact ⟨ret_eq (congrArg Value.bool (by rw [HR.out, hb0, hb1, hb2, hb3, hb4, hb5]; rfl)), BW.out⟩
            case true =>
              go_wp2_with fail
              refine (sCmdOk_any ⟨a6, a7, a8, a9, a10, a11, a12, a13⟩ _ _ Wcmd0 (Scmd0.out.below BW.out)).mono ?_; rintro e v2 ⟨rfl, hb⟩
              have X := Lib.hid (B0.out.below hb); clear B0
              have B0 := Lib.hid X.out; clear X
              have X := Lib.hid (show Below w.heap.size w v2 from BW.out.trans (hb.mono BW.out.size)); clear BW hb
              have BW := Lib.hid X.out; clear X
              clear hs0_0 hs0_1 hs0_2 hs0_3 hs0_4 hs0_5 hs0_6 hs0_7 hs0_8 hs0_9 hs0_10 hs0_11 hs0_12 hs0_13 hs0_14 hs0_15 hs0_16 hs0_17 hs0_18
              have hs0_0 : World.cell? v2 ⟨w.heap.size, 0, none⟩ = some (.int .i64 a0) := blk_cell0 (L := [.int .i64 a0, .int .i64 a1, .int .i64 a2, .int .i64 a3, .int .i64 a4, .int .i64 a5, .int .i64 a6, .int .i64 a7, .int .i64 a8, .string (bs a9), .string (bs a10), .string (bs a11), .int .i64 a12, .slice Aa0 a13.length ka0, .int .i64 a14, .slice Aa1 a15.length ka1, .int .i64 a16, .int .i64 a17, .bool a18]) B0.out 0 rfl
              have hs0_1 : World.cell? v2 ⟨w.heap.size, 1, none⟩ = some (.int .i64 a1) := blk_cell0 (L := [.int .i64 a0, .int .i64 a1, .int .i64 a2, .int .i64 a3, .int .i64 a4, .int .i64 a5, .int .i64 a6, .int .i64 a7, .int .i64 a8, .string (bs a9), .string (bs a10), .string (bs a11), .int .i64 a12, .slice Aa0 a13.length ka0, .int .i64 a14, .slice Aa1 a15.length ka1, .int .i64 a16, .int .i64 a17, .bool a18]) B0.out 1 rfl
              have hs0_2 : World.cell? v2 ⟨w.heap.size, 2, none⟩ = some (.int .i64 a2) := blk_cell0 (L := [.int .i64 a0, .int .i64 a1, .int .i64 a2, .int .i64 a3, .int .i64 a4, .int .i64 a5, .int .i64 a6, .int .i64 a7, .int .i64 a8, .string (bs a9), .string (bs a10), .string (bs a11), .int .i64 a12, .slice Aa0 a13.length ka0, .int .i64 a14, .slice Aa1 a15.length ka1, .int .i64 a16, .int .i64 a17, .bool a18]) B0.out 2 rfl
              have hs0_3 : World.cell? v2 ⟨w.heap.size, 3, none⟩ = some (.int .i64 a3) := blk_cell0 (L := [.int .i64 a0, .int .i64 a1, .int .i64 a2, .int .i64 a3, .int .i64 a4, .int .i64 a5, .int .i64 a6, .int .i64 a7, .int .i64 a8, .string (bs a9), .string (bs a10), .string (bs a11), .int .i64 a12, .slice Aa0 a13.length ka0, .int .i64 a14, .slice Aa1 a15.length ka1, .int .i64 a16, .int .i64 a17, .bool a18]) B0.out 3 rfl
              have hs0_4 : World.cell? v2 ⟨w.heap.size, 4, none⟩ = some (.int .i64 a4) := blk_cell0 (L := [.int .i64 a0, .int .i64 a1, .int .i64 a2, .int .i64 a3, .int .i64 a4, .int .i64 a5, .int .i64 a6, .int .i64 a7, .int .i64 a8, .string (bs a9), .string (bs a10), .string (bs a11), .int .i64 a12, .slice Aa0 a13.length ka0, .int .i64 a14, .slice Aa1 a15.length ka1, .int .i64 a16, .int .i64 a17, .bool a18]) B0.out 4 rfl
              have hs0_5 : World.cell? v2 ⟨w.heap.size, 5, none⟩ = some (.int .i64 a5) := blk_cell0 (L := [.int .i64 a0, .int .i64 a1, .int .i64 a2, .int .i64 a3, .int .i64 a4, .int .i64 a5, .int .i64 a6, .int .i64 a7, .int .i64 a8, .string (bs a9), .string (bs a10), .string (bs a11), .int .i64 a12, .slice Aa0 a13.length ka0, .int .i64 a14, .slice Aa1 a15.length ka1, .int .i64 a16, .int .i64 a17, .bool a18]) B0.out 5 rfl
              have hs0_6 : World.cell? v2 ⟨w.heap.size, 6, none⟩ = some (.int .i64 a6) := blk_cell0 (L := [.int .i64 a0, .int .i64 a1, .int .i64 a2, .int .i64 a3, .int .i64 a4, .int .i64 a5, .int .i64 a6, .int .i64 a7, .int .i64 a8, .string (bs a9), .string (bs a10), .string (bs a11), .int .i64 a12, .slice Aa0 a13.length ka0, .int .i64 a14, .slice Aa1 a15.length ka1, .int .i64 a16, .int .i64 a17, .bool a18]) B0.out 6 rfl
              have hs0_7 : World.cell? v2 ⟨w.heap.size, 7, none⟩ = some (.int .i64 a7) := blk_cell0 (L := [.int .i64 a0, .int .i64 a1, .int .i64 a2, .int .i64 a3, .int .i64 a4, .int .i64 a5, .int .i64 a6, .int .i64 a7, .int .i64 a8, .string (bs a9), .string (bs a10), .string (bs a11), .int .i64 a12, .slice Aa0 a13.length ka0, .int .i64 a14, .slice Aa1 a15.length ka1, .int .i64 a16, .int .i64 a17, .bool a18]) B0.out 7 rfl
              have hs0_8 : World.cell? v2 ⟨w.heap.size, 8, none⟩ = some (.int .i64 a8) := blk_cell0 (L := [.int .i64 a0, .int .i64 a1, .int .i64 a2, .int .i64 a3, .int .i64 a4, .int .i64 a5, .int .i64 a6, .int .i64 a7, .int .i64 a8, .string (bs a9), .string (bs a10), .string (bs a11), .int .i64 a12, .slice Aa0 a13.length ka0, .int .i64 a14, .slice Aa1 a15.length ka1, .int .i64 a16, .int .i64 a17, .bool a18]) B0.out 8 rfl
              have hs0_9 : World.cell? v2 ⟨w.heap.size, 9, none⟩ = some (.string (bs a9)) := blk_cell0 (L := [.int .i64 a0, .int .i64 a1, .int .i64 a2, .int .i64 a3, .int .i64 a4, .int .i64 a5, .int .i64 a6, .int .i64 a7, .int .i64 a8, .string (bs a9), .string (bs a10), .string (bs a11), .int .i64 a12, .slice Aa0 a13.length ka0, .int .i64 a14, .slice Aa1 a15.length ka1, .int .i64 a16, .int .i64 a17, .bool a18]) B0.out 9 rfl
              have hs0_10 : World.cell? v2 ⟨w.heap.size, 10, none⟩ = some (.string (bs a10)) := blk_cell0 (L := [.int .i64 a0, .int .i64 a1, .int .i64 a2, .int .i64 a3, .int .i64 a4, .int .i64 a5, .int .i64 a6, .int .i64 a7, .int .i64 a8, .string (bs a9), .string (bs a10), .string (bs a11), .int .i64 a12, .slice Aa0 a13.length ka0, .int .i64 a14, .slice Aa1 a15.length ka1, .int .i64 a16, .int .i64 a17, .bool a18]) B0.out 10 rfl
              have hs0_11 : World.cell? v2 ⟨w.heap.size, 11, none⟩ = some (.string (bs a11)) := blk_cell0 (L := [.int .i64 a0, .int .i64 a1, .int .i64 a2, .int .i64 a3, .int .i64 a4, .int .i64 a5, .int .i64 a6, .int .i64 a7, .int .i64 a8, .string (bs a9), .string (bs a10), .string (bs a11), .int .i64 a12, .slice Aa0 a13.length ka0, .int .i64 a14, .slice Aa1 a15.length ka1, .int .i64 a16, .int .i64 a17, .bool a18]) B0.out 11 rfl
              have hs0_12 : World.cell? v2 ⟨w.heap.size, 12, none⟩ = some (.int .i64 a12) := blk_cell0 (L := [.int .i64 a0, .int .i64 a1, .int .i64 a2, .int .i64 a3, .int .i64 a4, .int .i64 a5, .int .i64 a6, .int .i64 a7, .int .i64 a8, .string (bs a9), .string (bs a10), .string (bs a11), .int .i64 a12, .slice Aa0 a13.length ka0, .int .i64 a14, .slice Aa1 a15.length ka1, .int .i64 a16, .int .i64 a17, .bool a18]) B0.out 12 rfl
              have hs0_13 : World.cell? v2 ⟨w.heap.size, 13, none⟩ = some (.slice Aa0 a13.length ka0) := blk_cell0 (L := [.int .i64 a0, .int .i64 a1, .int .i64 a2, .int .i64 a3, .int .i64 a4, .int .i64 a5, .int .i64 a6, .int .i64 a7, .int .i64 a8, .string (bs a9), .string (bs a10), .string (bs a11), .int .i64 a12, .slice Aa0 a13.length ka0, .int .i64 a14, .slice Aa1 a15.length ka1, .int .i64 a16, .int .i64 a17, .bool a18]) B0.out 13 rfl
              have hs0_14 : World.cell? v2 ⟨w.heap.size, 14, none⟩ = some (.int .i64 a14) := blk_cell0 (L := [.int .i64 a0, .int .i64 a1, .int .i64 a2, .int .i64 a3, .int .i64 a4, .int .i64 a5, .int .i64 a6, .int .i64 a7, .int .i64 a8, .string (bs a9), .string (bs a10), .string (bs a11), .int .i64 a12, .slice Aa0 a13.length ka0, .int .i64 a14, .slice Aa1 a15.length ka1, .int .i64 a16, .int .i64 a17, .bool a18]) B0.out 14 rfl
              have hs0_15 : World.cell? v2 ⟨w.heap.size, 15, none⟩ = some (.slice Aa1 a15.length ka1) := blk_cell0 (L := [.int .i64 a0, .int .i64 a1, .int .i64 a2, .int .i64 a3, .int .i64 a4, .int .i64 a5, .int .i64 a6, .int .i64 a7, .int .i64 a8, .string (bs a9), .string (bs a10), .string (bs a11), .int .i64 a12, .slice Aa0 a13.length ka0, .int .i64 a14, .slice Aa1 a15.length ka1, .int .i64 a16, .int .i64 a17, .bool a18]) B0.out 15 rfl
              have hs0_16 : World.cell? v2 ⟨w.heap.size, 16, none⟩ = some (.int .i64 a16) := blk_cell0 (L := [.int .i64 a0, .int .i64 a1, .int .i64 a2, .int .i64 a3, .int .i64 a4, .int .i64 a5, .int .i64 a6, .int .i64 a7, .int .i64 a8, .string (bs a9), .string (bs a10), .string (bs a11), .int .i64 a12, .slice Aa0 a13.length ka0, .int .i64 a14, .slice Aa1 a15.length ka1, .int .i64 a16, .int .i64 a17, .bool a18]) B0.out 16 rfl
              have hs0_17 : World.cell? v2 ⟨w.heap.size, 17, none⟩ = some (.int .i64 a17) := blk_cell0 (L := [.int .i64 a0, .int .i64 a1, .int .i64 a2, .int .i64 a3, .int .i64 a4, .int .i64 a5, .int .i64 a6, .int .i64 a7, .int .i64 a8, .string (bs a9), .string (bs a10), .string (bs a11), .int .i64 a12, .slice Aa0 a13.length ka0, .int .i64 a14, .slice Aa1 a15.length ka1, .int .i64 a16, .int .i64 a17, .bool a18]) B0.out 17 rfl
              have hs0_18 : World.cell? v2 ⟨w.heap.size, 18, none⟩ = some (.bool a18) := blk_cell0 (L := [.int .i64 a0, .int .i64 a1, .int .i64 a2, .int .i64 a3, .int .i64 a4, .int .i64 a5, .int .i64 a6, .int .i64 a7, .int .i64 a8, .string (bs a9), .string (bs a10), .string (bs a11), .int .i64 a12, .slice Aa0 a13.length ka0, .int .i64 a14, .slice Aa1 a15.length ka1, .int .i64 a16, .int .i64 a17, .bool a18]) B0.out 18 rfl
              cases hb6 : cmdOkB ⟨a6, a7, a8, a9, a10, a11, a12, a13⟩
              case false =>
                go_wp2
                go_ret
                exact ⟨ret_eq (congrArg Value.bool (by rw [HR.out, hb0, hb1, hb2, hb3, hb4, hb5, hb6]; rfl)), BW.out⟩
              case true =>
                go_wp2_with fail
                refine (l1In_any _ _ _ _).mono ?_; rintro e w' ⟨rfl, rfl⟩
                cases hb7 : inB 0 60 a14
                case false =>
                  go_wp2
                  go_ret
                  exact ⟨ret_eq (congrArg Value.bool (by rw [HR.out, hb0, hb1, hb2, hb3, hb4, hb5, hb6, hb7]; rfl)), BW.out⟩
                case true =>
                  go_wp2_with fail
                  refine (sIdsOk_any a15 _ _ _ _ rfl Wa15 (Sa15.out.below BW.out)).mono ?_; rintro e v3 ⟨rfl, hb⟩
                  have X := Lib.hid (B0.out.below hb); clear B0
                  have B0 := Lib.hid X.out; clear X
                  have X := Lib.hid (show Below w.heap.size w v3 from BW.out.trans (hb.mono BW.out.size)); clear BW hb
                  have BW := Lib.hid X.out; clear X
                  clear hs0_0 hs0_1 hs0_2 hs0_3 hs0_4 hs0_5 hs0_6 hs0_7 hs0_8 hs0_9 hs0_10 hs0_11 hs0_12 hs0_13 hs0_14 hs0_15 hs0_16 hs0_17 hs0_18
                  have hs0_0 : World.cell? v3 ⟨w.heap.size, 0, none⟩ = some (.int .i64 a0) := blk_cell0 (L := [.int .i64 a0, .int .i64 a1, .int .i64 a2, .int .i64 a3, .int .i64 a4, .int .i64 a5, .int .i64 a6, .int .i64 a7, .int .i64 a8, .string (bs a9), .string (bs a10), .string (bs a11), .int .i64 a12, .slice Aa0 a13.length ka0, .int .i64 a14, .slice Aa1 a15.length ka1, .int .i64 a16, .int .i64 a17, .bool a18]) B0.out 0 rfl
                  have hs0_1 : World.cell? v3 ⟨w.heap.size, 1, none⟩ = some (.int .i64 a1) := blk_cell0 (L := [.int .i64 a0, .int .i64 a1, .int .i64 a2, .int .i64 a3, .int .i64 a4, .int .i64 a5, .int .i64 a6, .int .i64 a7, .int .i64 a8, .string (bs a9), .string (bs a10), .string (bs a11), .int .i64 a12, .slice Aa0 a13.length ka0, .int .i64 a14, .slice Aa1 a15.length ka1, .int .i64 a16, .int .i64 a17, .bool a18]) B0.out 1 rfl
                  have hs0_2 : World.cell? v3 ⟨w.heap.size, 2, none⟩ = some (.int .i64 a2) := blk_cell0 (L := [.int .i64 a0, .int .i64 a1, .int .i64 a2, .int .i64 a3, .int .i64 a4, .int .i64 a5, .int .i64 a6, .int .i64 a7, .int .i64 a8, .string (bs a9), .string (bs a10), .string (bs a11), .int .i64 a12, .slice Aa0 a13.length ka0, .int .i64 a14, .slice Aa1 a15.length ka1, .int .i64 a16, .int .i64 a17, .bool a18]) B0.out 2 rfl
                  have hs0_3 : World.cell? v3 ⟨w.heap.size, 3, none⟩ = some (.int .i64 a3) := blk_cell0 (L := [.int .i64 a0, .int .i64 a1, .int .i64 a2, .int .i64 a3, .int .i64 a4, .int .i64 a5, .int .i64 a6, .int .i64 a7, .int .i64 a8, .string (bs a9), .string (bs a10), .string (bs a11), .int .i64 a12, .slice Aa0 a13.length ka0, .int .i64 a14, .slice Aa1 a15.length ka1, .int .i64 a16, .int .i64 a17, .bool a18]) B0.out 3 rfl
                  have hs0_4 : World.cell? v3 ⟨w.heap.size, 4, none⟩ = some (.int .i64 a4) := blk_cell0 (L := [.int .i64 a0, .int .i64 a1, .int .i64 a2, .int .i64 a3, .int .i64 a4, .int .i64 a5, .int .i64 a6, .int .i64 a7, .int .i64 a8, .string (bs a9), .string (bs a10), .string (bs a11), .int .i64 a12, .slice Aa0 a13.length ka0, .int .i64 a14, .slice Aa1 a15.length ka1, .int .i64 a16, .int .i64 a17, .bool a18]) B0.out 4 rfl
                  have hs0_5 : World.cell? v3 ⟨w.heap.size, 5, none⟩ = some (.int .i64 a5) := blk_cell0 (L := [.int .i64 a0, .int .i64 a1, .int .i64 a2, .int .i64 a3, .int .i64 a4, .int .i64 a5, .int .i64 a6, .int .i64 a7, .int .i64 a8, .string (bs a9), .string (bs a10), .string (bs a11), .int .i64 a12, .slice Aa0 a13.length ka0, .int .i64 a14, .slice Aa1 a15.length ka1, .int .i64 a16, .int .i64 a17, .bool a18]) B0.out 5 rfl
                  have hs0_6 : World.cell? v3 ⟨w.heap.size, 6, none⟩ = some (.int .i64 a6) := blk_cell0 (L := [.int .i64 a0, .int .i64 a1, .int .i64 a2, .int .i64 a3, .int .i64 a4, .int .i64 a5, .int .i64 a6, .int .i64 a7, .int .i64 a8, .string (bs a9), .string (bs a10), .string (bs a11), .int .i64 a12, .slice Aa0 a13.length ka0, .int .i64 a14, .slice Aa1 a15.length ka1, .int .i64 a16, .int .i64 a17, .bool a18]) B0.out 6 rfl
                  have hs0_7 : World.cell? v3 ⟨w.heap.size, 7, none⟩ = some (.int .i64 a7) := blk_cell0 (L := [.int .i64 a0, .int .i64 a1, .int .i64 a2, .int .i64 a3, .int .i64 a4, .int .i64 a5, .int .i64 a6, .int .i64 a7, .int .i64 a8, .string (bs a9), .string (bs a10), .string (bs a11), .int .i64 a12, .slice Aa0 a13.length ka0, .int .i64 a14, .slice Aa1 a15.length ka1, .int .i64 a16, .int .i64 a17, .bool a18]) B0.out 7 rfl
                  have hs0_8 : World.cell? v3 ⟨w.heap.size, 8, none⟩ = some (.int .i64 a8) := blk_cell0 (L := [.int .i64 a0, .int .i64 a1, .int .i64 a2, .int .i64 a3, .int .i64 a4, .int .i64 a5, .int .i64 a6, .int .i64 a7, .int .i64 a8, .string (bs a9), .string (bs a10), .string (bs a11), .int .i64 a12, .slice Aa0 a13.length ka0, .int .i64 a14, .slice Aa1 a15.length ka1, .int .i64 a16, .int .i64 a17, .bool a18]) B0.out 8 rfl
                  have hs0_9 : World.cell? v3 ⟨w.heap.size, 9, none⟩ = some (.string (bs a9)) := blk_cell0 (L := [.int .i64 a0, .int .i64 a1, .int .i64 a2, .int .i64 a3, .int .i64 a4, .int .i64 a5, .int .i64 a6, .int .i64 a7, .int .i64 a8, .string (bs a9), .string (bs a10), .string (bs a11), .int .i64 a12, .slice Aa0 a13.length ka0, .int .i64 a14, .slice Aa1 a15.length ka1, .int .i64 a16, .int .i64 a17, .bool a18]) B0.out 9 rfl
                  have hs0_10 : World.cell? v3 ⟨w.heap.size, 10, none⟩ = some (.string (bs a10)) := blk_cell0 (L := [.int .i64 a0, .int .i64 a1, .int .i64 a2, .int .i64 a3, .int .i64 a4, .int .i64 a5, .int .i64 a6, .int .i64 a7, .int .i64 a8, .string (bs a9), .string (bs a10), .string (bs a11), .int .i64 a12, .slice Aa0 a13.length ka0, .int .i64 a14, .slice Aa1 a15.length ka1, .int .i64 a16, .int .i64 a17, .bool a18]) B0.out 10 rfl
                  have hs0_11 : World.cell? v3 ⟨w.heap.size, 11, none⟩ = some (.string (bs a11)) := blk_cell0 (L := [.int .i64 a0, .int .i64 a1, .int .i64 a2, .int .i64 a3, .int .i64 a4, .int .i64 a5, .int .i64 a6, .int .i64 a7, .int .i64 a8, .string (bs a9), .string (bs a10), .string (bs a11), .int .i64 a12, .slice Aa0 a13.length ka0, .int .i64 a14, .slice Aa1 a15.length ka1, .int .i64 a16, .int .i64 a17, .bool a18]) B0.out 11 rfl
                  have hs0_12 : World.cell? v3 ⟨w.heap.size, 12, none⟩ = some (.int .i64 a12) := blk_cell0 (L := [.int .i64 a0, .int .i64 a1, .int .i64 a2, .int .i64 a3, .int .i64 a4, .int .i64 a5, .int .i64 a6, .int .i64 a7, .int .i64 a8, .string (bs a9), .string (bs a10), .string (bs a11), .int .i64 a12, .slice Aa0 a13.length ka0, .int .i64 a14, .slice Aa1 a15.length ka1, .int .i64 a16, .int .i64 a17, .bool a18]) B0.out 12 rfl
                  have hs0_13 : World.cell? v3 ⟨w.heap.size, 13, none⟩ = some (.slice Aa0 a13.length ka0) := blk_cell0 (L := [.int .i64 a0, .int .i64 a1, .int .i64 a2, .int .i64 a3, .int .i64 a4, .int .i64 a5, .int .i64 a6, .int .i64 a7, .int .i64 a8, .string (bs a9), .string (bs a10), .string (bs a11), .int .i64 a12, .slice Aa0 a13.length ka0, .int .i64 a14, .slice Aa1 a15.length ka1, .int .i64 a16, .int .i64 a17, .bool a18]) B0.out 13 rfl
                  have hs0_14 : World.cell? v3 ⟨w.heap.size, 14, none⟩ = some (.int .i64 a14) := blk_cell0 (L := [.int .i64 a0, .int .i64 a1, .int .i64 a2, .int .i64 a3, .int .i64 a4, .int .i64 a5, .int .i64 a6, .int .i64 a7, .int .i64 a8, .string (bs a9), .string (bs a10), .string (bs a11), .int .i64 a12, .slice Aa0 a13.length ka0, .int .i64 a14, .slice Aa1 a15.length ka1, .int .i64 a16, .int .i64 a17, .bool a18]) B0.out 14 rfl
                  have hs0_15 : World.cell? v3 ⟨w.heap.size, 15, none⟩ = some (.slice Aa1 a15.length ka1) := blk_cell0 (L := [.int .i64 a0, .int .i64 a1, .int .i64 a2, .int .i64 a3, .int .i64 a4, .int .i64 a5, .int .i64 a6, .int .i64 a7, .int .i64 a8, .string (bs a9), .string (bs a10), .string (bs a11), .int .i64 a12, .slice Aa0 a13.length ka0, .int .i64 a14, .slice Aa1 a15.length ka1, .int .i64 a16, .int .i64 a17, .bool a18]) B0.out 15 rfl
                  have hs0_16 : World.cell? v3 ⟨w.heap.size, 16, none⟩ = some (.int .i64 a16) := blk_cell0 (L := [.int .i64 a0, .int .i64 a1, .int .i64 a2, .int .i64 a3, .int .i64 a4, .int .i64 a5, .int .i64 a6, .int .i64 a7, .int .i64 a8, .string (bs a9), .string (bs a10), .string (bs a11), .int .i64 a12, .slice Aa0 a13.length ka0, .int .i64 a14, .slice Aa1 a15.length ka1, .int .i64 a16, .int .i64 a17, .bool a18]) B0.out 16 rfl
                  have hs0_17 : World.cell? v3 ⟨w.heap.size, 17, none⟩ = some (.int .i64 a17) := blk_cell0 (L := [.int .i64 a0, .int .i64 a1, .int .i64 a2, .int .i64 a3, .int .i64 a4, .int .i64 a5, .int .i64 a6, .int .i64 a7, .int .i64 a8, .string (bs a9), .string (bs a10), .string (bs a11), .int .i64 a12, .slice Aa0 a13.length ka0, .int .i64 a14, .slice Aa1 a15.length ka1, .int .i64 a16, .int .i64 a17, .bool a18]) B0.out 17 rfl
                  have hs0_18 : World.cell? v3 ⟨w.heap.size, 18, none⟩ = some (.bool a18) := blk_cell0 (L := [.int .i64 a0, .int .i64 a1, .int .i64 a2, .int .i64 a3, .int .i64 a4, .int .i64 a5, .int .i64 a6, .int .i64 a7, .int .i64 a8, .string (bs a9), .string (bs a10), .string (bs a11), .int .i64 a12, .slice Aa0 a13.length ka0, .int .i64 a14, .slice Aa1 a15.length ka1, .int .i64 a16, .int .i64 a17, .bool a18]) B0.out 18 rfl
                  cases hb8 : idsOkB a15
                  case false =>
                    go_wp2
                    go_ret
                    exact ⟨ret_eq (congrArg Value.bool (by rw [HR.out, hb0, hb1, hb2, hb3, hb4, hb5, hb6, hb7, hb8]; rfl)), BW.out⟩
                  case true =>
                    go_wp2_with fail
                    refine (l8Has_any a15 ⟨a3, a4⟩ _ _ _ _ _ rfl (by omega) (Sa15.out.below BW.out) (Sid0.out.below BW.out)).mono ?_; rintro e v4 ⟨rfl, hb⟩
                    have X := Lib.hid (B0.out.below hb); clear B0
                    have B0 := Lib.hid X.out; clear X
                    have X := Lib.hid (show Below w.heap.size w v4 from BW.out.trans (hb.mono BW.out.size)); clear BW hb
                    have BW := Lib.hid X.out; clear X
                    clear hs0_0 hs0_1 hs0_2 hs0_3 hs0_4 hs0_5 hs0_6 hs0_7 hs0_8 hs0_9 hs0_10 hs0_11 hs0_12 hs0_13 hs0_14 hs0_15 hs0_16 hs0_17 hs0_18
                    have hs0_0 : World.cell? v4 ⟨w.heap.size, 0, none⟩ = some (.int .i64 a0) := blk_cell0 (L := [.int .i64 a0, .int .i64 a1, .int .i64 a2, .int .i64 a3, .int .i64 a4, .int .i64 a5, .int .i64 a6, .int .i64 a7, .int .i64 a8, .string (bs a9), .string (bs a10), .string (bs a11), .int .i64 a12, .slice Aa0 a13.length ka0, .int .i64 a14, .slice Aa1 a15.length ka1, .int .i64 a16, .int .i64 a17, .bool a18]) B0.out 0 rfl
                    have hs0_1 : World.cell? v4 ⟨w.heap.size, 1, none⟩ = some (.int .i64 a1) := blk_cell0 (L := [.int .i64 a0, .int .i64 a1, .int .i64 a2, .int .i64 a3, .int .i64 a4, .int .i64 a5, .int .i64 a6, .int .i64 a7, .int .i64 a8, .string (bs a9), .string (bs a10), .string (bs a11), .int .i64 a12, .slice Aa0 a13.length ka0, .int .i64 a14, .slice Aa1 a15.length ka1, .int .i64 a16, .int .i64 a17, .bool a18]) B0.out 1 rfl
                    have hs0_2 : World.cell? v4 ⟨w.heap.size, 2, none⟩ = some (.int .i64 a2) := blk_cell0 (L := [.int .i64 a0, .int .i64 a1, .int .i64 a2, .int .i64 a3, .int .i64 a4, .int .i64 a5, .int .i64 a6, .int .i64 a7, .int .i64 a8, .string (bs a9), .string (bs a10), .string (bs a11), .int .i64 a12, .slice Aa0 a13.length ka0, .int .i64 a14, .slice Aa1 a15.length ka1, .int .i64 a16, .int .i64 a17, .bool a18]) B0.out 2 rfl
                    have hs0_3 : World.cell? v4 ⟨w.heap.size, 3, none⟩ = some (.int .i64 a3) := blk_cell0 (L := [.int .i64 a0, .int .i64 a1, .int .i64 a2, .int .i64 a3, .int .i64 a4, .int .i64 a5, .int .i64 a6, .int .i64 a7, .int .i64 a8, .string (bs a9), .string (bs a10), .string (bs a11), .int .i64 a12, .slice Aa0 a13.length ka0, .int .i64 a14, .slice Aa1 a15.length ka1, .int .i64 a16, .int .i64 a17, .bool a18]) B0.out 3 rfl
                    have hs0_4 : World.cell? v4 ⟨w.heap.size, 4, none⟩ = some (.int .i64 a4) := blk_cell0 (L := [.int .i64 a0, .int .i64 a1, .int .i64 a2, .int .i64 a3, .int .i64 a4, .int .i64 a5, .int .i64 a6, .int .i64 a7, .int .i64 a8, .string (bs a9), .string (bs a10), .string (bs a11), .int .i64 a12, .slice Aa0 a13.length ka0, .int .i64 a14, .slice Aa1 a15.length ka1, .int .i64 a16, .int .i64 a17, .bool a18]) B0.out 4 rfl
                    have hs0_5 : World.cell? v4 ⟨w.heap.size, 5, none⟩ = some (.int .i64 a5) := blk_cell0 (L := [.int .i64 a0, .int .i64 a1, .int .i64 a2, .int .i64 a3, .int .i64 a4, .int .i64 a5, .int .i64 a6, .int .i64 a7, .int .i64 a8, .string (bs a9), .string (bs a10), .string (bs a11), .int .i64 a12, .slice Aa0 a13.length ka0, .int .i64 a14, .slice Aa1 a15.length ka1, .int .i64 a16, .int .i64 a17, .bool a18]) B0.out 5 rfl
                    have hs0_6 : World.cell? v4 ⟨w.heap.size, 6, none⟩ = some (.int .i64 a6) := blk_cell0 (L := [.int .i64 a0, .int .i64 a1, .int .i64 a2, .int .i64 a3, .int .i64 a4, .int .i64 a5, .int .i64 a6, .int .i64 a7, .int .i64 a8, .string (bs a9), .string (bs a10), .string (bs a11), .int .i64 a12, .slice Aa0 a13.length ka0, .int .i64 a14, .slice Aa1 a15.length ka1, .int .i64 a16, .int .i64 a17, .bool a18]) B0.out 6 rfl
                    have hs0_7 : World.cell? v4 ⟨w.heap.size, 7, none⟩ = some (.int .i64 a7) := blk_cell0 (L := [.int .i64 a0, .int .i64 a1, .int .i64 a2, .int .i64 a3, .int .i64 a4, .int .i64 a5, .int .i64 a6, .int .i64 a7, .int .i64 a8, .string (bs a9), .string (bs a10), .string (bs a11), .int .i64 a12, .slice Aa0 a13.length ka0, .int .i64 a14, .slice Aa1 a15.length ka1, .int .i64 a16, .int .i64 a17, .bool a18]) B0.out 7 rfl
                    have hs0_8 : World.cell? v4 ⟨w.heap.size, 8, none⟩ = some (.int .i64 a8) := blk_cell0 (L := [.int .i64 a0, .int .i64 a1, .int .i64 a2, .int .i64 a3, .int .i64 a4, .int .i64 a5, .int .i64 a6, .int .i64 a7, .int .i64 a8, .string (bs a9), .string (bs a10), .string (bs a11), .int .i64 a12, .slice Aa0 a13.length ka0, .int .i64 a14, .slice Aa1 a15.length ka1, .int .i64 a16, .int .i64 a17, .bool a18]) B0.out 8 rfl
                    have hs0_9 : World.cell? v4 ⟨w.heap.size, 9, none⟩ = some (.string (bs a9)) := blk_cell0 (L := [.int .i64 a0, .int .i64 a1, .int .i64 a2, .int .i64 a3, .int .i64 a4, .int .i64 a5, .int .i64 a6, .int .i64 a7, .int .i64 a8, .string (bs a9), .string (bs a10), .string (bs a11), .int .i64 a12, .slice Aa0 a13.length ka0, .int .i64 a14, .slice Aa1 a15.length ka1, .int .i64 a16, .int .i64 a17, .bool a18]) B0.out 9 rfl
                    have hs0_10 : World.cell? v4 ⟨w.heap.size, 10, none⟩ = some (.string (bs a10)) := blk_cell0 (L := [.int .i64 a0, .int .i64 a1, .int .i64 a2, .int .i64 a3, .int .i64 a4, .int .i64 a5, .int .i64 a6, .int .i64 a7, .int .i64 a8, .string (bs a9), .string (bs a10), .string (bs a11), .int .i64 a12, .slice Aa0 a13.length ka0, .int .i64 a14, .slice Aa1 a15.length ka1, .int .i64 a16, .int .i64 a17, .bool a18]) B0.out 10 rfl
                    have hs0_11 : World.cell? v4 ⟨w.heap.size, 11, none⟩ = some (.string (bs a11)) := blk_cell0 (L := [.int .i64 a0, .int .i64 a1, .int .i64 a2, .int .i64 a3, .int .i64 a4, .int .i64 a5, .int .i64 a6, .int .i64 a7, .int .i64 a8, .string (bs a9), .string (bs a10), .string (bs a11), .int .i64 a12, .slice Aa0 a13.length ka0, .int .i64 a14, .slice Aa1 a15.length ka1, .int .i64 a16, .int .i64 a17, .bool a18]) B0.out 11 rfl
                    have hs0_12 : World.cell? v4 ⟨w.heap.size, 12, none⟩ = some (.int .i64 a12) := blk_cell0 (L := [.int .i64 a0, .int .i64 a1, .int .i64 a2, .int .i64 a3, .int .i64 a4, .int .i64 a5, .int .i64 a6, .int .i64 a7, .int .i64 a8, .string (bs a9), .string (bs a10), .string (bs a11), .int .i64 a12, .slice Aa0 a13.length ka0, .int .i64 a14, .slice Aa1 a15.length ka1, .int .i64 a16, .int .i64 a17, .bool a18]) B0.out 12 rfl
                    have hs0_13 : World.cell? v4 ⟨w.heap.size, 13, none⟩ = some (.slice Aa0 a13.length ka0) := blk_cell0 (L := [.int .i64 a0, .int .i64 a1, .int .i64 a2, .int .i64 a3, .int .i64 a4, .int .i64 a5, .int .i64 a6, .int .i64 a7, .int .i64 a8, .string (bs a9), .string (bs a10), .string (bs a11), .int .i64 a12, .slice Aa0 a13.length ka0, .int .i64 a14, .slice Aa1 a15.length ka1, .int .i64 a16, .int .i64 a17, .bool a18]) B0.out 13 rfl
                    have hs0_14 : World.cell? v4 ⟨w.heap.size, 14, none⟩ = some (.int .i64 a14) := blk_cell0 (L := [.int .i64 a0, .int .i64 a1, .int .i64 a2, .int .i64 a3, .int .i64 a4, .int .i64 a5, .int .i64 a6, .int .i64 a7, .int .i64 a8, .string (bs a9), .string (bs a10), .string (bs a11), .int .i64 a12, .slice Aa0 a13.length ka0, .int .i64 a14, .slice Aa1 a15.length ka1, .int .i64 a16, .int .i64 a17, .bool a18]) B0.out 14 rfl
                    have hs0_15 : World.cell? v4 ⟨w.heap.size, 15, none⟩ = some (.slice Aa1 a15.length ka1) := blk_cell0 (L := [.int .i64 a0, .int .i64 a1, .int .i64 a2, .int .i64 a3, .int .i64 a4, .int .i64 a5, .int .i64 a6, .int .i64 a7, .int .i64 a8, .string (bs a9), .string (bs a10), .string (bs a11), .int .i64 a12, .slice Aa0 a13.length ka0, .int .i64 a14, .slice Aa1 a15.length ka1, .int .i64 a16, .int .i64 a17, .bool a18]) B0.out 15 rfl
                    have hs0_16 : World.cell? v4 ⟨w.heap.size, 16, none⟩ = some (.int .i64 a16) := blk_cell0 (L := [.int .i64 a0, .int .i64 a1, .int .i64 a2, .int .i64 a3, .int .i64 a4, .int .i64 a5, .int .i64 a6, .int .i64 a7, .int .i64 a8, .string (bs a9), .string (bs a10), .string (bs a11), .int .i64 a12, .slice Aa0 a13.length ka0, .int .i64 a14, .slice Aa1 a15.length ka1, .int .i64 a16, .int .i64 a17, .bool a18]) B0.out 16 rfl
                    have hs0_17 : World.cell? v4 ⟨w.heap.size, 17, none⟩ = some (.int .i64 a17) := blk_cell0 (L := [.int .i64 a0, .int .i64 a1, .int .i64 a2, .int .i64 a3, .int .i64 a4, .int .i64 a5, .int .i64 a6, .int .i64 a7, .int .i64 a8, .string (bs a9), .string (bs a10), .string (bs a11), .int .i64 a12, .slice Aa0 a13.length ka0, .int .i64 a14, .slice Aa1 a15.length ka1, .int .i64 a16, .int .i64 a17, .bool a18]) B0.out 17 rfl
                    have hs0_18 : World.cell? v4 ⟨w.heap.size, 18, none⟩ = some (.bool a18) := blk_cell0 (L := [.int .i64 a0, .int .i64 a1, .int .i64 a2, .int .i64 a3, .int .i64 a4, .int .i64 a5, .int .i64 a6, .int .i64 a7, .int .i64 a8, .string (bs a9), .string (bs a10), .string (bs a11), .int .i64 a12, .slice Aa0 a13.length ka0, .int .i64 a14, .slice Aa1 a15.length ka1, .int .i64 a16, .int .i64 a17, .bool a18]) B0.out 18 rfl
                    cases hb9 : hasB a15 ⟨a3, a4⟩
                    case true =>
                      go_wp2
                      go_ret
                      exact ⟨ret_eq (congrArg Value.bool (by rw [HR.out, hb0, hb1, hb2, hb3, hb4, hb5, hb6, hb7, hb8, hb9]; rfl)), BW.out⟩
                    case false =>
                      go_wp2_with fail
                      refine (l1In_any _ _ _ _).mono ?_; rintro e w' ⟨rfl, rfl⟩
                      cases hb10 : inB 0 3 a16
                      case false =>
                        go_wp2
                        go_ret
                        exact ⟨ret_eq (congrArg Value.bool (by rw [HR.out, hb0, hb1, hb2, hb3, hb4, hb5, hb6, hb7, hb8, hb9, hb10]; rfl)), BW.out⟩
                      case true =>
                        go_wp2_with fail
                        refine (l1In_any _ _ _ _).mono ?_; rintro e w' ⟨rfl, rfl⟩
                        go_wp2
                        go_ret
                        exact ⟨ret_eq (congrArg Value.bool (by rw [HR.out, hb0, hb1, hb2, hb3, hb4, hb5, hb6, hb7, hb8, hb9, hb10]; rfl)), BW.out⟩

end Go.Proofs.Ytbdblfpepnoafaa
